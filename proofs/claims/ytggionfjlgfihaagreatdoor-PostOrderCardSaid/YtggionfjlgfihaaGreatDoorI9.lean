/- Joined. -/
import Derived.Test.YtggionfjlgfihaaGreatDoorI0
import Derived.Test.YtggionfjlgfihaaGreatDoorI1
import Derived.Test.YtggionfjlgfihaaGreatDoorI7
import Derived.Test.YtggionfjlgfihaaGreatDoorI8
import Derived.Shelf.Bits.Mul64
import Derived.Shelf.Strconv.Itoa0
import Derived.Shelf.Strings.OnBuilder
import Derived.Deep.Slices
import Derived.Deep.Fields
import Derived.ChangeSame
import Derived.ChangeArms
import Derived.Carry
import Derived.OpenShut
set_option linter.unusedVariables false
set_option linter.unusedSimpArgs false
set_option maxHeartbeats 16000000
namespace Go.Proofs.YtggionfjlgfihaaGreatDoor
open Go Go.Proofs Sy
theorem xT {P:List Xc} {n:Nat} {p:Xc} (h:P[n]?=some p):(P.map edR).Perm (edR p::(P.eraseIdx n).map edR):=by
 obtain ⟨h1,rfl⟩:=List.getElem?_eq_some_iff.1 h
 have e:P=P.take n++P[n]::P.drop (n+1):=by rw [←List.drop_eq_getElem_cons h1,List.take_append_drop]
 rw [List.eraseIdx_eq_take_drop_succ]
 conv=>lhs;rw [e]
 rw [List.map_append,List.map_cons,List.map_append]
 exact List.perm_middle
theorem permA (c m2 m1 po e:Xk) (E:List Xk):([c,m2,m1,po]++(e::E)).Perm ([c,po,e]++([m2,m1]++E)):=by
 have h:=(List.perm_append_comm (l₁:=[m2,m1]) (l₂:=[po,e])).append_right E
 simpa using h.cons c
theorem permB (c m2 m1 po:Xk) {P:List Xc} {n:Nat} {p:Xc} (h:P[n]?=some p):([c,m2,m1,po]++P.map edR).Perm ([c,po,edR p]++([m2,m1]++(P.eraseIdx n).map edR)) :=
 ((xT h).append_left _).trans (permA c m2 m1 po (edR p) _)
theorem iQ {P:List Xc} {n:Nat} {p:Xc}:(P.set n p).eraseIdx n=P.eraseIdx n:=by
 rw [List.eraseIdx_set_eq]
theorem permC (ex:List Xk) (c m2 m1 po:Xk) {P:List Xc} {n:Nat} {p':Xc} (h:n<P.length):((ex++[c,po,edR p'])++([m2,m1]++(P.eraseIdx n).map edR)).Perm (ex++([c,m2,m1,po]++(P.set n p').map edR)):=by
 have h1:=permB c m2 m1 po (P:=P.set n p') (n:=n) (p:=p') (by simp [h])
 rw [iQ] at h1
 rw [List.append_assoc]
 exact (h1.symm).append_left ex
section
variable {P:Program} {N:Nat} {av bor:List Nat} {w0:World} {ops:Array Oper} {rest:List Oper} {kk:St→Prop} {E:Env} {loc:List Xk} {X:World→Prop} {x y:Operand} {t t2:TypeId}
variable {n:Nat} {ty:TypeId} {pos:String} {af:Array Edge} {g:Option (Nat×Bool)} {bb want:Bool}
theorem yD {k:IntKind} {a b:Int} [hI:Xw P t k] (h:Sw P N av bor w0 ops rest ⟨(n,.bool true)::E,loc,X⟩ kk) (hx:ev E x=some (.int k a):=by rfl) (hy:ev E y=some (.int k b):=by rfl) (hab:b≤a:=by first|omega|decide) (hg:gdB ops E g=some (bb,want):=by rfl) (hbb:bb=want:=by exact aq) (hd:Nat.blt n N=true:=by rfl) :
  Sw P N av bor w0 ops (⟨some n,.binOp .geq t x y t2,ty,pos,af,g⟩::rest) ⟨E,loc,X⟩ kk:=qC (hx:=hx) (hy:=hy) (hg:=hg) (hbb:=hbb) (hd:=hd) (h:=by
   have e:∀ u,u=Value.bool true→Sw P N av bor w0 ops rest ⟨(n,u)::E,loc,X⟩ kk:=fun u hu=>hu▸h
   exact e _ (by simp [hab]))
end
structure Eh (P Q:List Xc):Prop where
 to:Q.map (fun p=>(p.to,p.toL,p.pos))=P.map fun p=>(p.to,p.toL,p.pos)
theorem tY {α:Type} {P:List α} {i:Nat} {p:α} (h:P[i]?=some p):P.set i p=P:=by
 obtain ⟨h1,rfl⟩:=List.getElem?_eq_some_iff.1 h
 exact List.set_getElem_self h1
def ReferAt (c:Xd) (r m2 m1:Xk) (s:Xj) (P:List Xc) (k:Nat) (g:Xc→Xc) (u:Value) (R:List Xk) (X:World→Prop):Prop:=u=.tuple #[]∧∃ (Q:List Xc) (ex:List Xk),Q.map Xc.can=modP (P.map Xc.can) (refV c.actsL P k) g∧Eh P Q∧R=ex++([r,m2,m1,postR s Q]++Q.map edR)
theorem pb (c:Xd) (s:Xj) (P:List Xc) (b q1 q2 k nf:Nat) (hnf:Xv Tryz.prog nf) (pl:List (ByteArray×Value)) (num:List (Int×Value)) (x:Xa) (g:Xc→Xc) (hs:s.n=P.length) (hx:c.actsL[k]?=some x) (hkm:k≤1000000)
  (hpl:∀ d,mget pl d=(idxV c.actsL d).map fun (j:Nat)=>Value.int .i64 (j:Int)) (hnum:∀ j:Nat,mget num (j:Int)=(posP P j).map fun (n:Nat)=>Value.int .i64 (n:Int)) (hcl:c.actsL.length≤1000000) (hPm:P.length≤1000000)
  (hg:∀ p,(g p).can=g p.can) (hgp:∀ p,(g p).pos=p.pos)
  (hnote:∀ n p,P[n]?=some p→Ct Tryz.prog nf #[.pointer (some ⟨b,0,none⟩),elP s.p (n*11),.int .i64 (k:Nat)] [cel b 145 (regC c s.v q1 q2),postR s P,edR p] (fun w=>(c.at_ w∧Xf w)∧Strs w p.to p.toL) (NoteAt (cel b 145 (regC c s.v q1 q2)) s P n p (g p))) :
  Ct Tryz.prog 78 #[.pointer (some ⟨b,0,none⟩),.int .i64 (k:Nat),.func (.func nf) #[.pointer (some ⟨b,0,none⟩)] #[]] ([cel b 145 (regC c s.v q1 q2),mapr q2 pl,mapr q1 num,postR s P]++P.map edR) (fun w=>(c.at_ w∧Xf w)∧∀ p∈P,Strs w p.to p.toL)
   (ReferAt c (cel b 145 (regC c s.v q1 q2)) (mapr q2 pl) (mapr q1 num) s P k g):=by
 refine bT Tryz.func78 Tryz.ntmps78 fun av bor w0=>?_
 have hkl:=(List.getElem?_eq_some_iff.1 hx).1
 refine bH (r:=postR s P) (by simp) (p:=0<s.n→s.p.isSome=true) (fun w h hn=>bu h hn) fun hp=>?_
 refine aH (p:=c.acts.n=c.actsL.length∧(0<c.actsL.length→c.acts.p.isSome=true)) (fun w h=>⟨h.1.1.len_,h.1.1.some_⟩) fun ⟨hl,hpa⟩=>?_
 have hpa':=hpa aa
 have hxD:c.actsL.getD k Xa.zero=x:=by rw [List.getD_eq_getElem?_getD,hx];rfl
 have hlk:=hpl x.object
 have hM0:∀ {o},refV c.actsL P k=o→o=none→P.map Xc.can=modP (P.map Xc.can) (refV c.actsL P k) g:=fun {o} h1 h2=>by rw [h1,h2];rfl
 simp only [List.cons_append,List.nil_append]
 cases hj:idxV c.actsL x.object with
 | none =>
  rw [hj] at hlk
  have hR:refV c.actsL P k=none:=by rw [refV,hxD,hj]
  repeat apply cw_seq
  (refine ao ⟨[0,1,2,3,4,5,6,7,8,9,10,11,12],[(13,⟨[14,15,16,17,18],[]⟩)]⟩ [cel b 145 (regC c s.v q1 q2)] (fun w=>(c.at_ w∧Xf w)∧∀ p∈P,Strs w p.to p.toL) (h:=?_))
  all_goals repeat' (first|refine gd ?_|refine ax (hy:=by first|(apply aG (q:=k*20);rfl;rfl;omega;omega;assumption;(first|rfl|omega))|(apply cN;rfl;exact hpa';rfl)|(apply de (q:=k*20+5) (u:=.string x.object);rfl;exact (fun w h=>(Acts.get h.1.1 hx).2.2 5 _ rfl))) ?_|refine ay ?_ (h':=?_)|exact az|(refine bF (κ:=ByteArray) (kk:=x.object) (b:=false) (v:=.int .i64 0) (hl:=dD (List.mem_cons_of_mem _ ap)) (ho:=hlk) ?_)|(refine gq ?_ ?_<;>intro hx_ this)|fail)
  all_goals
   repeat' (first|refine gs ?_|(refine gp ?_ ?_<;>intro hx_ this)|fail)
   first
    | exact ab (aA rfl) ⟨rfl,P,[],hM0 hR rfl,⟨rfl⟩,rfl⟩
    | exact aI (aA rfl) ⟨rfl,P,[],hM0 hR rfl,⟨rfl⟩,rfl⟩
 | some j =>
  rw [hj] at hlk
  have hjl:=kg hj
  by_cases hjk:j<k
  · have hlk2:=hnum j
    cases hn:posP P j with
    | none =>
     rw [hn] at hlk2
     have hR:refV c.actsL P k=none:=by
      rw [refV,hxD,hj]
      simp only [decide_eq_true hjk,cond_true,hn]
     repeat apply cw_seq
     (refine ao ⟨[0,1,2,3,4,5,6,7,8,9,10,11,12],[(13,⟨[14,15,16,17,18],[]⟩)]⟩ [cel b 145 (regC c s.v q1 q2)] (fun w=>(c.at_ w∧Xf w)∧∀ p∈P,Strs w p.to p.toL) (h:=?_))
     all_goals repeat' (first|refine gd ?_|refine ax (hy:=by first|(apply aG (q:=k*20);rfl;rfl;omega;omega;assumption;(first|rfl|omega))|(apply cN;rfl;exact hpa';rfl)|(apply de (q:=k*20+5) (u:=.string x.object);rfl;exact (fun w h=>(Acts.get h.1.1 hx).2.2 5 _ rfl))) ?_|refine ay ?_ (h':=?_)|exact az|(refine bF (κ:=ByteArray) (kk:=x.object) (b:=true) (v:=.int .i64 (j:Nat)) (hl:=dD (List.mem_cons_of_mem _ ap)) (ho:=hlk) ?_)|(refine gq ?_ ?_<;>intro hx_ this)|fail)
     all_goals
      repeat' (first|refine ny ?_|refine gs ?_|(refine bF (κ:=Int) (kk:=(j:Int)) (b:=false) (v:=.int .i64 0) (hl:=dD (List.mem_cons_of_mem _ (List.mem_cons_of_mem _ ap))) (ho:=hlk2) ?_)|(refine gp ?_ ?_<;>intro hx_ this)|fail)
      first
       | exact ab (aA rfl) ⟨rfl,P,[],hM0 hR rfl,⟨rfl⟩,rfl⟩
       | exact aI (aA rfl) ⟨rfl,P,[],hM0 hR rfl,⟨rfl⟩,rfl⟩
    | some n =>
     rw [hn] at hlk2
     have hnl:=yS hn
     obtain ⟨p,hpn⟩:∃ p,P[n]?=some p:=⟨_,List.getElem?_eq_getElem hnl⟩
     have hp':=hp aa
     have hR:refV c.actsL P k=some n:=by
      rw [refV,hxD,hj]
      simp only [decide_eq_true hjk,cond_true,hn]
     have hpm:=List.mem_of_getElem? hpn
     have hno:=hnote n p hpn
     repeat apply cw_seq
     (refine ao ⟨[0,1,2,3,4,5,6,7,8,9,10,11,12],[(13,⟨[14,15,16,17,18],[]⟩)]⟩ [cel b 145 (regC c s.v q1 q2)] (fun w=>(c.at_ w∧Xf w)∧∀ p∈P,Strs w p.to p.toL) (h:=?_))
     all_goals repeat' (first|refine gd ?_|refine ax (hy:=by first|(apply aG (q:=k*20);rfl;rfl;omega;omega;assumption;(first|rfl|omega))|(apply cN;rfl;exact hpa';rfl)|(apply de (q:=k*20+5) (u:=.string x.object);rfl;exact (fun w h=>(Acts.get h.1.1 hx).2.2 5 _ rfl))) ?_|refine ay ?_ (h':=?_)|exact az|(refine bF (κ:=ByteArray) (kk:=x.object) (b:=true) (v:=.int .i64 (j:Nat)) (hl:=dD (List.mem_cons_of_mem _ ap)) (ho:=hlk) ?_)|(refine gq ?_ ?_<;>intro hx_ this)|fail)
     all_goals
      repeat' (first|refine ny ?_|refine gs ?_|(refine bF (κ:=Int) (kk:=(j:Int)) (b:=true) (v:=.int .i64 (n:Nat)) (hl:=dD (List.mem_cons_of_mem _ (List.mem_cons_of_mem _ ap))) (ho:=hlk2) ?_)|(refine aE (q:=n*11) ?_)|(refine gp ?_ ?_<;>intro hx_ this)|fail)
      refine bX (permB _ _ _ _ hpn) ?_
      refine aZ (first:=#[.pointer (some ⟨b,0,none⟩)]) (caps:=#[]) (pre:=[cel b 145 (regC c s.v q1 q2),postR s P,edR p]) (fr:=[mapr q2 pl,mapr q1 num]++(P.eraseIdx n).map edR) (hc:=hno) (hX:=fun w h=>⟨h.1,h.2 p hpm⟩) (h:=?_)
      rintro _ _ X' ⟨rfl,p',ex,hcan,hto,htl,rfl⟩
      refine bX (permC ex _ _ _ _ hnl) ?_
      repeat' (first|refine gs ?_|(refine gp ?_ ?_<;>intro hx_ this)|fail)
      have hpos:p'.pos=p.pos:=(congrArg Xc.pos hcan).trans (hgp p)
      refine aI (aA rfl) ⟨rfl,P.set n p',ex,?_,⟨?_⟩,rfl⟩
      · rw [hR]
        show (P.set n p').map Xc.can=(P.map Xc.can).set n (g ((P.map Xc.can).getD n Xc.zero))
        rw [List.map_set,uM,List.getD_eq_getElem?_getD,hpn,Option.getD_some,←hg p,hcan]
      · rw [List.map_set,hto,htl,hpos]
        exact tY (by simp [hpn])
  · have hR:refV c.actsL P k=none:=by
     rw [refV,hxD,hj]
     simp only [decide_eq_false hjk,cond_false]
    repeat apply cw_seq
    (refine ao ⟨[0,1,2,3,4,5,6,7,8,9,10,11,12],[(13,⟨[14,15,16,17,18],[]⟩)]⟩ [cel b 145 (regC c s.v q1 q2)] (fun w=>(c.at_ w∧Xf w)∧∀ p∈P,Strs w p.to p.toL) (h:=?_))
    all_goals repeat' (first|refine gd ?_|refine ax (hy:=by first|(apply aG (q:=k*20);rfl;rfl;omega;omega;assumption;(first|rfl|omega))|(apply cN;rfl;exact hpa';rfl)|(apply de (q:=k*20+5) (u:=.string x.object);rfl;exact (fun w h=>(Acts.get h.1.1 hx).2.2 5 _ rfl))) ?_|refine ay ?_ (h':=?_)|exact az|(refine bF (κ:=ByteArray) (kk:=x.object) (b:=true) (v:=.int .i64 (j:Nat)) (hl:=dD (List.mem_cons_of_mem _ ap)) (ho:=hlk) ?_)|(refine gq ?_ ?_<;>intro hx_ this)|fail)
    all_goals
     repeat' (first|refine yD ?_|refine gs ?_|(refine gp ?_ ?_<;>intro hx_ this)|fail)
     first
      | exact ab (aA rfl) ⟨rfl,P,[],hM0 hR rfl,⟨rfl⟩,rfl⟩
      | exact aI (aA rfl) ⟨rfl,P,[],hM0 hR rfl,⟨rfl⟩,rfl⟩
end Go.Proofs.YtggionfjlgfihaaGreatDoor
namespace Go.Proofs.YtggionfjlgfihaaGreatDoor
open Go Go.Proofs Sy Go.Shelf
theorem kV {P:Program} {f:FuncId} {args:Array Value} {X:World→Prop} {v:Value} (h:∀ w,Calls P f args w fun e w'=>e=.returned v∧w'=w):Pu P f args X v:=by
 unfold Pu
 exact Ct.mk fun w av G=>(h w).mono fun e w' ⟨he,hw⟩=>⟨v,[],X,he,⟨rfl,rfl⟩,by subst hw;exact G⟩
theorem pJ (x:Nat) (hx:x<18446744073709551616):Pu Tryz.prog 130 #[.int .u64 (x:Int)] (fun _=>True) (.int .i64 (Lib.bitLen x)) :=
 kV fun w=>by
  have h:=Any.bits_Len64 Tryz.len64 (x:Int) w aa aa
  rw [Int.toNat_natCast] at h
  exact h
theorem pC (x y:Nat) (hx:x<18446744073709551616) (hy:y<18446744073709551616):Pu Tryz.prog 215 #[.int .u64 (x:Int),.int .u64 (y:Int)] (fun _=>True) (.tuple #[.int .u64 ((x*y/18446744073709551616:Nat):Int),.int .u64 ((x*y%18446744073709551616:Nat):Int)]) :=
 kV fun w=>Any.bits_Mul64 Tryz.mul64 x y hx hy w
theorem sF (d:Nat) (hd:d=8∨d=16):Pu Tryz.prog 247 #[.int .u64 ((2305843009213693952-d/8:Nat):Int)] (fun _=>True) (.int .i64 3):=by
 refine ar Tryz.func247 Tryz.ntmps247 fun av bor w0=>?_
 have h:=pJ (2305843009213693952-d/8) aa
 have e:Lib.bitLen (2305843009213693952-d/8)=61:=by rcases hd with rfl|rfl<;>kernel_rfl
 rw [e] at h
 repeat' (first|(refine ag (hc:=h) ?_)|refine gs ?_|(refine gp ?_ ?_<;>intro hx_ this)|fail)
 apply ab;apply ai;rfl;rfl
 rfl
namespace Sy
section
variable {P:Program} {N:Nat} {av bor:List Nat} {w0:World} {st:St} {K:Exit→St→Prop}
theorem qc {ι:Type} {id:Nat} (M:ι→St) {x y:Code} (h1:Cw P N av bor w0 x st (blk id (thn (fun s=>∃ i,∀ a w,Ok N av bor w0 s a w→Ok N av bor w0 (M i) a w) K))) (h2:∀ i,Cw P N av bor w0 y (M i) K) :
  Cw P N av bor w0 x st (blk id (thn (fun s=>Cw P N av bor w0 y s K) K)):=ta (fun e s h=>by
 cases e with
 | normal =>
  obtain ⟨i,hi⟩:=h
  exact sZ hi (h2 i)
 | exit id' =>
  by_cases e:id'=id
  · simp only [blk,if_pos e] at h ⊢
    obtain ⟨i,hi⟩:=h
    exact sZ hi (h2 i)
  · simp only [blk,if_neg e] at h ⊢
    exact h
 | _=>exact h) h1
end
end Sy
theorem co (x:Int) (h:0≤x∧x<18446744073709551616):IntKind.u64.wrap x=x:=by
 rw [IntKind.wrap_u64]
 omega
theorem vQ (x:Int):IntKind.u64.wrap x=x%18446744073709551616:=IntKind.wrap_u64 x
def Eqq (a b:Int):Prop:=a=b
def Hid (p:Prop):Prop:=p
theorem rX (a b c:Int):IntKind.u64.wrap (IntKind.u64.wrap (IntKind.u64.wrap a+b)-IntKind.u64.wrap c)=(a+b-c)%18446744073709551616:=by
 simp only [vQ]
 omega
theorem rz {V M Q z:Nat} (h:V=M*Q+z) (hz:z<M):V/M=Q∧V%M=z:=by
 subst h
 exact ⟨by rw [Nat.mul_add_div aa,Nat.div_eq_of_lt hz,Nat.add_zero],by rw [Nat.mul_add_mod,Nat.mod_eq_of_lt hz]⟩
theorem and32 (a:Nat) (ha:a<18446744073709551616):bitsV .and .u64 (a:Int) 4294967295=((a%4294967296:Nat):Int):=by
 show IntKind.u64.wrap ((((BitVec.ofInt 64 (a:Int)) &&& (BitVec.ofInt 64 4294967295)).toNat:Nat):Int)=_
 have e:(BitVec.ofInt 64 4294967295).toNat=4294967295:=by decide
 rw [BitVec.toNat_and,e,BitVec.ofInt_natCast,BitVec.toNat_ofNat,Nat.mod_eq_of_lt (show a<2 ^ 64 from ha),show (4294967295:Nat)=2 ^ 32-1 by decide,Nat.and_two_pow_sub_one_eq_mod,co _ (by omega)]
theorem shl3 (a:Nat):shlV .u64 (a:Int) 3=((a*8%18446744073709551616:Nat):Int):=by
 show IntKind.u64.wrap ((a:Int)*2 ^ (min (3:Int).toNat 64))=_
 rw [show (2:Int) ^ (min (3:Int).toNat 64)=8 by kernel_rfl,vQ]
 omega
theorem wj (a:Nat) {c:Int} (p:Nat) (hp:(2:Int) ^ (min c.toNat 64)=(p:Int)):shrV .u64 (a:Int) c=((a/p:Nat):Int):=by
 show (a:Int).fdiv (2 ^ (min c.toNat 64))=_
 rw [hp,←Int.ofNat_fdiv]
theorem or3 (a b:Nat) (ha:a<2305843009213693952) (hb:b<8):bitsV .or .u64 ((a*8:Nat):Int) (b:Int)=((a*8+b:Nat):Int):=by
 show IntKind.u64.wrap ((((BitVec.ofInt 64 ((a*8:Nat):Int)) ||| (BitVec.ofInt 64 (b:Int))).toNat:Nat):Int)=_
 rw [BitVec.ofInt_natCast,BitVec.ofInt_natCast,BitVec.toNat_or,BitVec.toNat_ofNat,BitVec.toNat_ofNat,Nat.mod_eq_of_lt (show a*8<2 ^ 64 by omega),Nat.mod_eq_of_lt (show b<2 ^ 64 by omega)]
 have e:a*8 ||| b=a*8+b:=by
  have h:=Nat.shiftLeft_add_eq_or_of_lt (i:=3) (b:=b) hb a
  rw [Nat.shiftLeft_eq] at h
  exact h.symm
 rw [e,co _ (by omega)]
theorem wG (a b:Nat) (ha:a<18446744073709551616) (hb:0<b):IntKind.u64.wrap ((a:Int).tdiv (b:Int))=((a/b:Nat):Int):=by
 have h:(a:Int).tdiv (b:Int)=((a/b:Nat):Int):=by rw [Int.natCast_ediv,Int.tdiv_eq_ediv_of_nonneg (by omega)]
 have:=Nat.div_le_self a b
 rw [h]
 generalize a/b=c at *
 rw [co _ (by omega)]
theorem se (a b:Nat):(a:Int).tmod (b:Int)=((a%b:Nat):Int):=by rw [Int.natCast_emod,Int.tmod_eq_emod_of_nonneg (by omega)]
theorem sV {Y Y0 u v:Nat} (hY:Y=4294967295*4294967296+Y0) (hv:v<4294967296):u*4294967296+v<(u/4294967295+1)*Y :=
 Nat.lt_of_lt_of_le (show u*4294967296+v<(u/4294967295+1)*18446744069414584320 by omega) (Nat.mul_le_mul_left _ aa)
theorem sW {Y Y0 u v p r:Nat} (hY:Y=4294967295*4294967296+Y0) (isum:(p+1)*4294967295+r=u) (hu:u<Y) (hv:v<4294967296) (h:4294967296≤p+1∨4294967296*r+v<(p+1)*Y0):u*4294967296+v<(p+1)*Y:=by
 rcases h with h|h
 · exact Nat.lt_of_lt_of_le (show u*4294967296+v<4294967296*Y by omega) (Nat.mul_le_mul_right Y h)
 · have e:(p+1)*Y=(p+1)*4294967295*4294967296+(p+1)*Y0:=by rw [hY,Nat.mul_assoc,←Nat.mul_add]
   rw [e,←isum,Nat.add_mul,Nat.add_assoc]
   exact Nat.add_lt_add_left (by rw [Nat.mul_comm r];exact h) _
theorem sU {Y Y0 u v p r:Nat} (hY:Y=4294967295*4294967296+Y0) (h0:Y0<4294967289) (isum:(p+1)*4294967295+r=u) (hr:4294967296≤r+4294967295) (itop:p+1≤4294967297):p*Y≤u*4294967296+v:=by
 have e:p*Y=p*4294967295*4294967296+p*Y0:=by rw [hY,Nat.mul_assoc,←Nat.mul_add]
 have h1:p*Y0≤4294967296*4294967296:=Nat.mul_le_mul aa aa
 have hu':u=p*4294967295+(r+4294967295):=by
  rw [←isum,Nat.succ_mul,Nat.add_assoc,Nat.add_comm 4294967295 r]
 rw [hu',Nat.add_mul,e,Nat.add_assoc]
 exact Nat.add_le_add_left (Nat.le_trans h1 (Nat.le_trans (Nat.mul_le_mul_right 4294967296 hr) (Nat.le_add_right _ _))) _
theorem p7 {q Y0:Nat} (h:q≤4294967297) (h0:Y0<4294967289):(0:Int)≤(q:Int)*(Y0:Int)∧(q:Int)*(Y0:Int)<18446744073709551616∧(1≤q∨(q:Int)*(Y0:Int)=0):=by
 have:=Nat.mul_le_mul h (show Y0≤4294967288 by omega)
 rw [←Int.natCast_mul]
 refine ⟨by omega,by omega,?_⟩
 cases q with
 | zero=>exact Or.inr (by rw [Nat.zero_mul];rfl)
 | succ p=>exact Or.inl aa
structure DivI (Y u v:Nat) where
 q:Nat
 r:Nat
 sum:q*4294967295+r=u
 big:u*4294967296+v<(q+1)*Y
 top:q≤4294967297
 lim:r<4294967296
structure DivE (Y u v:Nat) where
 q:Nat
 lo:q*Y≤u*4294967296+v
 hi:u*4294967296+v<(q+1)*Y
set_option maxRecDepth 20000 in
theorem div64 {M Y Y0:Nat} (hM:M<2305843009213693952∧2305843009213693949<M) (hYM:Y=M*8) (hY:Y=4294967295*4294967296+Y0) (hz:Pu Tryz.prog 247 #[.int .u64 (M:Int)] (fun _=>True) (.int .i64 3))
  (ey:shlV .u64 (M:Int) 3=(Y:Int)) (ey1:shrV .u64 (Y:Int) 32=4294967295) (ey0:bitsV .and .u64 (Y:Int) 4294967295=(Y0:Int)) (hi lo:Nat) (hhi:hi<M) (hlo:lo<18446744073709551616) :
  Pu Tryz.prog 228 #[.int .u64 (hi:Int),.int .u64 (lo:Int),.int .u64 (M:Int)] (fun _=>True)
   (.tuple #[.int .u64 (((hi*18446744073709551616+lo)/M:Nat):Int),.int .u64 (((hi*18446744073709551616+lo)%M:Nat):Int)]):=by
 refine ar Tryz.func228 Tryz.ntmps228 fun av bor w0=>?_
 repeat' (first|(refine ag (hc:=hz) ?_)|refine gs ?_|(refine gp ?_ ?_<;>intro hx_ this)|fail)
 · exfalso;omega
 · exfalso;omega
 · have h0:hi=0:=by omega
   subst h0
   have e1:IntKind.u64.wrap ((lo:Int).tdiv (M:Int))=((lo/M:Nat):Int):=wG lo M hlo aa
   have e2:(lo:Int).tmod (M:Int)=((lo%M:Nat):Int):=se lo M
   have hMz:(M:Int)≠0:=by omega
   (refine ao ⟨[0,1,2,3,4,5,6,7],[]⟩ [] (fun _=>True) (h:=?_))
   all_goals repeat' (first|refine gd ?_|refine ax (hy:=by first|(apply rQ (c:=((lo/M:Nat):Int));rfl;rfl;exact hMz;exact e1)|(apply vy (c:=((lo%M:Nat):Int));rfl;rfl;exact hMz;exact e2)) ?_|refine ay ?_ (h':=?_)|exact az|(refine gq ?_ ?_<;>intro hx_ this)|fail)
   all_goals
    repeat' (first|refine gs ?_|fail)
    apply ab;apply dy;rfl;rfl;rfl
    rw [Nat.zero_mul,Nat.zero_add]
 · have e3:IntKind.u64.wrap 3=3:=by kernel_rfl
   have e61:IntKind.u64.wrap (64-3)=61:=by kernel_rfl
   have eh:shlV .u64 (hi:Int) 3=((hi*8:Nat):Int):=by rw [shl3,Nat.mod_eq_of_lt (by omega)]
   have el:shrV .u64 (lo:Int) 61=((lo/2305843009213693952:Nat):Int):=wj lo _ ac
   have eo:bitsV .or .u64 ((hi*8:Nat):Int) ((lo/2305843009213693952:Nat):Int)=((hi*8+lo/2305843009213693952:Nat):Int):=or3 hi _ aa aa
   have e10:shlV .u64 (lo:Int) 3=((lo*8%18446744073709551616:Nat):Int):=shl3 lo
   have hU:(hi*18446744073709551616+lo)*8=(hi*8+lo/2305843009213693952)*18446744073709551616+lo*8%18446744073709551616:=by omega
   have hu:hi*8+lo/2305843009213693952<Y:=by omega
   have hv:lo*8%18446744073709551616<18446744073709551616:=Nat.mod_lt _ (by decide)
   simp only [e3,e61,ey,ey1,ey0,eh,el,eo,e10]
   clear e3 e61 ey ey1 ey0 eh el eo e10 hz
   generalize hi*8+lo/2305843009213693952=u at *
   generalize lo*8%18446744073709551616=v at *
   have e1:shrV .u64 (v:Int) 32=((v/4294967296:Nat):Int):=wj v _ ac
   have e0:bitsV .and .u64 (v:Int) 4294967295=((v%4294967296:Nat):Int):=and32 v hv
   obtain ⟨v1,v0,hv1,hv0,hvv,hv1l,hv0l⟩:∃ v1 v0:Nat,v/4294967296=v1∧v%4294967296=v0∧v=v1*4294967296+v0∧v1<4294967296∧v0<4294967296:=⟨_,_,rfl,rfl,by omega,by omega,by omega⟩
   simp only [e1,e0,hv1,hv0]
   clear e1 e0 hv1 hv0
   subst hvv
   obtain ⟨V,hV⟩:∃ V,hi*18446744073709551616+lo=V:=⟨_,rfl⟩
   rw [hV] at hU ⊢
   have hUh:Hid (V*8=u*18446744073709551616+(v1*4294967296+v0)):=hU
   clear hU hV hv hhi hlo
   have hq1:Eqq (IntKind.u64.wrap ((u:Int).tdiv 4294967295)) ((u/4294967295:Nat):Int):=wG u 4294967295 aa (by decide)
   have h00:Y0<4294967289:=by omega
   repeat' (first|refine qA (hb:=by decide) (hc:=hq1) ?_|refine f0 (hc:=co _ aa) (h:=?_)|refine fC (hc:=co _ aa) (h:=?_)|refine gs ?_|(refine gp ?_ ?_<;>intro hx_ this)|fail)
   refine qc (ι:=DivE Y u v1) (fun i=>⟨[(2,.int .u64 (Y:Nat)),(8,.int .u64 3),(9,.int .u64 4294967295),(10,.int .u64 (Y0:Nat)),(11,.int .u64 (u:Nat)),(13,.int .u64 (v1:Int)),(14,.int .u64 (v0:Int)),(15,.int .u64 (i.q:Nat))],[],fun _=>True⟩) ?_ fun i=>?_
   · refine am (ι:=DivI Y u v1) (fun i=>⟨[(2,.int .u64 (Y:Nat)),(8,.int .u64 3),(9,.int .u64 4294967295),(10,.int .u64 (Y0:Nat)),(11,.int .u64 (u:Nat)),(13,.int .u64 (v1:Int)),(14,.int .u64 (v0:Int)),(15,.int .u64 (i.q:Nat)),(16,.int .u64 (i.r:Nat))],[],fun _=>True⟩) (fun i=>4294967296-i.r) ⟨u/4294967295,u%4294967295,by omega,sV hY hv1l,by omega,by omega⟩
      (ae ⟨rfl,rfl,rfl,rfl,rfl,rfl,rfl,rfl,by show some (Value.int .u64 ((u:Int)-((u/4294967295:Nat):Int)*4294967295))=some (Value.int .u64 ((u%4294967295:Nat):Int));congr 2;omega,trivial⟩ (List.nil_sublist _) fun _ h=>h) fun i=>?_
     obtain ⟨q,r,isum,ibig,itop,ilim⟩:=i
     simp only
     obtain ⟨hq0_,hq1_,hq2_⟩:=p7 itop h00
     repeat' (first|refine f0 (hc:=co _ aa) (h:=?_)|refine fC (hc:=co _ aa) (h:=?_)|refine cH (hc:=co _ aa) (h:=?_)|refine gs ?_|(refine gp ?_ ?_<;>intro hx_ this)|fail)
     rotate_right
     · have e:q*Y=q*(4294967295*4294967296)+q*Y0:=by rw [hY,Nat.mul_add]
       exact ⟨⟨q,by omega,ibig⟩,ae al (List.nil_sublist _) fun _ h=>h⟩
     all_goals
      cases q with
      | zero=>exfalso;omega
      | succ p =>
       have f2:u*4294967296+v1<(p+1)*Y:=sW hY isum hu hv1l (by first|exact Or.inl aa|exact Or.inr aa)
       have f3:((p+1:Nat):Int)-1=(p:Int):=by omega
       first
       | exact ⟨⟨p,sU hY h00 isum aa itop,f2⟩,ae ⟨rfl,rfl,rfl,rfl,rfl,rfl,rfl,by show some (Value.int .u64 (((p+1:Nat):Int)-1))=some (Value.int .u64 (p:Int));rw [f3],trivial⟩ (List.nil_sublist _) fun _ h=>h⟩
       | exact ⟨⟨p,r+4294967295,by rw [←isum,Nat.succ_mul,Nat.add_assoc,Nat.add_comm 4294967295 r],f2,by omega,by omega⟩,show 4294967296-(r+4294967295)<4294967296-r by omega,ae ⟨rfl,rfl,rfl,rfl,rfl,rfl,rfl,by show some (Value.int .u64 (((p+1:Nat):Int)-1))=some (Value.int .u64 (p:Int));rw [f3],rfl,trivial⟩ (List.nil_sublist _) fun _ h=>h⟩
   · obtain ⟨q1,q1lo,q1hi⟩:=i
     simp only
     have hs:=Nat.add_mul q1 1 Y
     obtain ⟨x,hx,hxY⟩:∃ x:Nat,u*4294967296+v1=q1*Y+x∧x<Y:=⟨u*4294967296+v1-q1*Y,by omega,by omega⟩
     have h17:Eqq (IntKind.u64.wrap (IntKind.u64.wrap (IntKind.u64.wrap ((u:Int)*4294967296)+(v1:Int))-IntKind.u64.wrap ((q1:Int)*(Y:Int)))) (x:Int):=by
      unfold Eqq
      rw [rX,show (u:Int)*4294967296+(v1:Int)-(q1:Int)*(Y:Int)=(x:Int) by omega]
      omega
     have hq0:Eqq (IntKind.u64.wrap ((x:Int).tdiv 4294967295)) ((x/4294967295:Nat):Int):=wG x 4294967295 aa (by decide)
     have hq1l:q1<4294967296:=Nat.lt_of_mul_lt_mul_right (a:=Y) (show q1*Y<4294967296*Y by omega)
     repeat' (first|refine fC (hc:=h17) (h:=?_)|refine f0 (hc:=rfl) (h:=?_)|refine cH (hc:=rfl) (h:=?_)|refine gs ?_|(fail)|fail)
     clear h17
     repeat' (first|refine qA (hb:=by decide) (hc:=hq0) ?_|refine f0 (hc:=co _ aa) (h:=?_)|refine fC (hc:=co _ aa) (h:=?_)|refine gs ?_|(refine gp ?_ ?_<;>intro hx_ this)|fail)
     have hxh:Hid (u*4294967296+v1=q1*Y+x):=hx
     clear hx q1lo q1hi hu hs
     refine qc (ι:=DivE Y x v0) (fun i=>⟨[(2,.int .u64 (Y:Nat)),(8,.int .u64 3),(14,.int .u64 (v0:Int)),(15,.int .u64 (q1:Nat)),(17,.int .u64 (x:Nat)),(18,.int .u64 (i.q:Nat))],[],fun _=>True⟩) ?_ fun i=>?_
     · refine am (ι:=DivI Y x v0) (fun i=>⟨[(2,.int .u64 (Y:Nat)),(8,.int .u64 3),(9,.int .u64 4294967295),(10,.int .u64 (Y0:Nat)),(14,.int .u64 (v0:Int)),(15,.int .u64 (q1:Nat)),(17,.int .u64 (x:Nat)),(18,.int .u64 (i.q:Nat)),(16,.int .u64 (i.r:Nat))],[],fun _=>True⟩) (fun i=>4294967296-i.r) ⟨x/4294967295,x%4294967295,by omega,sV hY hv0l,by omega,by omega⟩
        (ae ⟨rfl,rfl,rfl,rfl,rfl,rfl,rfl,rfl,by show some (Value.int .u64 ((x:Int)-((x/4294967295:Nat):Int)*4294967295))=some (Value.int .u64 ((x%4294967295:Nat):Int));congr 2;omega,trivial⟩ (List.nil_sublist _) fun _ h=>h) fun i=>?_
       obtain ⟨q,r,isum,ibig,itop,ilim⟩:=i
       simp only
       obtain ⟨hq0_,hq1_,hq2_⟩:=p7 itop h00
       repeat' (first|refine f0 (hc:=co _ aa) (h:=?_)|refine fC (hc:=co _ aa) (h:=?_)|refine cH (hc:=co _ aa) (h:=?_)|refine gs ?_|(refine gp ?_ ?_<;>intro hx_ this)|fail)
       rotate_right
       · have e:q*Y=q*(4294967295*4294967296)+q*Y0:=by rw [hY,Nat.mul_add]
         exact ⟨⟨q,by omega,ibig⟩,ae al (List.nil_sublist _) fun _ h=>h⟩
       all_goals
        cases q with
        | zero=>exfalso;omega
        | succ p =>
         have f2:x*4294967296+v0<(p+1)*Y:=sW hY isum hxY hv0l (by first|exact Or.inl aa|exact Or.inr aa)
         have f3:((p+1:Nat):Int)-1=(p:Int):=by omega
         first
         | exact ⟨⟨p,sU hY h00 isum aa itop,f2⟩,ae ⟨rfl,rfl,rfl,rfl,rfl,by show some (Value.int .u64 (((p+1:Nat):Int)-1))=some (Value.int .u64 (p:Int));rw [f3],trivial⟩ (List.nil_sublist _) fun _ h=>h⟩
         | exact ⟨⟨p,r+4294967295,by rw [←isum,Nat.succ_mul,Nat.add_assoc,Nat.add_comm 4294967295 r],f2,by omega,by omega⟩,show 4294967296-(r+4294967295)<4294967296-r by omega,ae ⟨rfl,rfl,rfl,rfl,rfl,rfl,rfl,by show some (Value.int .u64 (((p+1:Nat):Int)-1))=some (Value.int .u64 (p:Int));rw [f3],rfl,trivial⟩ (List.nil_sublist _) fun _ h=>h⟩
     · obtain ⟨q0,q0lo,q0hi⟩:=i
       simp only
       have hs:=Nat.add_mul q0 1 Y
       obtain ⟨y,hy,hyY⟩:∃ y:Nat,x*4294967296+v0=q0*Y+y∧y<Y:=⟨x*4294967296+v0-q0*Y,by omega,by omega⟩
       have h132:Eqq (IntKind.u64.wrap (IntKind.u64.wrap (IntKind.u64.wrap ((x:Int)*4294967296)+(v0:Int))-IntKind.u64.wrap ((q0:Int)*(Y:Int)))) (y:Int):=by
        unfold Eqq
        rw [rX,show (x:Int)*4294967296+(v0:Int)-(q0:Int)*(Y:Int)=(y:Int) by omega]
        omega
       have hq0l:q0<4294967296:=Nat.lt_of_mul_lt_mul_right (a:=Y) (show q0*Y<4294967296*Y by omega)
       have hq1:Eqq (IntKind.u64.wrap (IntKind.u64.wrap ((q1:Int)*4294967296)+(q0:Int))) ((q1:Int)*4294967296+(q0:Int)):=by unfold Eqq;rw [co ((q1:Int)*4294967296) aa,co _ (by omega)]
       repeat' (first|refine fC (hc:=h132) (h:=?_)|refine gs ?_|(fail)|fail)
       have h3:Eqq (shrV .u64 (y:Int) 3) ((y/8:Nat):Int):=wj y 8 ac
       have hx:u*4294967296+v1=q1*Y+x:=hxh
       have hU:V*8=u*18446744073709551616+(v1*4294967296+v0):=hUh
       have a1 (q:Nat):q*Y=M*q*8:=by rw [hYM,←Nat.mul_assoc,Nat.mul_comm q]
       have a2:=a1 q1
       have a3:=a1 q0
       have a4:M*(q1*4294967296+q0)=M*q1*4294967296+M*q0:=by rw [Nat.mul_add,←Nat.mul_assoc]
       obtain ⟨hA,hB⟩:=rz (V:=V) (M:=M) (Q:=q1*4294967296+q0) (z:=y/8) aa aa
       apply ab;apply dy;rfl;rfl;rfl
       unfold Eqq at h3 hq1
       rw [hA,hB,h3,hq1,Int.natCast_add,Int.natCast_mul]
       rfl
theorem div64P (hi lo:Nat) (hhi:hi<2305843009213693951) (hlo:lo<18446744073709551616) :
  Pu Tryz.prog 228 #[.int .u64 (hi:Int),.int .u64 (lo:Int),.int .u64 2305843009213693951] (fun _=>True)
   (.tuple #[.int .u64 (((hi*18446744073709551616+lo)/2305843009213693951:Nat):Int),.int .u64 (((hi*18446744073709551616+lo)%2305843009213693951:Nat):Int)]) :=
 div64 (M:=2305843009213693951) (Y:=18446744073709551608) (Y0:=4294967288) (by decide) rfl rfl (sF 8 (by decide)) ac ac ac hi lo hhi hlo
theorem div64N (hi lo:Nat) (hhi:hi<2305843009213693950) (hlo:lo<18446744073709551616) :
  Pu Tryz.prog 228 #[.int .u64 (hi:Int),.int .u64 (lo:Int),.int .u64 2305843009213693950] (fun _=>True)
   (.tuple #[.int .u64 (((hi*18446744073709551616+lo)/2305843009213693950:Nat):Int),.int .u64 (((hi*18446744073709551616+lo)%2305843009213693950:Nat):Int)]) :=
 div64 (M:=2305843009213693950) (Y:=18446744073709551600) (Y0:=4294967280) (by decide) rfl rfl (sF 16 (by decide)) ac ac ac hi lo hhi hlo
end Go.Proofs.YtggionfjlgfihaaGreatDoor
namespace Go.Proofs.YtggionfjlgfihaaGreatDoor
open Go Go.Proofs Sy Go.Shelf
theorem xp (hi lo M:Nat):(hi%M*18446744073709551616+lo)%M=(hi*18446744073709551616+lo)%M:=by
 rw [Nat.add_mod,Nat.mul_mod,Nat.mod_mod,←Nat.mul_mod,←Nat.add_mod]
theorem rem64P (hi lo:Nat) (hlo:lo<18446744073709551616) :
  Pu Tryz.prog 216 #[.int .u64 (hi:Int),.int .u64 (lo:Int),.int .u64 2305843009213693951] (fun _=>True) (.int .u64 (((hi*18446744073709551616+lo)%2305843009213693951:Nat):Int)):=by
 refine ar Tryz.func216 Tryz.ntmps216 fun av bor w0=>?_
 have hr:Eqq ((hi:Int).tmod 2305843009213693951) ((hi%2305843009213693951:Nat):Int):=se hi 2305843009213693951
 have hd:=div64P (hi%2305843009213693951) lo (Nat.mod_lt _ (by decide)) hlo
 rw [xp] at hd
 repeat' (first|refine g8 (hb:=by decide) (hc:=hr) ?_|(refine ag (hc:=hd) ?_)|refine gs ?_|(refine gp ?_ ?_<;>intro hx_ this)|fail)
 apply ab;apply ai;rfl;rfl
 rfl
theorem rem64N (hi lo:Nat) (hlo:lo<18446744073709551616) :
  Pu Tryz.prog 216 #[.int .u64 (hi:Int),.int .u64 (lo:Int),.int .u64 2305843009213693950] (fun _=>True) (.int .u64 (((hi*18446744073709551616+lo)%2305843009213693950:Nat):Int)):=by
 refine ar Tryz.func216 Tryz.ntmps216 fun av bor w0=>?_
 have hr:Eqq ((hi:Int).tmod 2305843009213693950) ((hi%2305843009213693950:Nat):Int):=se hi 2305843009213693950
 have hd:=div64N (hi%2305843009213693950) lo (Nat.mod_lt _ (by decide)) hlo
 rw [xp] at hd
 repeat' (first|refine g8 (hb:=by decide) (hc:=hr) ?_|(refine ag (hc:=hd) ?_)|refine gs ?_|(refine gp ?_ ?_<;>intro hx_ this)|fail)
 apply ab;apply ai;rfl;rfl
 rfl
theorem dk (a m:Nat) (hm:0<m) (hm2:m<4611686018427387904):Pu Tryz.prog 139 #[.int .i64 (a:Int),.int .i64 (m:Int)] (fun _=>True) (.int .i64 ((a%m:Nat):Int)):=by
 refine ar Tryz.func139 Tryz.ntmps139 fun av bor w0=>?_
 have hr:Eqq ((a:Int).tmod (m:Int)) ((a%m:Nat):Int):=se a m
 repeat' (first|refine g8 (hb:=by omega) (hc:=hr) ?_|refine gs ?_|(refine gp ?_ ?_<;>intro hx_ this)|fail)
 · exfalso;omega
 · apply ab;apply ai;rfl;rfl
   rfl
theorem zi (a b:Nat):Pu Tryz.prog 194 #[.int .i64 (a:Int),.int .i64 (b:Int),.int .i64 2305843009213693951] (fun _=>True) (.int .i64 ((a*b%2305843009213693951:Nat):Int)):=by
 refine ar Tryz.func194 Tryz.ntmps194 fun av bor w0=>?_
 have h1:=dk a 2305843009213693951 (by decide) (by decide)
 have h2:=dk b 2305843009213693951 (by decide) (by decide)
 have hx:=Nat.mod_lt a (show 0<2305843009213693951 by decide)
 have hy:=Nat.mod_lt b (show 0<2305843009213693951 by decide)
 have hab:a*b%2305843009213693951=(a%2305843009213693951)*(b%2305843009213693951)%2305843009213693951:=Nat.mul_mod a b _
 rw [hab]
 generalize a%2305843009213693951=x at *
 generalize b%2305843009213693951=y at *
 have h3:=pC x y aa aa
 have h4:=rem64P (x*y/18446744073709551616) (x*y%18446744073709551616) (Nat.mod_lt _ (by decide))
 have e:x*y/18446744073709551616*18446744073709551616+x*y%18446744073709551616=x*y:=Nat.div_add_mod' _ _
 rw [e] at h4
 have cx:Eqq (IntKind.u64.wrap (x:Int)) (x:Int):=co _ aa
 have cy:Eqq (IntKind.u64.wrap (y:Int)) (y:Int):=co _ aa
 have hz:=Nat.mod_lt (x*y) (show 0<2305843009213693951 by decide)
 have cm:Eqq (IntKind.u64.wrap 2305843009213693951) 2305843009213693951:=by unfold Eqq;kernel_rfl
 generalize x*y%2305843009213693951=z at *
 have cz:Eqq (IntKind.i64.wrap (z:Int)) (z:Int):=IntWalk.i64_in _ aa
 unfold Eqq at cx cy cm cz
 rw [←cx,←cy] at h3
 rw [←cm] at h4
 repeat' (first|(refine ag (hc:=h1) ?_)|(refine ag (hc:=h2) ?_)|(refine ag (hc:=h3) ?_)|(refine ag (hc:=h4) ?_)|refine gs ?_|(refine gp ?_ ?_<;>intro hx_ this)|fail)
 apply ab;apply ai;rfl;rfl
 rfl
theorem zM (a b:Nat):Pu Tryz.prog 197 #[.int .i64 (a:Int),.int .i64 (b:Int),.int .i64 2305843009213693950] (fun _=>True) (.int .i64 (((a+b)%2305843009213693950:Nat):Int)):=by
 refine ar Tryz.func197 Tryz.ntmps197 fun av bor w0=>?_
 have h1:=dk a 2305843009213693950 (by decide) (by decide)
 have h2:=dk b 2305843009213693950 (by decide) (by decide)
 have h3:=dk (a%2305843009213693950+b%2305843009213693950) 2305843009213693950 (by decide) (by decide)
 rw [←Nat.add_mod] at h3
 have hs:Eqq (IntKind.i64.wrap (((a%2305843009213693950:Nat):Int)+((b%2305843009213693950:Nat):Int))) ((a%2305843009213693950+b%2305843009213693950:Nat):Int):=by
  have:=Nat.mod_lt a (show 0<2305843009213693950 by decide)
  have:=Nat.mod_lt b (show 0<2305843009213693950 by decide)
  generalize a%2305843009213693950=x at *
  generalize b%2305843009213693950=y at *
  unfold Eqq
  rw [Int.natCast_add]
  exact IntWalk.i64_in _ aa
 repeat' (first|refine cH (hc:=hs) (h:=?_)|(refine ag (hc:=h1) ?_)|(refine ag (hc:=h2) ?_)|(refine ag (hc:=h3) ?_)|refine gs ?_|(refine gp ?_ ?_<;>intro hx_ this)|fail)
 apply ab;apply ai;rfl;rfl
 rfl
theorem zj (a b:Nat):Pu Tryz.prog 194 #[.int .i64 (a:Int),.int .i64 (b:Int),.int .i64 2305843009213693950] (fun _=>True) (.int .i64 ((a*b%2305843009213693950:Nat):Int)):=by
 refine ar Tryz.func194 Tryz.ntmps194 fun av bor w0=>?_
 have h1:=dk a 2305843009213693950 (by decide) (by decide)
 have h2:=dk b 2305843009213693950 (by decide) (by decide)
 have hx:=Nat.mod_lt a (show 0<2305843009213693950 by decide)
 have hy:=Nat.mod_lt b (show 0<2305843009213693950 by decide)
 have hab:a*b%2305843009213693950=(a%2305843009213693950)*(b%2305843009213693950)%2305843009213693950:=Nat.mul_mod a b _
 rw [hab]
 generalize a%2305843009213693950=x at *
 generalize b%2305843009213693950=y at *
 have h3:=pC x y aa aa
 have h4:=rem64N (x*y/18446744073709551616) (x*y%18446744073709551616) (Nat.mod_lt _ (by decide))
 have e:x*y/18446744073709551616*18446744073709551616+x*y%18446744073709551616=x*y:=Nat.div_add_mod' _ _
 rw [e] at h4
 have cx:Eqq (IntKind.u64.wrap (x:Int)) (x:Int):=co _ aa
 have cy:Eqq (IntKind.u64.wrap (y:Int)) (y:Int):=co _ aa
 have hz:=Nat.mod_lt (x*y) (show 0<2305843009213693950 by decide)
 have cm:Eqq (IntKind.u64.wrap 2305843009213693950) 2305843009213693950:=by unfold Eqq;kernel_rfl
 generalize x*y%2305843009213693950=z at *
 have cz:Eqq (IntKind.i64.wrap (z:Int)) (z:Int):=IntWalk.i64_in _ aa
 unfold Eqq at cx cy cm cz
 rw [←cx,←cy] at h3
 rw [←cm] at h4
 repeat' (first|(refine ag (hc:=h1) ?_)|(refine ag (hc:=h2) ?_)|(refine ag (hc:=h3) ?_)|(refine ag (hc:=h4) ?_)|refine gs ?_|(refine gp ?_ ?_<;>intro hx_ this)|fail)
 apply ab;apply ai;rfl;rfl
 rfl
theorem rP (a b:Nat):Pu Tryz.prog 140 #[.int .i64 (a:Int),.int .i64 (b:Int)] (fun _=>True) (.int .i64 ((a*b%2305843009213693951:Nat):Int)):=by
 refine ar Tryz.func140 Tryz.ntmps140 fun av bor w0=>?_
 repeat' (first|(refine ag (hc:=zi a b) ?_)|refine gs ?_|(refine gp ?_ ?_<;>intro hx_ this)|fail)
 apply ab;apply ai;rfl;rfl
 rfl
theorem zN (a b:Nat):Pu Tryz.prog 146 #[.int .i64 (a:Int),.int .i64 (b:Int)] (fun _=>True) (.int .i64 ((a*b%2305843009213693950:Nat):Int)):=by
 refine ar Tryz.func146 Tryz.ntmps146 fun av bor w0=>?_
 repeat' (first|(refine ag (hc:=zj a b) ?_)|refine gs ?_|(refine gp ?_ ?_<;>intro hx_ this)|fail)
 apply ab;apply ai;rfl;rfl
 rfl
theorem zO (a b:Nat):Pu Tryz.prog 145 #[.int .i64 (a:Int),.int .i64 (b:Int)] (fun _=>True) (.int .i64 (((a+b)%2305843009213693950:Nat):Int)):=by
 refine ar Tryz.func145 Tryz.ntmps145 fun av bor w0=>?_
 repeat' (first|(refine ag (hc:=zM a b) ?_)|refine gs ?_|(refine gp ?_ ?_<;>intro hx_ this)|fail)
 apply ab;apply ai;rfl;rfl
 rfl
def expF (a e:Nat):Nat→Nat×Nat
 | 0=>(1,a%2305843009213693951)
 | i+1=>(bif decide (e/2 ^ i%2=1) then (expF a e i).1*(expF a e i).2%2305843009213693951 else (expF a e i).1,(expF a e i).2*(expF a e i).2%2305843009213693951)
def expV (a e:Nat):Nat:=(expF a e (Lib.bitLen e)).1
theorem Bf (e i:Nat) (hi:i≤64):shrV .i64 (e:Int) (i:Int)=((e/2 ^ i:Nat):Int):=by
 show (e:Int).fdiv (2 ^ (min (i:Int).toNat 64))=_
 rw [Int.toNat_natCast,Nat.min_eq_left hi,show (2:Int) ^ i=((2 ^ i:Nat):Int) by rw [Int.natCast_pow];rfl,←Int.ofNat_fdiv]
theorem Bw (x:Nat) (hx:x<9223372036854775808):bitsV .and .i64 (x:Int) 1=((x%2:Nat):Int):=by
 show IntKind.i64.wrap ((((BitVec.ofInt 64 (x:Int)) &&& (BitVec.ofInt 64 1)).toNat:Nat):Int)=_
 have e:(BitVec.ofInt 64 1).toNat=1:=by decide
 rw [BitVec.toNat_and,e,BitVec.ofInt_natCast,BitVec.toNat_ofNat,Nat.mod_eq_of_lt (show x<2 ^ 64 by omega),Nat.and_one_is_mod]
 exact IntWalk.i64_in _ aa
theorem iT:∀ f x:Nat,Lib.bitLenAux f x≤f
 | 0,_=>Nat.le_refl _
 | f+1,x=>by
  rw [Lib.bitLenAux]
  split
  · omega
  · have:=iT f (x/2)
    omega
theorem oc (a e:Nat) (he:e<9223372036854775808):Pu Tryz.prog 83 #[.int .i64 (a:Int),.int .i64 (e:Int)] (fun _=>True) (.int .i64 (expV a e:Nat)):=by
 refine ar Tryz.func83 Tryz.ntmps83 fun av bor w0=>?_
 have h1:=dk a 2305843009213693951 (by decide) (by decide)
 have h2:=pJ e aa
 have ce:Eqq (IntKind.u64.wrap (e:Int)) (e:Int):=co _ aa
 unfold Eqq at ce
 rw [←ce] at h2
 repeat' (first|(refine ag (hc:=h1) ?_)|(refine ag (hc:=h2) ?_)|refine gs ?_|(refine gp ?_ ?_<;>intro hx_ this)|fail)
 · exfalso;omega
 · have hbl:Lib.bitLen e≤64:=iT 64 e
   refine am (ι:=Kth (Lib.bitLen e)) (fun i=>⟨[(1,.int .i64 (e:Int)),(5,.int .i64 ((expF a e i.k).1:Nat)),(6,.int .i64 ((expF a e i.k).2:Nat)),(16,.int .i64 (Lib.bitLen e:Nat)),(17,.int .i64 i.k)],[],fun _=>True⟩) (fun i=>Lib.bitLen e-i.k) ⟨0,Nat.zero_le _⟩ (ae al (List.nil_sublist _) fun _ h=>h) fun i=>?_
   have hik:=i.hk
   have hm1:=rP (expF a e i.k).1 (expF a e i.k).2
   have hm2:=rP (expF a e i.k).2 (expF a e i.k).2
   have hb:bitsV .and .i64 (shrV .i64 (e:Int) ((i.k:Nat):Int)) 1=((e/2 ^ i.k%2:Nat):Int):=by
    rw [Bf e i.k aa,Bw _ (Nat.lt_of_le_of_lt (Nat.div_le_self _ _) he)]
   have hs:expF a e (i.k+1)=(bif decide (e/2 ^ i.k%2=1) then (expF a e i.k).1*(expF a e i.k).2%2305843009213693951 else (expF a e i.k).1,(expF a e i.k).2*(expF a e i.k).2%2305843009213693951):=rfl
   generalize hp:expF a e i.k=p at *
   repeat' (first|(refine ag (hc:=hm1) ?_)|(refine ag (hc:=hm2) ?_)|refine gs ?_|(refine gp ?_ ?_<;>intro hx_ this)|fail)
   · have hc:e/2 ^ i.k%2=1:=by
      rw [hb] at hx_
      have:=cI hx_
      omega
     rw [decide_eq_true hc,cond_true] at hs
     exact ⟨(⟨i.k+1,by omega⟩:Kth (Lib.bitLen e)),(by show Lib.bitLen e-(i.k+1)<Lib.bitLen e-i.k;omega),ae ⟨rfl,by rw [hs];rfl,by rw [hs];rfl,rfl,rfl,trivial⟩ (List.nil_sublist _) fun _ h=>h⟩
   · have hc:¬ e/2 ^ i.k%2=1:=by
      rw [hb] at hx_
      have:=d1 hx_
      omega
     rw [decide_eq_false hc,cond_false] at hs
     exact ⟨(⟨i.k+1,by omega⟩:Kth (Lib.bitLen e)),(by show Lib.bitLen e-(i.k+1)<Lib.bitLen e-i.k;omega),ae ⟨rfl,by rw [hs];rfl,by rw [hs];rfl,rfl,rfl,trivial⟩ (List.nil_sublist _) fun _ h=>h⟩
   · have hk:i.k=Lib.bitLen e:=by omega
     apply ab;apply ai;rfl;rfl
     rw [expV,←hk,hp]
end Go.Proofs.YtggionfjlgfihaaGreatDoor
namespace Go.Proofs.YtggionfjlgfihaaGreatDoor
open Go Go.Proofs Sy
def IsN (x:Int) (n:Nat):Prop:=x=(n:Int)∧n<4294967296
theorem wrap32 (n:Nat):IntKind.u32.wrap (n:Int)=((n%4294967296:Nat):Int):=by
 simp [IntKind.wrap,IntKind.signed,IntKind.bits]
theorem IsN.xor {x y:Int} {m n:Nat} (h:IsN x m) (k:IsN y n):IsN (bitsV .xor .u32 x y) (m ^^^ n):=by
 obtain ⟨rfl,hm⟩:=h
 obtain ⟨rfl,hn⟩:=k
 have hx:m ^^^ n<2 ^ 32:=Nat.xor_lt_two_pow hm hn
 refine ⟨?_,hx⟩
 show IntKind.u32.wrap ((((BitVec.ofInt 32 (m:Int)) ^^^ (BitVec.ofInt 32 (n:Int))).toNat:Nat):Int)=_
 rw [BitVec.ofInt_natCast,BitVec.ofInt_natCast,BitVec.toNat_xor,BitVec.toNat_ofNat,BitVec.toNat_ofNat,Nat.mod_eq_of_lt (show m<2 ^ 32 from hm),Nat.mod_eq_of_lt (show n<2 ^ 32 from hn),wrap32,Nat.mod_eq_of_lt hx]
theorem IsN.and {x y:Int} {m n:Nat} (h:IsN x m) (k:IsN y n):IsN (bitsV .and .u32 x y) (m &&& n):=by
 obtain ⟨rfl,hm⟩:=h
 obtain ⟨rfl,hn⟩:=k
 have hx:m &&& n<2 ^ 32:=Nat.and_lt_two_pow m hn
 refine ⟨?_,hx⟩
 show IntKind.u32.wrap ((((BitVec.ofInt 32 (m:Int)) &&& (BitVec.ofInt 32 (n:Int))).toNat:Nat):Int)=_
 rw [BitVec.ofInt_natCast,BitVec.ofInt_natCast,BitVec.toNat_and,BitVec.toNat_ofNat,BitVec.toNat_ofNat,Nat.mod_eq_of_lt (show m<2 ^ 32 from hm),Nat.mod_eq_of_lt (show n<2 ^ 32 from hn),wrap32,Nat.mod_eq_of_lt hx]
theorem IsN.or {x y:Int} {m n:Nat} (h:IsN x m) (k:IsN y n):IsN (bitsV .or .u32 x y) (m ||| n):=by
 obtain ⟨rfl,hm⟩:=h
 obtain ⟨rfl,hn⟩:=k
 have hx:m ||| n<2 ^ 32:=Nat.or_lt_two_pow hm hn
 refine ⟨?_,hx⟩
 show IntKind.u32.wrap ((((BitVec.ofInt 32 (m:Int)) ||| (BitVec.ofInt 32 (n:Int))).toNat:Nat):Int)=_
 rw [BitVec.ofInt_natCast,BitVec.ofInt_natCast,BitVec.toNat_or,BitVec.toNat_ofNat,BitVec.toNat_ofNat,Nat.mod_eq_of_lt (show m<2 ^ 32 from hm),Nat.mod_eq_of_lt (show n<2 ^ 32 from hn),wrap32,Nat.mod_eq_of_lt hx]
theorem IsN.add {x y:Int} {m n:Nat} (h:IsN x m) (k:IsN y n):IsN (a32 x y) ((m+n)%4294967296):=by
 obtain ⟨rfl,hm⟩:=h
 obtain ⟨rfl,hn⟩:=k
 refine ⟨?_,Nat.mod_lt _ (by decide)⟩
 show IntKind.u32.wrap ((m:Int)+(n:Int))=_
 rw [←Int.natCast_add,wrap32]
theorem IsN.shl {x:Int} {m:Nat} (h:IsN x m) {c:Int} (p:Nat) (hp:(2:Int) ^ (min c.toNat 32)=(p:Int)):IsN (shlV .u32 x c) (m*p%4294967296):=by
 obtain ⟨rfl,hm⟩:=h
 refine ⟨?_,Nat.mod_lt _ (by decide)⟩
 show IntKind.u32.wrap ((m:Int)*2 ^ (min c.toNat 32))=_
 rw [hp,←Int.natCast_mul,wrap32]
theorem IsN.shr {x:Int} {m:Nat} (h:IsN x m) {c:Int} (p:Nat) (hp:(2:Int) ^ (min c.toNat 32)=(p:Int)):IsN (shrV .u32 x c) (m/p):=by
 obtain ⟨rfl,hm⟩:=h
 refine ⟨?_,Nat.lt_of_le_of_lt (Nat.div_le_self _ _) hm⟩
 show (m:Int).fdiv (2 ^ (min c.toNat 32))=_
 rw [hp,←Int.ofNat_fdiv]
def rot (p q m:Nat):Nat:=(m*p%4294967296) ||| (m/q)
theorem IsN.turn {x:Int} {m:Nat} (h:IsN x m) {r c:Int} (p q:Nat) (hc:bitsV .and .u64 (IntKind.u64.wrap (IntKind.i64.wrap (0-r))) 31=c) (hd:IntKind.u64.wrap (32-c)=r) (hp:(2:Int) ^ (min c.toNat 32)=(p:Int)) (hq:(2:Int) ^ (min r.toNat 32)=(q:Int)) :
  IsN (turnV x r) (rot p q m):=by
 unfold turnV rotlV
 rw [hc,hd]
 exact (h.shl p hp).or (h.shr q hq)
def s0N (m:Nat):Nat:=rot 33554432 128 m ^^^ rot 16384 262144 m ^^^ (m/8)
def s1N (m:Nat):Nat:=rot 32768 131072 m ^^^ rot 8192 524288 m ^^^ (m/1024)
def b1N (m:Nat):Nat:=rot 67108864 64 m ^^^ rot 2097152 2048 m ^^^ rot 128 33554432 m
def b0N (m:Nat):Nat:=rot 1073741824 4 m ^^^ rot 524288 8192 m ^^^ rot 1024 4194304 m
theorem IsN.s0 {x:Int} {m:Nat} (h:IsN x m):IsN (bitsV .xor .u32 (bitsV .xor .u32 (turnV x 7) (turnV x 18)) (shrV .u32 x 3)) (s0N m) :=
 ((h.turn (c:=25) _ _ ac ac ac ac).xor (h.turn (c:=14) _ _ ac ac ac ac)).xor (h.shr 8 ac)
theorem IsN.s1 {x:Int} {m:Nat} (h:IsN x m):IsN (bitsV .xor .u32 (bitsV .xor .u32 (turnV x 17) (turnV x 19)) (shrV .u32 x 10)) (s1N m) :=
 ((h.turn (c:=15) _ _ ac ac ac ac).xor (h.turn (c:=13) _ _ ac ac ac ac)).xor (h.shr 1024 ac)
theorem IsN.b1 {x:Int} {m:Nat} (h:IsN x m):IsN (x32 (x32 (turnV x 6) (turnV x 11)) (turnV x 25)) (b1N m) :=
 ((h.turn (c:=26) _ _ ac ac ac ac).xor (h.turn (c:=21) _ _ ac ac ac ac)).xor (h.turn (c:=7) _ _ ac ac ac ac)
theorem IsN.b0 {x:Int} {m:Nat} (h:IsN x m):IsN (x32 (x32 (turnV x 2) (turnV x 13)) (turnV x 22)) (b0N m) :=
 ((h.turn (c:=30) _ _ ac ac ac ac).xor (h.turn (c:=19) _ _ ac ac ac ac)).xor (h.turn (c:=10) _ _ ac ac ac ac)
def fc {α:Type} (n:Nat) (k:Nat→α):α:=match n with
 | 0=>k 0
 | m+1=>k (Nat.succ m)
theorem lB {α:Type} (n:Nat) (k:Nat→α):fc n k=k n:=by cases n<;>rfl
structure S8 where
 a:Nat
 b:Nat
 c:Nat
 d:Nat
 e:Nat
 f:Nat
 g:Nat
 h:Nat
structure RS (x:St8) (n:S8):Prop where
 a:IsN x.a n.a
 b:IsN x.b n.b
 c:IsN x.c n.c
 d:IsN x.d n.d
 e:IsN x.e n.e
 f:IsN x.f n.f
 g:IsN x.g n.g
 h:IsN x.h n.h
def t1N (h e f g k w:Nat):Nat:=((((h+b1N e)%4294967296+((e &&& f) ^^^ ((4294967295 ^^^ e) &&& g)))%4294967296+k)%4294967296+w)%4294967296
def t2N (a b c:Nat):Nat:=(b0N a+(((a &&& b) ^^^ (a &&& c)) ^^^ (b &&& c)))%4294967296
def roundN (s:S8) (k w:Nat):S8:=match s with
 | ⟨a,b,c,d,e,f,g,h⟩=>fc (t1N h e f g k w) fun t1=>fc ((t1+t2N a b c)%4294967296) fun x=>fc ((d+t1)%4294967296) fun y=>⟨x,a,b,c,y,e,f,g⟩
theorem RS.round {x:St8} {n:S8} (h:RS x n) {k w:Int} {k' w':Nat} (hk:IsN k k') (hw:IsN w w'):RS (roundV x k w) (roundN n k' w'):=by
 obtain ⟨a,b,c,d,e,f,g,hh⟩:=n
 obtain ⟨ha,hb,hc,hd,he,hf,hg,hh⟩:=h
 simp only [roundN,lB]
 have hm:IsN (if IntKind.u32.signed then -1 else IntKind.u32.max) 4294967295:=⟨by kernel_rfl,by decide⟩
 have h1:IsN (t1V x k w) (t1N _ e f g k' w'):=(((hh.add he.b1).add ((he.and hf).xor ((hm.xor he).and hg))).add hk).add hw
 have h2:IsN (t2V x) (t2N a b c):=ha.b0.add (((ha.and hb).xor (ha.and hc)).xor (hb.and hc))
 exact ⟨h1.add h2,ha,hb,hc,hd.add h1,he,hf,hg⟩
structure W16 where
 w0:Nat
 w1:Nat
 w2:Nat
 w3:Nat
 w4:Nat
 w5:Nat
 w6:Nat
 w7:Nat
 w8:Nat
 w9:Nat
 w10:Nat
 w11:Nat
 w12:Nat
 w13:Nat
 w14:Nat
 w15:Nat
def nextW (a b c d:Nat):Nat:=(((a+s0N b)%4294967296+c)%4294967296+s1N d)%4294967296
def W16.next (w:W16):W16:=match w with
 | ⟨a0,a1,a2,a3,a4,a5,a6,a7,a8,a9,a10,a11,a12,a13,a14,a15⟩=>fc (nextW a0 a1 a9 a14) fun x=>⟨a1,a2,a3,a4,a5,a6,a7,a8,a9,a10,a11,a12,a13,a14,a15,x⟩
def sN (f:Nat→Nat):Nat→Nat→Nat
 | 0,t=>f t
 | k+1,t=>if t=16+k then nextW (sN f k k) (sN f k (k+1)) (sN f k (k+9)) (sN f k (k+14)) else sN f k t
def winN (f:Nat→Nat) (t:Nat):W16:=⟨sN f t t,sN f t (t+1),sN f t (t+2),sN f t (t+3),sN f t (t+4),sN f t (t+5),sN f t (t+6),sN f t (t+7),sN f t (t+8),sN f t (t+9),sN f t (t+10),sN f t (t+11),sN f t (t+12),sN f t (t+13),sN f t (t+14),sN f t (t+15)⟩
theorem qP (f:Nat→Nat) {k t:Nat} (h:t≠16+k):sN f (k+1) t=sN f k t:=by rw [sN,if_neg h]
theorem wx (f:Nat→Nat) (k:Nat):sN f (k+1) (16+k)=nextW (sN f k k) (sN f k (k+1)) (sN f k (k+9)) (sN f k (k+14)):=by rw [sN,if_pos rfl]
theorem nG (f:Nat→Nat) {k t:Nat}:∀ j,t<16+k→sN f (k+j) t=sN f k t
 | 0,_=>rfl
 | j+1,h=>by
  rw [show k+(j+1)=(k+j)+1 from rfl,qP f (by omega)]
  exact nG f j h
theorem W16.next_eq (a0 a1 a2 a3 a4 a5 a6 a7 a8 a9 a10 a11 a12 a13 a14 a15:Nat):W16.next ⟨a0,a1,a2,a3,a4,a5,a6,a7,a8,a9,a10,a11,a12,a13,a14,a15⟩=⟨a1,a2,a3,a4,a5,a6,a7,a8,a9,a10,a11,a12,a13,a14,a15,nextW a0 a1 a9 a14⟩:=by rw [W16.next,lB]
theorem tz (f:Nat→Nat) (t:Nat):(winN f t).next=winN f (t+1):=by
 rw [winN,W16.next_eq,←wx,winN]
 have e:∀ j,j<15→sN f t (t+(j+1))=sN f (t+1) (t+1+j):=fun j hj=>by
  rw [qP f (by omega)];congr 1;omega
 have e15:sN f (t+1) (16+t)=sN f (t+1) (t+1+15):=by congr 1;omega
 rw [W16.mk.injEq]
 exact ⟨e 0 aa,e 1 aa,e 2 aa,e 3 aa,e 4 aa,e 5 aa,e 6 aa,e 7 aa,e 8 aa,e 9 aa,e 10 aa,e 11 aa,e 12 aa,e 13 aa,e 14 aa,e15⟩
theorem mq {s:ByteArray} {f:Nat→Nat} (h:∀ t,t<16→IsN (wordV s t) (f t)):∀ k,k≤48→∀ t,t<16+k→IsN ((w2 s k).getD t 0) (sN f k t)
 | 0,_,t,ht=>by
  have key:∀ i,i≤16→∀ t,t<i→(w1 s i).getD t 0=wordV s t:=fun i=>by
   induction i with
   | zero=>intro _ t ht;omega
   | succ i ih =>
    intro hi t ht
    rw [w1,List.getD_eq_getElem?_getD,List.getElem?_set]
    by_cases e:i=t
    · subst e
      rw [if_pos rfl,if_pos (by rw [nr];omega)];rfl
    · rw [if_neg e,←List.getD_eq_getElem?_getD]
      exact ih aa t aa
  rw [w2,key 16 aa t (by omega)]
  exact h t aa
 | k+1,hk,t,ht=>by
  have ih:=mq h k aa
  rw [w2,List.getD_eq_getElem?_getD,List.getElem?_set]
  by_cases e:16+k=t
  · subst e
    rw [if_pos rfl,if_pos (by rw [nq];omega),wx]
    have h0:=ih k aa
    have h1:=ih (16+k-15) aa
    have h9:=ih (16+k-7) aa
    have h14:=ih (16+k-2) aa
    rw [show 16+k-15=k+1 by omega] at h1
    rw [show 16+k-7=k+9 by omega] at h9
    rw [show 16+k-2=k+14 by omega] at h14
    have he:early (w2 s k) (16+k)=_:=rfl
    unfold early late
    rw [show 16+k-15=k+1 by omega,show 16+k-7=k+9 by omega,show 16+k-2=k+14 by omega]
    exact ((h0.add h1.s0).add h9).add h14.s1
  · rw [if_neg e,←List.getD_eq_getElem?_getD,qP f (by omega)]
    exact ih t aa
def kN:List Nat:=kC.map Int.toNat
def stepN (p:S8×W16) (k:Nat):S8×W16:=match p with
 | (s,w)=>(roundN s k w.w0,w.next)
theorem wd (s:S8) (w:W16) (k:Nat):stepN (s,w) k=(roundN s k w.w0,w.next):=by unfold stepN;rfl
def roundsN (ks:List Nat) (s:S8) (w:W16):S8:=(ks.foldl stepN (s,w)).1
theorem uf {x:St8} {ws:List Int} {f:Nat→Nat} (hw:∀ t,t<64→IsN (ws.getD t 0) (sN f t t)):∀ (n t:Nat) (s:S8),t+n=64→RS (roundsV x ws t) s→RS (roundsV x ws 64) ((kN.drop t).foldl stepN (s,winN f t)).1:=by
 intro n
 have hl:kN.length=64:=by kernel_rfl
 have hk:∀ t,t<64→kC.getD t 0=((kN.getD t 0:Nat):Int)∧kN.getD t 0<4294967296:=by decide +kernel
 induction n with
 | zero =>
  intro t s ht h
  have e:t=64:=by omega
  subst e
  rw [List.drop_of_length_le aa,List.foldl_nil]
  exact h
 | succ n ih =>
  intro t s ht h
  have hd:kN.drop t=kN[t]'(by omega)::kN.drop (t+1):=List.drop_eq_getElem_cons aa
  have e2:kN.getD t 0=kN[t]'(by omega):=by rw [List.getD_eq_getElem?_getD,List.getElem?_eq_getElem (by omega)];rfl
  have h1:=hk t aa
  rw [e2] at h1
  have hw0:(winN f t).w0=sN f t t:=by unfold winN;rfl
  have hr:roundsV x ws (t+1)=roundV (roundsV x ws t) (kC.getD t 0) (ws.getD t 0):=by rw [roundsV]
  rw [hd,List.foldl_cons,wd,tz,hw0]
  refine ih (t+1) _ aa ?_
  rw [hr]
  exact h.round h1 (hw t aa)
theorem qS {x:St8} {ws:List Int} {f:Nat→Nat} (hw:∀ t,t<64→IsN (ws.getD t 0) (sN f t t)) {s:S8} (h:RS x s):RS (roundsV x ws 64) (roundsN kN s (winN f 0)):=by
 have h1:=uf (x:=x) hw 64 0 s (Nat.zero_add _) (by rw [roundsV];exact h)
 rw [List.drop_zero] at h1
 unfold roundsN
 exact h1
def addN (x y:S8):S8:=match x,y with
 | ⟨a,b,c,d,e,f,g,h⟩,⟨a',b',c',d',e',f',g',h'⟩=>fc ((a+a')%4294967296) fun a=>fc ((b+b')%4294967296) fun b=>fc ((c+c')%4294967296) fun c=>fc ((d+d')%4294967296) fun d=>fc ((e+e')%4294967296) fun e=>fc ((f+f')%4294967296) fun f=>fc ((g+g')%4294967296) fun g=>fc ((h+h')%4294967296) fun h=>⟨a,b,c,d,e,f,g,h⟩
def mixN (s:S8) (w:W16):S8:=addN s (roundsN kN s w)
theorem RS.add {x y:St8} {m n:S8} (h:RS x m) (h1:RS y n):RS ⟨a32 x.a y.a,a32 x.b y.b,a32 x.c y.c,a32 x.d y.d,a32 x.e y.e,a32 x.f y.f,a32 x.g y.g,a32 x.h y.h⟩ (addN m n):=by
 obtain ⟨a,b,c,d,e,f,g,hh⟩:=m
 obtain ⟨a',b',c',d',e',f',g',h'⟩:=n
 simp only [addN,lB]
 exact ⟨h.a.add h1.a,h.b.add h1.b,h.c.add h1.c,h.d.add h1.d,h.e.add h1.e,h.f.add h1.f,h.g.add h1.g,h.h.add h1.h⟩
theorem RS.mix {x:St8} {n:S8} (h:RS x n) {s:ByteArray} {f:Nat→Nat} (hs:∀ t,t<16→IsN (wordV s t) (f t)):RS (mixV x s) (mixN n (winN f 0)):=by
 have h1:=qS (x:=x) (ws:=schedV s) (f:=f) (fun t ht=>by
  have h2:=mq hs 48 aa t aa
  by_cases e:t≤48
  · have h3:=nG f (k:=t) (t:=t) (48-t) aa
    rw [show t+(48-t)=48 by omega] at h3
    rw [schedV]
    rwa [h3] at h2
  · have h3:=nG f (k:=48) (t:=t) (t-48) aa
    rw [show 48+(t-48)=t by omega] at h3
    rw [schedV,h3]
    exact h2) h
 unfold mixV mixN
 generalize roundsV x (schedV s) 64=y at h1 ⊢
 generalize roundsN kN n (winN f 0)=y' at h1 ⊢
 exact h.add h1
def nl (s:ByteArray):List Nat:=s.data.toList.map UInt8.toNat
theorem cj (s:ByteArray):(nl s).length=s.size:=by simp [nl]
theorem d7 (a b:ByteArray):nl (a++b)=nl a++nl b:=by simp [nl,ByteArray.data_append]
theorem ld (s:ByteArray):∀ x∈nl s,x<256:=fun x hx=>by
 obtain ⟨b,_,rfl⟩:=List.mem_map.1 hx
 exact b.toNat_lt
theorem fL (s:ByteArray) (a b:Nat):nl (s.extract a b)=((nl s).drop a).take (b-a):=by
 simp [nl,ByteArray.data_extract,Array.toList_extract,List.map_take,List.map_drop]
theorem rc {a b:ByteArray} (h:nl a=nl b):a=b:=by
 apply ByteArray.ext
 apply Array.ext'
 have key:∀ l m:List UInt8,l.map UInt8.toNat=m.map UInt8.toNat→l=m:=fun l=>by
  induction l with
  | nil=>intro m h;cases m with|nil=>rfl|cons _ _=>cases h
  | cons a l ih =>
   intro m h
   cases m with
   | nil=>cases h
   | cons b m =>
    simp only [List.map_cons,List.cons.injEq] at h
    rw [UInt8.toNat_inj.1 h.1,ih m h.2]
 exact key _ _ h
theorem ve (s:ByteArray):bytesI s=(nl s).map fun (n:Nat)=>(n:Int):=by simp [bytesI,nl,Function.comp_def]
def wdN (a b c d:Nat):Nat:=((a*16777216%4294967296 ||| (b*65536%4294967296)) ||| (c*256%4294967296)) ||| d
def fW (l:List Nat) (t:Nat):Nat:=wdN (l.getD (4*t) 0) (l.getD (4*t+1) 0) (l.getD (4*t+2) 0) (l.getD (4*t+3) 0)
theorem vf (s:ByteArray) (i j:Nat) (hj:j<4):byteAt (s.extract (4*(i:Int)).toNat (4*(i:Int)+4).toNat) j=(((nl s).getD (4*i+j) 0:Nat):Int):=by
 have h1:(4*(i:Int)).toNat=4*i:=by omega
 have h2:(4*(i:Int)+4).toNat=4*i+4:=by omega
 have h0:∀ (e:ByteArray) (k:Nat),byteAt e k=(((nl e).getD k 0:Nat):Int):=fun e k=>by
  simp only [byteAt,nl,List.getD_eq_getElem?_getD,List.getElem?_map]
  cases e.data.toList[k]?<;>rfl
 rw [h1,h2,h0,fL,show 4*i+4-4*i=4 by omega,List.getD_eq_getElem?_getD,List.getD_eq_getElem?_getD,List.getElem?_take,if_pos hj,List.getElem?_drop]
theorem km {l:List Nat} (h:∀ x∈l,x<256) (i:Nat):l.getD i 0<256:=by
 rw [List.getD_eq_getElem?_getD]
 cases hx:l[i]? with
 | none=>decide
 | some x=>exact h x (List.mem_of_getElem? hx)
theorem yr (s:ByteArray) (i:Nat):IsN (wordV s i) (fW (nl s) i):=by
 have hb:∀ j,j<4→IsN (IntKind.u32.wrap (byteAt (s.extract (4*(i:Int)).toNat (4*(i:Int)+4).toNat) j)) ((nl s).getD (4*i+j) 0):=fun j hj=>by
  have h:=km (ld s) (4*i+j)
  rw [vf s i j hj,wrap32,Nat.mod_eq_of_lt (by omega)]
  exact ⟨rfl,by omega⟩
 unfold wordV fW wdN
 exact ((((hb 0 aa).shl 16777216 ac).or ((hb 1 aa).shl 65536 ac)).or ((hb 2 aa).shl 256 ac)).or (hb 3 aa)
def rd1 {α:Type} (z:α) (l:List Nat) (k:Nat→List Nat→α):α:=match l with
 | a::b::c::d::r=>fc (wdN a b c d) fun w=>k w r
 | _=>z
theorem AE {α:Type} {z:α} {l:List Nat} {k:Nat→List Nat→α} (h:4≤l.length):rd1 z l k=k (fW l 0) (l.drop 4):=by
 match l,h with
 | a::b::c::d::r,_=>rw [rd1,lB];rfl
def blkN {α:Type} (z:α) (l:List Nat) (k:W16→List Nat→α):α :=
 rd1 z l fun w0 l=>rd1 z l fun w1 l=>rd1 z l fun w2 l=>rd1 z l fun w3 l=>rd1 z l fun w4 l=>rd1 z l fun w5 l=>rd1 z l fun w6 l=>rd1 z l fun w7 l =>
 rd1 z l fun w8 l=>rd1 z l fun w9 l=>rd1 z l fun w10 l=>rd1 z l fun w11 l=>rd1 z l fun w12 l=>rd1 z l fun w13 l=>rd1 z l fun w14 l=>rd1 z l fun w15 l =>
 k ⟨w0,w1,w2,w3,w4,w5,w6,w7,w8,w9,w10,w11,w12,w13,w14,w15⟩ l
theorem zA (l:List Nat) (m t:Nat):fW (l.drop (4*m)) t=fW l (m+t):=by
 have e:∀ j,(l.drop (4*m)).getD (4*t+j) 0=l.getD (4*(m+t)+j) 0:=fun j=>by
  rw [List.getD_eq_getElem?_getD,List.getD_eq_getElem?_getD,List.getElem?_drop,show 4*m+(4*t+j)=4*(m+t)+j by omega]
 have e0:=e 0
 simp only [Nat.add_zero] at e0
 rw [fW,fW,e0,e 1,e 2,e 3]
theorem zK {α:Type} {z:α} {l:List Nat} {k:W16→List Nat→α} (h:64≤l.length):blkN z l k=k (winN (fW l) 0) (l.drop 64):=by
 have st:∀ (m:Nat) (k':Nat→List Nat→α),m<16→rd1 z (l.drop (4*m)) k'=k' (fW l m) (l.drop (4*(m+1))):=fun m k' hm=>by
  rw [AE (by rw [List.length_drop];omega),zA,List.drop_drop]
  rfl
 have h0:l=l.drop (4*0):=rfl
 unfold blkN
 rw [h0,st 0 _ aa,st 1 _ aa,st 2 _ aa,st 3 _ aa,st 4 _ aa,st 5 _ aa,st 6 _ aa,st 7 _ aa,st 8 _ aa,st 9 _ aa,st 10 _ aa,st 11 _ aa,st 12 _ aa,st 13 _ aa,st 14 _ aa,st 15 _ (by omega)]
 rfl
def runN:Nat→S8→List Nat→S8
 | 0,x,_=>x
 | f+1,x,l=>blkN x l fun w r=>runN f (mixN x w) r
theorem gP {f:Nat} {x:S8} {l:List Nat} (h:64≤l.length):runN (f+1) x l=runN f (mixN x (winN (fW l) 0)) (l.drop 64):=zK h
theorem zz {l:List Nat} (t:Nat) (h:t<16):fW (l.take 64) t=fW l t:=by
 have e:∀ j,j<64→(l.take 64).getD j 0=l.getD j 0:=fun j hj=>by
  rw [List.getD_eq_getElem?_getD,List.getD_eq_getElem?_getD,List.getElem?_take,if_pos hj]
 rw [fW,fW,e _ aa,e _ aa,e _ aa,e _ (by omega)]
theorem RS.blk {x:St8} {n:S8} (h:RS x n) (r:ByteArray) (hr:64≤r.size):RS (mixV x (r.extract 0 64)) (mixN n (winN (fW (nl r)) 0)) :=
 h.mix fun t ht=>by
  have h1:=yr (r.extract 0 64) t
  rw [fL,List.drop_zero] at h1
  rwa [zz t ht] at h1
theorem nU (r:ByteArray):nl (r.extract 64 r.size)=(nl r).drop 64:=by
 rw [fL,List.take_of_length_le (by rw [List.length_drop,cj];omega)]
theorem mj (r:ByteArray) (h:64≤r.size):(r.extract 64 r.size).size=r.size-64:=by
 rw [←cj,nU,List.length_drop,cj]
theorem mG:∀ (f:Nat) (x:St8) (n:S8) (r:ByteArray),RS x n→r.size/64≤f→RS (loopV f x r).1 (runN (r.size/64) n (nl r))∧nl (loopV f x r).2=(nl r).drop (64*(r.size/64))
 | 0,x,n,r,h,hf=>by
  have e:r.size/64=0:=by omega
  rw [e]
  exact ⟨h,rfl⟩
 | f+1,x,n,r,h,hf=>by
  by_cases hr:64≤r.size
  · have e:r.size/64=(r.size-64)/64+1:=by omega
    have hs:=mj r hr
    have ih:=mG f (mixV x (r.extract 0 64)) _ (r.extract 64 r.size) (h.blk r hr) (by rw [hs];omega)
    rw [hs,nU] at ih
    have e2:loopV (f+1) x r=loopV f (mixV x (r.extract 0 64)) (r.extract 64 r.size):=by rw [loopV,decide_eq_true aa,cond_true]
    rw [e2,e,gP (by rw [cj];omega)]
    refine ⟨ih.1,?_⟩
    rw [ih.2,List.drop_drop]
    congr 1
    omega
  · have e:r.size/64=0:=by omega
    have e2:loopV (f+1) x r=(x,r):=by rw [loopV,decide_eq_false aa,cond_false]
    rw [e,e2]
    exact ⟨h,rfl⟩
theorem mH:∀ (f:Nat) (x:St8) (n:S8) (r:ByteArray),RS x n→r.size%64=0→r.size/64≤f→RS (loopE f x r) (runN (r.size/64) n (nl r))
 | 0,x,n,r,h,_,hf=>by
  have e:r.size/64=0:=by omega
  rw [e]
  exact h
 | f+1,x,n,r,h,hm,hf=>by
  by_cases hr:r.size=0
  · have e:r.size/64=0:=by omega
    have e2:loopE (f+1) x r=x:=by rw [loopE,cO,decide_eq_true hr,cond_true]
    rw [e,e2]
    exact h
  · have hs:=mj r aa
    have e:r.size/64=(r.size-64)/64+1:=by omega
    have ih:=mH f (mixV x (r.extract 0 64)) _ (r.extract 64 r.size) (h.blk r aa) (by rw [hs];omega) (by rw [hs];omega)
    rw [hs,nU] at ih
    have e2:loopE (f+1) x r=loopE f (mixV x (r.extract 0 64)) (r.extract 64 r.size):=by rw [loopE,cO,decide_eq_false hr,cond_false]
    rw [e2,e,gP (by rw [cj];omega)]
    exact ih
theorem qw {f g:Nat→Nat} (h:∀ t,t<16→f t=g t):winN f 0=winN g 0:=by
 have e:∀ t,t<16→sN f 0 t=sN g 0 t:=fun t ht=>by rw [sN,sN];exact h t ht
 rw [winN,winN,W16.mk.injEq]
 exact ⟨e 0 aa,e 1 aa,e 2 aa,e 3 aa,e 4 aa,e 5 aa,e 6 aa,e 7 aa,e 8 aa,e 9 aa,e 10 aa,e 11 aa,e 12 aa,e 13 aa,e 14 aa,e 15 aa⟩
theorem uS {l e:List Nat} (h:64≤l.length) (t:Nat) (ht:t<16):fW (l++e) t=fW l t:=by
 have k:∀ j,j<64→(l++e).getD j 0=l.getD j 0:=fun j hj=>by
  rw [List.getD_eq_getElem?_getD,List.getD_eq_getElem?_getD,List.getElem?_append_left (by omega)]
 rw [fW,fW,k _ aa,k _ aa,k _ aa,k _ (by omega)]
theorem jE (h:Nat) (e:List Nat):∀ (g:Nat) (x:S8) (l:List Nat),64*g≤l.length→runN (g+h) x (l++e)=runN h (runN g x l) (l.drop (64*g)++e)
 | 0,x,l,_=>by
  rw [Nat.zero_add,Nat.mul_zero,List.drop_zero,runN]
 | g+1,x,l,hl=>by
  have ih:=jE h e g (mixN x (winN (fW l) 0)) (l.drop 64) (by rw [List.length_drop];omega)
  rw [show g+1+h=(g+h)+1 by omega,gP (by rw [List.length_append];omega),qw (fun t ht=>uS aa t ht),List.drop_append_of_le_length aa,ih,gP aa,List.drop_drop]
  congr 3
  omega
def sizeN (n:Nat):List Nat:=[n*8/72057594037927936%256,n*8/281474976710656%256,n*8/1099511627776%256,n*8/4294967296%256,n*8/16777216%256,n*8/65536%256,n*8/256%256,n*8%256]
def padL (l:List Nat):List Nat:=l++(128::(List.replicate (padN (l.length+1)) 0++sizeN l.length))
def iniN:S8:=⟨1779033703,3144134277,1013904242,2773480762,1359893119,2600822924,528734635,1541459225⟩
def d4N (w:Nat):List Nat:=[w/16777216%256,w/65536%256,w/256%256,w%256]
def digN (s:S8):List Nat:=match s with
 | ⟨a,b,c,d,e,f,g,h⟩=>d4N a++(d4N b++(d4N c++(d4N d++(d4N e++(d4N f++(d4N g++d4N h))))))
def shaL (l:List Nat):List Nat:=digN (runN ((padL l).length/64) iniN (padL l))
theorem wrap8 (n:Nat):IntKind.u8.wrap (n:Int)=((n%256:Nat):Int):=by
 simp [IntKind.wrap,IntKind.signed,IntKind.bits]
theorem fi (ns:List Nat) (h:∀ x∈ns,x<256):nl (ofInts (ns.map fun (n:Nat)=>(n:Int)))=ns:=by
 have key:∀ (ns:List Nat) (r:ByteArray),(∀ x∈ns,x<256)→nl ((ns.map fun (n:Nat)=>(n:Int)).foldl (fun r n=>r.push (UInt8.ofNat n.toNat)) r)=nl r++ns:=fun ns=>by
  induction ns with
  | nil=>intro r _;simp
  | cons a ns ih =>
   intro r h
   rw [List.map_cons,List.foldl_cons,ih _ fun x hx=>h x (List.mem_cons_of_mem _ hx)]
   have ha:=h a ap
   have:nl (r.push (UInt8.ofNat ((a:Int)).toNat))=nl r++[a]:=by
    simp [nl,ByteArray.data_push,Nat.mod_eq_of_lt ha]
   rw [this,List.append_assoc]
   rfl
 have:=key ns ByteArray.empty h
 simpa [ofInts,nl] using this
theorem eY {x:Int} {n:Nat} (h:IsN x n):digB x=(d4N n).map fun (n:Nat)=>(n:Int):=by
 have h24:=(h.shr (c:=24) 16777216 ac).1
 have h16:=(h.shr (c:=16) 65536 ac).1
 have h8:=(h.shr (c:=8) 256 ac).1
 unfold digB d4N
 rw [h24,h16,h8,h.1,wrap8,wrap8,wrap8,wrap8]
 rfl
theorem Bv (n:Nat):∀ x∈d4N n,x<256:=fun x hx=>by
 simp only [d4N,List.mem_cons,List.not_mem_nil,or_false] at hx
 rcases hx with rfl|rfl|rfl|rfl<;>exact Nat.mod_lt _ (by decide)
theorem AY {x:St8} {n:S8} (h:RS x n):nl (ofInts (x.l.flatMap digB))=digN n:=by
 obtain ⟨a,b,c,d,e,f,g,hh⟩:=n
 have e1:x.l.flatMap digB=(digN ⟨a,b,c,d,e,f,g,hh⟩).map fun (n:Nat)=>(n:Int):=by
  simp only [St8.l,digN,List.flatMap_cons,List.flatMap_nil,List.append_nil,List.map_append,eY h.a,eY h.b,eY h.c,eY h.d,eY h.e,eY h.f,eY h.g,eY h.h]
 rw [e1]
 refine fi _ fun x hx=>?_
 simp only [digN,List.mem_append] at hx
 rcases hx with h|h|h|h|h|h|h|h<;>exact Bv _ _ h
theorem wi (n:Nat) (hn:n<2305843009213693952):sizeB (n:Int) 8=(sizeN n).map fun (n:Nat)=>(n:Int):=by
 have hw:∀ m:Nat,m<18446744073709551616→IntKind.u64.wrap (m:Int)=(m:Int):=fun m hm=>by
  simp [IntKind.wrap,IntKind.signed,IntKind.bits]
  omega
 have h1:IntKind.u64.wrap (IntKind.u64.wrap (n:Int)*8)=((n*8:Nat):Int):=by
  rw [hw n aa,show (n:Int)*8=((n*8:Nat):Int) by omega,hw _ (by omega)]
 have hs:∀ (c:Int) (p:Nat),(2:Int) ^ (min c.toNat 64)=(p:Int)→shrV .u64 ((n*8:Nat):Int) c=((n*8/p:Nat):Int):=fun c p hp=>by
  show ((n*8:Nat):Int).fdiv (2 ^ (min c.toNat 64))=_
  rw [hp,←Int.ofNat_fdiv]
 unfold sizeB sizeN
 rw [h1,show List.range 8=[0,1,2,3,4,5,6,7] by rfl]
 simp only [List.map_cons,List.map_nil]
 rw [hs _ 72057594037927936 ac,hs _ 281474976710656 ac,hs _ 1099511627776 ac,hs _ 4294967296 ac,hs _ 16777216 ac,hs _ 65536 ac,hs _ 256 ac,hs _ 1 ac,Nat.div_one]
 simp only [wrap8]
theorem AX (s:ByteArray) (n:Nat) (hn:n<2305843009213693952):nl (endV s (n:Int))=nl s++(128::(List.replicate (padN (s.size+1)) 0++sizeN n)):=by
 have e:endL s++List.replicate (padN (s.size+1)) 0++sizeB (n:Int) 8=(nl s++(128::(List.replicate (padN (s.size+1)) 0++sizeN n))).map fun (n:Nat)=>(n:Int):=by
  rw [endL,ve,wi n hn]
  simp
 rw [endV,e]
 refine fi _ fun x hx=>?_
 simp only [List.mem_append,List.mem_cons,List.mem_replicate] at hx
 rcases hx with h|h|h|h
 · exact ld s x h
 · omega
 · omega
 · simp only [sizeN,List.mem_cons,List.not_mem_nil,or_false] at h
   rcases h with rfl|rfl|rfl|rfl|rfl|rfl|rfl|rfl<;>exact Nat.mod_lt _ (by decide)
theorem qN (s:ByteArray) (hs:s.size<2305843009213693952):nl (shaV s)=shaL (nl s):=by
 have hi:RS iniS iniN:=⟨⟨rfl,by decide⟩,⟨rfl,by decide⟩,⟨rfl,by decide⟩,⟨rfl,by decide⟩,⟨rfl,by decide⟩,⟨rfl,by decide⟩,⟨rfl,by decide⟩,⟨rfl,by decide⟩⟩
 obtain ⟨h1,h2⟩:=mG s.size iniS iniN s hi (Nat.div_le_self _ _)
 have h3:shaV s=ofInts ((loopE (endV (loopV s.size iniS s).2 s.size).size (loopV s.size iniS s).1 (endV (loopV s.size iniS s).2 s.size)).l.flatMap digB):=rfl
 rw [h3]
 generalize loopV s.size iniS s=p at h1 h2
 have he:=AX p.2 s.size hs
 have hps:p.2.size=s.size%64:=by
  rw [←cj,h2,List.length_drop,cj]
  omega
 have hlen:(endV p.2 s.size).size%64=0:=mR _ _
 have h4:=mH (endV p.2 s.size).size p.1 _ (endV p.2 s.size) h1 hlen (Nat.div_le_self _ _)
 rw [AY h4,shaL]
 congr 1
 have hpad:padN (p.2.size+1)=padN ((nl s).length+1):=by
  rw [hps,cj,padN,padN]
  omega
 have hpl:padL (nl s)=nl s++(128::(List.replicate (padN ((nl s).length+1)) 0++sizeN s.size)):=by rw [padL,cj]
 have hll:(padL (nl s)).length/64=s.size/64+(endV p.2 s.size).size/64:=by
  have e1:(endV p.2 s.size).size=(s.size%64)+1+padN ((nl s).length+1)+8:=by
   rw [←cj,he,h2,hpad]
   simp only [List.length_append,List.length_cons,List.length_replicate,List.length_drop,cj,sizeN,List.length_nil]
   omega
  have e2:(padL (nl s)).length=s.size+1+padN ((nl s).length+1)+8:=by
   rw [hpl]
   simp only [List.length_append,List.length_cons,List.length_replicate,cj,sizeN,List.length_nil]
   omega
  rw [e1,e2]
  rw [e1] at hlen
  omega
 rw [hll,hpl,jE _ _ _ _ _ (by rw [cj];omega),he,h2,hpad]
end Go.Proofs.YtggionfjlgfihaaGreatDoor
namespace Go.Proofs.YtggionfjlgfihaaGreatDoor.Sy
open Go Go.RowKit
theorem Xq.later {av bor:List Nat} {w0 w w':World} {loc:List Xk} {X:World→Prop} (G:Xq av bor w0 loc X w) (hB:Below w.heap.size w w'):Xq av bor w0 loc X w' :=
 (Xq.more (r:=⟨[],fun _=>True⟩) G hB (fun _ _=>trivial) List.nodup_nil (fun i hi=>by cases hi)).drop (List.sublist_cons_self _ _)
section
variable {P:Program} {N:Nat} {av bor:List Nat} {w0:World} {ops:Array Oper} {rest:List Oper} {k:St→Prop} {E:Env} {loc:List Xk} {X:World→Prop}
variable {ty:TypeId} {pos:String} {af:Array Edge} {g:Option (Nat×Bool)} {bb want:Bool}
theorem g9 {n:Nat} {x:Operand} {xs:List Operand} {ats:Array TypeId} {f:FuncId} {args:List Value} {X1:World→Prop} {v:Value} (h:Sw P N av bor w0 ops rest ⟨(n,v)::E,loc,X⟩ k) (hx:ev E x=some (.func (.func f) #[] #[]):=by rfl) (ha:evs E xs=some args:=by rfl) (hg:gdB ops E g=some (bb,want):=by rfl) (hb:bb=want:=by exact aq) (hd:Nat.blt n N=true:=by rfl) (hf:Xv P f:=by first|infer_instance|exact ⟨ac⟩) (hc:Pu P f args.toArray X1 v) (hX:∀ w,X w→(∀ r∈loc,r.F w)→X1 w) :
  Sw P N av bor w0 ops (⟨some n,.call ⟨.value x,xs.toArray,ats⟩,ty,pos,af,g⟩::rest) ⟨E,loc,X⟩ k:=Sw.mk fun a w ok=>by
 have hd':inB N (some n)=true:=by have h1:n<N:=Nat.le_of_ble_eq_true hd;simpa [inB] using h1
 simp only [wpList]
 rw [aX ok (o:=⟨some n,.call ⟨.value x,xs.toArray,ats⟩,ty,pos,af,g⟩) hg]
 subst hb
 simp only [beq_self_eq_true,if_true]
 left
 unfold Oper.wp
 have hr:(execOp a.eval ⟨some n,.call ⟨.value x,xs.toArray,ats⟩,ty,pos,af,g⟩).run P w=.ok (.enter f args.toArray) w:=by
  have e:=fo ok xs args ha
  have e1:xs.toArray.map a.eval=args.toArray:=by rw [List.map_toArray,e]
  simp only [execOp,resolve,ok.eval (st:=⟨E,loc,X⟩) hx,Deferred.ofValue,invoke,e1]
  simp only [Sem.run_bind,Sem.run_pure,Result.andThen_ok]
  have e2:(#[]:Array Value)++args.toArray++#[]=args.toArray:=by simp
  rw [e2]
  exact jf _ w
 rw [hr]
 have G1:=ok.gam.giveAll
 have G0:=(Xq.start (pre:=[]) (fr:=[]) G1).imp (fun w h=>hX w h.1 h.2)
 unfold Pu at hc
 refine (Ct.run hc w _ G0).mono fun e w' ⟨u,R,X',he,⟨hu,hR⟩,G'⟩=>?_
 subst he
 subst hu
 have ok':Ok N av bor w0 ⟨E,loc,X⟩ a w':=ok.via fun M G=>Xq.later G G'.fr.below
 exact h.run _ _ (cu (some n) _▸ok'.put hd' _)
end
end Go.Proofs.YtggionfjlgfihaaGreatDoor.Sy
namespace Go.Proofs.YtggionfjlgfihaaGreatDoor
open Go Go.Proofs Sy Go.Shelf Go.RowKit
def numF (l:List Nat):Nat→Nat
 | 0=>0
 | k+1=>numF l k*256+l.getD k 0
def numN (l:List Nat):Nat:=numF l 8/8
theorem iJ (s:ByteArray):∀ k,numF (nl s) k<256 ^ k
 | 0=>by simp [numF]
 | k+1=>by
  have h1:=iJ s k
  have h2:=km (ld s) k
  rw [numF,Nat.pow_succ]
  omega
theorem numF7 (s:ByteArray) {k:Nat} (hk:k<8):numF (nl s) k<72057594037927936:=by
 have h1:=iJ s k
 have h2:256 ^ k≤256 ^ 7:=Nat.pow_le_pow_right (by decide) aa
 have h3:(256:Nat) ^ 7=72057594037927936:=by decide
 omega
theorem numF8 (s:ByteArray) {k:Nat} (hk:k<8):numF (nl s) k*256<18446744073709551616:=by
 have h1:=iJ s k
 have h2:256 ^ k≤256 ^ 7:=Nat.pow_le_pow_right (by decide) aa
 have h3:(256:Nat) ^ 7=72057594037927936:=by decide
 omega
theorem shl8 (x:Nat) (h:x*256<18446744073709551616):shlV .u64 (x:Int) 8=((x*256:Nat):Int):=by
 show IntKind.u64.wrap ((x:Int)*2 ^ (min (8:Int).toNat 64))=_
 rw [show ((2:Int) ^ (min (8:Int).toNat 64))=256 from by kernel_rfl,co _ (by omega)]
 omega
theorem or8 (x b:Nat) (hb:b<256) (h:x<72057594037927936):bitsV .or .u64 ((x*256:Nat):Int) (b:Int)=((x*256+b:Nat):Int):=by
 have hx:x*256+b<18446744073709551616:=by omega
 have hy:x*256<18446744073709551616:=Nat.lt_of_le_of_lt (Nat.le_add_right _ _) hx
 have hz:b<18446744073709551616:=by omega
 have hw:IntKind.u64.wrap ((x*256+b:Nat):Int)=((x*256+b:Nat):Int):=co _ aa
 have e:x*256 ||| b=x*256+b:=by
  have:=Nat.shiftLeft_add_eq_or_of_lt (a:=x) (b:=b) (i:=8) hb
  rw [Nat.shiftLeft_eq] at this
  exact this.symm
 show IntKind.u64.wrap ((((BitVec.ofInt 64 ((x*256:Nat):Int)) ||| (BitVec.ofInt 64 (b:Int))).toNat:Nat):Int)=_
 rw [BitVec.ofInt_natCast,BitVec.ofInt_natCast,BitVec.toNat_or,BitVec.toNat_ofNat,BitVec.toNat_ofNat,Nat.mod_eq_of_lt (show x*256<2 ^ 64 from hy),Nat.mod_eq_of_lt (show b<2 ^ 64 from hz),e,hw]
theorem shr3 (x:Nat):shrV .u64 (x:Int) 3=((x/8:Nat):Int):=by
 show (x:Int).fdiv (2 ^ (min (3:Int).toNat 64))=_
 rw [show ((2:Int) ^ (min (3:Int).toNat 64))=((8:Nat):Int) from by kernel_rfl,←Int.ofNat_fdiv]
theorem ti (s:ByteArray) (k:Nat) (hk:k<s.size):byteAt s k=(((nl s).getD k 0:Nat):Int):=by
 simp only [byteAt,nl,List.getD_eq_getElem?_getD,List.getElem?_map]
 have hl:k<s.data.toList.length:=by simpa using hk
 rw [List.getElem?_eq_getElem hl]
 rfl
theorem tM (s:ByteArray):Pu Tryz.prog 84 #[.string s] (fun _=>True) (.int .i64 (numN (nl s):Nat)):=by
 refine ar Tryz.func84 Tryz.ntmps84 fun av bor w0=>?_
 repeat' (first|refine gs ?_|(refine gp ?_ ?_<;>intro hx_ this)|fail)
 refine am (ι:=Kth 8) (fun i=>⟨[(0,.string s),(3,.int .u64 (numF (nl s) i.k:Nat)),(5,.int .i64 i.k)],[],fun _=>True⟩) (fun i=>8-i.k) ⟨0,Nat.zero_le _⟩ (ae al (aj _) fun _ h=>h) fun i=>?_
 have hik:=i.hk
 repeat' (first|refine gs ?_|(refine gp ?_ ?_<;>intro hx_ this)|fail)
 · have hlt:i.k<8:=by omega
   have hs:i.k<s.size:=by omega
   have hb:=km (ld s) i.k
   have hE:bitsV .or .u64 (shlV .u64 ((numF (nl s) i.k:Nat):Int) 8) (IntKind.u64.wrap (byteAt s (i.k:Int).toNat))=((numF (nl s) (i.k+1):Nat):Int):=by
    rw [shl8 _ (numF8 s hlt),show ((i.k:Int)).toNat=i.k from rfl,ti s _ hs,co _ aa,or8 _ _ hb (numF7 s hlt)]
    rfl
   exact ⟨⟨i.k+1,hlt⟩,(by show 8-(i.k+1)<8-i.k;omega),ae ⟨rfl,congrArg (fun z=>some (Value.int IntKind.u64 z)) hE,rfl,trivial⟩ (aj _) fun _ h=>h⟩
 · have hlt:i.k<8:=by omega
   have hs:s.size≤i.k:=by omega
   have hE:shlV .u64 ((numF (nl s) i.k:Nat):Int) 8=((numF (nl s) (i.k+1):Nat):Int):=by
    rw [shl8 _ (numF8 s hlt),numF,List.getD_eq_getElem?_getD,List.getElem?_eq_none (by rw [cj];exact hs),Option.getD_none,Nat.add_zero]
   exact ⟨⟨i.k+1,hlt⟩,(by show 8-(i.k+1)<8-i.k;omega),ae ⟨rfl,congrArg (fun z=>some (Value.int IntKind.u64 z)) hE,rfl,trivial⟩ (aj _) fun _ h=>h⟩
 · have h8:i.k=8:=by omega
   apply ab;apply ai;rfl;rfl
   have hl:=iJ s 8
   have hp:(256:Nat) ^ 8=18446744073709551616:=by decide
   rw [h8,shr3,IntWalk.i64_in _ (by omega)]
   rfl
theorem yY (s:ByteArray):numN (nl s)<2305843009213693952:=by
 have hl:=iJ s 8
 have hp:(256:Nat) ^ 8=18446744073709551616:=by decide
 rw [numN]
 omega
def catB (l:List ByteArray):ByteArray:=l.foldr (fun a b=>a++b) ⟨#[]⟩
theorem rf:∀ l:List ByteArray,nl (catB l)=l.flatMap nl
 | []=>rfl
 | a::l=>by
  show nl (a++catB l)=_
  rw [d7,rf l,List.flatMap_cons]
def PartsAt (b T:Nat) (xs:List ByteArray) (w:World):Prop:=w.heap[b]?=some (.cells (xs.map Value.string).toArray T (0,0))
theorem pf {P:Program} {f:FuncId} {args:Array Value} {X:World→Prop} {v:Value} (h:∀ w,X w→Calls P f args w fun e w'=>e=.returned v∧Below w.heap.size w w'):Pu P f args X v:=by
 unfold Pu
 exact Ct.mk fun w av G=>(h w G.keep.now).mono fun e w' ⟨he,hw⟩=>⟨v,[],X,he,⟨rfl,rfl⟩,Xq.later G hw⟩
theorem joinX:Builder.Extra Tryz.prog Tryz.join_ren where
 sizeBuilder:=by kernel_rfl
 liesBuilder:=by kernel_rfl
 t5:=by kernel_rfl
 a5:=fun w=>by simp [isAgg,run_underlying (show Tryz.prog.underlying (Tryz.join_ren.t 5)=some (.int .u8) from by kernel_rfl)]
 z5:=fun w=>Sy.run_sizeOf (P:=Tryz.prog) (t:=Tryz.join_ren.t 5) (n:=1) ac w
 v5:=fun w=>dj (show zeroOf Tryz.prog (Tryz.join_ren.t 5)=some (.int .u8 0) from by kernel_rfl) w
 infoByte:=by kernel_rfl
 cellsByte:=by kernel_rfl
 sizeByte:=by kernel_rfl
 neB5:=by decide
theorem uC (l:List (List UInt8)):Lib.join l []=l.flatten:=by
 rw [Lib.join,List.intercalate]
 induction l with
 | nil=>rfl
 | cons a l ih =>
  cases l with
  | nil=>simp
  | cons b l=>simpa using ih
theorem xY (xs:List ByteArray):(⟨(Lib.join (xs.map (·.data.toList)) (⟨#[]⟩:ByteArray).data.toList).toArray⟩:ByteArray)=catB xs:=by
 have e:(⟨#[]⟩:ByteArray).data.toList=[]:=rfl
 rw [e,uC]
 apply rc
 rw [rf]
 simp [nl,List.map_flatten,List.flatMap_def,Function.comp_def]
 rfl
theorem eI (xs:List ByteArray):(catB xs).size=(xs.map ByteArray.size).sum:=by
 induction xs with
 | nil=>rfl
 | cons a l ih =>
  show (a++catB l).size=_
  rw [ByteArray.size_append,ih,List.map_cons,List.sum_cons]
theorem zq (b T c:Nat) (xs:List ByteArray) (hc:xs.length≤c) (hn:xs.length≤1000) (hs:(catB xs).size≤1099511627776):Pu Tryz.prog 85 #[.slice (some ⟨b,0,none⟩) xs.length c,.string ⟨#[]⟩] (PartsAt b T xs) (.string (catB xs)) :=
 pf fun w h=>by
  have hcell:∀ (j:Nat) x,xs[j]?=some x→w.cell? ⟨b,0+j,none⟩=some (.string x):=fun j x hj=>by
   simp [World.cell?,show w.heap[b]?=_ from h,hj]
  have hl:(Lib.join (xs.map (·.data.toList)) (⟨#[]⟩:ByteArray).data.toList).length=(catB xs).size:=by
   rw [←xY xs]
   simp [ByteArray.size]
  have:=Any.strings_Join Tryz.join joinX b 0 c xs ⟨#[]⟩ w hcell (Array.getElem?_eq_some_iff.1 h).1 aa hc (by rw [hl];omega)
  rw [xY xs] at this
  exact this
theorem kj (b T c:Nat) (xs:List ByteArray) (hc:xs.length≤c) (hn:xs.length≤1000) (hs:(catB xs).size≤1099511627776) :
  Pu Tryz.prog 41 #[.slice (some ⟨b,0,none⟩) xs.length c] (fun w=>PartsAt b T xs w∧Xf w) (.int .i64 (numN (nl (shaV (catB xs))):Nat)):=by
 refine ar Tryz.func41 Tryz.ntmps41 fun av bor w0=>?_
 repeat' (first|(refine ag (hc:=zq b T c xs hc hn hs) ?_)|(refine ag (hc:=kL (catB xs) hs) ?_)|refine ag (hc:=tM (shaV (catB xs))) ?_|refine gs ?_|(refine gp ?_ ?_<;>intro hx_ this)|fail)
 apply ab;apply ai;rfl;rfl
 rfl
end Go.Proofs.YtggionfjlgfihaaGreatDoor
namespace Go.Proofs.YtggionfjlgfihaaGreatDoor
open Go Go.Proofs Sy
def hashN (xs:List ByteArray):Nat:=numN (nl (shaV (catB xs)))
theorem pO (xs:List ByteArray):hashN xs<2305843009213693952:=yY _
def reduceN (h:Nat):Nat:=1+h%2305843009213693949
theorem jG (h:Nat):1≤reduceN h:=Nat.le_add_right _ _
theorem ib (h:Nat):reduceN h≤2305843009213693949:=by
 have:=Nat.mod_lt h (show 2305843009213693949>0 by decide)
 unfold reduceN
 omega
theorem mx (h:Nat) (hh:h<2305843009213693952):Pu Tryz.prog 40 #[.int .i64 (h:Int)] (fun _=>True) (.int .i64 (reduceN h:Nat)):=by
 refine ar Tryz.func40 Tryz.ntmps40 fun av bor w0=>?_
 repeat' (first|refine g8 (c:=((h%2305843009213693949:Nat):Int)) (hc:=(Int.ofNat_tmod h 2305843009213693949).symm) (hb:=by decide) ?_|refine gs ?_|(refine gp ?_ ?_<;>intro hx_ this)|fail)
 apply ab;apply ai;rfl;rfl
 rfl
def chalP (r p:Nat) (msg:ByteArray):List ByteArray:=[textV ⟨#[115,105,103,110]⟩,numV (r:Int),numV (p:Int),textV msg]
def chalN (r p:Nat) (msg:ByteArray):Nat:=hashN (chalP r p msg)%2305843009213693950
theorem td (r p:Nat) (msg:ByteArray) (hr:r<9223372036854775808) (hp:p<9223372036854775808) (hm:msg.size≤1000000000000) :
  Pu Tryz.prog 144 #[.int .i64 (r:Int),.int .i64 (p:Int),.string msg] Xf (.int .i64 (chalN r p msg:Nat)):=by
 refine ar Tryz.func144 Tryz.ntmps144 fun av bor w0=>?_
 have hsz:(catB (chalP r p msg)).size≤1099511627776:=by
  have h1:=aD ⟨#[115,105,103,110]⟩
  have h2:=aw (r:Int)
  have h3:=aw (p:Int)
  have h4:=aD msg
  have h5:(⟨#[115,105,103,110]⟩:ByteArray).size=4:=rfl
  rw [eI]
  simp only [chalP,List.map_cons,List.map_nil,List.sum_cons,List.sum_nil]
  omega
 repeat' (first|refine g8 (c:=((chalN r p msg:Nat):Int)) (hc:=(Int.ofNat_tmod (hashN (chalP r p msg)) 2305843009213693950).symm) (hb:=by decide) ?_|refine ag (hc:=d8 _ (by first|omega|decide)) ?_|refine ag (hc:=dU _ aa) ?_|(refine g9 (hc:=kj _ 9 4 (chalP r p msg) (show 4≤4 by decide) (show 4≤1000 by decide) hsz) (hX:=fun w h hr=>⟨hr _ ap,h⟩) ?_)|refine gs ?_|refine gs1 fun _=>?_|(refine gp ?_ ?_<;>intro hx_ this)|fail)
 apply ab;apply ai;rfl;rfl
 rfl
structure El where
 s:Int
 p:Int
def El.cells (k:El):List Value:=[.int .i64 k.s,.int .i64 k.p]
def El.v (k:El):Value:=.agg k.cells.toArray
def El.zero:El:=⟨0,0⟩
theorem sS (a e:Nat):∀ i,(expF a e i).1<2305843009213693951
 | 0=>by show 1<2305843009213693951;decide
 | i+1=>by
  have ih:=sS a e i
  show (bif decide (e/2 ^ i%2=1) then (expF a e i).1*(expF a e i).2%2305843009213693951 else (expF a e i).1)<_
  cases decide (e/2 ^ i%2=1) with
  | true=>exact Nat.mod_lt _ (by decide)
  | false=>exact ih
theorem sR (a e:Nat):expV a e<2305843009213693951:=sS a e _
def ofK (s:Int):El:=bif decide (s<1)||decide (2305843009213693949<s) then El.zero else ⟨s,(expV 37 s.toNat:Nat)⟩
theorem nT {s:Int} (h1:1≤s) (h2:s≤2305843009213693949):ofK s=⟨s,(expV 37 s.toNat:Nat)⟩:=by
 rw [ofK,decide_eq_false aa,decide_eq_false (by omega)]
 rfl
theorem so {s:Int} (h:s<1∨2305843009213693949<s):ofK s=El.zero:=by
 rw [ofK]
 rcases h with h|h
 · rw [decide_eq_true h];rfl
 · rw [decide_eq_true h,Bool.or_true];rfl
theorem ml (s:Int):Pu Tryz.prog 39 #[.int .i64 s] (fun _=>True) (ofK s).v:=by
 refine ar Tryz.func39 Tryz.ntmps39 fun av bor w0=>?_
 by_cases h:s<1∨2305843009213693949<s
 · rw [so h]
   repeat' (first|refine gs ?_|refine gs1 fun _=>?_|(refine aM (cs:=El.zero.cells) (hf:=by rfl) ?_)|(refine gp ?_ ?_<;>intro hx_ this)|fail)
   all_goals first
    | (exfalso;omega)
    | exact ab (bx rfl rfl aL (by rfl)) rfl
 · have h1:1≤s:=by omega
   have h2:s≤2305843009213693949:=by omega
   obtain ⟨n,rfl⟩:=Int.eq_ofNat_of_zero_le (show 0≤s by omega)
   rw [nT h1 h2]
   have he:=oc 37 n aa
   repeat' (first|(refine ag (hc:=he) (hX:=fun w h=>trivial) ?_)|refine gs ?_|refine gs1 fun _=>?_|(refine aM (cs:=El.cells ⟨(n:Int),(expV 37 n:Nat)⟩) (hf:=by rfl) ?_)|(refine gp ?_ ?_<;>intro hx_ this)|fail)
   all_goals first
    | (exfalso;omega)
    | exact ab (bx rfl rfl aL (by rfl)) rfl
def eqKy (a b:El):Bool:=decide (a.s=b.s)&&decide (a.p=b.p)
theorem xP {a b:El}:eqKy a b=true↔a=b:=by
 cases a;cases b
 simp only [eqKy,Bool.and_eq_true,decide_eq_true_eq,El.mk.injEq]
theorem fH (w:World) {cs:Array Value} {off:Nat} {v:Value} (h:cs[off]?=some v):(part 3 cs off).run Tryz.prog w=.ok v w:=by
 simp [part,isAgg,run_underlying Tryz.underlying3,h]
theorem pY (w:World) (d:Nat) (a b:Int):(Op.equalIn (d+1) 3 (.int .i64 a) (.int .i64 b)).run Tryz.prog w=.ok (decide (a=b)) w:=by
 rw [run_equalIn_int w d _ .i64 .i64 a b Tryz.underlying3]
 rfl
theorem wy (w:World) (d:Nat) (a b:El):(Op.equalIn (d+2) 62 a.v b.v).run Tryz.prog w=.ok (eqKy a b) w:=by
 have p0:∀ x:El,(part 3 x.cells.toArray 0).run Tryz.prog w=.ok (.int .i64 x.s) w:=fun x=>fH w rfl
 have p1:∀ x:El,(part 3 x.cells.toArray 1).run Tryz.prog w=.ok (.int .i64 x.p) w:=fun x=>fH w rfl
 unfold El.v
 rw [run_equalIn_agg _ _ _ _ _ ac ac]
 simp only [Program.fieldsOf,Tryz.underlying62]
 simp [Op.eqFields,p0,p1,pY]
 unfold eqKy
 by_cases h1:a.s=b.s<;>by_cases h2:a.p=b.p<;>simp [h1,h2]
section
variable {N:Nat} {av bor:List Nat} {w0:World} {x y:Operand} {t2:TypeId} {ty:TypeId} {st:St}
theorem Ai (a b:El) (hx:ev st.env x=some a.v) (hy:ev st.env y=some b.v):Sy.Yields Tryz.prog N av bor w0 st (.binOp .eql 62 x y t2) ty (.bool (eqKy a b)):=Sy.Yields.mk fun A w ok d pos af g=>by
 have h1:=run_eqGuard_agg (P:=Tryz.prog) w .eql 62 x y a.cells.toArray b.cells.toArray ac
 have h2:=run_eql_struct (P:=Tryz.prog) w 62 a.cells.toArray b.cells.toArray
 have h3:=wy w 9998 a b
 simp only [El.v] at hx hy h3
 simp [execOp,ok.eval hx,ok.eval hy,h1,h2,h3]
end
def rightK (k:El):Bool:=decide (1≤k.s)&&eqKy k (ofK k.s)
theorem fF (k:El):Pu Tryz.prog 87 #[k.v] (fun _=>True) (.bool (rightK k)):=by
 refine ar Tryz.func87 Tryz.ntmps87 fun av bor w0=>?_
 repeat' (first|refine gs ?_|refine gs1 fun _=>?_|(refine gp ?_ ?_<;>intro hx_ this)|fail)
 rename_i b
 (refine ao ⟨[0,1,2,3,4,5,6],[(7,⟨[8,9,10],[]⟩)]⟩ [cel b 62 k.cells] (fun _=>True) (h:=?_))
 all_goals repeat' (first|refine ag (hc:=ml k.s) ?_|refine gd ?_|refine ax (hy:=by first|(apply Ai k (ofK k.s);rfl;rfl)) ?_|refine ay ?_ (h':=?_)|exact az|refine gs1 fun _=>?_|(refine gq ?_ ?_<;>intro hx_ this)|fail)
 all_goals
  repeat' (first|refine gs ?_|refine gs1 fun _=>?_|(refine gp ?_ ?_<;>intro hx_ this)|fail)
  apply ab;apply ai;rfl;rfl
  rw [rightK,hx_]
  rfl
theorem rightK_iff {k:El}:rightK k=true↔1≤k.s∧k.s≤2305843009213693949∧k.p=(expV 37 k.s.toNat:Nat):=by
 rw [rightK,Bool.and_eq_true,decide_eq_true_eq,xP]
 constructor
 · rintro ⟨h1,h2⟩
   have h3:k.s≤2305843009213693949:=by
    by_cases h:2305843009213693949<k.s
    · rw [so (.inr h)] at h2
      rw [h2] at h1
      exact absurd h1 (by decide)
    · omega
   refine ⟨h1,h3,?_⟩
   rw [nT h1 h3] at h2
   rw [h2]
 · rintro ⟨h1,h2,h3⟩
   exact ⟨h1,by rw [nT h1 h2,←h3]⟩
def nonceP (s:Int) (msg:ByteArray):List ByteArray:=[textV ⟨#[110,111,110,99,101]⟩,numV s,textV msg]
def nonceN (s:Int) (msg:ByteArray):Nat:=reduceN (hashN (nonceP s msg))
structure Ei where
 e:Int
 s:Int
def Ei.cells (k:Ei):List Value:=[.int .i64 k.e,.int .i64 k.s]
def Ei.v (k:Ei):Value:=.agg k.cells.toArray
def Ei.zero:Ei:=⟨0,0⟩
def sigE (k:El) (msg:ByteArray):Nat:=chalN (expV 37 (nonceN k.s msg)) k.p.toNat msg
def sigS (k:El) (msg:ByteArray):Nat:=(nonceN k.s msg+sigE k msg*k.s.toNat%2305843009213693950)%2305843009213693950
def signV (k:El) (msg:ByteArray):Ei:=bif rightK k then ⟨(sigE k msg:Nat),(sigS k msg:Nat)⟩ else Ei.zero
theorem yK (k:El) (msg:ByteArray) (hm:msg.size≤1000000000000):Pu Tryz.prog 88 #[k.v,.string msg] Xf (signV k msg).v:=by
 refine ar Tryz.func88 Tryz.ntmps88 fun av bor w0=>?_
 have hrk:=fF k
 cases hk:rightK k with
 | false =>
  rw [hk] at hrk
  rw [show signV k msg=Ei.zero from by rw [signV,hk];rfl]
  repeat' (first|(refine ag (hc:=hrk) ?_)|refine gs ?_|refine gs1 fun _=>?_|(refine aM (cs:=Ei.zero.cells) (hf:=by rfl) ?_)|(refine gp ?_ ?_<;>intro hx_ this)|fail)
  exact ab (bx rfl rfl aL (by rfl)) rfl
 | true =>
  rw [hk] at hrk
  rw [show signV k msg=⟨(sigE k msg:Nat),(sigS k msg:Nat)⟩ from by rw [signV,hk];rfl]
  obtain ⟨h1,h2,h3⟩:=rightK_iff.1 hk
  obtain ⟨s,p⟩:=k
  obtain ⟨n,rfl⟩:=Int.eq_ofNat_of_zero_le (show 0≤s by show 0≤s;have:1≤s:=h1;omega)
  have h3':p=(expV 37 n:Nat):=h3
  subst h3'
  have h2':(n:Int)≤2305843009213693949:=h2
  have hp:=sR 37 n
  have hsz:(catB (nonceP (n:Int) msg)).size≤1099511627776:=by
   have e1:=aD ⟨#[110,111,110,99,101]⟩
   have e2:=aw (n:Int)
   have e4:=aD msg
   have e5:(⟨#[110,111,110,99,101]⟩:ByteArray).size=5:=rfl
   rw [eI]
   simp only [nonceP,List.map_cons,List.map_nil,List.sum_cons,List.sum_nil]
   omega
  have hno:nonceN (n:Int) msg<9223372036854775808:=by have:=ib (hashN (nonceP (n:Int) msg));unfold nonceN;omega
  have hha:=kj (T:=9) (c:=3) (xs:=nonceP (n:Int) msg)
  have hex:=oc 37 (nonceN (n:Int) msg) hno
  have hch:=td (expV 37 (nonceN (n:Int) msg)) (expV 37 n) msg (by have:=sR 37 (nonceN (n:Int) msg);omega) aa hm
  repeat' (first|(refine ag (hc:=hrk) ?_)|refine gs ?_|refine gs1 fun _=>?_|(refine gp ?_ ?_<;>intro hx_ this)|fail)
  rename_i b2 b4
  (refine ao ⟨[1,2,4],[(0,⟨[],[(3,⟨[],[(5,⟨[],[(6,⟨[],[(7,⟨[],[(8,⟨[9],[]⟩)]⟩)]⟩)]⟩)]⟩)]⟩)]⟩ [cel b4 35 Ei.zero.cells,cel b2 62 (El.mk (n:Int) (expV 37 n:Nat)).cells] Xf (h:=?_))
  all_goals repeat' (first|refine ag (hc:=d8 _ (by first|omega|decide)) ?_|refine ag (hc:=dU _ aa) ?_|(refine g9 (hc:=kj _ 9 3 (nonceP (n:Int) msg) (show 3≤3 by decide) (show 3≤1000 by decide) hsz) (hX:=fun w h hr=>⟨hr _ ap,h⟩) ?_)|refine ag (hc:=mx (hashN (nonceP (n:Int) msg)) (pO _)) ?_|refine gd ?_|refine ay ?_ (h':=?_)|exact az|(refine cr fun _=>?_)|refine gs1 fun _=>?_|(refine gq ?_ ?_<;>intro hx_ this)|fail)
  repeat' (first|refine gs ?_|refine gs1 fun _=>?_|(refine gp ?_ ?_<;>intro hx_ this)|fail)
  (refine ao ⟨[0,2,3,4],[(1,⟨[],[(5,⟨[6],[]⟩)]⟩)]⟩ [cel b4 35 Ei.zero.cells,cel b2 62 (El.mk (n:Int) (expV 37 n:Nat)).cells] Xf (h:=?_))
  all_goals repeat' (first|(refine ag (hc:=hex) ?_)|(refine ag (hc:=hch) ?_)|refine gd ?_|refine ay ?_ (h':=?_)|exact az|refine gs1 fun _=>?_|(refine gq ?_ ?_<;>intro hx_ this)|fail)
  have hm1:=zN (sigE ⟨(n:Int),(expV 37 n:Nat)⟩ msg) n
  have hm2:=zO (nonceN (n:Int) msg) (sigE ⟨(n:Int),(expV 37 n:Nat)⟩ msg*n%2305843009213693950)
  repeat' (first|(refine ag (hc:=hm1) ?_)|(refine ag (hc:=hm2) ?_)|refine gs ?_|refine gs1 fun _=>?_|(refine aM (cs:=Ei.cells ⟨(sigE ⟨(n:Int),(expV 37 n:Nat)⟩ msg:Nat),(sigS ⟨(n:Int),(expV 37 n:Nat)⟩ msg:Nat)⟩) (hf:=by rfl) ?_)|(refine gp ?_ ?_<;>intro hx_ this)|fail)
  exact ab (bx rfl rfl aL (by rfl)) rfl
def keyP (seed:ByteArray):List ByteArray:=[textV ⟨#[107,101,121]⟩,textV seed]
def keyN (seed:ByteArray):Nat:=reduceN (hashN (keyP seed))
def keyOf (seed:ByteArray):El:=⟨(keyN seed:Nat),(expV 37 (keyN seed):Nat)⟩
theorem pL (seed:ByteArray):rightK (keyOf seed)=true:=by
 have h1:=jG (hashN (keyP seed))
 have h2:=ib (hashN (keyP seed))
 refine rightK_iff.2 ⟨?_,?_,rfl⟩
 · show (1:Int)≤((reduceN (hashN (keyP seed)):Nat):Int);omega
 · show ((reduceN (hashN (keyP seed)):Nat):Int)≤2305843009213693949;omega
theorem qL (seed:ByteArray) (hm:seed.size≤1000000000000):Pu Tryz.prog 15 #[.string seed] Xf (keyOf seed).v:=by
 refine ar Tryz.func15 Tryz.ntmps15 fun av bor w0=>?_
 have h1:=jG (hashN (keyP seed))
 have h2:=ib (hashN (keyP seed))
 have hk:ofK ((keyN seed:Nat):Int)=keyOf seed:=nT (by show (1:Int)≤((reduceN (hashN (keyP seed)):Nat):Int);omega) (by show ((reduceN (hashN (keyP seed)):Nat):Int)≤2305843009213693949;omega)
 have hof:=ml ((keyN seed:Nat):Int)
 rw [hk] at hof
 have hsz:(catB (keyP seed)).size≤1099511627776:=by
  have e1:=aD ⟨#[107,101,121]⟩
  have e4:=aD seed
  have e5:(⟨#[107,101,121]⟩:ByteArray).size=3:=rfl
  rw [eI]
  simp only [keyP,List.map_cons,List.map_nil,List.sum_cons,List.sum_nil]
  omega
 repeat' (first|refine ag (hc:=d8 _ (by first|omega|decide)) ?_|(refine g9 (hc:=kj _ 9 2 (keyP seed) (show 2≤2 by decide) (show 2≤1000 by decide) hsz) (hX:=fun w h hr=>⟨hr _ ap,h⟩) ?_)|refine ag (hc:=mx (hashN (keyP seed)) (pO _)) ?_|(refine ag (hc:=hof) ?_)|refine gs ?_|refine gs1 fun _=>?_|(refine gp ?_ ?_<;>intro hx_ this)|fail)
 exact ab (bx rfl rfl aL (by rfl)) rfl
def hexDg:ByteArray:=⟨#[48,49,50,51,52,53,54,55,56,57,97,98,99,100,101,102]⟩
def hexB (s:ByteArray) (i:Nat):List Int:=[byteAt hexDg (shrV .u8 (byteAt s i) 4).toNat,byteAt hexDg (bitsV .and .u8 (byteAt s i) 15).toNat]
def hexF (s:ByteArray) (n:Nat):List Int:=(List.range n).flatMap (hexB s)
def hexV (s:ByteArray):ByteArray:=ofInts (hexF s s.size)
theorem mM (s:ByteArray) (n:Nat):hexF s (n+1)=hexF s n++hexB s n:=by
 rw [hexF,List.range_succ,List.flatMap_append]
 simp [hexF]
theorem zd:∀ b:Nat,b<256→(0≤shrV .u8 (b:Int) 4∧shrV .u8 (b:Int) 4<16)∧(0≤bitsV .and .u8 (b:Int) 15∧bitsV .and .u8 (b:Int) 15<16):=by decide +kernel
theorem vg (s:ByteArray) (i:Nat):∃ b:Nat,b<256∧byteAt s i=(b:Int):=⟨(s.data.toList.getD i 0).toNat,UInt8.toNat_lt _,rfl⟩
def hexN (d:Nat):Nat:=if d<10 then 48+d else 87+d
def hexL (l:List Nat):List Nat:=l.flatMap fun b=>[hexN (b/16),hexN (b%16)]
theorem zt:∀ b:Nat,b<256→byteAt hexDg (shrV .u8 (b:Int) 4).toNat=(hexN (b/16):Nat)∧byteAt hexDg (bitsV .and .u8 (b:Int) 15).toNat=(hexN (b%16):Nat):=by decide +kernel
structure HexI where
 k:Nat
 hk:k≤32
 A:Option Addr
 c:Nat
theorem AV (s:ByteArray) (hs:s.size=32):Pu Tryz.prog 86 #[.string s] (fun _=>True) (.string (hexV s)):=by
 refine ar Tryz.func86 Tryz.ntmps86 fun av bor w0=>?_
 repeat' (first|refine f0 (c:=64) (hc:=by rw [hs];rfl) (h:=?_)|refine gs ?_|refine gs1 fun _=>?_|(refine eU (c:=64) (hm:=rfl) (hm2:=rfl) fun q=>?_)|(refine gp ?_ ?_<;>intro hx_ this)|fail)
 refine am (ι:=HexI) (fun i=>⟨[(0,.string s),(3,.slice i.A (2*i.k) i.c),(10,.int .i64 s.size),(11,.int .i64 i.k)],[orow 5 1 (.slice i.A (2*i.k) i.c) (2*i.k) (u8s (hexF s i.k))],fun _=>True⟩) (fun i=>32-i.k) ⟨0,Nat.zero_le _,_,_⟩
  (ae al (aj _) fun _ h=>h) fun i=>?_
 have hik:=i.hk
 repeat' (first|refine gs ?_|refine gs1 fun _=>?_|(refine gp ?_ ?_<;>intro hx_ this)|fail)
 · have hlt:i.k<32:=by omega
   obtain ⟨b,hb,hbe⟩:=vg s i.k
   obtain ⟨⟨n1,n2⟩,n3,n4⟩:=zd b hb
   rw [←hbe] at n1 n2 n3 n4
   (refine ao ⟨[0,1,2,3,4,5,6,7,8,9,10],[(11,⟨[],[(12,⟨[13],[]⟩)]⟩)]⟩ [] (fun _=>True) (h:=?_))
   all_goals repeat' (first|refine gd ?_|refine ax (hy:=by first|(apply qp;rfl;rfl;(first|omega|assumption);(first|omega|assumption))) ?_|refine ay ?_ (h':=?_)|exact az|refine cr (len:=2) (vs:=u8s (hexB s i.k)) fun _=>?_|(refine fU ?_;refine aC (size:=1) (z:=.int .u8 0) (news:=u8s (hexB s i.k)) (q:=2) rfl rfl rfl rfl (fun _=>At.there _ (At.here _)) (fun w G=>aU G ap rfl rfl 2) aa (by simp only [maxLen];omega) rfl ?_ rfl ?_;(first|with_reducible rfl|with_reducible assumption|with_reducible exact Bool.not_false|with_reducible exact Bool.not_true);intro A2 c2)|refine gs1 fun _=>?_|(refine gq ?_ ?_<;>intro hx_ this)|fail)
   rw [←bU,←mM]
   repeat' (first|refine gs ?_|refine gs1 fun _=>?_|(refine gp ?_ ?_<;>intro hx_ this)|fail)
   exact ⟨⟨i.k+1,hlt,A2,c2⟩,(by show 32-(i.k+1)<32-i.k;omega),ae al (List.sublist_cons_self _ _) fun _ h=>h⟩
 · have hk:i.k=s.size:=by omega
   repeat' (first|refine gs ?_|refine gs1 fun _=>?_|(refine dR (ns:=hexF s i.k) (hm:=by exact aL) ?_)|(refine gp ?_ ?_<;>intro hx_ this)|fail)
   apply ab;apply ai;rfl;rfl
   rw [hk]
   rfl
theorem sI (d:Nat) (h:d<16):hexN d<256:=by
 unfold hexN
 split<;>omega
theorem sJ {l:List Nat} (h:∀ x∈l,x<256):∀ x∈hexL l,x<256:=fun x hx=>by
 rw [hexL,List.mem_flatMap] at hx
 obtain ⟨b,hb,hx⟩:=hx
 have hb':=h b hb
 rcases List.mem_cons.1 hx with rfl|hx
 · exact sI _ aa
 · rw [List.mem_singleton] at hx
   subst hx
   exact sI _ (Nat.mod_lt _ (by decide))
theorem nY (s:ByteArray):∀ n,n≤s.size→hexF s n=(hexL ((nl s).take n)).map fun (n:Nat)=>(n:Int)
 | 0,_=>rfl
 | n+1,h=>by
  have hn:n<(nl s).length:=by rw [cj];omega
  have hb:=km (ld s) n
  have he:(nl s)[n]=(nl s).getD n 0:=by rw [List.getD_eq_getElem?_getD,List.getElem?_eq_getElem hn];rfl
  rw [mM,nY s n aa,List.take_succ_eq_append_getElem hn,hexL,hexL,List.flatMap_append,List.map_append]
  congr 1
  obtain ⟨h1,h2⟩:=zt _ hb
  rw [hexB,ti s n aa,h1,h2,he]
  rfl
theorem AW (s:ByteArray):nl (hexV s)=hexL (nl s):=by
 rw [hexV,nY s s.size (Nat.le_refl _),List.take_of_length_le (by rw [cj];exact Nat.le_refl _)]
 exact fi _ (sJ (ld s))
theorem uK (s:ByteArray):(hexV s).size=2*s.size:=by
 rw [←cj,hexV,nY s s.size (Nat.le_refl _),List.take_of_length_le (by rw [cj];exact Nat.le_refl _),fi _ (sJ (ld s)),hexL]
 rw [←cj]
 generalize nl s=l
 induction l with
 | nil=>rfl
 | cons a l ih=>rw [List.flatMap_cons,List.length_append,ih];simp only [List.length_cons,List.length_nil];omega
def idText (p:Int):ByteArray:=textV ⟨#[97,99,116,111,114]⟩++numV p
def idV (p:Int):ByteArray:=(hexV (shaV (idText p))).extract 0 16
theorem eQ (p:Int) (hp:p<9223372036854775808):Pu Tryz.prog 43 #[.int .i64 p] Xf (.string (idV p)):=by
 refine ar Tryz.func43 Tryz.ntmps43 fun av bor w0=>?_
 have h1:=aD ⟨#[97,99,116,111,114]⟩
 have h2:=aw p
 have h5:(⟨#[97,99,116,111,114]⟩:ByteArray).size=5:=rfl
 have hsz:(idText p).size≤1099511627776:=by rw [idText,ByteArray.size_append];omega
 have hhx:=uK (shaV (idText p))
 rw [gO] at hhx
 repeat' (first|refine ag (hc:=d8 _ (by first|omega|decide)) ?_|refine ag (hc:=dU _ hp) ?_|(refine ag (hc:=kL (idText p) hsz) ?_)|(refine ag (hc:=AV (shaV (idText p)) (gO _)) ?_)|refine gs ?_|(refine qE ?_)|(refine yz (h1:=by omega) ?_)|(refine gp ?_ ?_<;>intro hx_ this)|fail)
 apply ab;apply ai;rfl;rfl
 rfl
def Xa.sig (a:Xa) (g:Ei):Xa:={ a with e:=g.e,s:=g.s }
def actSignV (k:El) (a:Xa):Xa:=bif rightB (a.sig Ei.zero)&&rightK k then a.sig (signV k (coreV (a.sig Ei.zero))) else Xa.zero
theorem yP {a:Xa} (h:a.Rng) {g:Ei} (h1:g.e<9223372036854775808) (h2:g.s<9223372036854775808):(a.sig g).Rng:=by
 obtain ⟨⟨i1,i2,i3,i4,i5,i6,i7,i8,i9⟩,h2',h3,h4⟩:=h
 exact ⟨⟨i1,i2,i3,i4,i5,i6,i7,h1,h2⟩,h2',h3,h4⟩
def ActTo (b:Xa) (u:Value) (X:World→Prop):Prop:=∃ s1 s2:Xj,u=(b.re s1 s2).v∧s1.n=b.to.n∧s2.n=b.wraps.n∧∀ w,X w→(b.re s1 s2).at_ w
set_option maxRecDepth 20000 in
theorem lR (k:El) (a:Xa) (hr:a.Rng) (hs:a.Sm):Mk Tryz.prog 44 #[k.v,a.v] (fun w=>a.at_ w∧Xf w) (ActTo (actSignV k a)):=by
 refine cC Tryz.func44 Tryz.ntmps44 fun av bor w0=>?_
 have hr0:(a.sig Ei.zero).Rng:=yP hr (by decide) (by decide)
 have hri:=cM (a.sig Ei.zero)
 have hrk:=fF k
 cases hb:rightB (a.sig Ei.zero) with
 | false =>
  rw [hb] at hri
  rw [show actSignV k a=Xa.zero from by rw [actSignV,hb];rfl]
  repeat' (first|(refine ag (hc:=hri) ?_)|refine gs ?_|refine gs1 fun _=>?_|(refine aM (cs:=Ei.zero.cells) (hf:=by rfl) ?_)|(refine di (a.sig Ei.zero).cells (h:=?_))|(refine aM (cs:=Xa.zero.cells) (hf:=by rfl) ?_)|(refine gp ?_ ?_<;>intro hx_ this)|fail)
  refine ab (bx rfl rfl aL (by rfl)) ⟨⟨none,0,0⟩,⟨none,0,0⟩,rfl,rfl,rfl,fun w _=>⟨aJ w 1,aJ w 5⟩⟩
 | true =>
  rw [hb] at hri
  cases hk:rightK k with
  | false =>
   rw [hk] at hrk
   rw [show actSignV k a=Xa.zero from by rw [actSignV,hb,hk];rfl]
   repeat' (first|(refine ag (hc:=hri) ?_)|(refine ag (hc:=hrk) ?_)|refine gs ?_|refine gs1 fun _=>?_|(refine aM (cs:=Ei.zero.cells) (hf:=by rfl) ?_)|(refine di (a.sig Ei.zero).cells (h:=?_))|(refine aM (cs:=Xa.zero.cells) (hf:=by rfl) ?_)|(refine gp ?_ ?_<;>intro hx_ this)|fail)
   refine ab (bx rfl rfl aL (by rfl)) ⟨⟨none,0,0⟩,⟨none,0,0⟩,rfl,rfl,rfl,fun w _=>⟨aJ w 1,aJ w 5⟩⟩
  | true =>
   rw [hk] at hrk
   rw [show actSignV k a=a.sig (signV k (coreV (a.sig Ei.zero))) from by rw [actSignV,hb,hk];rfl]
   have hco:=og (a.sig Ei.zero) (fun h=>cP hr0 h)
   rw [hb] at hco
   have hcs:=fS (cP hr0 hb)
   have hsi:=yK k (coreV (a.sig Ei.zero)) aa
   generalize hg:signV k (coreV (a.sig Ei.zero))=g at *
   repeat' (first|(refine ag (hc:=hri) ?_)|(refine ag (hc:=hrk) ?_)|refine gs ?_|refine gs1 fun _=>?_|(refine aM (cs:=Ei.zero.cells) (hf:=by rfl) ?_)|(refine di (a.sig Ei.zero).cells (h:=?_))|(refine gp ?_ ?_<;>intro hx_ this)|fail)
   rename_i b2 b3 b4
   (refine ao ⟨[0],[(1,⟨[],[(2,⟨[],[(3,⟨[4],[(5,⟨[],[]⟩)]⟩)]⟩)]⟩)]⟩ [cel b2 62 k.cells] (fun w=>a.at_ w∧Xf w) (h:=?_))
   all_goals repeat' (first|(refine ag (hc:=hco) ?_)|(refine ag (hc:=hsi) ?_)|refine gd ?_|refine ay ?_ (h':=?_)|exact az|(refine di (a.sig g).cells (h:=?_))|refine gs1 fun _=>?_|(refine gq ?_ ?_<;>intro hx_ this)|fail)
   repeat' (first|refine gs ?_|refine gs1 fun _=>?_|(refine gp ?_ ?_<;>intro hx_ this)|fail)
   refine bm (hc:=eH a.to (strs a.toL) hs.to (fun cs hcs=>by simp only [strs,List.mem_map] at hcs;obtain ⟨x,_,rfl⟩:=hcs;rfl)) (hX:=fun w h=>h.1.1) fun v1 X1 h1=>?_
   obtain ⟨s1,rfl,hn1,hw1⟩:=h1
   repeat' (first|refine gs ?_|refine gs1 fun _=>?_|(refine gp ?_ ?_<;>intro hx_ this)|fail)
   refine bm (hc:=ju a.wraps (a.wrapsL.map Xu.cells) hs.wraps (fun cs hcs=>by simp only [List.mem_map] at hcs;obtain ⟨x,_,rfl⟩:=hcs;rfl)) (hX:=fun w h=>h.1.1.2) fun v2 X2 h2=>?_
   obtain ⟨s2,rfl,hn2,hw2⟩:=h2
   repeat' (first|refine gs ?_|refine gs1 fun _=>?_|(refine gp ?_ ?_<;>intro hx_ this)|fail)
   refine ab (bx rfl rfl aL (by rfl)) ⟨s1,s2,rfl,?_,?_,fun w h=>⟨hw1 w h.1.1.2,hw2 w h.1.2⟩⟩
   · show s1.n=a.to.n
     rw [hn1,hr.to_len]
     simp [strs]
   · show s2.n=a.wraps.n
     rw [hn2,hr.wraps_len]
     simp
section
variable {P:Program} {N:Nat} {av bor:List Nat} {w0:World} {ty:TypeId}
end
section
variable {N:Nat} {av bor:List Nat} {w0:World} {st:St} {ty:TypeId} {x:Operand}
end
def seedB (i:Nat):ByteArray:=⟨#[97,99,116,111,114,32]⟩++ofInts [(i:Int)]
def keyA (i:Nat):El:=keyOf (seedB i)
def idA21 (i:Nat):ByteArray:=idV (keyA i).p
end Go.Proofs.YtggionfjlgfihaaGreatDoor
namespace Go.Proofs.YtggionfjlgfihaaGreatDoor
open Go Go.Proofs Sy Go.RowKit Go.Deep Go.ChangeShapes
section
variable {H:Type} {enc:TypeId×Value→H} {P:Program} {w:World} {base:Nat} {spare:Nat→Bool} {held:Bool}
theorem aN {t:TypeId} {fs:Array Field} {fuel:Nat} {cs:List Value} {x:DataW H×List MemPlace} (ht:P.underlying t=some (.struct fs)) (h:DataW.trod enc P w base spare held fuel t cs=some x) {i:Nat} {f:Field} (hf:fs[i]?=some f) {off k:Nat} {t':TypeId} (ho:f.offset=off) (htt:f.type=t') (hk:P.cellsOf t'=k) :
  ∃ n y,DataW.trod enc P w base spare held n t' ((cs.drop off).take k)=some y:=by
 obtain ⟨xs,n,_,_,_,hlen,hg⟩:=DataW.trod_struct ht h
 have h1:=hg i f hf
 have hi:i<fs.size:=(Array.getElem?_eq_some_iff.1 hf).1
 subst ho;subst htt;subst hk
 rw [List.getElem?_eq_getElem (by omega)] at h1
 exact ⟨n,_,h1⟩
theorem gQ {α:Type} [Inhabited α] {t e:TypeId} {size fuel:Nat} {cs:List Value} {x:DataW H×List MemPlace} (ht:P.underlying t=some (.slice e)) (hc:P.cellsOf e=size) (cells:α→List Value) (Q:α→Prop)
  (each:∀ n cs y,DataW.trod enc P w base spare held n e cs=some y→∃ a,cs=cells a∧Q a) (h:DataW.trod enc P w base spare held fuel t cs=some x) :
  ∃ (s:Xj) (l:List α),cs=[s.v]∧Xe w size s (l.map cells)∧∀ a∈l,Q a:=by
 rcases open_slice ht h with ⟨rfl,_⟩|⟨a,len,cap,m,n,D,Pl,rfl,hb,hl,hm,hmm,hx,hi⟩
 · exact ⟨⟨none,0,0⟩,[],rfl,aJ w size,by simp⟩
 · have hlm:len≤m:=by rw [hmm];split<;>omega
   have h1:∀ i,i<len→∃ z:α,w.cells? base (a.add (i*size)) size=some (cells z)∧Q z:=fun i hil=>by
    obtain ⟨cs',h2,h3⟩:=hi i aa
    obtain ⟨z,rfl,hz⟩:=each _ _ _ h3
    rw [hc] at h2
    exact ⟨z,h2,hz⟩
   obtain ⟨F,hF⟩:=choose_lt h1
   refine ⟨⟨some a,len,cap⟩,(List.range len).map F,rfl,⟨by simp,hl,hm,fun i cs' hcs=>?_⟩,fun z hz=>?_⟩
   · simp only [List.map_map,List.getElem?_map] at hcs
     have hil:i<len:=by
      cases hr:(List.range len)[i]? with
      | none=>rw [hr] at hcs;cases hcs
      | some k=>have:=(List.getElem?_eq_some_iff.1 hr).1;simpa using this
     rw [List.getElem?_range hil] at hcs
     simp only [Option.map_some,Function.comp_apply,Option.some.injEq] at hcs
     subst hcs
     obtain ⟨_,hlen,hat⟩:=World.cells?_some (hF i hil).1
     refine ⟨hlen,rfl,fun j u hj=>⟨rfl,fun a' ha'=>?_⟩⟩
     obtain rfl:a=a':=Option.some.inj ha'
     rw [←Go.Deep.add_add,hat j (by rw [←hlen];exact (List.getElem?_eq_some_iff.1 hj).1),hj]
   · simp only [List.mem_map,List.mem_range] at hz
     obtain ⟨i,hil,rfl⟩:=hz
     exact (hF i hil).2
theorem CellAt.keep {w':World} {p:Option Addr} {q:Nat} {u:Value} (h:CellAt w p q u) (hs:∀ k,k<w.heap.size→w'.heap[k]?=w.heap[k]?):CellAt w' p q u:=⟨h.1,fun a ha=>by
 have h1:=h.2 a ha
 have h2:(a.add q).block<w.heap.size:=by
  cases hh:w.heap[(a.add q).block]? with
  | none=>simp [World.cell?,hh] at h1
  | some o=>exact (Array.getElem?_eq_some_iff.1 hh).1
 rw [World.cell?_of_block (w:=w) (hs _ h2),h1]⟩
theorem Xe.keep {w':World} {size:Nat} {s:Xj} {xs:List (List Value)} (h:Xe w size s xs) (hs:∀ k,k<w.heap.size→w'.heap[k]?=w.heap[k]?):Xe w' size s xs :=
 ⟨h.len,h.cap,h.max,fun i cs hi=>⟨(h.row i cs hi).1,(h.row i cs hi).2.1,fun j u hj=>CellAt.keep ((h.row i cs hi).2.2 j u hj) hs⟩⟩
theorem CellsAt.keep {w':World} {g:Nat} {l:List Value} (h:CellsAt g l w) (hs:∀ k,k<w.heap.size→w'.heap[k]?=w.heap[k]?):CellsAt g l w':=fun j v hj=>by
 have h1:=h j v hj
 have h2:g<w.heap.size:=by
  cases hh:w.heap[g]? with
  | none=>simp [World.cell?,hh] at h1
  | some o=>exact (Array.getElem?_eq_some_iff.1 hh).1
 rw [World.cell?_of_block (w:=w) (a:=⟨g,j,none⟩) (hs _ h2),h1]
theorem XC.keep {w':World} {c:Xd} (h:XC c w) (hs:∀ k,k<w.heap.size→w'.heap[k]?=w.heap[k]?):XC c w' :=
 ⟨⟨Xe.keep h.1.1 hs,fun a ha=>⟨Xe.keep (h.1.2 a ha).1 hs,Xe.keep (h.1.2 a ha).2 hs⟩⟩,⟨h.2.ini.keep hs,h.2.k.keep hs⟩⟩
theorem Be {n:Int} (h:(Lit.int .i64 n).wf=true):n<9223372036854775808:=by have:=(Go.bounds_i64 h).2;omega
theorem aY {fuel:Nat} {cs:List Value} {x:DataW H×List MemPlace} (h:DataW.trod enc Tryz.prog w base spare held fuel 3 cs=some x):∃ n:Int,cs=[.int .i64 n]∧n<9223372036854775808:=by
 obtain ⟨n,h1,_,h3⟩:=DataW.trod_int Tryz.underlying3 h
 exact ⟨n,h1,Be h3⟩
theorem bt {fuel:Nat} {cs:List Value} {x:DataW H×List MemPlace} (h:DataW.trod enc Tryz.prog w base spare held fuel 9 cs=some x):∃ s:ByteArray,cs=[.string s]∧s.size≤maxLen:=by
 obtain ⟨s,h1,_,h3⟩:=DataW.trod_string Tryz.underlying9 h
 exact ⟨s,h1,h3⟩
theorem nS {fuel:Nat} {cs:List Value} {x:DataW H×List MemPlace} (h:DataW.trod enc Tryz.prog w base spare held fuel 30 cs=some x):∃ (s:Xj) (l:List ByteArray),cs=[s.v]∧Strs w s l:=by
 obtain ⟨s,l,h1,h2,_⟩:=gQ (α:=ByteArray) Tryz.underlying30 (size:=1) ac (fun s=>[.string s]) (fun _=>True) (fun n cs y hy=>by obtain ⟨s,h1,_⟩:=bt hy;exact ⟨s,h1,trivial⟩) h
 exact ⟨s,l,h1,h2⟩
theorem gx {t:TypeId} {fs:Array Field} {P:Program} {fuel k:Nat} {cs:List Value} {x:DataW H×List MemPlace} (ht:P.underlying t=some (.struct fs)) (hk:P.cellsOf t=k) (h:DataW.trod enc P w base spare held fuel t cs=some x):cs.length=k:=by
 obtain ⟨xs,n,_,_,h1,_,_⟩:=DataW.trod_struct ht h
 rw [h1,hk]
theorem pr {fuel:Nat} {cs:List Value} {x:DataW H×List MemPlace} (h:DataW.trod enc Tryz.prog w base spare held fuel 32 cs=some x):∃ b:Xx,cs=b.cells:=by
 have hl:=gx Tryz.underlying32 (k:=3) ac h
 obtain ⟨n0,y0,h0⟩:=aN (i:=0) (off:=0) (k:=1) (t':=9) Tryz.underlying32 h rfl rfl rfl ac
 obtain ⟨n1,y1,h1⟩:=aN (i:=1) (off:=1) (k:=1) (t':=9) Tryz.underlying32 h rfl rfl rfl ac
 obtain ⟨n2,y2,h2⟩:=aN (i:=2) (off:=2) (k:=1) (t':=9) Tryz.underlying32 h rfl rfl rfl ac
 match cs,hl with
 | [c0,c1,c2],_ =>
  obtain ⟨s0,e0,_⟩:=bt h0
  obtain ⟨s1,e1,_⟩:=bt h1
  obtain ⟨s2,e2,_⟩:=bt h2
  simp at e0 e1 e2
  exact ⟨⟨s0,s1,s2⟩,by rw [e0,e1,e2];rfl⟩
theorem uq {fuel:Nat} {cs:List Value} {x:DataW H×List MemPlace} (h:DataW.trod enc Tryz.prog w base spare held fuel 110 cs=some x):∃ b:Xu,cs=b.cells∧b.to<9223372036854775808∧b.eph<9223372036854775808:=by
 have hl:=gx Tryz.underlying110 (k:=5) ac h
 obtain ⟨n0,y0,h0⟩:=aN (i:=0) (off:=0) (k:=1) (t':=3) Tryz.underlying110 h rfl rfl rfl ac
 obtain ⟨n1,y1,h1⟩:=aN (i:=1) (off:=1) (k:=1) (t':=3) Tryz.underlying110 h rfl rfl rfl ac
 obtain ⟨n2,y2,h2⟩:=aN (i:=2) (off:=2) (k:=3) (t':=32) Tryz.underlying110 h rfl rfl rfl ac
 match cs,hl with
 | [c0,c1,c2,c3,c4],_ =>
  obtain ⟨s0,e0,b0⟩:=aY h0
  obtain ⟨s1,e1,b1⟩:=aY h1
  obtain ⟨s2,e2⟩:=pr h2
  simp [Xx.cells] at e0 e1 e2
  exact ⟨⟨s0,s1,s2⟩,by simp [Xu.cells,e0,e1,e2],b0,b1⟩
theorem q6 {fuel:Nat} {cs:List Value} {x:DataW H×List MemPlace} (h:DataW.trod enc Tryz.prog w base spare held fuel 33 cs=some x):∃ (s:Xj) (l:List Xu),cs=[s.v]∧Wraps w s l∧∀ b∈l,b.to<9223372036854775808∧b.eph<9223372036854775808:=by
 haveI:Inhabited Xu:=⟨⟨0,0,Xx.zero⟩⟩
 exact gQ (α:=Xu) Tryz.underlying33 (size:=5) ac Xu.cells _ (fun n cs y hy=>uq hy) h
theorem iG {fuel:Nat} {cs:List Value} {x:DataW H×List MemPlace} (h:DataW.trod enc Tryz.prog w base spare held fuel 35 cs=some x):∃ e s:Int,cs=[.int .i64 e,.int .i64 s]∧e<9223372036854775808∧s<9223372036854775808:=by
 have hl:=gx Tryz.underlying35 (k:=2) ac h
 obtain ⟨n0,y0,h0⟩:=aN (i:=0) (off:=0) (k:=1) (t':=3) Tryz.underlying35 h rfl rfl rfl ac
 obtain ⟨n1,y1,h1⟩:=aN (i:=1) (off:=1) (k:=1) (t':=3) Tryz.underlying35 h rfl rfl rfl ac
 match cs,hl with
 | [c0,c1],_ =>
  obtain ⟨s0,e0,b0⟩:=aY h0
  obtain ⟨s1,e1,b1⟩:=aY h1
  simp at e0 e1
  exact ⟨s0,s1,by rw [e0,e1],b0,b1⟩
theorem wX {fuel:Nat} {cs:List Value} {x:DataW H×List MemPlace} (h:DataW.trod enc Tryz.prog w base spare held fuel 37 cs=some x):∃ a:Xa,cs=a.cells∧a.at_ w∧a.Rng∧a.target.size≤maxLen:=by
 have hl:=gx Tryz.underlying37 (k:=20) ac h
 obtain ⟨n0,y0,h0⟩:=aN (i:=0) (off:=0) (k:=1) (t':=9) Tryz.underlying37 h rfl rfl rfl ac
 obtain ⟨n1,y1,h1⟩:=aN (i:=1) (off:=1) (k:=1) (t':=3) Tryz.underlying37 h rfl rfl rfl ac
 obtain ⟨n2,y2,h2⟩:=aN (i:=2) (off:=2) (k:=1) (t':=9) Tryz.underlying37 h rfl rfl rfl ac
 obtain ⟨n3,y3,h3⟩:=aN (i:=3) (off:=3) (k:=1) (t':=3) Tryz.underlying37 h rfl rfl rfl ac
 obtain ⟨n4,y4,h4⟩:=aN (i:=4) (off:=4) (k:=1) (t':=3) Tryz.underlying37 h rfl rfl rfl ac
 obtain ⟨n5,y5,h5⟩:=aN (i:=5) (off:=5) (k:=1) (t':=9) Tryz.underlying37 h rfl rfl rfl ac
 obtain ⟨n6,y6,h6⟩:=aN (i:=6) (off:=6) (k:=1) (t':=9) Tryz.underlying37 h rfl rfl rfl ac
 obtain ⟨n7,y7,h7⟩:=aN (i:=7) (off:=7) (k:=1) (t':=3) Tryz.underlying37 h rfl rfl rfl ac
 obtain ⟨n8,y8,h8⟩:=aN (i:=8) (off:=8) (k:=1) (t':=9) Tryz.underlying37 h rfl rfl rfl ac
 obtain ⟨n9,y9,h9⟩:=aN (i:=9) (off:=9) (k:=1) (t':=30) Tryz.underlying37 h rfl rfl rfl ac
 obtain ⟨n10,y10,h10⟩:=aN (i:=10) (off:=10) (k:=1) (t':=9) Tryz.underlying37 h rfl rfl rfl ac
 obtain ⟨n11,y11,h11⟩:=aN (i:=11) (off:=11) (k:=3) (t':=32) Tryz.underlying37 h rfl rfl rfl ac
 obtain ⟨n12,y12,h12⟩:=aN (i:=12) (off:=14) (k:=1) (t':=3) Tryz.underlying37 h rfl rfl rfl ac
 obtain ⟨n13,y13,h13⟩:=aN (i:=13) (off:=15) (k:=1) (t':=33) Tryz.underlying37 h rfl rfl rfl ac
 obtain ⟨n14,y14,h14⟩:=aN (i:=14) (off:=16) (k:=1) (t':=3) Tryz.underlying37 h rfl rfl rfl ac
 obtain ⟨n15,y15,h15⟩:=aN (i:=15) (off:=17) (k:=1) (t':=3) Tryz.underlying37 h rfl rfl rfl ac
 obtain ⟨n16,y16,h16⟩:=aN (i:=16) (off:=18) (k:=2) (t':=35) Tryz.underlying37 h rfl rfl rfl ac
 match cs,hl with
 | [c0,c1,c2,c3,c4,c5,c6,c7,c8,c9,c10,c11,c12,c13,c14,c15,c16,c17,c18,c19],_ =>
  obtain ⟨s0,e0,b0⟩:=bt h0
  obtain ⟨s1,e1,b1⟩:=aY h1
  obtain ⟨s2,e2,b2⟩:=bt h2
  obtain ⟨s3,e3,b3⟩:=aY h3
  obtain ⟨s4,e4,b4⟩:=aY h4
  obtain ⟨s5,e5,b5⟩:=bt h5
  obtain ⟨s6,e6,b6⟩:=bt h6
  obtain ⟨s7,e7,b7⟩:=aY h7
  obtain ⟨s8,e8,b8⟩:=bt h8
  obtain ⟨s9,l9,e9,b9⟩:=nS h9
  obtain ⟨s10,e10,b10⟩:=bt h10
  obtain ⟨s11,e11⟩:=pr h11
  obtain ⟨s12,e12,b12⟩:=aY h12
  obtain ⟨s13,l13,e13,b13,r13⟩:=q6 h13
  obtain ⟨s14,e14,b14⟩:=aY h14
  obtain ⟨s15,e15,b15⟩:=aY h15
  obtain ⟨s16,s17,e16,b16,b17⟩:=iG h16
  simp [Xx.cells] at e0 e1 e2 e3 e4 e5 e6 e7 e8 e9 e10 e11 e12 e13 e14 e15 e16
  refine ⟨⟨s0,s1,s2,s3,s4,s5,s6,s7,s8,s9,s10,s11,s12,s13,s14,s15,s16,s17,l9,l13⟩,?_,⟨b9,b13⟩,⟨⟨b1,b3,b4,b7,b12,b14,b15,b16,b17⟩,r13,by have:=Xe.len b9;simpa [strs] using this,by have:=Xe.len b13;simpa using this⟩,b6⟩
  simp [Xa.cells,e0,e1,e2,e3,e4,e5,e6,e7,e8,e9,e10,e11,e12,e13,e14,e15,e16]
end
end Go.Proofs.YtggionfjlgfihaaGreatDoor
namespace Go.Proofs.YtggionfjlgfihaaGreatDoor
open Go Go.Proofs Sy Go.RowKit Go.Deep Go.ChangeShapes
section
variable {H:Type} {enc:TypeId×Value→H} {P:Program} {w:World} {base:Nat} {spare:Nat→Bool} {held:Bool}
theorem g0 {fuel:Nat} {cs:List Value} {x:DataW H×List MemPlace} (h:DataW.trod enc Tryz.prog w base spare held fuel 30 cs=some x):∃ (s:Xj) (l:List ByteArray),cs=[s.v]∧Strs w s l∧∀ x∈l,x.size≤maxLen:=by
 obtain ⟨s,l,h1,h2,h3⟩:=gQ (α:=ByteArray) Tryz.underlying30 (size:=1) ac (fun s=>[.string s]) (fun s=>s.size≤maxLen) (fun n cs y hy=>by obtain ⟨s,h1,h2⟩:=bt hy;exact ⟨s,h1,h2⟩) h
 exact ⟨s,l,h1,h2,h3⟩
end
end Go.Proofs.YtggionfjlgfihaaGreatDoor
namespace Go.Proofs.YtggionfjlgfihaaGreatDoor
open Go Go.Proofs Sy
section
variable {N:Nat} {av bor:List Nat} {w0:World} {ops:Array Oper} {rest:List Oper} {k:St→Prop} {E:Env} {loc:List Xk} {X:World→Prop} {x:Operand} {st:St}
variable {n:Nat} {ty:TypeId} {pos:String} {af:Array Edge} {g:Option (Nat×Bool)} {bb want:Bool}
end
end Go.Proofs.YtggionfjlgfihaaGreatDoor

namespace Go.Proofs.YtggionfjlgfihaaGreatDoor
open Go Go.Proofs Sy Go.Shelf Go.Maps Go.Sort
theorem keysSet_c:KeysC Tryz.prog 233 249 275 where
 keys:=fun mb W=>(callsIn_wide (n:=5)).1 (AnyZ.keys_in Tryz.keys_agora_relation_set_string_bool Fence.wide 5 trivial rfl mb W)
theorem sortedSet_c:SortedSC Tryz.prog 232 249 9 where
 key:=Tryz.underlying9
 sorted:=fun w Bm q nn D0 hB hc hown h1 h2=>(callsIn_wide (n:=5)).1 (AnyZ.sorted_in Tryz.sortedS Fence.wide 5 trivial trivial trivial trivial rfl aa (sortsS _) (enters_of Tryz.func30 ac rfl) _ _ trivial (enters_of Tryz.func249 ac rfl) _ _ h1 h2 _
  (AnyZ.keys_gives (ρ:=Tryz.keys_agora_relation_set_string_bool_ren) { Tryz.keys_agora_relation_set_string_bool with } Fence.wide _ trivial rfl aa Bm q nn D0 w hB hc hown))
end Go.Proofs.YtggionfjlgfihaaGreatDoor
namespace Go.Proofs.YtggionfjlgfihaaGreatDoor
open Go Go.Proofs Sy
theorem fG (q:Nat) (ks:List ByteArray) (hs:∀ k∈ks,k.size≤maxLen) (hl:ks.length≤1000000) :
  Ct Tryz.prog 220 #[.map (some q)] [mapr q (setM ks)] (fun _=>True) fun u R _=>∃ A c,u=.slice A ks.length c∧R=[orow 9 1 u ks.length ((sortB ks).map encB),mapr q (setM ks)]:=by
 refine cX (args:=[_]) (Post:=fun u R=>∃ A c,u=.slice A ks.length c∧R=[orow 9 1 u ks.length ((sortB ks).map encB),mapr q (setM ks)]) _ Tryz.func220 rfl Tryz.ntmps220 rfl fun av bor w0=>?_
 have hsl:(setM ks).length=ks.length:=by simp [setM]
 have hsm:(setM ks).map (·.1)=ks:=by simp [setM,Function.comp_def]
 have hsk:=sortedSet_c.ct (M:=275)
 repeat' (first|refine gs ?_|fail)
 refine aZ (pre:=[]) (fr:=[mapr q (setM ks)]) (hc:=keysSet_c.ct (some q)) (hX:=fun _ _=>trivial) (h:=?_)
 rintro v R X' ⟨b,rfl,rfl⟩
 refine aZ (pre:=[cel b 275 [.map (some q)],mapr q (setM ks)]) (fr:=[]) (hc:=sortedSet_c.ct b q (setM ks) (fun p hp=>by simp only [setM,List.mem_map] at hp;obtain ⟨k,hk,rfl⟩:=hp;exact hs k hk) (by rw [hsl];exact hl)) (hX:=fun _ _=>trivial) (h:=?_)
 rintro v R X' ⟨A,c,rfl,rfl⟩
 rw [hsl,hsm]
 repeat' (first|refine gs ?_|fail)
 exact ab (ai rfl rfl) ⟨_,List.Sublist.cons_cons _ (List.Sublist.cons _ (aj _)),A,c,rfl,rfl⟩
end Go.Proofs.YtggionfjlgfihaaGreatDoor
