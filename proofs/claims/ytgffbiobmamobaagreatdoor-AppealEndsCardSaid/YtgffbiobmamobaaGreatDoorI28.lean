/- Joined. -/
import Derived.Test.YtgffbiobmamobaaGreatDoorI0
import Derived.Test.YtgffbiobmamobaaGreatDoorI9
import Derived.Test.YtgffbiobmamobaaGreatDoorI27
import Derived.Test.YtgffbiobmamobaaGreatDoorI20
import Derived.Test.YtgffbiobmamobaaGreatDoorI14
import Derived.Test.YtgffbiobmamobaaGreatDoorI1
import Derived.Test.YtgffbiobmamobaaGreatDoorI8
set_option linter.unusedVariables false
set_option linter.unusedSimpArgs false
set_option maxHeartbeats 16000000
namespace Go.Proofs.YtgffbiobmamobaaGreatDoor
open Go Go.Proofs Sy
def draftW (c:Xa) (w:Xo) (ks:List ByteArray):Xc :=
 bif decide (w.do_=6) then { draftV c w.do_ w.time with object:=ks.getD (pickV w.what (ks.length:Nat)).toNat .empty } else { draftV c w.do_ w.time with target:=idA21 (pickV w.who (4:Nat)).toNat }
def moreV (c:Xa) (a:Xc):Xa:={ c with acts:=⟨none,c.acts.n+1,0⟩,actsL:=c.actsL++[a.can],prev:=digV a }
def toldA (cs:List Xa) (ks:List ByteArray) (w:Xo):Xc :=
 actSignV (keyA (pickV w.by_ (4:Nat)).toNat) (draftW (cs.getD (pickV w.by_ (4:Nat)).toNat Xa.zero) w ks)
def toldB (cs:List Xa) (ks:List ByteArray) (w:Xo):Bool :=
 fitsV (cs.getD (pickV w.by_ (4:Nat)).toNat Xa.zero) (toldA cs ks w) (idxV (cs.getD (pickV w.by_ (4:Nat)).toNat Xa.zero).actsL (toldA cs ks w).object)
def toldS (st:List Xa×List ByteArray) (w:Xo):List Xa×List ByteArray :=
 bif toldB st.1 st.2 w then (st.1.set (pickV w.by_ (4:Nat)).toNat (moreV (st.1.getD (pickV w.by_ (4:Nat)).toNat Xa.zero) (toldA st.1 st.2 w)),st.2++[digV (toldA st.1 st.2 w)]) else st
def toldV (l:List Xo):List Xa×List ByteArray:=l.foldl toldS ((List.range 4).map beginC,[])
def Wishes (w:World) (s:Xi) (l:List Xo):Prop:=Xe w 6 s (l.map Xo.cells)
theorem zm (a:Xc):digV a.can=digV a:=g9 rfl rfl
theorem wJ (l:List Xc) (i:Nat):(l.map Xc.can).getD i Xc.zero=(l.getD i Xc.zero).can:=by
 rw [List.getD_eq_getElem?_getD,List.getD_eq_getElem?_getD,List.getElem?_map]
 cases l[i]?<;>rfl
theorem oJ (l:List Xc) (d:ByteArray):idxV (l.map Xc.can) d=idxV l d:=by
 rw [idxV,idxV,List.findIdx?_map]
 exact congrArg (fun p=>l.findIdx? p) (funext fun a=>by
  show seqB (digV a.can) d=_
  rw [zm])
theorem md (c:Xa) (a:Xc) (o:Option Nat):fitsV c.can a o=fitsV c a o:=by
 have h:∀ p,atK c.can o p=atK c o p:=fun p=>by
  cases o with
  | none=>rfl
  | some j =>
   show p ((c.actsL.map Xc.can).getD j Xc.zero).kind=p (c.actsL.getD j Xc.zero).kind
   rw [wJ]
   rfl
 rw [fitsV,fitsV,h,h]
 rfl
theorem oP (c:Xa) (a:Xc) (o:Option Nat) {s1 s2:Xi} (h1:s1.n=a.to.n) (h2:s2.n=a.wraps.n):fitsV c (a.re s1 s2) o=fitsV c a o:=by
 rw [fitsV,fitsV,kA h1 h2]
 rfl
theorem me (l:List Xa) (id:ByteArray):findC (l.map Xa.can) id=(findC l id).map Xa.can:=by
 rw [findC,findC,List.find?_map]
 rfl
theorem gy:∀ (L:List Xa) (p:Nat) (x:Xa),p<L.length→(L.map Xa.cells).flatten.take (p*6)++x.cells++(L.map Xa.cells).flatten.drop (p*6+6)=((L.set p x).map Xa.cells).flatten
 | [],p,x,h=>absurd h (by simp)
 | c::L,0,x,h=>by
  have h6:c.cells.length=6:=rfl
  rw [List.set_cons_zero,List.map_cons,List.map_cons,List.flatten_cons,List.flatten_cons,Nat.zero_mul,Nat.zero_add,List.take_zero,List.nil_append,List.drop_append,h6,List.drop_of_length_le (by omega)]
  rfl
 | c::L,p+1,x,h=>by
  have h6:c.cells.length=6:=rfl
  have ih:=gy L p x (by simpa using h)
  rw [List.set_cons_succ,List.map_cons,List.map_cons,List.flatten_cons,List.flatten_cons,←ih,List.take_append,List.drop_append,h6,List.take_of_length_le ac,List.drop_of_length_le ac,
   show (p+1)*6-6=p*6 from by omega,show (p+1)*6+6-6=p*6+6 from by omega,List.nil_append,List.append_assoc,List.append_assoc,List.append_assoc]
theorem oA {c:Xa} {a v:Xc} {s s1 s2:Xi} (ha:v.re s1 s2=a) (h1:s1.n=v.to.n) (h2:s2.n=v.wraps.n) (hs:s.n=c.acts.n+1):(c.more s a).can={ moreV c.can v with keys:=c.can.keys }:=by
 subst ha
 simp only [Xa.more,Xa.can,moreV,List.map_append,List.map_cons,List.map_nil,lp v h1 h2,g9 h1 h2,hs]
theorem rz (L:List Xa) (p:Nat) (x:Xa):(L.set p x).map Xa.can=(L.map Xa.can).set p x.can:=by
 rw [List.map_set]
def toldN (l:List Xo) (n:Nat):List Xa×List ByteArray:=toldV (l.take n)
structure ToldI (l:List Xo) where
 k:Nat
 hk:k≤l.length
 L:List Xa
 ks:List ByteArray
 hT:(L.map Xa.can,ks)=toldN l k
 hl:L.length=4
 hkl:ks.length≤k
 hb:∀ c∈L,Xx c.actsL∧c.actsL.length≤k+1
 xs:List Value
 hxs:xs=(L.map Xa.cells).flatten
 n:Nat
 hn:n=ks.length
 ys:List Value
 hys:ys=ks.map encB
 A:Option Addr
 c:Nat
 B:Option Addr
 d:Nat
theorem cells6 (L:List Xa):∀ r∈L.map Xa.cells,r.length=6:=fun r hr=>by
 obtain ⟨c,_,rfl⟩:=List.mem_map.1 hr
 rfl
theorem qu (i:Nat):(idA21 i).size≤maxLen:=by
 rw [idA21,kS]
 decide
section
variable {P:Program} {N:Nat} {av bor:List Nat} {w0:World} {st:St} {ty:TypeId} {x:Operand} {t:TypeId}
end
abbrev wishR (s:Xi) (l:List Xo):Xl:=orow 103 6 (.slice s.p s.n s.c) s.n (l.map Xo.cells).flatten
end Go.Proofs.YtgffbiobmamobaaGreatDoor
namespace Go.Proofs.YtgffbiobmamobaaGreatDoor
open Go Go.Proofs Sy
section
variable {P:Program} {N:Nat} {av bor:List Nat} {w0:World}
theorem pt {K:Exit→St→Prop} {ι:Type} (M:ι→St) {x y z:Code} {st:St} (h1:Cw P N av bor w0 x st (thn (fun s=>Cw P N av bor w0 y s (thn (fun s=>∃ i,∀ a w,Ok N av bor w0 s a w→Ok N av bor w0 (M i) a w) K)) (thn (fun s=>∃ i,∀ a w,Ok N av bor w0 s a w→Ok N av bor w0 (M i) a w) K))) (h2:∀ i,Cw P N av bor w0 z (M i) K) :
  Cw P N av bor w0 x st (thn (fun s=>Cw P N av bor w0 y s (thn (fun s=>Cw P N av bor w0 z s K) K)) (thn (fun s=>Cw P N av bor w0 z s K) K)):=nB (fun e s h=>by
 cases e with
 | normal=>exact ej M h h2
 | _=>exact h) h1
end
theorem yK {N:Nat} {av bor:List Nat} {w0:World} {E:Env} {r1 r2:Xl} {loc:List Xl} {X:World→Prop} {a:Act} {w:World} (ok:Ok N av bor w0 ⟨E,r1::r2::loc,X⟩ a w):Ok N av bor w0 ⟨E,r2::r1::loc,X⟩ a w:=ok.via fun M G=>G.perm ((List.Perm.swap _ _ _).append_right M)
theorem yL {N:Nat} {av bor:List Nat} {w0:World} {E E':Env} {r1 r2:Xl} {loc l':List Xl} {X X':World→Prop} (he:sub E E') (hl:l'.Sublist (r2::r1::loc)) (hx:∀ w,X w→X' w):∀ a w,Ok N av bor w0 ⟨E,r1::r2::loc,X⟩ a w→Ok N av bor w0 ⟨E',l',X'⟩ a w:=fun a w hok=>ak he hl hx a w (yK hok)
end Go.Proofs.YtgffbiobmamobaaGreatDoor
namespace Go.Proofs.YtgffbiobmamobaaGreatDoor
open Go Go.Proofs Sy
theorem jU {i S P:Nat} (h1:reduceN (hashL (textL [107,101,121]++textL (nl (seedB i))))=S) (h2:powL 37 S=P):keyA i=⟨(S:Nat),(P:Nat)⟩:=by
 have h3:=aB ⟨#[107,101,121]⟩
 have h4:=aB (seedB i)
 have h5:(⟨#[107,101,121]⟩:ByteArray).size=3:=rfl
 have h6:(seedB i).size=7:=rfl
 have e:nl (⟨#[107,101,121]⟩:ByteArray)=[107,101,121]:=rfl
 have hk:keyN (seedB i)=S:=by
  rw [←h1,keyN,keyP,jW _ (gZ (by
   rw [ef]
   simp only [List.map_cons,List.map_nil,List.sum_cons,List.sum_nil]
   omega))]
  simp only [List.flatMap_cons,List.flatMap_nil,eB,List.append_nil,e]
 rw [keyA,keyOf,hk,nv,h2]
theorem nj {i S P:Nat} (hk:keyA i=⟨(S:Nat),(P:Nat)⟩) {D:ByteArray} (h:(hexL (shaL (textL [97,99,116,111,114]++numL 10 P))).take 16=nl D):idA21 i=D:=by
 apply m6
 have h3:=aB ⟨#[97,99,116,111,114]⟩
 have h4:=ar (P:Int)
 have h5:(⟨#[97,99,116,111,114]⟩:ByteArray).size=5:=rfl
 have e:nl (⟨#[97,99,116,111,114]⟩:ByteArray)=[97,99,116,111,114]:=rfl
 rw [idA21,hk]
 show nl (idV (P:Int))=nl D
 rw [idV,fU,AO,mT _ (gZ (by rw [idText,ByteArray.size_append];omega)),idText,cH,eB,fy,e,←h]
 rfl
theorem dS {i S P:Nat} (hk:keyA i=⟨(S:Nat),(P:Nat)⟩) {a:Xc} (hr:rightB (a.sig Ef.zero)=true) {m:List Nat} (hm:nl (coreV (a.sig Ef.zero))=m) (hl:m.length≤100000) {K R E G:Nat} (h1:nonceL S m=K) (h2:powL 37 K=R) (h3:chalL R P m=E)
  (h4:(K+E*S%2305843009213693950)%2305843009213693950=G):actSignV (keyA i) a=a.sig ⟨(E:Nat),(G:Nat)⟩:=by
 have hrk:rightK (keyA i)=true:=eu _
 subst hm
 have e1:sigE (keyA i) (coreV (a.sig Ef.zero))=E:=by
  rw [sigE,hk]
  show chalN (expV 37 (nonceN (S:Int) _)) ((P:Int)).toNat _=E
  rw [iv S _ hl,h1,nv,h2,Int.toNat_natCast,sz _ _ _ hl,h3]
 have e2:sigS (keyA i) (coreV (a.sig Ef.zero))=G:=by
  rw [sigS,e1,hk]
  show (nonceN (S:Int) _+E*((S:Int)).toNat%2305843009213693950)%2305843009213693950=G
  rw [iv S _ hl,h1,Int.toNat_natCast,h4]
 rw [actSignV,hr,hrk,Bool.and_true,cond_true,signV,hrk,cond_true,e1,e2]
theorem yz:keyA 0=⟨((75649259359050845:Nat):Int),((635858698746329093:Nat):Int)⟩:=jU (by decide +kernel) (by decide +kernel)
def skI0:ByteArray:=⟨#[54,100,51,52,53,98,52,101,53,101,102,54,97,101,49,48]⟩
theorem p6:idA21 0=skI0:=nj yz (by decide +kernel)
theorem yy:keyA 1=⟨((823285488871545904:Nat):Int),((1142868023010079171:Nat):Int)⟩:=jU (by decide +kernel) (by decide +kernel)
def skI1:ByteArray:=⟨#[97,98,99,97,98,51,54,51,51,52,57,52,50,100,102,55]⟩
theorem mO:idA21 1=skI1:=nj yy (by decide +kernel)
theorem vM:keyA 2=⟨((396046176107505149:Nat):Int),((1552640034848769387:Nat):Int)⟩:=jU (by decide +kernel) (by decide +kernel)
def skI2:ByteArray:=⟨#[50,102,54,98,100,56,57,100,99,56,56,100,56,53,100,99]⟩
theorem pZ:idA21 2=skI2:=nj vM (by decide +kernel)
theorem yx:keyA 3=⟨((142765244967754923:Nat):Int),((1027464471063305804:Nat):Int)⟩:=jU (by decide +kernel) (by decide +kernel)
def skI3:ByteArray:=⟨#[53,52,54,49,48,51,102,53,102,52,56,97,49,97,54,55]⟩
theorem pY:idA21 3=skI3:=nj yx (by decide +kernel)
def skUB0:Xc:={ Xc.zero with author:=skI0,text:=actorB,n:=((635858698746329093:Nat):Int) }
def skAB0:Xc:=skUB0.sig ⟨((1939931806634019543:Nat):Int),((845777667358845838:Nat):Int)⟩
def skMB0:List Nat:=[3,97,99,116,16,54,100,51,52,53,98,52,101,53,101,102,54,97,101,49,48,0,0,0,0,0,0,0,0,0,5,97,99,116,111,114,0,0,0,0,0,133,240,247,208,225,195,193,233,8,0]
theorem Ay:skUB0.Pos:=⟨by decide,by decide,by decide,by decide,by decide,by decide,by decide,rfl,rfl⟩
theorem vH:nl (coreV (skUB0.sig Ef.zero))=skMB0:=(eK skUB0 Ay).trans (by decide +kernel)
theorem pX:skMB0.length=51:=by decide +kernel
theorem Ao:actSignV (keyA 0) skUB0=skAB0:=dS yz (by decide +kernel) vH (by rw [pX];decide) (K:=406782019062804703) (R:=1452210288541861186) (by decide +kernel) (by decide +kernel) (by decide +kernel) (by decide +kernel)
def skDB0:ByteArray:=⟨#[99,116,134,170,67,143,20,41,215,42,156,8,183,157,98,78,87,102,40,230,10,69,141,138,46,224,114,41,177,9,30,167]⟩
theorem As:rightB skAB0=true:=by decide +kernel
theorem vL:digV skAB0=skDB0:=eI As ((congrArg nl (dX skUB0 _ _)).trans vH) (by rw [pX];decide) (by rw [pX];decide) (E:=1939931806634019543) (G:=845777667358845838) rfl rfl (by decide +kernel)
theorem AC:draftB 0=skUB0:=by
 unfold draftB draftV idC
 rw [p6,yz]
 rfl
theorem yw:actB 0=skAB0:=by
 rw [actB,AC,Ao]
def skC0:Xa:={ Xa.zero with id:=skI0,acts:=⟨none,1,0⟩,keys:=⟨none,1,0⟩,prev:=skDB0,actsL:=[skAB0] }
theorem yr:beginC 0=skC0:=by
 unfold beginC idC
 rw [p6,yw,vL]
 rfl
def skUB1:Xc:={ Xc.zero with author:=skI1,text:=actorB,n:=((1142868023010079171:Nat):Int) }
def skAB1:Xc:=skUB1.sig ⟨((1737318329840350453:Nat):Int),((1287981313314873311:Nat):Int)⟩
def skMB1:List Nat:=[3,97,99,116,16,97,98,99,97,98,51,54,51,51,52,57,52,50,100,102,55,0,0,0,0,0,0,0,0,0,5,97,99,116,111,114,0,0,0,0,0,195,227,172,197,150,141,146,238,15,0]
theorem Ax:skUB1.Pos:=⟨by decide,by decide,by decide,by decide,by decide,by decide,by decide,rfl,rfl⟩
theorem vG:nl (coreV (skUB1.sig Ef.zero))=skMB1:=(eK skUB1 Ax).trans (by decide +kernel)
theorem pW:skMB1.length=51:=by decide +kernel
theorem An:actSignV (keyA 1) skUB1=skAB1:=dS yy (by decide +kernel) vG (by rw [pW];decide) (K:=987475036117979599) (R:=1328077779498243721) (by decide +kernel) (by decide +kernel) (by decide +kernel) (by decide +kernel)
def skDB1:ByteArray:=⟨#[27,33,9,198,97,239,174,77,155,233,147,143,67,208,62,170,170,250,217,108,97,96,242,129,120,7,38,4,26,70,45,56]⟩
theorem Ar:rightB skAB1=true:=by decide +kernel
theorem vK:digV skAB1=skDB1:=eI Ar ((congrArg nl (dX skUB1 _ _)).trans vG) (by rw [pW];decide) (by rw [pW];decide) (E:=1737318329840350453) (G:=1287981313314873311) rfl rfl (by decide +kernel)
theorem AB:draftB 1=skUB1:=by
 unfold draftB draftV idC
 rw [mO,yy]
 rfl
theorem yv:actB 1=skAB1:=by
 rw [actB,AB,An]
def skC1:Xa:={ Xa.zero with id:=skI1,acts:=⟨none,1,0⟩,keys:=⟨none,1,0⟩,prev:=skDB1,actsL:=[skAB1] }
theorem yq:beginC 1=skC1:=by
 unfold beginC idC
 rw [mO,yv,vK]
 rfl
def skUB2:Xc:={ Xc.zero with author:=skI2,text:=actorB,n:=((1552640034848769387:Nat):Int) }
def skAB2:Xc:=skUB2.sig ⟨((1215896338451646078:Nat):Int),((1739342460070045269:Nat):Int)⟩
def skMB2:List Nat:=[3,97,99,116,16,50,102,54,98,100,56,57,100,99,56,56,100,56,53,100,99,0,0,0,0,0,0,0,0,0,5,97,99,116,111,114,0,0,0,0,0,235,138,216,233,170,188,133,198,21,0]
theorem Av:skUB2.Pos:=⟨by decide,by decide,by decide,by decide,by decide,by decide,by decide,rfl,rfl⟩
theorem vF:nl (coreV (skUB2.sig Ef.zero))=skMB2:=(eK skUB2 Av).trans (by decide +kernel)
theorem pV:skMB2.length=51:=by decide +kernel
theorem Am:actSignV (keyA 2) skUB2=skAB2:=dS vM (by decide +kernel) vF (by rw [pV];decide) (K:=1293130639516625097) (R:=1036080873553107611) (by decide +kernel) (by decide +kernel) (by decide +kernel) (by decide +kernel)
def skDB2:ByteArray:=⟨#[31,114,144,15,202,184,213,202,226,87,154,89,72,82,227,72,162,118,146,205,102,93,114,28,70,208,188,199,30,50,182,88]⟩
theorem Aq:rightB skAB2=true:=by decide +kernel
theorem vJ:digV skAB2=skDB2:=eI Aq ((congrArg nl (dX skUB2 _ _)).trans vF) (by rw [pV];decide) (by rw [pV];decide) (E:=1215896338451646078) (G:=1739342460070045269) rfl rfl (by decide +kernel)
theorem AA:draftB 2=skUB2:=by
 unfold draftB draftV idC
 rw [pZ,vM]
 rfl
theorem yu:actB 2=skAB2:=by
 rw [actB,AA,Am]
def skC2:Xa:={ Xa.zero with id:=skI2,acts:=⟨none,1,0⟩,keys:=⟨none,1,0⟩,prev:=skDB2,actsL:=[skAB2] }
theorem yp:beginC 2=skC2:=by
 unfold beginC idC
 rw [pZ,yu,vJ]
 rfl
def skUB3:Xc:={ Xc.zero with author:=skI3,text:=actorB,n:=((1027464471063305804:Nat):Int) }
def skAB3:Xc:=skUB3.sig ⟨((901332720148553:Nat):Int),((1625572105938181316:Nat):Int)⟩
def skMB3:List Nat:=[3,97,99,116,16,53,52,54,49,48,51,102,53,102,52,56,97,49,97,54,55,0,0,0,0,0,0,0,0,0,5,97,99,116,111,114,0,0,0,0,0,204,188,192,136,226,175,146,161,14,0]
theorem Au:skUB3.Pos:=⟨by decide,by decide,by decide,by decide,by decide,by decide,by decide,rfl,rfl⟩
theorem vE:nl (coreV (skUB3.sig Ef.zero))=skMB3:=(eK skUB3 Au).trans (by decide +kernel)
theorem pU:skMB3.length=51:=by decide +kernel
theorem Al:actSignV (keyA 3) skUB3=skAB3:=dS yx (by decide +kernel) vE (by rw [pU];decide) (K:=2294339980723068347) (R:=1258655847158687999) (by decide +kernel) (by decide +kernel) (by decide +kernel) (by decide +kernel)
def skDB3:ByteArray:=⟨#[94,26,172,154,44,80,223,217,213,69,76,57,10,151,173,26,96,65,111,11,35,39,42,249,89,88,203,53,40,43,73,158]⟩
theorem Ap:rightB skAB3=true:=by decide +kernel
theorem vI:digV skAB3=skDB3:=eI Ap ((congrArg nl (dX skUB3 _ _)).trans vE) (by rw [pU];decide) (by rw [pU];decide) (E:=901332720148553) (G:=1625572105938181316) rfl rfl (by decide +kernel)
theorem Az:draftB 3=skUB3:=by
 unfold draftB draftV idC
 rw [pY,yx]
 rfl
theorem yt:actB 3=skAB3:=by
 rw [actB,Az,Al]
def skC3:Xa:={ Xa.zero with id:=skI3,acts:=⟨none,1,0⟩,keys:=⟨none,1,0⟩,prev:=skDB3,actsL:=[skAB3] }
theorem yo:beginC 3=skC3:=by
 unfold beginC idC
 rw [pY,yt,vI]
 rfl
theorem skbeg:(List.range 4).map beginC=[skC0,skC1,skC2,skC3]:=by
 rw [show (List.range 4).map beginC=[beginC 0,beginC 1,beginC 2,beginC 3] from rfl,yr,yq,yp,yo]
theorem sW (x:ByteArray):sortB [x]=[x]:=by
 simp [sortB,rT]
end Go.Proofs.YtgffbiobmamobaaGreatDoor
