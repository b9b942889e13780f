/- Joined. -/
import Derived.Test.YtgffbiobmamobaaGreatDoorI0
import Derived.Test.YtgffbiobmamobaaGreatDoorI28
import Derived.Test.YtgffbiobmamobaaGreatDoorI41
import Derived.Test.YtgffbiobmamobaaGreatDoorI40
import Derived.Test.YtgffbiobmamobaaGreatDoorI45
set_option linter.unusedVariables false
set_option linter.unusedSimpArgs false
set_option maxHeartbeats 16000000
namespace Go.Proofs.YtgffbiobmamobaaGreatDoor
open Go Go.Proofs Sy
theorem pw:∀ l:List ByteArray,nl (cats l)=l.flatMap nl
 | []=>rfl
 | a::l=>by rw [cats,cH,pw l,List.flatMap_cons]
def listLD (l:List (List Nat)):List Nat:=numL 10 l.length++l.flatMap textL
theorem jE {α β:Type} {f g:α→List β}:∀ l:List α,(∀ x∈l,f x=g x)→l.flatMap f=l.flatMap g
 | [],_=>rfl
 | a::l,h=>by rw [List.flatMap_cons,List.flatMap_cons,h a ay,jE l fun x hx=>h x (List.mem_cons_of_mem _ hx)]
theorem wu (l:List ByteArray):nl (listV l)=listLD (l.map nl):=by
 rw [listV,cH,fy,pw,listLD,List.length_map,List.flatMap_map,List.flatMap_map]
 congr 1
 exact jE _ fun x _=>eB x
def coreDL (d:Xf):List Nat :=
 numL 10 d.server.toNat++(numL 10 d.number.toNat++(numL 10 d.kind.toNat++(textL (nl d.actor)++(textL (nl d.object)++(textL (nl d.text)++(listLD (d.toL.map nl)++(numL 10 d.n.toNat++(numL 10 d.from_.toNat++numL 10 d.until_.toNat))))))))
structure Xf.Pos (d:Xf):Prop where
 server:0≤d.server
 number:0≤d.number
 kind:0≤d.kind
 n:0≤d.n
 from_:0≤d.from_
 until_:0≤d.until_
theorem gA (d:Xf) (h:d.Pos):nl (coreDe d)=coreDL d:=by
 have e2:nl ByteArray.empty=[]:=rfl
 simp only [coreDe,numsV,textsV,List.map_cons,List.map_nil,cats,cH,eB,wu,e2,List.append_nil,dy h.server,dy h.number,dy h.kind,dy h.n,dy h.from_,dy h.until_,coreDL,List.append_assoc]
theorem rM (d:Xf) (h:d.Pos):nl (msgD d)=textL [100,101,99,105,115,105,111,110]++coreDL d:=by
 have e2:nl ByteArray.empty=[]:=rfl
 have e:nl nameD=[100,101,99,105,115,105,111,110]:=rfl
 simp only [msgD,textsV,List.map_cons,List.map_nil,cats,cH,eB,gA d h,e,e2,List.append_nil]
theorem lS {k:Eg} {S P:Nat} (hrk:rightK k=true) (hk:k=⟨(S:Nat),(P:Nat)⟩) {msg:ByteArray} {m:List Nat} (hm:nl msg=m) (hl:m.length≤100000) {K R E G:Nat} (h1:nonceL S m=K) (h2:powL 37 K=R) (h3:chalL R P m=E)
  (h4:(K+E*S%2305843009213693950)%2305843009213693950=G):signV k msg=⟨(E:Nat),(G:Nat)⟩:=by
 subst hm
 have e1:sigE k msg=E:=by
  rw [sigE,hk]
  show chalN (expV 37 (nonceN (S:Int) _)) ((P:Int)).toNat _=E
  rw [iv S _ hl,h1,nv,h2,Int.toNat_natCast,sz _ _ _ hl,h3]
 have e2:sigS k msg=G:=by
  rw [sigS,e1,hk]
  show (nonceN (S:Int) _+E*((S:Int)).toNat%2305843009213693950)%2305843009213693950=G
  rw [iv S _ hl,h1,Int.toNat_natCast,h4]
 rw [signV,hrk,cond_true,e1,e2]
theorem pa {d:Xf} (hr:rightIt (ofDecI d)=true) {m:List Nat} (hm:nl (coreDe d)=m) (hl:m.length≤100000) {E G:Nat} (he:d.e=(E:Nat)) (hs:d.s=(G:Nat)) {D:ByteArray} (h:shaL (3::(m++(numL 10 E++numL 10 G)))=nl D):digIt (ofDecI d)=D:=by
 subst hm
 have e2:nl ByteArray.empty=[]:=rfl
 have e4:nl (bytesIt (ofDecI d))=3::(nl (coreDe d)++(numL 10 E++numL 10 G)):=by
  rw [bytesIt,hr,cond_true,bodyIt]
  show nl (numV 3++(coreDe d++numsV [d.e,d.s]))=_
  simp only [cH,numsV,List.map_cons,List.map_nil,cats,he,hs,fy,e2,List.append_nil]
  rfl
 have e6:∀ f n,(numL f n).length≤f:=fun f=>by
  induction f with
  | zero=>intro n;exact Nat.le_refl 0
  | succ f ih =>
   intro n
   rw [numL]
   cases decide (128≤n) with
   | true=>have:=ih (n/128);rw [cond_true,List.length_cons];omega
   | false=>rw [cond_false,List.length_singleton];omega
 have e5:(bytesIt (ofDecI d)).size=(nl (coreDe d)).length+(numL 10 E++numL 10 G).length+1:=by rw [←cu,e4,List.length_cons,List.length_append]
 have e7:(bytesIt (ofDecI d)).size≤1000000:=by
  have h1:=e6 10 E
  have h2:=e6 10 G
  rw [e5,List.length_append]
  omega
 rw [digIt,cE,decide_eq_false ac,cond_false]
 apply m6
 rw [mT _ (gZ e7),e4,h]
theorem kq {k:Eg} (hk:rightK k=true) {P D:Xf} (h:signDV k P=D):sgnD k.p D=true:=by
 subst h
 exact vg hk (msgD P)
theorem vP {L:List Int} {d:Xf} (hr:rightIt (ofDecI d)=true) (h0:d.server=0) (hl:0<L.length) {p:Int} (hp:L.getD 0 0=p) (hv:sgnD p d=true):signedIt L (ofDecI d)=true:=by
 rw [signedIt,hr,Bool.true_and]
 show (decide (d.server<(L.length:Nat))&&sgnD (L.getD d.server.toNat 0) d)=true
 rw [h0]
 show (decide ((0:Int)<(L.length:Nat))&&sgnD (L.getD 0 0) d)=true
 rw [hp,hv,decide_eq_true (by omega)]
 rfl
def atJ (dg:Nat→ByteArray) (J:List Nat) (k:Nat):Nat:=(J.findIdx? fun j=>gtB (dg j) (dg k)).getD J.length
def addJ (dg:Nat→ByteArray) (J:List Nat) (k:Nat):List Nat:=bif J.any fun j=>seqB (dg j) (dg k) then J else J.take (atJ dg J k)++k::J.drop (atJ dg J k)
theorem sE (it:Nat→Xb) (dg:Nat→ByteArray) (d:ByteArray):∀ J:List Nat,(∀ j∈J,digIt (it j)=dg j)→((J.map it).any fun x=>seqB (digIt x) d)=J.any fun j=>seqB (dg j) d
 | [],_=>rfl
 | j::J,h=>by rw [List.map_cons,List.any_cons,List.any_cons,h j ay,sE it dg d J fun x hx=>h x (List.mem_cons_of_mem _ hx)]
theorem rU (it:Nat→Xb) (dg:Nat→ByteArray) (d:ByteArray):∀ J:List Nat,(∀ j∈J,digIt (it j)=dg j)→((J.map it).findIdx? fun x=>gtB (digIt x) d)=J.findIdx? fun j=>gtB (dg j) d
 | [],_=>rfl
 | j::J,h=>by rw [List.map_cons,List.findIdx?_cons,List.findIdx?_cons,h j ay,rU it dg d J fun x hx=>h x (List.mem_cons_of_mem _ hx)]
theorem oQ (it:Nat→Xb) (dg:Nat→ByteArray) (d:ByteArray):∀ J:List Nat,(∀ j∈J,digIt (it j)=dg j)→((J.map it).find? fun x=>seqB (digIt x) d)=(J.find? fun j=>seqB (dg j) d).map it
 | [],_=>rfl
 | j::J,h=>by
  rw [List.map_cons,List.find?_cons,List.find?_cons,h j ay,oQ it dg d J fun x hx=>h x (List.mem_cons_of_mem _ hx)]
  cases seqB (dg j) d<;>rfl
theorem sA {L:List Int} {it:Nat→Xb} {dg:Nat→ByteArray} {J:List Nat} {k:Nat} (hJ:∀ j∈J,digIt (it j)=dg j) (hk:digIt (it k)=dg k) (hs:signedIt L (it k)=true) (hn:J.any (fun j=>seqB (dg j) (dg k))=false):canAdd L (J.map it) (it k)=true:=by
 rw [canAdd,hs,hk,sE it dg _ J hJ,hn]
 rfl
theorem xV {L:List Int} {it:Nat→Xb} {dg:Nat→ByteArray} {J J':List Nat} {k:Nat} (hJ:∀ j∈J,digIt (it j)=dg j) (hk:digIt (it k)=dg k) (hs:signedIt L (it k)=true) (hn:J.any (fun j=>seqB (dg j) (dg k))=false) (h:addJ dg J k=J'):addK L (J.map it) (it k)=J'.map it:=by
 subst h
 rw [addK,sA hJ hk hs hn,cond_true,addV,hk,ig,rU it dg _ J hJ,List.length_map,addJ,hn,cond_false,List.map_append,List.map_cons,List.map_take,List.map_drop,atJ]
def moreW (c:Xa) (a:Xc) (dg:ByteArray):Xa:={ c with acts:=⟨none,c.acts.n+1,0⟩,actsL:=c.actsL++[a.can],prev:=dg }
theorem kH {L:List Int} {I I':List Xb} {C:List Xa} {D:List Xf} {G P O:List ByteArray} {p:Xp} {q:Nat} {c:Xa} {x dg:ByteArray} {a:Xc} {k n:Int} (hq:plBy p=q) (hc:C.getD q Xa.zero=c) (hO:plO p G P=O) (h0:O.length≠0) (hx:O.getD (pickV p.what (O.length:Nat)).toNat ⟨#[]⟩=x) (hk:plK p=k) (hn:plN p=n) (hs:actSignV (keyA q) (drK c k n x)=a) (hf:fitsV c a (idxV c.actsL a.object)=true) (hd:digV a=dg) (hI:addK L I (ofActI a.can)=I') :
  pleadV L ⟨I,C,D,G,P⟩ p=⟨I',C.set q (moreW c a dg),D,G,bif p.judge then P else P++[dg]⟩:=by
 have hC:plC C p=c:=by rw [plC,hq,hc]
 have hA:plA C p O=a:=by rw [plA,hC,hq,hk,hn,hx,hs]
 have hB:plB C p O=true:=by rw [plB,hC,hA,decide_eq_false h0,hf];rfl
 rw [pleadV]
 simp only
 rw [hO,hB,cond_true,hA,hC,hq,hI,hd,moreV,hd]
 rfl
def ezK0:Eg:=⟨((1840586131794423340:Nat):Int),((237666771996726421:Nat):Int)⟩
theorem iB:keyS 0=ezK0:=wy (by decide) (by decide +kernel) (by decide +kernel)
theorem mg:rightK ezK0=true:=by rw [←iB];exact eu _
def ezP0:Xf:=⟨0,0,8,⟨#[]⟩,⟨#[]⟩,⟨#[]⟩,⟨none,4,0⟩,2,0,10,0,0,[skI2,skI3,skI0,skI1]⟩
def ezD0:Xf:=ezP0.sig ⟨((2291772173891453743:Nat):Int),((1879429472190450359:Nat):Int)⟩
def ezN0:List Nat:=[0,0,8,0,0,0,4,16,50,102,54,98,100,56,57,100,99,56,56,100,56,53,100,99,16,53,52,54,49,48,51,102,53,102,52,56,97,49,97,54,55,16,54,100,51,52,53,98,52,101,53,101,102,54,97,101,49,48,16,97,98,99,97,98,51,54,51,51,52,57,52,50,100,102,55,2,0,10]
theorem wT:ezP0.Pos:=⟨by decide,by decide,by decide,by decide,by decide,by decide⟩
theorem zQ:nl (coreDe ezP0)=ezN0:=(gA ezP0 wT).trans (by decide +kernel)
theorem BY:nl (msgD ezP0)=textL [100,101,99,105,115,105,111,110]++ezN0:=by rw [rM ezP0 wT,←gA ezP0 wT,zQ]
theorem B0:(textL [100,101,99,105,115,105,111,110]++ezN0).length=87:=by decide +kernel
theorem BW:ezN0.length=78:=by decide +kernel
theorem zG:signDV ezK0 ezP0=ezD0:=by
 rw [signDV,lS mg rfl BY (by rw [B0];decide) (K:=746401126905213889) (R:=2024276886380213338) (E:=2291772173891453743) (G:=1879429472190450359) (by decide +kernel) (by decide +kernel) (by decide +kernel) (by decide +kernel)]
 rfl
theorem wR:rightIt (ofDecI ezD0)=true:=by decide +kernel
def ezG0:ByteArray:=⟨#[69,159,211,177,179,39,163,190,95,133,161,29,14,0,155,237,221,132,192,225,67,243,191,29,234,192,72,225,45,7,126,204]⟩
theorem zO:digIt (ofDecI ezD0)=ezG0:=pa wR (m:=ezN0) zQ (by rw [BW];decide) (E:=2291772173891453743) (G:=1879429472190450359) rfl rfl (by decide +kernel)
theorem Bo:signDV (keyS 0) ezP0=ezD0:=by rw [iB,zG]
theorem BN:signedIt srvL (ofDecI ezD0)=true:=vP wR rfl (by decide) rfl (kq (eu _) Bo)
def ezP1:Xf:=⟨0,1,0,skI1,⟨#[]⟩,⟨#[]⟩,⟨none,0,0⟩,0,0,10,0,0,[]⟩
def ezD1:Xf:=ezP1.sig ⟨((2104012138758808866:Nat):Int),((1795825122130381743:Nat):Int)⟩
def ezN1:List Nat:=[0,1,0,16,97,98,99,97,98,51,54,51,51,52,57,52,50,100,102,55,0,0,0,0,0,10]
theorem wS:ezP1.Pos:=⟨by decide,by decide,by decide,by decide,by decide,by decide⟩
theorem zP:nl (coreDe ezP1)=ezN1:=(gA ezP1 wS).trans (by decide +kernel)
theorem BX:nl (msgD ezP1)=textL [100,101,99,105,115,105,111,110]++ezN1:=by rw [rM ezP1 wS,←gA ezP1 wS,zP]
theorem BZ:(textL [100,101,99,105,115,105,111,110]++ezN1).length=35:=by decide +kernel
theorem BV:ezN1.length=26:=by decide +kernel
theorem zF:signDV ezK0 ezP1=ezD1:=by
 rw [signDV,lS mg rfl BX (by rw [BZ];decide) (K:=417940826738121003) (R:=1247151734011905157) (E:=2104012138758808866) (G:=1795825122130381743) (by decide +kernel) (by decide +kernel) (by decide +kernel) (by decide +kernel)]
 rfl
theorem wQ:rightIt (ofDecI ezD1)=true:=by decide +kernel
def ezG1:ByteArray:=⟨#[182,50,80,92,35,136,92,238,180,68,224,59,145,246,235,171,19,10,42,60,167,199,35,98,23,86,4,32,61,90,197,26]⟩
theorem r7:digIt (ofDecI ezD1)=ezG1:=pa wQ (m:=ezN1) zP (by rw [BV];decide) (E:=2104012138758808866) (G:=1795825122130381743) rfl rfl (by decide +kernel)
theorem Bn:signDV (keyS 0) ezP1=ezD1:=by rw [iB,zF]
theorem BM:signedIt srvL (ofDecI ezD1)=true:=vP wQ rfl (by decide) rfl (kq (eu _) Bn)
def ezUT0:Xc:={ Xc.zero with author:=skI1,seq:=1,prev:=skDB1,kind:=21,object:=ezG1,n:=0 }
def ezAT0:Xc:=ezUT0.sig ⟨((1103418269197987147:Nat):Int),((2167360858451737606:Nat):Int)⟩
def ezMT0:List Nat:=[3,97,99,116,16,97,98,99,97,98,51,54,51,51,52,57,52,50,100,102,55,1,32,27,33,9,198,97,239,174,77,155,233,147,143,67,208,62,170,170,250,217,108,97,96,242,129,120,7,38,4,26,70,45,56,21,0,32,182,50,80,92,35,136,92,238,180,68,224,59,145,246,235,171,19,10,42,60,167,199,35,98,23,86,4,32,61,90,197,26,0,0,0,0,0,0,0,0,0,0,0,0]
theorem Bd:ezUT0.Pos:=⟨by decide,by decide,by decide,by decide,by decide,by decide,by decide,rfl,rfl⟩
theorem wZ:nl (coreV (ezUT0.sig Ef.zero))=ezMT0:=(eK ezUT0 Bd).trans (by decide +kernel)
theorem qE:ezMT0.length=102:=by decide +kernel
theorem AX:actSignV (keyA 1) ezUT0=ezAT0:=dS yy (by decide +kernel) wZ (by rw [qE];decide) (K:=431142163916311968) (R:=1795996877172479132) (by decide +kernel) (by decide +kernel) (by decide +kernel) (by decide +kernel)
def ezDT0:ByteArray:=⟨#[235,59,17,45,142,7,121,164,99,104,128,204,246,126,244,130,87,190,5,25,151,143,229,119,18,167,180,124,68,62,160,106]⟩
theorem A8:rightB ezAT0=true:=by decide +kernel
theorem qF:digV ezAT0=ezDT0:=eI A8 ((congrArg nl (dX ezUT0 _ _)).trans wZ) (by rw [qE];decide) (by rw [qE];decide) (E:=1103418269197987147) (G:=2167360858451737606) rfl rfl (by decide +kernel)
def ezUT1:Xc:={ Xc.zero with author:=skI0,seq:=1,prev:=skDB0,kind:=22,object:=ezDT0,n:=0 }
def ezAT1:Xc:=ezUT1.sig ⟨((723937975240584742:Nat):Int),((1261098460590409035:Nat):Int)⟩
def ezMT1:List Nat:=[3,97,99,116,16,54,100,51,52,53,98,52,101,53,101,102,54,97,101,49,48,1,32,99,116,134,170,67,143,20,41,215,42,156,8,183,157,98,78,87,102,40,230,10,69,141,138,46,224,114,41,177,9,30,167,22,0,32,235,59,17,45,142,7,121,164,99,104,128,204,246,126,244,130,87,190,5,25,151,143,229,119,18,167,180,124,68,62,160,106,0,0,0,0,0,0,0,0,0,0,0,0]
theorem Bc:ezUT1.Pos:=⟨by decide,by decide,by decide,by decide,by decide,by decide,by decide,rfl,rfl⟩
theorem wY:nl (coreV (ezUT1.sig Ef.zero))=ezMT1:=(eK ezUT1 Bc).trans (by decide +kernel)
theorem qD:ezMT1.length=102:=by decide +kernel
theorem AW:actSignV (keyA 0) ezUT1=ezAT1:=dS yz (by decide +kernel) wY (by rw [qD];decide) (K:=2225777477357170045) (R:=1655725144070461245) (by decide +kernel) (by decide +kernel) (by decide +kernel) (by decide +kernel)
def ezDT1:ByteArray:=⟨#[237,128,75,134,10,160,220,223,212,130,150,187,98,247,201,182,143,183,181,40,247,227,149,106,59,111,45,97,116,72,115,243]⟩
theorem A7:rightB ezAT1=true:=by decide +kernel
theorem xk:digV ezAT1=ezDT1:=eI A7 ((congrArg nl (dX ezUT1 _ _)).trans wY) (by rw [qD];decide) (by rw [qD];decide) (E:=723937975240584742) (G:=1261098460590409035) rfl rfl (by decide +kernel)
def ezUT2:Xc:={ Xc.zero with author:=skI2,seq:=1,prev:=skDB2,kind:=22,object:=ezDT0,n:=0 }
def ezAT2:Xc:=ezUT2.sig ⟨((1984211054047533286:Nat):Int),((271618711899547389:Nat):Int)⟩
def ezMT2:List Nat:=[3,97,99,116,16,50,102,54,98,100,56,57,100,99,56,56,100,56,53,100,99,1,32,31,114,144,15,202,184,213,202,226,87,154,89,72,82,227,72,162,118,146,205,102,93,114,28,70,208,188,199,30,50,182,88,22,0,32,235,59,17,45,142,7,121,164,99,104,128,204,246,126,244,130,87,190,5,25,151,143,229,119,18,167,180,124,68,62,160,106,0,0,0,0,0,0,0,0,0,0,0,0]
theorem Bb:ezUT2.Pos:=⟨by decide,by decide,by decide,by decide,by decide,by decide,by decide,rfl,rfl⟩
theorem wX:nl (coreV (ezUT2.sig Ef.zero))=ezMT2:=(eK ezUT2 Bb).trans (by decide +kernel)
theorem qC:ezMT2.length=102:=by decide +kernel
theorem AV:actSignV (keyA 2) ezUT2=ezAT2:=dS vM (by decide +kernel) wX (by rw [qC];decide) (K:=174518278225345075) (R:=359606659344209121) (by decide +kernel) (by decide +kernel) (by decide +kernel) (by decide +kernel)
def ezDT2:ByteArray:=⟨#[168,80,237,67,164,47,201,100,56,100,0,107,170,136,66,104,112,154,213,120,201,170,86,134,134,172,10,8,130,195,175,82]⟩
theorem A6:rightB ezAT2=true:=by decide +kernel
theorem xj:digV ezAT2=ezDT2:=eI A6 ((congrArg nl (dX ezUT2 _ _)).trans wX) (by rw [qC];decide) (by rw [qC];decide) (E:=1984211054047533286) (G:=271618711899547389) rfl rfl (by decide +kernel)
def ezUT3:Xc:={ Xc.zero with author:=skI2,seq:=2,prev:=ezDT2,kind:=22,object:=ezDT0,n:=1 }
def ezAT3:Xc:=ezUT3.sig ⟨((283888289476917950:Nat):Int),((2198980683461566794:Nat):Int)⟩
def ezMT3:List Nat:=[3,97,99,116,16,50,102,54,98,100,56,57,100,99,56,56,100,56,53,100,99,2,32,168,80,237,67,164,47,201,100,56,100,0,107,170,136,66,104,112,154,213,120,201,170,86,134,134,172,10,8,130,195,175,82,22,0,32,235,59,17,45,142,7,121,164,99,104,128,204,246,126,244,130,87,190,5,25,151,143,229,119,18,167,180,124,68,62,160,106,0,0,0,0,0,0,0,0,0,0,1,0]
theorem Ba:ezUT3.Pos:=⟨by decide,by decide,by decide,by decide,by decide,by decide,by decide,rfl,rfl⟩
theorem wW:nl (coreV (ezUT3.sig Ef.zero))=ezMT3:=(eK ezUT3 Ba).trans (by decide +kernel)
theorem qB:ezMT3.length=102:=by decide +kernel
theorem AU:actSignV (keyA 2) ezUT3=ezAT3:=dS vM (by decide +kernel) wW (by rw [qB];decide) (K:=739514595847195694) (R:=1962127832944773909) (by decide +kernel) (by decide +kernel) (by decide +kernel) (by decide +kernel)
def ezDT3:ByteArray:=⟨#[29,135,245,244,56,216,87,180,43,170,220,90,112,217,226,171,132,126,193,87,177,55,185,84,83,186,27,111,170,241,167,253]⟩
theorem AZ:rightB ezAT3=true:=by decide +kernel
theorem xi:digV ezAT3=ezDT3:=eI AZ ((congrArg nl (dX ezUT3 _ _)).trans wW) (by rw [qB];decide) (by rw [qB];decide) (E:=283888289476917950) (G:=2198980683461566794) rfl rfl (by decide +kernel)
def ezUT4:Xc:={ Xc.zero with author:=skI3,seq:=1,prev:=skDB3,kind:=21,object:=ezG1,n:=0 }
def ezAT4:Xc:=ezUT4.sig ⟨((295846027435898103:Nat):Int),((446989606340494707:Nat):Int)⟩
def ezMT4:List Nat:=[3,97,99,116,16,53,52,54,49,48,51,102,53,102,52,56,97,49,97,54,55,1,32,94,26,172,154,44,80,223,217,213,69,76,57,10,151,173,26,96,65,111,11,35,39,42,249,89,88,203,53,40,43,73,158,21,0,32,182,50,80,92,35,136,92,238,180,68,224,59,145,246,235,171,19,10,42,60,167,199,35,98,23,86,4,32,61,90,197,26,0,0,0,0,0,0,0,0,0,0,0,0]
theorem A9:ezUT4.Pos:=⟨by decide,by decide,by decide,by decide,by decide,by decide,by decide,rfl,rfl⟩
theorem wV:nl (coreV (ezUT4.sig Ef.zero))=ezMT4:=(eK ezUT4 A9).trans (by decide +kernel)
theorem qA:ezMT4.length=102:=by decide +kernel
theorem AT:actSignV (keyA 3) ezUT4=ezAT4:=dS yx (by decide +kernel) wV (by rw [qA];decide) (K:=1382300496959792688) (R:=21348318504023311) (by decide +kernel) (by decide +kernel) (by decide +kernel) (by decide +kernel)
def ezDT4:ByteArray:=⟨#[201,249,223,77,97,254,3,125,180,207,221,138,210,126,7,104,211,186,245,124,178,160,37,143,190,27,149,197,100,138,187,165]⟩
theorem AY:rightB ezAT4=true:=by decide +kernel
theorem xg:digV ezAT4=ezDT4:=eI AY ((congrArg nl (dX ezUT4 _ _)).trans wV) (by rw [qA];decide) (by rw [qA];decide) (E:=295846027435898103) (G:=446989606340494707) rfl rfl (by decide +kernel)
def ezItL:List Xb:=[ofActI skAB0,ofActI skAB1,ofActI skAB2,ofActI skAB3,ofDecI ezD0,ofDecI ezD1,ofActI ezAT0,ofActI ezAT1,ofActI ezAT2,ofActI ezAT3,ofActI ezAT4]
def ezDgL:List ByteArray:=[skDB0,skDB1,skDB2,skDB3,ezG0,ezG1,ezDT0,ezDT1,ezDT2,ezDT3,ezDT4]
def ezIt (k:Nat):Xb:=ezItL.getD k Xb.zero
def ezDg (k:Nat):ByteArray:=ezDgL.getD k ⟨#[]⟩
theorem Cn:digIt (ezIt 0)=ezDg 0∧signedIt srvL (ezIt 0)=true:=by
 have hr:rightIt (ofActI skAB0)=true:=by decide +kernel
 exact ⟨(dA (i:=ofActI skAB0) rfl hr).trans vL,by show signedIt srvL (ofActI skAB0)=true;rw [signedIt,hr];rfl⟩
theorem Cm:digIt (ezIt 1)=ezDg 1∧signedIt srvL (ezIt 1)=true:=by
 have hr:rightIt (ofActI skAB1)=true:=by decide +kernel
 exact ⟨(dA (i:=ofActI skAB1) rfl hr).trans vK,by show signedIt srvL (ofActI skAB1)=true;rw [signedIt,hr];rfl⟩
theorem Cl:digIt (ezIt 2)=ezDg 2∧signedIt srvL (ezIt 2)=true:=by
 have hr:rightIt (ofActI skAB2)=true:=by decide +kernel
 exact ⟨(dA (i:=ofActI skAB2) rfl hr).trans vJ,by show signedIt srvL (ofActI skAB2)=true;rw [signedIt,hr];rfl⟩
theorem Ck:digIt (ezIt 3)=ezDg 3∧signedIt srvL (ezIt 3)=true:=by
 have hr:rightIt (ofActI skAB3)=true:=by decide +kernel
 exact ⟨(dA (i:=ofActI skAB3) rfl hr).trans vI,by show signedIt srvL (ofActI skAB3)=true;rw [signedIt,hr];rfl⟩
theorem Cj:digIt (ezIt 4)=ezDg 4∧signedIt srvL (ezIt 4)=true:=⟨zO,BN⟩
theorem Ci:digIt (ezIt 5)=ezDg 5∧signedIt srvL (ezIt 5)=true:=⟨r7,BM⟩
theorem Cg:digIt (ezIt 6)=ezDg 6∧signedIt srvL (ezIt 6)=true:=by
 have hr:rightIt (ofActI ezAT0)=true:=by decide +kernel
 exact ⟨(dA (i:=ofActI ezAT0) rfl hr).trans qF,by show signedIt srvL (ofActI ezAT0)=true;rw [signedIt,hr];rfl⟩
theorem Cf:digIt (ezIt 7)=ezDg 7∧signedIt srvL (ezIt 7)=true:=by
 have hr:rightIt (ofActI ezAT1)=true:=by decide +kernel
 exact ⟨(dA (i:=ofActI ezAT1) rfl hr).trans xk,by show signedIt srvL (ofActI ezAT1)=true;rw [signedIt,hr];rfl⟩
theorem Ce:digIt (ezIt 8)=ezDg 8∧signedIt srvL (ezIt 8)=true:=by
 have hr:rightIt (ofActI ezAT2)=true:=by decide +kernel
 exact ⟨(dA (i:=ofActI ezAT2) rfl hr).trans xj,by show signedIt srvL (ofActI ezAT2)=true;rw [signedIt,hr];rfl⟩
theorem Cd:digIt (ezIt 9)=ezDg 9∧signedIt srvL (ezIt 9)=true:=by
 have hr:rightIt (ofActI ezAT3)=true:=by decide +kernel
 exact ⟨(dA (i:=ofActI ezAT3) rfl hr).trans xi,by show signedIt srvL (ofActI ezAT3)=true;rw [signedIt,hr];rfl⟩
theorem Bq:digIt (ezIt 10)=ezDg 10∧signedIt srvL (ezIt 10)=true:=by
 have hr:rightIt (ofActI ezAT4)=true:=by decide +kernel
 exact ⟨(dA (i:=ofActI ezAT4) rfl hr).trans xg,by show signedIt srvL (ofActI ezAT4)=true;rw [signedIt,hr];rfl⟩
theorem lc:∀ k,k<11→digIt (ezIt k)=ezDg k∧signedIt srvL (ezIt k)=true
 | 0,_=>Cn
 | 1,_=>Cm
 | 2,_=>Cl
 | 3,_=>Ck
 | 4,_=>Cj
 | 5,_=>Ci
 | 6,_=>Cg
 | 7,_=>Cf
 | 8,_=>Ce
 | 9,_=>Cd
 | 10,_=>Bq
 | k+11,h=>absurd h ac
theorem xm {J:List Nat} (h:J.all (fun j=>decide (j<11))=true):∀ j∈J,digIt (ezIt j)=ezDg j:=fun j hj=>(lc j (bm (List.all_eq_true.1 h j hj))).1
theorem fd {J J':List Nat} {k:Nat} (hk:k<11) (h:J.all (fun j=>decide (j<11))=true) (hn:J.any (fun j=>seqB (ezDg j) (ezDg k))=false) (e:addJ ezDg J k=J'):addK srvL (J.map ezIt) (ezIt k)=J'.map ezIt:=xV (xm h) (lc k hk).1 (lc k hk).2 hn e
theorem xn {J:List Nat} {k:Nat} (hk:k<11) (h:J.all (fun j=>decide (j<11))=true) (hn:J.any (fun j=>seqB (ezDg j) (ezDg k))=false):canAdd srvL (J.map ezIt) (ezIt k)=true:=sA (xm h) (lc k hk).1 (lc k hk).2 hn
theorem Cc:addK srvL (([]:List Nat).map ezIt) (ezIt 0)=([0]:List Nat).map ezIt:=fd (by decide) (by decide) (by decide +kernel) (by decide +kernel)
theorem Cb:addK srvL (([0]:List Nat).map ezIt) (ezIt 1)=([1,0]:List Nat).map ezIt:=fd (by decide) (by decide) (by decide +kernel) (by decide +kernel)
theorem Ca:addK srvL (([1,0]:List Nat).map ezIt) (ezIt 2)=([1,2,0]:List Nat).map ezIt:=fd (by decide) (by decide) (by decide +kernel) (by decide +kernel)
theorem B9:addK srvL (([1,2,0]:List Nat).map ezIt) (ezIt 3)=([1,2,3,0]:List Nat).map ezIt:=fd (by decide) (by decide) (by decide +kernel) (by decide +kernel)
theorem B8:addK srvL (([1,2,3,0]:List Nat).map ezIt) (ezIt 4)=([1,2,4,3,0]:List Nat).map ezIt:=fd (by decide) (by decide) (by decide +kernel) (by decide +kernel)
theorem B7:addK srvL (([1,2,4,3,0]:List Nat).map ezIt) (ezIt 5)=([1,2,4,3,0,5]:List Nat).map ezIt:=fd (by decide) (by decide) (by decide +kernel) (by decide +kernel)
theorem B6:addK srvL (([1,2,4,3,0,5]:List Nat).map ezIt) (ezIt 6)=([1,2,4,3,0,5,6]:List Nat).map ezIt:=fd (by decide) (by decide) (by decide +kernel) (by decide +kernel)
theorem B5:addK srvL (([1,2,4,3,0,5,6]:List Nat).map ezIt) (ezIt 7)=([1,2,4,3,0,5,6,7]:List Nat).map ezIt:=fd (by decide) (by decide) (by decide +kernel) (by decide +kernel)
theorem B4:addK srvL (([1,2,4,3,0,5,6,7]:List Nat).map ezIt) (ezIt 8)=([1,2,4,3,0,8,5,6,7]:List Nat).map ezIt:=fd (by decide) (by decide) (by decide +kernel) (by decide +kernel)
theorem B3:addK srvL (([1,2,4,3,0,8,5,6,7]:List Nat).map ezIt) (ezIt 9)=([1,9,2,4,3,0,8,5,6,7]:List Nat).map ezIt:=fd (by decide) (by decide) (by decide +kernel) (by decide +kernel)
theorem Bp:addK srvL (([1,9,2,4,3,0,8,5,6,7]:List Nat).map ezIt) (ezIt 10)=([1,9,2,4,3,0,8,5,10,6,7]:List Nat).map ezIt:=fd (by decide) (by decide) (by decide +kernel) (by decide +kernel)
theorem Cs:heldC []=[skC0,skC1,skC2,skC3]:=skbeg
theorem ez_I:heldI []=([1,2,3,0]:List Nat).map ezIt:=by
 rw [heldI,Cs]
 show addK srvL (addK srvL (addK srvL (addK srvL (([]:List Nat).map ezIt) (ezIt 0)) (ezIt 1)) (ezIt 2)) (ezIt 3)=_
 rw [Cc,Cb,Ca,B9]
def ezO0:Xk:=⟨0,8,0,0,13,1,0,9⟩
def ezO1:Xk:=⟨0,0,1,0,0,0,0,9⟩
theorem BS:panelG 13 0=[]:=rfl
theorem BR:panelG 13 1=[skI0]:=by
 rw [cJ,BS,panelS,p6]
 kernel_rfl
theorem BQ:panelG 13 2=[skI0,skI1]:=by
 rw [cJ,BR,panelS,mO]
 kernel_rfl
theorem BP:panelG 13 3=[skI2,skI0,skI1]:=by
 rw [cJ,BQ,panelS,pZ]
 kernel_rfl
theorem BO:panelG 13 4=[skI2,skI3,skI0,skI1]:=by
 rw [cJ,BP,panelS,pY]
 kernel_rfl
theorem BU (pst:List ByteArray):decG ezO0 0 pst []=ezD0:=by
 have e:decP ezO0 0 pst []=ezP0:=by
  show ({ decB ezO0 0 with to:=⟨none,(panelG 13 4).length,0⟩,toL:=panelG 13 4,n:=1+pickV 1 ((panelG 13 4).length:Nat) }:Xf)=ezP0
  rw [BO]
  rfl
 rw [decG,e]
 show signDV (keyS 0) ezP0=ezD0
 rw [iB,zG]
theorem BT (pst:List ByteArray):decG ezO1 1 pst [ezG0]=ezD1:=by
 have e:decP ezO1 1 pst [ezG0]=ezP1:=by
  show ({ decB ezO1 1 with actor:=idA21 1 }:Xf)=ezP1
  rw [mO]
  rfl
 rw [decG,e]
 show signDV (keyS 0) ezP1=ezD1
 rw [iB,zF]
theorem tW (pst:List ByteArray):heldT pst [] [ezO0,ezO1]=⟨([1,2,4,3,0,5]:List Nat).map ezIt,[skC0,skC1,skC2,skC3],[ezD0,ezD1],[ezG0,ezG1],[]⟩:=by
 have h0:heldO pst [] [ezO0,ezO1]=⟨([1,2,4,3,0,5]:List Nat).map ezIt,[ezD0,ezD1],[ezG0,ezG1]⟩:=by
  show ordS srvL pst (ordS srvL pst ⟨heldI [],[],[]⟩ ezO0 0) ezO1 1=_
  have e1:ordS srvL pst ⟨heldI [],[],[]⟩ ezO0 0=⟨([1,2,4,3,0]:List Nat).map ezIt,[ezD0],[ezG0]⟩:=by
   rw [ordS]
   simp only
   rw [BU pst,ez_I,show canAdd srvL (([1,2,3,0]:List Nat).map ezIt) (ofDecI ezD0)=true from xn (k:=4) (by decide) (by decide) (by decide +kernel),cond_true,zO,show addK srvL (([1,2,3,0]:List Nat).map ezIt) (ofDecI ezD0)=([1,2,4,3,0]:List Nat).map ezIt from B8]
   rfl
  rw [e1,ordS]
  simp only
  rw [BT pst,show canAdd srvL (([1,2,4,3,0]:List Nat).map ezIt) (ofDecI ezD1)=true from xn (k:=5) (by decide) (by decide) (by decide +kernel),cond_true,r7,show addK srvL (([1,2,4,3,0]:List Nat).map ezIt) (ofDecI ezD1)=([1,2,4,3,0,5]:List Nat).map ezIt from B7]
  rfl
 rw [heldT,h0,Cs]
def ezS0:Xz:=⟨([1,2,4,3,0,5]:List Nat).map ezIt,[skC0,skC1,skC2,skC3],[ezD0,ezD1],[ezG0,ezG1],[]⟩
def ezQ0:Xp:=⟨1,false,1,0⟩
def ezC1T0:Xa:={ skC1 with acts:=⟨none,2,0⟩,actsL:=[skAB1,ezAT0],prev:=ezDT0 }
def ezS1:Xz:=⟨([1,2,4,3,0,5,6]:List Nat).map ezIt,[skC0,ezC1T0,skC2,skC3],[ezD0,ezD1],[ezG0,ezG1],[ezDT0]⟩
theorem k9:pleadV srvL ezS0 ezQ0=ezS1:=(kH (q:=1) (c:=skC1) (O:=[ezG0,ezG1]) (x:=ezG1) (a:=ezAT0) (dg:=ezDT0) (k:=21) (n:=0) (I':=([1,2,4,3,0,5,6]:List Nat).map ezIt) (by decide) rfl rfl (by decide) rfl rfl (by decide) AX (by decide +kernel) qF B6).trans rfl
def ezQ1:Xp:=⟨0,true,0,0⟩
def ezC0T1:Xa:={ skC0 with acts:=⟨none,2,0⟩,actsL:=[skAB0,ezAT1],prev:=ezDT1 }
def ezS2:Xz:=⟨([1,2,4,3,0,5,6,7]:List Nat).map ezIt,[ezC0T1,ezC1T0,skC2,skC3],[ezD0,ezD1],[ezG0,ezG1],[ezDT0]⟩
theorem np:pleadV srvL ezS1 ezQ1=ezS2:=(kH (q:=0) (c:=skC0) (O:=[ezDT0]) (x:=ezDT0) (a:=ezAT1) (dg:=ezDT1) (k:=22) (n:=0) (I':=([1,2,4,3,0,5,6,7]:List Nat).map ezIt) (by decide) rfl rfl (by decide) rfl rfl (by decide) AW (by decide +kernel) xk B5).trans rfl
def ezQ2:Xp:=⟨2,true,0,0⟩
def ezC2T2:Xa:={ skC2 with acts:=⟨none,2,0⟩,actsL:=[skAB2,ezAT2],prev:=ezDT2 }
def ezS3:Xz:=⟨([1,2,4,3,0,8,5,6,7]:List Nat).map ezIt,[ezC0T1,ezC1T0,ezC2T2,skC3],[ezD0,ezD1],[ezG0,ezG1],[ezDT0]⟩
theorem qz:pleadV srvL ezS2 ezQ2=ezS3:=(kH (q:=2) (c:=skC2) (O:=[ezDT0]) (x:=ezDT0) (a:=ezAT2) (dg:=ezDT2) (k:=22) (n:=0) (I':=([1,2,4,3,0,8,5,6,7]:List Nat).map ezIt) (by decide) rfl rfl (by decide) rfl rfl (by decide) AV (by decide +kernel) xj B4).trans rfl
def ezQ3:Xp:=⟨2,true,0,1⟩
def ezC2T3:Xa:={ ezC2T2 with acts:=⟨none,3,0⟩,actsL:=[skAB2,ezAT2,ezAT3],prev:=ezDT3 }
def ezS4:Xz:=⟨([1,9,2,4,3,0,8,5,6,7]:List Nat).map ezIt,[ezC0T1,ezC1T0,ezC2T3,skC3],[ezD0,ezD1],[ezG0,ezG1],[ezDT0]⟩
theorem wP:pleadV srvL ezS3 ezQ3=ezS4:=(kH (q:=2) (c:=ezC2T2) (O:=[ezDT0]) (x:=ezDT0) (a:=ezAT3) (dg:=ezDT3) (k:=22) (n:=1) (I':=([1,9,2,4,3,0,8,5,6,7]:List Nat).map ezIt) (by decide) rfl rfl (by decide) rfl rfl (by decide) AU (by decide +kernel) xi B3).trans rfl
def ezQ4:Xp:=⟨3,false,1,0⟩
def ezC3T4:Xa:={ skC3 with acts:=⟨none,2,0⟩,actsL:=[skAB3,ezAT4],prev:=ezDT4 }
def ezS5:Xz:=⟨([1,9,2,4,3,0,8,5,10,6,7]:List Nat).map ezIt,[ezC0T1,ezC1T0,ezC2T3,ezC3T4],[ezD0,ezD1],[ezG0,ezG1],[ezDT0,ezDT4]⟩
theorem AP:pleadV srvL ezS4 ezQ4=ezS5:=(kH (q:=3) (c:=skC3) (O:=[ezG0,ezG1]) (x:=ezG1) (a:=ezAT4) (dg:=ezDT4) (k:=21) (n:=0) (I':=([1,9,2,4,3,0,8,5,10,6,7]:List Nat).map ezIt) (by decide) rfl rfl (by decide) rfl rfl (by decide) AT (by decide +kernel) xg Bp).trans rfl
def ezQ:List Xp:=[ezQ0,ezQ1,ezQ2,ezQ3,ezQ4]
def ezO:List Xk:=[ezO0,ezO1]
theorem zJ (pst:List ByteArray):heldV pst [] ezO (ezQ.take 0)=ezS0:=by
 rw [heldV]
 show List.foldl (pleadV srvL) (heldT pst [] [ezO0,ezO1]) []=_
 rw [tW pst]
 show List.foldl (pleadV srvL) ezS0 []=_
 simp only [List.foldl_cons,List.foldl_nil]
theorem xe (pst:List ByteArray):heldV pst [] ezO (ezQ.take 1)=ezS1:=by
 rw [heldV]
 show List.foldl (pleadV srvL) (heldT pst [] [ezO0,ezO1]) [ezQ0]=_
 rw [tW pst]
 show List.foldl (pleadV srvL) ezS0 [ezQ0]=_
 simp only [List.foldl_cons,List.foldl_nil,k9]
theorem zI (pst:List ByteArray):heldV pst [] ezO (ezQ.take 2)=ezS2:=by
 rw [heldV]
 show List.foldl (pleadV srvL) (heldT pst [] [ezO0,ezO1]) [ezQ0,ezQ1]=_
 rw [tW pst]
 show List.foldl (pleadV srvL) ezS0 [ezQ0,ezQ1]=_
 simp only [List.foldl_cons,List.foldl_nil,k9,np]
theorem xd (pst:List ByteArray):heldV pst [] ezO (ezQ.take 3)=ezS3:=by
 rw [heldV]
 show List.foldl (pleadV srvL) (heldT pst [] [ezO0,ezO1]) [ezQ0,ezQ1,ezQ2]=_
 rw [tW pst]
 show List.foldl (pleadV srvL) ezS0 [ezQ0,ezQ1,ezQ2]=_
 simp only [List.foldl_cons,List.foldl_nil,k9,np,qz]
theorem xc (pst:List ByteArray):heldV pst [] ezO (ezQ.take 4)=ezS4:=by
 rw [heldV]
 show List.foldl (pleadV srvL) (heldT pst [] [ezO0,ezO1]) [ezQ0,ezQ1,ezQ2,ezQ3]=_
 rw [tW pst]
 show List.foldl (pleadV srvL) ezS0 [ezQ0,ezQ1,ezQ2,ezQ3]=_
 simp only [List.foldl_cons,List.foldl_nil,k9,np,qz,wP]
theorem xb (pst:List ByteArray):heldV pst [] ezO (ezQ.take 5)=ezS5:=by
 rw [heldV]
 show List.foldl (pleadV srvL) (heldT pst [] [ezO0,ezO1]) [ezQ0,ezQ1,ezQ2,ezQ3,ezQ4]=_
 rw [tW pst]
 show List.foldl (pleadV srvL) ezS0 [ezQ0,ezQ1,ezQ2,ezQ3,ezQ4]=_
 simp only [List.foldl_cons,List.foldl_nil,k9,np,qz,wP,AP]
theorem Br:∀ k,k<11→selBD 0 rightIt (ezIt k)=(k==4||k==5)
 | 0,_=>rfl
 | 1,_=>rfl
 | 2,_=>rfl
 | 3,_=>rfl
 | 4,_=>by show (true&&rightIt (ofDecI ezD0))=true;rw [wR];rfl
 | 5,_=>by show (true&&rightIt (ofDecI ezD1))=true;rw [wQ];rfl
 | 6,_=>rfl
 | 7,_=>rfl
 | 8,_=>rfl
 | 9,_=>rfl
 | 10,_=>rfl
 | k+11,h=>absurd h ac
theorem r8:∀ J:List Nat,J.all (fun j=>decide (j<11))=true→selD 0 rightIt (J.map ezIt)=(J.filter fun k=>k==4||k==5).map fun k=>(ezIt k).dec
 | [],_=>rfl
 | j::J,h=>by
  rw [List.all_cons,Bool.and_eq_true] at h
  have ih:=r8 J h.2
  have e:=Br j (bm h.1)
  rw [selD] at ih ⊢
  rw [List.map_cons,List.filter_cons,List.filter_cons,e]
  cases (j==4||j==5) with
  | false=>exact ih
  | true=>simp only [if_true,List.map_cons];exact congrArg _ ih
theorem nr {J:List Nat} (h:J.all (fun j=>decide (j<11))=true) (hf:(J.filter fun k=>k==4||k==5)=[4,5]):decsV 0 (J.map ezIt)=[ezD0,ezD1]:=by
 have e:=r8 J h
 rw [hf] at e
 have e2:selD 0 rightIt (J.map ezIt)=[ezD0,ezD1]:=e
 have hp:[ezD0,ezD1].Perm (selD 0 rightIt (J.map ezIt)):=List.Perm.of_eq e2.symm
 exact (pb (by rw [e2];decide) hp (by decide)).symm
theorem mi:forceV 5 [ezD0,ezD1]=[ezD0,ezD1]:=by kernel_rfl
theorem qH:forceV 10 [ezD0,ezD1]=[]:=by kernel_rfl
theorem xl:panelV 5 [ezD0,ezD1]=([skI2,skI3,skI0,skI1],2):=by kernel_rfl
theorem r9 {J:List Nat} (h:J.all (fun j=>decide (j<11))=true) (hf:(J.filter fun k=>k==4||k==5)=[4,5]):panelK (J.map ezIt) 0 5=([skI2,skI3,skI0,skI1],2):=by rw [panelK,nr h hf,xl]
theorem uC (x:ByteArray):compB [x]=[x]:=by
  have h:Lib.compact [bl x]=[bl x]:=by
    rw [Lib.compact]
    show Lib.compactUpTo #[bl x] 1=[bl x]
    rw [Lib.compactUpTo_all _ _ fun j hj => by obtain rfl:j=0:=by omega
                                               rfl]
    rfl
  rw [compB,List.map_cons,List.map_nil,h,List.map_cons,List.map_nil,rT]
theorem jY {J:List Nat} (h:J.all (fun j=>decide (j<11))=true) (hf:(J.find? fun j=>seqB (ezDg j) ezG1)=some 5):findK (J.map ezIt) ezG1=some (ofDecI ezD1):=by
 rw [findK,show seqB ezG1 ⟨#[]⟩=false from by decide +kernel,cond_false,oQ ezIt ezDg _ J (xm h),hf]
 rfl
theorem nt {C:List Xa} {c:Xa} (hc:findC C skI1=some c) (hp:c.actsL.filter (pleaB ezG1)=[ezAT0]):appealsV C ezD1 ezG1=[ezDT0]:=by
 have e:affV C ezD1=some skI1:=by
  rw [affV,show seqB ezD1.actor ⟨#[]⟩=false from by decide +kernel]
  rfl
 rw [appealsV,e]
 simp only
 rw [hc]
 simp only
 rw [pleasV,hp,List.map_cons,List.map_nil,qF,sW,uC]
theorem oW (C:List Xa) (dg:ByteArray) (M:List ByteArray) (q:Int):overV C ezD0 dg M q=false:=by
 have e:appealsV C ezD0 dg=[]:=by
  have e1:affV C ezD0=none:=by
   rw [affV,show seqB ezD0.actor ⟨#[]⟩=true from by decide +kernel]
   rfl
  rw [appealsV,e1]
 rw [overV,e]
 exact Bool.and_false _
theorem Bs:NoPost ezD0:=.inr ⟨by decide,by decide⟩
theorem qG:NoPost ezD1:=.inl (by decide +kernel)
theorem BL:votesV ezS1.C [skI2,skI3,skI0,skI1] ezDT0=(0,0):=by decide +kernel
theorem Cq:appealsV ezS1.C ezD1 ezG1=[ezDT0]:=nt (c:=ezC1T0) ai ai
theorem B2:panelK ezS1.I 0 5=([skI2,skI3,skI0,skI1],2):=r9 (J:=[1,2,4,3,0,5,6]) (by decide) (by decide)
theorem zN:findK ezS1.I ezG1=some (ofDecI ezD1):=jY (J:=[1,2,4,3,0,5,6]) (by decide) (by decide +kernel)
theorem Bl:overV ezS1.C ezD1 ezG1 [skI2,skI3,skI0,skI1] 2=false:=by
 rw [overV,Cq,List.any_cons,BL]
 rfl
theorem Bg:overK ezS1.C ezS1.I 0 5 ezG1=false:=by
 rw [overK,zN,B2]
 show (true&&(true&&overV ezS1.C ezD1 ezG1 [skI2,skI3,skI0,skI1] 2))=false
 rw [Bl]
 rfl
theorem zE:votesV ezS3.C [skI2,skI3,skI0,skI1] ezDT0=(0,2):=by decide +kernel
theorem Cp:appealsV ezS3.C ezD1 ezG1=[ezDT0]:=nt (c:=ezC1T0) ai ai
theorem xa:panelK ezS3.I 0 5=([skI2,skI3,skI0,skI1],2):=r9 (J:=[1,2,4,3,0,8,5,6,7]) (by decide) (by decide)
theorem zM:findK ezS3.I ezG1=some (ofDecI ezD1):=jY (J:=[1,2,4,3,0,8,5,6,7]) (by decide) (by decide +kernel)
theorem wU:overV ezS3.C ezD1 ezG1 [skI2,skI3,skI0,skI1] 2=true:=by
 rw [overV,Cp,List.any_cons,zE]
 rfl
theorem Bf:overK ezS3.C ezS3.I 0 5 ezG1=true:=by
 rw [overK,zM,xa]
 show (true&&(true&&overV ezS3.C ezD1 ezG1 [skI2,skI3,skI0,skI1] 2))=true
 rw [wU]
 rfl
theorem xf:decsV 0 ezS3.I=[ezD0,ezD1]:=nr (J:=[1,2,4,3,0,8,5,6,7]) (by decide) (by decide)
theorem zD:votesV ezS4.C [skI2,skI3,skI0,skI1] ezDT0=(1,1):=by decide +kernel
theorem Co:appealsV ezS4.C ezD1 ezG1=[ezDT0]:=nt (c:=ezC1T0) ai ai
theorem zH:panelK ezS4.I 0 5=([skI2,skI3,skI0,skI1],2):=r9 (J:=[1,9,2,4,3,0,8,5,6,7]) (by decide) (by decide)
theorem zL:findK ezS4.I ezG1=some (ofDecI ezD1):=jY (J:=[1,9,2,4,3,0,8,5,6,7]) (by decide) (by decide +kernel)
theorem Bk:overV ezS4.C ezD1 ezG1 [skI2,skI3,skI0,skI1] 2=false:=by
 rw [overV,Co,List.any_cons,zD]
 rfl
theorem Be:overK ezS4.C ezS4.I 0 5 ezG1=false:=by
 rw [overK,zL,zH]
 show (true&&(true&&overV ezS4.C ezD1 ezG1 [skI2,skI3,skI0,skI1] 2))=false
 rw [Bk]
 rfl
theorem BK:votesV ezS5.C [skI2,skI3,skI0,skI1] ezDT0=(1,1):=by decide +kernel
theorem zR:appealsV ezS5.C ezD1 ezG1=[ezDT0]:=nt (c:=ezC1T0) ai ai
theorem B1:panelK ezS5.I 0 5=([skI2,skI3,skI0,skI1],2):=r9 (J:=[1,9,2,4,3,0,8,5,10,6,7]) (by decide) (by decide)
theorem zK:findK ezS5.I ezG1=some (ofDecI ezD1):=jY (J:=[1,9,2,4,3,0,8,5,10,6,7]) (by decide) (by decide +kernel)
theorem Bj:overV ezS5.C ezD1 ezG1 [skI2,skI3,skI0,skI1] 2=false:=by
 rw [overV,zR,List.any_cons,BK]
 rfl
theorem nq:decsV 0 ezS5.I=[ezD0,ezD1]:=nr (J:=[1,9,2,4,3,0,8,5,10,6,7]) (by decide) (by decide)
theorem AS:standK ezS3.C ezS3.I 0 5=[ezD0]:=by
 rw [standK,xf,mi,xa]
 rw [List.filter_cons,List.filter_cons,overN,overN,r7]
 simp only
 rw [oW,wU]
 rfl
theorem AR:standK ezS5.C ezS5.I 0 5=[ezD0,ezD1]:=by
 rw [standK,nq,mi,B1]
 rw [List.filter_cons,List.filter_cons,overN,overN,r7]
 simp only
 rw [oW,Bj]
 rfl
theorem AQ:standK ezS5.C ezS5.I 0 10=[]:=by
 rw [standK,nq,qH]
 rfl
theorem Bi:openK ezS5.C ezS5.I ezG1=[ezDT0]:=by
 rw [openK,zK]
 show (bif true then appealsV ezS5.C ezD1 ezG1 else [])=[ezDT0]
 rw [zR]
 rfl
end Go.Proofs.YtgffbiobmamobaaGreatDoor
