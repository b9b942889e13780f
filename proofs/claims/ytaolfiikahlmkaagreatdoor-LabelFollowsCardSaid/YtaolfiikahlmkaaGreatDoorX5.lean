/- Joined. -/
import Derived.Test.YtaolfiikahlmkaaGreatDoorX4
import Derived.RangeFuncSeq
import Derived.OrdersIn
import Derived.Deep.Slices
import Derived.Deep.Fields
import Derived.ChangeSame
import Derived.ChangeArms
import Derived.Carry
import Derived.OpenShut
set_option linter.unusedVariables false
set_option linter.unusedSimpArgs false
set_option maxHeartbeats 16000000
namespace Go.Proofs.YtaolfiikahlmkaaGreatDoor
open Go Go.Proofs Sy
def hexDg:ByteArray:=⟨#[48,49,50,51,52,53,54,55,56,57,97,98,99,100,101,102]⟩
def hexB (s:ByteArray) (i:Nat):List Int:=[byteAt hexDg (shrV .u8 (byteAt s i) 4).toNat,byteAt hexDg (bitsV .and .u8 (byteAt s i) 15).toNat]
def hexF (s:ByteArray) (n:Nat):List Int:=(List.range n).flatMap (hexB s)
def hexV (s:ByteArray):ByteArray:=ofInts (hexF s s.size)
theorem oZ (s:ByteArray) (n:Nat):hexF s (n+1)=hexF s n++hexB s n:=by
 rw [hexF,List.range_succ,List.flatMap_append]
 simp [hexF]
theorem DU:∀ b:Nat,b<256→(0≤shrV .u8 (b:Int) 4∧shrV .u8 (b:Int) 4<16)∧(0≤bitsV .and .u8 (b:Int) 15∧bitsV .and .u8 (b:Int) 15<16):=by decide +kernel
theorem yD (s:ByteArray) (i:Nat):∃ b:Nat,b<256∧byteAt s i=(b:Int):=⟨(s.data.toList.getD i 0).toNat,UInt8.toNat_lt _,rfl⟩
def hexN (d:Nat):Nat:=if d<10 then 48+d else 87+d
def hexL (l:List Nat):List Nat:=l.flatMap fun b=>[hexN (b/16),hexN (b%16)]
theorem Ed:∀ b:Nat,b<256→byteAt hexDg (shrV .u8 (b:Int) 4).toNat=(hexN (b/16):Nat)∧byteAt hexDg (bitsV .and .u8 (b:Int) 15).toNat=(hexN (b%16):Nat):=by decide +kernel
structure HexI where
 k:Nat
 hk:k≤32
 A:Option Addr
 c:Nat
theorem Gi (s:ByteArray) (hs:s.size=32):Pu Tryz.prog 111 #[.string s] (fun _=>True) (.string (hexV s)):=by
 refine ak (args:=[_]) _ Tryz.func111 rfl Tryz.ntmps111 rfl fun av bor w0=>?_
 repeat' (first|refine eK (c:=64) (hc:=by rw [hs];rfl) (h:=?_)|refine gs ?_|refine gs1 fun _=>?_|(refine ix (c:=64) (hm:=rfl) (hm2:=rfl) fun q=>?_)|(refine gp ?_ ?_<;>intro hx_ this)|fail)
 refine aq (ι:=HexI) (fun i=>⟨[(0,.string s),(3,.slice i.A (2*i.k) i.c),(10,.int .i64 s.size),(11,.int .i64 i.k)],[orow 5 1 (.slice i.A (2*i.k) i.c) (2*i.k) (u8s (hexF s i.k))],fun _=>True⟩) (fun i=>32-i.k) ⟨0,Z4 _,_,_⟩
  (aj am (al _) fun _ h=>h) fun i=>?_
 have hik:=i.hk
 repeat' (first|refine gs ?_|refine gs1 fun _=>?_|(refine gp ?_ ?_<;>intro hx_ this)|fail)
 · have hlt:i.k<32:=by omega
   obtain ⟨b,hb,hbe⟩:=yD s i.k
   obtain ⟨⟨n1,n2⟩,n3,n4⟩:=DU b hb
   rw [←hbe] at n1 n2 n3 n4
   (refine ar ⟨[0,1,2,3,4,5,6,7,8,9,10],[(11,⟨[],[(12,⟨[13],[]⟩)]⟩)]⟩ [] (fun _=>True) (h:=?_))
   all_goals repeat' (first|refine gd ?_|refine ay (hy:=by first|(apply tk;rfl;rfl;(first|omega|assumption);(first|omega|assumption))) ?_|refine aA ?_ (h':=?_)|exact aB|refine cQ (len:=2) (vs:=u8s (hexB s i.k)) fun _=>?_|(refine iS ?_;refine aF (size:=1) (z:=.int .u8 0) (news:=u8s (hexB s i.k)) (q:=2) rfl rfl rfl rfl (fun _=>At.there _ (At.here _)) (fun w G=>bT G aw rfl rfl 2) aa (by simp only [maxLen];omega) rfl ?_ rfl ?_;(first|with_reducible rfl|with_reducible assumption|with_reducible exact Zl|with_reducible exact Zn);intro A2 c2)|refine gs1 fun _=>?_|(refine gq ?_ ?_<;>intro hx_ this)|fail)
   rw [←ck,←oZ]
   repeat' (first|refine gs ?_|refine gs1 fun _=>?_|(refine gp ?_ ?_<;>intro hx_ this)|fail)
   exact ⟨⟨i.k+1,hlt,A2,c2⟩,(by show 32-(i.k+1)<32-i.k;omega),aj am (List.sublist_cons_self _ _) fun _ h=>h⟩
 · have hk:i.k=s.size:=by omega
   repeat' (first|refine gs ?_|refine gs1 fun _=>?_|(refine eL (ns:=hexF s i.k) (hm:=by exact aW) ?_)|(refine gp ?_ ?_<;>intro hx_ this)|fail)
   apply ad;apply ag;rfl;rfl
   rw [hk]
   rfl
theorem vX (d:Nat) (h:d<16):hexN d<256:=by
 unfold hexN
 split<;>omega
theorem Ee {l:List Nat} (h:∀ x∈l,x<256):∀ x∈hexL l,x<256:=fun x hx=>by
 rw [hexL,List.mem_flatMap] at hx
 obtain ⟨b,hb,hx⟩:=hx
 have hb':=h b hb
 rcases ZI.1 hx with rfl|hx
 · exact vX _ aa
 · rw [Z5] at hx
   subst hx
   exact vX _ (Qc _ (by decide))
theorem vY (s:ByteArray):∀ n,n≤s.size→hexF s n=(hexL ((nl s).take n)).map fun (n:Nat)=>(n:Int)
 | 0,_=>rfl
 | n+1,h=>by
  have hn:n<(nl s).length:=by rw [dw];omega
  have hb:=fQ (jE s) n
  have he:(nl s)[n]=(nl s).getD n 0:=by rw [Zo,Zb hn];rfl
  rw [oZ,vY s n aa,List.take_succ_eq_append_getElem hn,hexL,hexL,List.flatMap_append,ZW]
  congr 1
  obtain ⟨h1,h2⟩:=Ed _ hb
  rw [hexB,qw s n aa,h1,h2,he]
  rfl
theorem yl (s:ByteArray):(hexV s).size=2*s.size:=by
 rw [←dw,hexV,vY s s.size (ZX _),Qf (by rw [dw];exact ZX _),km _ (Ee (jE s)),hexL]
 rw [←dw]
 generalize nl s=l
 induction l with
 | nil=>rfl
 | cons a l ih=>rw [List.flatMap_cons,ZA,ih];simp only [ZB,ZR];omega
def idText (p:Int):ByteArray:=textV ⟨#[97,99,116,111,114]⟩++numV p
def idV (p:Int):ByteArray:=(hexV (shaV (idText p))).extract 0 16
theorem gP (p:Int) (hp:p<9223372036854775808):Pu Tryz.prog 63 #[.int .i64 p] Glob (.string (idV p)):=by
 refine ak (args:=[_]) _ Tryz.func63 rfl Tryz.ntmps63 rfl fun av bor w0=>?_
 have h1:=az ⟨#[97,99,116,111,114]⟩
 have h2:=ap p
 have h5:(⟨#[97,99,116,111,114]⟩:ByteArray).size=5:=rfl
 have hsz:(idText p).size≤1099511627776:=by rw [idText,Za];omega
 have hhx:=yl (shaV (idText p))
 rw [oE] at hhx
 repeat' (first|refine ab (hc:=ft _ (by first|omega|decide)) ?_|refine ab (hc:=eX _ hp) ?_|(refine ab (hc:=pM (idText p) hsz) (hX:=fun _ h=>h) ?_)|(refine ab (hc:=Gi (shaV (idText p)) (oE _)) (hX:=fun _ _=>trivial) ?_)|refine gs ?_|(refine mz ?_)|(refine Da (h1:=by omega) ?_)|(refine gp ?_ ?_<;>intro hx_ this)|fail)
 apply ad;apply ag;rfl;rfl
 rfl
def ActD.sig (a:ActD) (g:SgD):ActD:={ a with e:=g.e,s:=g.s }
def actSignV (k:KyD) (a:ActD):ActD:=bif rightB (a.sig SgD.zero)&&rightK k then a.sig (signV k (coreV (a.sig SgD.zero))) else ActD.zero
theorem vz {a:ActD} (h:a.Rng) {g:SgD} (h1:g.e<9223372036854775808) (h2:g.s<9223372036854775808):(a.sig g).Rng:=by
 obtain ⟨⟨i1,i2,i3,i4,i5,i6,i7,i8,i9⟩,h2',h3,h4⟩:=h
 exact ⟨⟨i1,i2,i3,i4,i5,i6,i7,h1,h2⟩,h2',h3,h4⟩
theorem oC (k:KyD) (msg:ByteArray):(signV k msg).e<9223372036854775808∧(signV k msg).s<9223372036854775808:=by
 rw [signV]
 cases rightK k with
 | false=>exact ⟨(show (0:Int)<9223372036854775808 by decide),(show (0:Int)<9223372036854775808 by decide)⟩
 | true =>
  have h1:=Cf (expV 37 (nonceN k.s msg)) k.p.toNat msg
  have h2:=Qc (nonceN k.s msg+sigE k msg*k.s.toNat%2305843009213693950) (show 2305843009213693950>0 by decide)
  refine ⟨?_,?_⟩
  · show ((sigE k msg:Nat):Int)<_
    unfold sigE
    omega
  · show ((sigS k msg:Nat):Int)<_
    unfold sigS
    omega
def ActTo (b:ActD) (u:Value) (X:World→Prop):Prop:=∃ s1 s2:SlV,u=(b.re s1 s2).v∧s1.n=b.to.n∧s2.n=b.wraps.n∧∀ w,X w→(b.re s1 s2).at_ w
set_option maxRecDepth 20000 in
theorem uT (k:KyD) (a:ActD) (hr:a.Rng) (hs:a.Sm):Mk Tryz.prog 36 #[k.v,a.v] (fun w=>a.at_ w∧Glob w) (ActTo (actSignV k a)):=by
 refine bM (args:=[_,_]) _ Tryz.func36 rfl Tryz.ntmps36 rfl fun av bor w0=>?_
 have hr0:(a.sig SgD.zero).Rng:=vz hr (by decide) (by decide)
 have hri:=dY (a.sig SgD.zero)
 have hrk:=jo k
 cases hb:rightB (a.sig SgD.zero) with
 | false =>
  rw [hb] at hri
  rw [show actSignV k a=ActD.zero from by rw [actSignV,hb];rfl]
  repeat' (first|(refine ab (hc:=hri) (hX:=fun _ h=>h.1) ?_)|refine gs ?_|refine gs1 fun _=>?_|(refine aD (cs:=SgD.zero.cells) (hf:=by rfl) ?_)|(refine dH (a.sig SgD.zero).cells (h:=?_))|(refine aD (cs:=ActD.zero.cells) (hf:=by rfl) ?_)|(refine gp ?_ ?_<;>intro hx_ this)|fail)
  refine ad (cL rfl rfl aW (by rfl)) ⟨⟨none,0,0⟩,⟨none,0,0⟩,rfl,rfl,rfl,fun w _=>⟨bt w 1,bt w 5⟩⟩
 | true =>
  rw [hb] at hri
  cases hk:rightK k with
  | false =>
   rw [hk] at hrk
   rw [show actSignV k a=ActD.zero from by rw [actSignV,hb,hk];rfl]
   repeat' (first|(refine ab (hc:=hri) (hX:=fun _ h=>h.1) ?_)|(refine ab (hc:=hrk) (hX:=fun _ _=>trivial) ?_)|refine gs ?_|refine gs1 fun _=>?_|(refine aD (cs:=SgD.zero.cells) (hf:=by rfl) ?_)|(refine dH (a.sig SgD.zero).cells (h:=?_))|(refine aD (cs:=ActD.zero.cells) (hf:=by rfl) ?_)|(refine gp ?_ ?_<;>intro hx_ this)|fail)
   refine ad (cL rfl rfl aW (by rfl)) ⟨⟨none,0,0⟩,⟨none,0,0⟩,rfl,rfl,rfl,fun w _=>⟨bt w 1,bt w 5⟩⟩
  | true =>
   rw [hk] at hrk
   rw [show actSignV k a=a.sig (signV k (coreV (a.sig SgD.zero))) from by rw [actSignV,hb,hk];rfl]
   have hco:=qp (a.sig SgD.zero) (fun h=>dt hr0 h)
   rw [hb] at hco
   have hcs:=fM (dt hr0 hb)
   have hsi:=Dp k (coreV (a.sig SgD.zero)) aa
   generalize hg:signV k (coreV (a.sig SgD.zero))=g at *
   repeat' (first|(refine ab (hc:=hri) (hX:=fun _ h=>h.1) ?_)|(refine ab (hc:=hrk) (hX:=fun _ _=>trivial) ?_)|refine gs ?_|refine gs1 fun _=>?_|(refine aD (cs:=SgD.zero.cells) (hf:=by rfl) ?_)|(refine dH (a.sig SgD.zero).cells (h:=?_))|(refine gp ?_ ?_<;>intro hx_ this)|fail)
   rename_i b2 b3 b4
   (refine ar ⟨[0],[(1,⟨[],[(2,⟨[],[(3,⟨[4],[(5,⟨[],[]⟩)]⟩)]⟩)]⟩)]⟩ [cel b2 27 k.cells] (fun w=>a.at_ w∧Glob w) (h:=?_))
   all_goals repeat' (first|(refine ab (hc:=hco) (hX:=fun _ h=>h.1) ?_)|(refine ab (hc:=hsi) (hX:=fun _ h=>h.2) ?_)|refine gd ?_|refine aA ?_ (h':=?_)|exact aB|(refine dH (a.sig g).cells (h:=?_))|refine gs1 fun _=>?_|(refine gq ?_ ?_<;>intro hx_ this)|fail)
   repeat' (first|refine gs ?_|refine gs1 fun _=>?_|(refine gp ?_ ?_<;>intro hx_ this)|fail)
   refine bZ (hc:=kG a.to (strs a.toL) hs.to (fun cs hcs=>by simp only [strs,QJ] at hcs;obtain ⟨x,_,rfl⟩:=hcs;rfl)) (hX:=fun w h=>h.1.1) fun v1 X1 h1=>?_
   obtain ⟨s1,rfl,hn1,hw1⟩:=h1
   repeat' (first|refine gs ?_|refine gs1 fun _=>?_|(refine gp ?_ ?_<;>intro hx_ this)|fail)
   refine bZ (hc:=kF a.wraps (a.wrapsL.map WrapD.cells) hs.wraps (fun cs hcs=>by simp only [QJ] at hcs;obtain ⟨x,_,rfl⟩:=hcs;rfl)) (hX:=fun w h=>h.1.1.2) fun v2 X2 h2=>?_
   obtain ⟨s2,rfl,hn2,hw2⟩:=h2
   repeat' (first|refine gs ?_|refine gs1 fun _=>?_|(refine gp ?_ ?_<;>intro hx_ this)|fail)
   refine ad (cL rfl rfl aW (by rfl)) ⟨s1,s2,rfl,?_,?_,fun w h=>⟨hw1 w h.1.1.2,hw2 w h.1.2⟩⟩
   · show s1.n=a.to.n
     rw [hn1,hr.to_len]
     simp [strs]
   · show s2.n=a.wraps.n
     rw [hn2,hr.wraps_len]
     simp
def postK (k:Int):Bool:=decide (k=1)||decide (k=2)||decide (k=3)
theorem uk (k:Int):Pu Tryz.prog 108 #[.int .i64 k] (fun _=>True) (.bool (postK k)):=by
 refine ak (args:=[_]) _ Tryz.func108 rfl Tryz.ntmps108 rfl fun av bor w0=>?_
 repeat' (first|refine gs ?_|(refine gp ?_ ?_<;>intro hx_ this)|fail)
 all_goals
  apply ad;apply ag;rfl;rfl
  simp only [postK, *,Zt,Zr,Zf,Ze,Zh,Zg,Zk,Zj,Zn,Zl,Zs,Zm,Zq,Zi]
theorem hasS_iff {l:List ByteArray} {x:ByteArray}:hasS l x=true↔x∈l:=by
 rw [hasS,List.any_eq_true]
 constructor
 · rintro ⟨y,hy,h⟩
   rw [seqB_iff.1 h];exact hy
 · intro h
   exact ⟨x,h,cF x⟩
theorem hasS_false {l:List ByteArray} {x:ByteArray}:hasS l x=false↔x∉l:=by
 rw [←ZE,hasS_iff]
def ChBox (c:ChainD) (b:Nat) (w:World):Prop:=w.heap[b]?=some (.cells c.cells.toArray 35 (0,0))
theorem ChBox.cell {c:ChainD} {b:Nat} {w:World} (h:ChBox c b w):∀ j v,c.cells[j]?=some v→w.cell? ⟨b,j,none⟩=some v:=fun j v hj=>by
 simp [World.cell?,show w.heap[b]?=_ from h,hj]
end Go.Proofs.YtaolfiikahlmkaaGreatDoor
namespace Go.Proofs.YtaolfiikahlmkaaGreatDoor.Sy
open Go Go.RowKit
def fen (ρ:Option Nat):Fence:={ Fence.wide with round:=ρ }
def isDefer:Op→Bool
 | .defer _=>true
 | _=>false
section
variable {P:Program} {N:Nat} {av bor:List Nat} {w0:World} {ops:Array Oper} {st:St}
theorem DK {ρ:Option Nat} {n:Nat} {row:String} {args:Array Value} {w:World} {R:Value→World→Prop} (h:Rows P row args w R):RowsIn (fen ρ) n P row args w R:=fun c cs _=>by
 obtain ⟨v,w',r,s⟩:=h c cs
 exact ⟨v,w',r,stepsIn_wide.2 s⟩
theorem Ci {ρ:Option Nat} {n:Nat} {f:FuncId} {args:Array Value} {w:World} {R:Ending→World→Prop} (h:Calls P f args w R):CallsIn (fen ρ) n P f args w R:=(callsIn_wide (n:=n)).2 h
theorem CO {ρ:Option Nat} {n:Nat} {o:Oper} {a:Act} {w:World} {K K':Act→World→Prop} {k k':St→Prop} (hd:isDefer o.op=false) (hK:∀ a w,K a w→K' a w)
  (h:o.wp P a w K (post N av bor w0 (only k'))):o.wpIn (fen ρ) n P a w K' (post N av bor w0 (only k)):=by
 refine ⟨fun _ _=>trivial,?_⟩
 rw [Oper.semAt_plain _ _ _ (fun c e=>by rw [e] at hd;cases hd)]
 unfold Oper.wp at h
 generalize (execOp a.eval o).run P w=r at *
 cases r with
 | ok nx w' =>
  cases nx<;>simp only [Oper.upon] at h<;>simp only [Oper.uponIn]
  case value u=>exact hK _ _ h
  case skip=>exact hK _ _ h
  case defer d=>exact hK _ _ h
  case enter f args =>
   refine ⟨(fun hh=>by cases hh),?_⟩
   refine Ci (Calls.mono h ?_)
   intro e w'' he
   cases e with
   | returned v=>exact hK _ _ he
   | panicked c=>exact (he:False).elim
   | outgrown=>obtain ⟨_,_,h⟩:=he;exact (h:False).elim
  case row row args =>
   refine ⟨(fun hh=>by cases hh),?_⟩
   exact DK (Rows.mono h fun u w'' he=>hK _ _ he)
 | halt x w'=>cases x<;>simp only [Oper.upon] at h<;>exact (h:False).elim
theorem jI {ρ:Option Nat} {n:Nat} {k k':St→Prop} {rest:List Oper} (hr:∀ a w,post N av bor w0 (only k') .normal a w→wpListIn (fen ρ) n P ops (post N av bor w0 (only k)) rest a w):∀ (todo:List Oper) (a:Act) (w:World),todo.all (fun o=>!isDefer o.op)=true →
  wpList P ops (post N av bor w0 (only k')) todo a w→wpListIn (fen ρ) n P ops (post N av bor w0 (only k)) (todo++rest) a w
 | [],a,w,_,h=>hr a w h
 | o::l,a,w,hd,h=>by
  simp only [List.all_cons,Zp,Bool.not_eq_true'] at hd
  simp only [wpList] at h
  simp only [ZK,wpListIn]
  split
  · rename_i hw
    simp only [hw,ZN] at h
    rcases h with h|⟨_,_,_,h⟩
    · exact CO hd.1 (fun a w h=>jI hr l a w hd.2 h) h
    · exact (h:False).elim
  · rename_i hw
    simp only [hw] at h
    exact ⟨fun _ _=>trivial,jI hr l _ _ hd.2 h⟩
theorem vT {ρ:Option Nat} {n:Nat} {k:St→Prop} (todo:List Oper) (a:Act) (w:World) (hd:todo.all (fun o=>!isDefer o.op)=true)
  (h:wpList P ops (post N av bor w0 (only k)) todo a w):wpListIn (fen ρ) n P ops (post N av bor w0 (only k)) todo a w:=by
 have:=jI (ρ:=ρ) (n:=n) (k:=k) (rest:=[]) (fun a w h=>h) todo a w hd h
 rwa [ZJ] at this
end
def Cr (P:Program) (N:Nat) (av bor:List Nat) (w0:World) (l:Nat) (c:Code) (st:St) (K:Exit→St→Prop):Prop :=
 ∀ n a w,Ok N av bor w0 st a w→c.wpIn (fen (some l)) n P (post N av bor w0 K) a w
theorem Cr.mk {P:Program} {N:Nat} {av bor:List Nat} {w0:World} {l:Nat} {c:Code} {st:St} {K:Exit→St→Prop} (h:∀ n a w,Ok N av bor w0 st a w→c.wpIn (fen (some l)) n P (post N av bor w0 K) a w):Cr P N av bor w0 l c st K:=h
theorem Cr.run {P:Program} {N:Nat} {av bor:List Nat} {w0:World} {l:Nat} {c:Code} {st:St} {K:Exit→St→Prop} (h:Cr P N av bor w0 l c st K):∀ n a w,Ok N av bor w0 st a w→c.wpIn (fen (some l)) n P (post N av bor w0 K) a w:=h
namespace Rd
section
variable {P:Program} {N:Nat} {av bor:List Nat} {w0:World} {l:Nat} {st:St} {K:Exit→St→Prop} {E:Env} {loc:List Res} {X:World→Prop}
theorem QV (h:K .normal st):Cr P N av bor w0 l .skip st K:=fun n a w ok=>wpIn_skip ⟨st,h,ok⟩
theorem QS {x y:Code} (h:Cr P N av bor w0 l x st (thn (fun s=>Cr P N av bor w0 l y s K) K)):Cr P N av bor w0 l (.seq x y) st K:=fun n a w ok =>
 wpIn_seq (wpIn_mono (h n a w ok) (fun e a w q=>by
  cases e with
  | panic _=>exact q
  | outgrown=>exact q
  | normal=>obtain ⟨s,h1,h2⟩:=q;exact h1 n a w h2
  | exit _=>exact q
  | goto _=>exact q
  | ret=>exact q))
theorem cw_cond {c:Operand} {x y:Code} {b:Bool} (hc:ev st.env c=some (.bool b):=by rfl) (ht:b=true→Cr P N av bor w0 l x st K) (hf:b=false→Cr P N av bor w0 l y st K) :
  Cr P N av bor w0 l (.cond c x y) st K:=fun n a w ok=>wpIn_cond_split (ok.eval hc) (fun h=>ht h n a w ok) (fun h=>hf h n a w ok)
theorem QW {c:Operand} {x y:Code} {b:Bool} (hc:ev st.env c=some (.bool b):=by rfl) (hb:b=true:=by exact ao) (ht:Cr P N av bor w0 l x st K) :
  Cr P N av bor w0 l (.cond c x y) st K:=cw_cond hc (fun _=>ht) (fun h=>by rw [hb] at h;cases h)
theorem QX {c:Operand} {x y:Code} {b:Bool} (hc:ev st.env c=some (.bool b):=by rfl) (hb:b=false:=by exact ao) (hf:Cr P N av bor w0 l y st K) :
  Cr P N av bor w0 l (.cond c x y) st K:=cw_cond hc (fun h=>by rw [hb] at h;cases h) (fun _=>hf)
theorem QU {id:Nat} {c:Code} (h:Cr P N av bor w0 l c st (blk id K)):Cr P N av bor w0 l (.block id c) st K:=fun n a w ok =>
 wpIn_block (wpIn_mono (h n a w ok) (fun e a w q=>by
  cases e with
  | panic _=>exact q
  | outgrown=>exact q
  | normal=>exact q
  | exit id' =>
   obtain ⟨s,h1,h2⟩:=q
   by_cases hi:id'=id
   · simp only [blk,hi,ZN] at h1
     simp only [Exit.inBlock,hi,ZN]
     exact ⟨s,h1,h2⟩
   · simp only [blk,hi,if_false] at h1
     simp only [Exit.inBlock,hi,if_false]
     exact ⟨s,h1,h2⟩
  | goto _=>exact q
  | ret=>exact q))
theorem reg_post {k:St→Prop} {e:Exit} {a:Act} {w:World} (hk:∀ s,k s→K .normal s) (h:post N av bor w0 (only k) e a w):post N av bor w0 K e a w:=by
 cases e with
 | panic _=>exact h
 | outgrown=>exact h
 | normal=>obtain ⟨s,h1,h2⟩:=h;exact ⟨s,hk s h1,h2⟩
 | exit _=>obtain ⟨s,h1,h2⟩:=h;exact h1.elim
 | goto _=>obtain ⟨s,h1,h2⟩:=h;exact h1.elim
 | ret=>obtain ⟨s,h1,h2⟩:=h;exact h1.elim
theorem QT {id:Nat} {ol:List Oper} (hno:ol.all (fun o=>!isDefer o.op)=true:=by rfl) (h:Sw P N av bor w0 ol.toArray ol st (K .normal)):Cr P N av bor w0 l (.region id ol.toArray false) st K:=fun n a w ok =>
 wpIn_mono (wpIn_region_lit (vT ol a w hno (h.run a w ok))) fun e a w q=>reg_post (fun _ h=>h) q
end
end Rd
def YCt (P:Program) (l:Nat) (args:List Value) (pre:List Res) (X:World→Prop) (Post:Value→List Res→(World→Prop)→Prop):Prop :=
 ∀ (n:Nat) (w:World) (av:List Nat),Gam av (fps pre) w pre X w→YieldAt Fence.wide n P l args.toArray w fun e w'=>∃ v R X',e=.returned v∧Post v R X'∧Gam av (fps pre) w R X' w'
def Sv (P:Program) (N:Nat) (av bor:List Nat) (w0:World) (ops:Array Oper) (todo:List Oper) (st:St) (k:St→Prop):Prop :=
 ∀ n a w,Ok N av bor w0 st a w→wpListIn Fence.wide n P ops (post N av bor w0 (only k)) todo a w
section
variable {P:Program} {N:Nat} {av bor:List Nat} {w0:World} {ops:Array Oper} {rest:List Oper} {k:St→Prop} {E:Env} {loc:List Res} {X:World→Prop} {K:Exit→St→Prop}
variable {d:Option Tmp} {ty:TypeId} {pos:String} {af:Array Edge} {g:Option (Nat×Bool)} {bb want:Bool}
theorem AC (hno:rest.all (fun o=>!isDefer o.op)=true) (h:Sw P N av bor w0 ops rest ⟨E,loc,X⟩ k):Sv P N av bor w0 ops rest ⟨E,loc,X⟩ k:=fun n a w ok=>vT (ρ:=none) rest a w hno (h.run a w ok)
theorem EL {id:Nat} {ol:List Oper} {st:St} (h:Sv P N av bor w0 ol.toArray ol st (K .normal)):Cw P N av bor w0 (.region id ol.toArray false) st K:=Cw.mk fun a w ok =>
 (wpIn_wide (n:=0)).1 (wpIn_mono (wpIn_region_lit (h 0 a w ok)) fun e a w q=>Rd.reg_post (fun _ h=>h) q)
theorem FJ (pre:List Oper) {st:St} (hno:pre.all (fun o=>!isDefer o.op)=true) (h:Sw P N av bor w0 ops pre st (fun s=>Sv P N av bor w0 ops rest s k)):Sv P N av bor w0 ops (pre++rest) st k:=fun n a w ok =>
 jI (ρ:=none) (fun a w ⟨s,h1,h2⟩=>h1 n a w h2) pre a w hno (h.run a w ok)
theorem Dl {x:Operand} {xs:List Operand} {ats:Array TypeId} {l:Nat} {args:List Value} {pre fr:List Res} {X1:World→Prop} {Post:Value→List Res→(World→Prop)→Prop}
  (hx:ev E x=some (.func (.yield l) #[] #[])) (ha:evs E xs=some args) (hg:gdB ops E g=some (bb,want)) (hb:bb=want) (hd:inB N d=true) (hc:YCt P l args pre X1 Post) (hX:∀ w,X w→X1 w)
  (h:∀ v R X',Post v R X'→Sv P N av bor w0 ops rest ⟨putE E d v,R++fr,fun w=>X w∧X' w⟩ k) :
  Sv P N av bor w0 ops (⟨d,.call ⟨.value x,xs.toArray,ats⟩,ty,pos,af,g⟩::rest) ⟨E,pre++fr,X⟩ k:=fun m a w ok=>by
 simp only [wpListIn]
 rw [bA ok (o:=⟨d,.call ⟨.value x,xs.toArray,ats⟩,ty,pos,af,g⟩) hg]
 subst hb
 simp only [Zz,ZN]
 refine ⟨fun _ _=>trivial,?_⟩
 obtain ⟨av',G0,hback⟩:=ok.call
 obtain ⟨fn,tmps,assign,body,hy,hR⟩:=hc (m-1) w av' (G0.imp hX)
 have e1:xs.toArray.map a.eval=args.toArray:=by rw [List.map_toArray,ij ok xs args ha]
 have hr:(execOp a.eval ⟨d,.call ⟨.value x,xs.toArray,ats⟩,ty,pos,af,g⟩).run P w=.ok (.round l fn tmps assign body) w:=by
  simp only [execOp,resolve,ok.eval (st:=⟨E,pre++fr,X⟩) hx,Deferred.ofValue,invoke,e1]
  simp only [Sem.run_bind,Sem.run_pure,Result.andThen_ok]
  simpa using hy
 rw [Fence.wide_round,Oper.semAt_none,hr]
 simp only [Oper.uponIn]
 refine ⟨(fun hh=>by cases hh),?_⟩
 refine hR.mono ?_
 rintro e w' ⟨v,R,X',he,hp,G'⟩
 subst he
 have ok':=hback R X' w' G'
 exact h v R X' hp m _ _ (df d v▸ok'.put hd v)
end
def It {α:Type} (P:Program) (g:FuncId) (lb:List Value) (X1:World→Prop) (enc:α→List Value) (xs:List α):Prop :=
 ∀ (l:Nat) (X:World→Prop) (Rs:List α→List Res→Prop),(∀ w,X w→X1 w) →
  (∀ pre x suf R,xs=pre++x::suf→Rs pre R→YCt P l (enc x) R X fun v R' _=>v=.bool true∧Rs (pre++[x]) R') →
  ∀ R0,Rs [] R0→Ct P g (.func (.yield l) #[] #[]::lb).toArray R0 X fun _ R' _=>Rs xs R'
def putEs (E:Env):List Tmp→List Value→Env
 | p::ps,v::vs=>putEs ((p,v)::E) ps vs
 | _,_=>E
theorem sL {N:Nat}:∀ (ps:List Tmp) (vs:List Value) (E:Env) (t:Array Value),ps.all (fun p=>Nat.blt p N)=true→t.size=N→(∀ n v,look E n=some v→t[n]?=some v) →
  ((ps.zip vs).foldl (fun t (p:Tmp×Value)=>t.setIfInBounds p.1 p.2) t).size=N∧∀ n v,look (putEs E ps vs) n=some v→((ps.zip vs).foldl (fun t (p:Tmp×Value)=>t.setIfInBounds p.1 p.2) t)[n]?=some v
 | [],vs,E,t,_,hs,h=>⟨by simpa using hs,fun n v hn=>by simpa [putEs] using h n v (by simpa [putEs] using hn)⟩
 | p::ps,[],E,t,_,hs,h=>⟨by simpa using hs,fun n v hn=>by simpa [putEs] using h n v (by simpa [putEs] using hn)⟩
 | p::ps,v::vs,E,t,hp,hs,h=>by
  simp only [List.all_cons,Zp] at hp
  simp only [List.zip_cons_cons,QG,putEs]
  refine sL ps vs ((p,v)::E) _ hp.2 (by simpa using hs) fun n u hn=>?_
  have hlt:p<t.size:=by rw [hs];exact Zx hp.1
  simp only [look] at hn
  by_cases e:n=p
  · subst e
    have hb:Nat.beq n n=true:=by simp
    rw [hb] at hn
    simp only [Zf,ZM] at hn
    subst hn
    simp [hlt]
  · rw [qx e] at hn
    simp only [Ze] at hn
    rw [Array.getElem?_setIfInBounds_ne (Ne.symm e)]
    exact h n u hn
theorem qB {r r':Res}:∀ (L:List Res),At r r' (L++[r]) (L++[r'])
 | []=>.here []
 | x::L=>.there x (qB L)
section
variable {P:Program} {N:Nat} {av bor:List Nat} {w0:World} {E:Env} {loc:List Res} {X:World→Prop} {K:Exit→St→Prop}
def lres (l:Nat) (r:Loop):Res:=⟨[l],fun w=>w.heap[l]?=some (.loop r)⟩
theorem Ca {α:Type} {g:Operand} {ps:List Tmp} {assign body:Code} {gf:Nat} {lb:List Value} {enc:α→List Value} {xs:List α} {X1:World→Prop}
  (hg:ev E g=some (.func (.func gf) #[] lb.toArray):=by rfl) (hf:FnBody P gf:=by infer_instance) (hit:It P gf lb X1 enc xs) (hX:∀ w,X w→X1 w:=by (first|exact fun _ _=>trivial|exact fun _ h=>h|exact fun _ h=>h.1|exact fun _ h=>h.2)) (hps:∀ x,(enc x).length=ps.length) (hpn:ps.all (fun p=>Nat.blt p N)=true:=by rfl)
  (Inv:List α→List Res→Prop) (h0:Inv [] loc)
  (hround:∀ l pre x suf loc1,xs=pre++x::suf→Inv pre loc1→∀ av bor w0,Cr P N av bor w0 l assign ⟨putEs E ps (enc x),loc1,X⟩ (only fun st1=>∀ av bor w0,Cr P N av bor w0 l body st1 (only fun st2=>∃ loc2,loc2.Sublist st2.loc∧Inv (pre++[x]) loc2)))
  (hdone:∀ loc1,Inv xs loc1→K .normal ⟨E,loc1,X⟩):Cw P N av bor w0 (.rangeFunc g ps.toArray assign body) ⟨E,loc,X⟩ K:=Cw.mk fun a w ok=>by
 refine (wpIn_wide (n:=0)).1 (wpIn_rangeFunc fun fn _=>?_)
 obtain ⟨rec,hrec⟩:∃ rec:LoopState→Option Code→Loop,rec=fun st pe=>{ state:=st,pending:=pe,fn,tmps:=a.tmps,params:=ps.toArray,assign,body,defers:=w.heap.size }:=⟨_,rfl⟩
 have G0:Gam av bor w0 (loc++mres a.defers) X w:=ok.gamM
 have G1:=(G0.new (.deferred (some [])) (fun w2=>w2.heap[w.heap.size]?=some (.deferred (some []))) fun _ h=>h).new (.loop (rec .ready none)) (fun w2=>w2.heap[(w.alloc (.deferred (some []))).heap.size]?=some (.loop (rec .ready none))) fun _ h=>h
 rw [World.size_alloc] at G1
 obtain ⟨W1,hW1⟩:∃ W1,(w.alloc (.deferred (some []))).alloc (.loop (rec .ready none))=W1:=⟨_,rfl⟩
 rw [hW1] at G1
 obtain ⟨l,hl⟩:∃ l,w.heap.size+1=l:=⟨_,rfl⟩
 obtain ⟨mk,hmk⟩:∃ mk:Deferred,mk={ target:=.collected w.heap.size,args:=#[] }:=⟨_,rfl⟩
 have hM:mres (mk::a.defers)=⟨[w.heap.size],fun w2=>w2.heap[w.heap.size]?=some (.deferred (some []))⟩::mres a.defers:=by subst hmk;rfl
 have G2:Gam av bor w0 ((lres l (rec .ready none)::loc)++mres (mk::a.defers)) X W1:=by
  rw [hM]
  refine G1.perm ?_
  subst hl
  exact List.Perm.cons _ List.perm_middle.symm
 refine ⟨l,[mk],W1,{ target:=.fn (.func gf) lb.toArray,args:=#[.func (.yield l) #[] #[]] },W1,gf,#[.func (.yield l) #[] #[]]++lb.toArray,W1,?_,?_,fun _ _=>trivial,?_,(fun h=>by cases h),?_⟩
 · rw [←hW1,hrec,←hl,hmk,Fence.wide_round]
   exact run_enterLoop_outer _ _ _ _ _
 · simp only [resolve,ok.eval (st:=⟨E,loc,X⟩) hg]
   simp [go_sem]
 · have eg:∀ args w,(callFunc gf args).run P w=.ok (.enter gf args) w:=fun args w=>j8 args w
   simp [invoke,go_sem,eg]
 · -- the function that is ranged over
   have hct:=hit l X (fun pre R=>∃ loc1,Inv pre loc1∧R=lres l (rec .ready none)::loc1) hX ?_ (lres l (rec .ready none)::loc) ⟨loc,h0,rfl⟩
   · have e2:(.func (.yield l) #[] #[]::lb:List Value).toArray=#[.func (.yield l) #[] #[]]++lb.toArray:=by simp
     rw [e2] at hct
     refine (callsIn_wide (n:=0)).2 ((hct.run W1 _ G2.start).mono fun e w' ⟨v,R',X',he,⟨loc1,hI,hR⟩,G'⟩=>?_)
     subst he
     subst hR
     have G3:=G2.frame G'
     have hl3:w'.heap[l]?=some (.loop (rec .ready none)):=(G3.here (lres l (rec .ready none)) (by simp)).now
     refine ⟨none,_,by have:=run_endLoop (P:=P) hl3 (by rw [hrec];simp);rw [hrec] at this;exact this,?_⟩
     refine ⟨⟨E,loc1,X⟩,hdone loc1 hI,ok.size,ok.env,?_⟩
     have G4:=G3.turn (w':=w'.putObj l (.loop { rec .ready none with state:=.exhausted })) (loc':=⟨[l],fun _=>True⟩::(loc1++mres (mk::a.defers))) (At.here _) rfl rfl rfl (by simp [World.putObj]) (fun i hi=>World.putObj_heap_other hi) (fun _ _=>trivial)
     have G5:=(G4.drop (List.sublist_cons_self _ _)).imp fun w h=>h.1
     rw [hrec] at G5
     exact G5
   · -- one round
     rintro pre x suf R hxs ⟨loc1,hI,rfl⟩ n W av' G
     have hlW:W.heap[l]?=some (.loop (rec .ready none)):=(G.here (lres l (rec .ready none)) (by simp)).now
     have hy:=run_yield (P:=P) (args:=(enc x).toArray) hlW (by rw [hrec];simpa using hps x)
     have hrp:∀ s q,(rec s q).params=ps.toArray∧(rec s q).tmps=a.tmps∧(rec s q).assign=assign∧(rec s q).body=body∧(rec s q).state=s:=fun s q=>by subst hrec;exact ⟨rfl,rfl,rfl,rfl,rfl⟩
     refine ⟨_,_,_,_,hy,roundIn_of_wpIn trivial ?_⟩
     rw [(hrp _ _).1,(hrp _ _).2.1,(hrp _ _).2.2.1,(hrp _ _).2.2.2.1]
     have Ga:Gam av' (fps (lres l (rec .ready none)::loc1)) W (loc1++[lres l (rec .ready none)]) X W:=G.perm (List.perm_append_singleton _ _).symm
     have hE:=sL (N:=N) ps (enc x) E a.tmps hpn ok.size ok.env
     have hz:(Array.foldl (fun (tmps:Array Value) (x:Tmp×Value)=>tmps.setIfInBounds x.1 x.2) a.tmps (ps.toArray.zip (enc x).toArray))=(ps.zip (enc x)).foldl (fun t (p:Tmp×Value)=>t.setIfInBounds p.1 p.2) a.tmps:=by simp
     have ok0:Ok N (av'++fps [lres l (rec .ready none)]) (fps loc1) W ⟨putEs E ps (enc x),loc1,X⟩ { tmps:=(ps.zip (enc x)).foldl (fun t (p:Tmp×Value)=>t.setIfInBounds p.1 p.2) a.tmps,defers:=[] } W:=⟨hE.1,hE.2,by simpa [mres] using Ga.start⟩
     refine wpIn_mono (F:=fen (some l)) (Q:=post N (av'++fps [lres l (rec .ready none)]) (fps loc1) W (only fun st1=>∀ av bor w0,Cr P N av bor w0 l body st1 (only fun st2=>∃ loc2,loc2.Sublist st2.loc∧Inv (pre++[x]) loc2))) ?_ ?_
     · have:=(hround l pre x suf loc1 hxs hI (av'++fps [lres l (rec .ready none)]) (fps loc1) W).run n _ _ ok0
       simpa using this
     · intro e a1 w1 q
       cases e with
       | panic _=>exact q
       | outgrown=>exact q
       | exit _=>obtain ⟨_,h,_⟩:=q;exact h.elim
       | goto _=>obtain ⟨_,h,_⟩:=q;exact h.elim
       | ret=>obtain ⟨_,h,_⟩:=q;exact h.elim
       | normal =>
        obtain ⟨st1,h1,ok1⟩:=q
        have Gb:=Ga.frame ok1.gamM
        have hl1:w1.heap[l]?=some (.loop (rec .ready none)):=(Gb.here (lres l (rec .ready none)) (by simp)).now
        refine ⟨_,run_beginRound hl1 (hrp _ _).2.2.2.2,?_⟩
        have hb:{ rec .ready none with state:=.busy }=rec .busy none:=by rw [hrec]
        rw [hb]
        have Gc:=Gb.turn (w':=w1.putObj l (.loop (rec .busy none))) (loc':=(st1.loc++mres a1.defers)++[lres l (rec .busy none)]) (qB _) rfl rfl rfl (by simp [World.putObj]) (fun i hi=>World.putObj_heap_other hi)
         (fun w2 h2=>by rw [h2];exact World.putObj_heap_same (QM.1 hl1).1)
        have ok1':=(h1 (av'++fps [lres l (rec .busy none)]) (fps (st1.loc++mres a1.defers)) (w1.putObj l (.loop (rec .busy none)))).run n a1 _ ⟨ok1.size,ok1.env,Gc.start.imp fun _ h=>h.2⟩
        refine wpIn_mono ok1' ?_
        intro e a2 w3 q
        cases e with
        | panic _=>exact q
        | outgrown=>exact q
        | exit _=>obtain ⟨_,h,_⟩:=q;exact h.elim
        | goto _=>obtain ⟨_,h,_⟩:=q;exact h.elim
        | ret=>obtain ⟨_,h,_⟩:=q;exact h.elim
        | normal =>
         obtain ⟨st2,⟨loc2,hs2,h2⟩,ok2⟩:=q
         have Gd:=Gc.frame ok2.gamM
         have hl3:w3.heap[l]?=some (.loop (rec .busy none)):=(Gd.here (lres l (rec .busy none)) (by simp)).now
         have he:{ rec .busy none with state:=if (none:Option Code).isNone then .ready else .done,pending:=none }=rec .ready none:=by rw [hrec];rfl
         have hr:=run_endRound (P:=P) none hl3
         rw [he] at hr
         have Ge:=Gd.turn (w':=w3.putObj l (.loop (rec .ready none))) (loc':=(st2.loc++mres a2.defers)++[lres l (rec .ready none)]) (qB _) rfl rfl rfl (by simp [World.putObj]) (fun i hi=>World.putObj_heap_other hi)
          (fun w2 h2=>by rw [h2];exact World.putObj_heap_same (QM.1 hl3).1)
         have Gf:=(Ge.drop (loc':=loc2++[lres l (rec .ready none)]) ((hs2.trans (QE _ _)).append_right _)).perm (List.perm_append_singleton _ _)
         exact ⟨_,_,hr,.bool true,lres l (rec .ready none)::loc2,_,rfl,⟨rfl,loc2,h2,rfl⟩,Gf⟩
end
end Go.Proofs.YtaolfiikahlmkaaGreatDoor.Sy
namespace Go.Proofs.YtaolfiikahlmkaaGreatDoor
open Go Go.Proofs Sy Go.RowKit Go.Deep Go.ChangeShapes
section
variable {H:Type} {enc:TypeId×Value→H} {P:Program} {w:World} {base:Nat} {spare:Nat→Bool} {held:Bool}
theorem aO {t:TypeId} {fs:Array Field} {fuel:Nat} {cs:List Value} {x:DataW H×List MemPlace} (ht:P.underlying t=some (.struct fs)) (h:DataW.trod enc P w base spare held fuel t cs=some x) {i:Nat} {f:Field} (hf:fs[i]?=some f) {off k:Nat} {t':TypeId} (ho:f.offset=off) (htt:f.type=t') (hk:P.cellsOf t'=k) :
  ∃ n y,DataW.trod enc P w base spare held n t' ((cs.drop off).take k)=some y:=by
 obtain ⟨xs,n,_,_,_,hlen,hg⟩:=DataW.trod_struct ht h
 have h1:=hg i f hf
 have hi:i<fs.size:=(QM.1 hf).1
 subst ho;subst htt;subst hk
 rw [Zb (by omega)] at h1
 exact ⟨n,_,h1⟩
theorem gm {α:Type} [Inhabited α] {t e:TypeId} {size fuel:Nat} {cs:List Value} {x:DataW H×List MemPlace} (ht:P.underlying t=some (.slice e)) (hc:P.cellsOf e=size) (cells:α→List Value) (Q:α→Prop)
  (each:∀ n cs y,DataW.trod enc P w base spare held n e cs=some y→∃ a,cs=cells a∧Q a) (h:DataW.trod enc P w base spare held fuel t cs=some x) :
  ∃ (s:SlV) (l:List α),cs=[s.v]∧RowsD w size s (l.map cells)∧∀ a∈l,Q a:=by
 rcases open_slice ht h with ⟨rfl,_⟩|⟨a,len,cap,m,n,D,Pl,rfl,hb,hl,hm,hmm,hx,hi⟩
 · exact ⟨⟨none,0,0⟩,[],rfl,bt w size,by simp⟩
 · have hlm:len≤m:=by rw [hmm];split<;>omega
   have h1:∀ i,i<len→∃ z:α,w.cells? base (a.add (i*size)) size=some (cells z)∧Q z:=fun i hil=>by
    obtain ⟨cs',h2,h3⟩:=hi i aa
    obtain ⟨z,rfl,hz⟩:=each _ _ _ h3
    rw [hc] at h2
    exact ⟨z,h2,hz⟩
   obtain ⟨F,hF⟩:=choose_lt h1
   refine ⟨⟨some a,len,cap⟩,(List.range len).map F,rfl,⟨by simp,hl,hm,fun i cs' hcs=>?_⟩,fun z hz=>?_⟩
   · simp only [Z0,Z7] at hcs
     have hil:i<len:=by
      cases hr:(List.range len)[i]? with
      | none=>rw [hr] at hcs;cases hcs
      | some k=>have:=(QL.1 hr).1;simpa using this
     rw [List.getElem?_range hil] at hcs
     simp only [Option.map_some,Function.comp_apply,ZM] at hcs
     subst hcs
     obtain ⟨_,hlen,hat⟩:=World.cells?_some (hF i hil).1
     refine ⟨hlen,rfl,fun j u hj=>⟨rfl,fun a' ha'=>?_⟩⟩
     obtain rfl:a=a':=Option.some.inj ha'
     rw [←Go.Deep.add_add,hat j (by rw [←hlen];exact (QL.1 hj).1),hj]
   · simp only [QJ,List.mem_range] at hz
     obtain ⟨i,hil,rfl⟩:=hz
     exact (hF i hil).2
theorem CellAt.keep {w':World} {p:Option Addr} {q:Nat} {u:Value} (h:CellAt w p q u) (hs:∀ k,k<w.heap.size→w'.heap[k]?=w.heap[k]?):CellAt w' p q u:=⟨h.1,fun a ha=>by
 have h1:=h.2 a ha
 have h2:(a.add q).block<w.heap.size:=by
  cases hh:w.heap[(a.add q).block]? with
  | none=>simp [World.cell?,hh] at h1
  | some o=>exact (QM.1 hh).1
 rw [World.cell?_of_block (w:=w) (hs _ h2),h1]⟩
theorem RowsD.keep {w':World} {size:Nat} {s:SlV} {xs:List (List Value)} (h:RowsD w size s xs) (hs:∀ k,k<w.heap.size→w'.heap[k]?=w.heap[k]?):RowsD w' size s xs :=
 ⟨h.len,h.cap,h.max,fun i cs hi=>⟨(h.row i cs hi).1,(h.row i cs hi).2.1,fun j u hj=>CellAt.keep ((h.row i cs hi).2.2 j u hj) hs⟩⟩
theorem CellsAt.keep {w':World} {g:Nat} {l:List Value} (h:CellsAt g l w) (hs:∀ k,k<w.heap.size→w'.heap[k]?=w.heap[k]?):CellsAt g l w':=fun j v hj=>by
 have h1:=h j v hj
 have h2:g<w.heap.size:=by
  cases hh:w.heap[g]? with
  | none=>simp [World.cell?,hh] at h1
  | some o=>exact (QM.1 hh).1
 rw [World.cell?_of_block (w:=w) (a:=⟨g,j,none⟩) (hs _ h2),h1]
theorem XC.keep {w':World} {c:ChainD} (h:XC c w) (hs:∀ k,k<w.heap.size→w'.heap[k]?=w.heap[k]?):XC c w' :=
 ⟨⟨RowsD.keep h.1.1 hs,fun a ha=>⟨RowsD.keep (h.1.2 a ha).1 hs,RowsD.keep (h.1.2 a ha).2 hs⟩⟩,⟨h.2.ini.keep hs,h.2.k.keep hs⟩⟩
theorem GF {n:Int} (h:(Lit.int .i64 n).wf=true):n<9223372036854775808:=by have:=(Go.bounds_i64 h).2;omega
theorem bp {fuel:Nat} {cs:List Value} {x:DataW H×List MemPlace} (h:DataW.trod enc Tryz.prog w base spare held fuel 3 cs=some x):∃ n:Int,cs=[.int .i64 n]∧n<9223372036854775808:=by
 obtain ⟨n,h1,_,h3⟩:=DataW.trod_int Tryz.underlying3 h
 exact ⟨n,h1,GF h3⟩
theorem bV {fuel:Nat} {cs:List Value} {x:DataW H×List MemPlace} (h:DataW.trod enc Tryz.prog w base spare held fuel 9 cs=some x):∃ s:ByteArray,cs=[.string s]∧s.size≤maxLen:=by
 obtain ⟨s,h1,_,h3⟩:=DataW.trod_string Tryz.underlying9 h
 exact ⟨s,h1,h3⟩
theorem qa {fuel:Nat} {cs:List Value} {x:DataW H×List MemPlace} (h:DataW.trod enc Tryz.prog w base spare held fuel 39 cs=some x):∃ (s:SlV) (l:List ByteArray),cs=[s.v]∧Strs w s l:=by
 obtain ⟨s,l,h1,h2,_⟩:=gm (α:=ByteArray) Tryz.underlying39 (size:=1) ae (fun s=>[.string s]) (fun _=>True) (fun n cs y hy=>by obtain ⟨s,h1,_⟩:=bV hy;exact ⟨s,h1,trivial⟩) h
 exact ⟨s,l,h1,h2⟩
theorem fX {t:TypeId} {fs:Array Field} {P:Program} {fuel k:Nat} {cs:List Value} {x:DataW H×List MemPlace} (ht:P.underlying t=some (.struct fs)) (hk:P.cellsOf t=k) (h:DataW.trod enc P w base spare held fuel t cs=some x):cs.length=k:=by
 obtain ⟨xs,n,_,_,h1,_,_⟩:=DataW.trod_struct ht h
 rw [h1,hk]
theorem rJ {fuel:Nat} {cs:List Value} {x:DataW H×List MemPlace} (h:DataW.trod enc Tryz.prog w base spare held fuel 41 cs=some x):∃ b:BoxD,cs=b.cells:=by
 have hl:=fX Tryz.underlying41 (k:=3) ae h
 obtain ⟨n0,y0,h0⟩:=aO (i:=0) (off:=0) (k:=1) (t':=9) Tryz.underlying41 h rfl rfl rfl ae
 obtain ⟨n1,y1,h1⟩:=aO (i:=1) (off:=1) (k:=1) (t':=9) Tryz.underlying41 h rfl rfl rfl ae
 obtain ⟨n2,y2,h2⟩:=aO (i:=2) (off:=2) (k:=1) (t':=9) Tryz.underlying41 h rfl rfl rfl ae
 match cs,hl with
 | [c0,c1,c2],_ =>
  obtain ⟨s0,e0,_⟩:=bV h0
  obtain ⟨s1,e1,_⟩:=bV h1
  obtain ⟨s2,e2,_⟩:=bV h2
  simp at e0 e1 e2
  exact ⟨⟨s0,s1,s2⟩,by rw [e0,e1,e2];rfl⟩
theorem xR {fuel:Nat} {cs:List Value} {x:DataW H×List MemPlace} (h:DataW.trod enc Tryz.prog w base spare held fuel 112 cs=some x):∃ b:WrapD,cs=b.cells∧b.to<9223372036854775808∧b.eph<9223372036854775808:=by
 have hl:=fX Tryz.underlying112 (k:=5) ae h
 obtain ⟨n0,y0,h0⟩:=aO (i:=0) (off:=0) (k:=1) (t':=3) Tryz.underlying112 h rfl rfl rfl ae
 obtain ⟨n1,y1,h1⟩:=aO (i:=1) (off:=1) (k:=1) (t':=3) Tryz.underlying112 h rfl rfl rfl ae
 obtain ⟨n2,y2,h2⟩:=aO (i:=2) (off:=2) (k:=3) (t':=41) Tryz.underlying112 h rfl rfl rfl ae
 match cs,hl with
 | [c0,c1,c2,c3,c4],_ =>
  obtain ⟨s0,e0,b0⟩:=bp h0
  obtain ⟨s1,e1,b1⟩:=bp h1
  obtain ⟨s2,e2⟩:=rJ h2
  simp [BoxD.cells] at e0 e1 e2
  exact ⟨⟨s0,s1,s2⟩,by simp [WrapD.cells,e0,e1,e2],b0,b1⟩
theorem un {fuel:Nat} {cs:List Value} {x:DataW H×List MemPlace} (h:DataW.trod enc Tryz.prog w base spare held fuel 42 cs=some x):∃ (s:SlV) (l:List WrapD),cs=[s.v]∧Wraps w s l∧∀ b∈l,b.to<9223372036854775808∧b.eph<9223372036854775808:=by
 haveI:Inhabited WrapD:=⟨⟨0,0,BoxD.zero⟩⟩
 exact gm (α:=WrapD) Tryz.underlying42 (size:=5) ae WrapD.cells _ (fun n cs y hy=>xR hy) h
theorem jB {fuel:Nat} {cs:List Value} {x:DataW H×List MemPlace} (h:DataW.trod enc Tryz.prog w base spare held fuel 44 cs=some x):∃ e s:Int,cs=[.int .i64 e,.int .i64 s]∧e<9223372036854775808∧s<9223372036854775808:=by
 have hl:=fX Tryz.underlying44 (k:=2) ae h
 obtain ⟨n0,y0,h0⟩:=aO (i:=0) (off:=0) (k:=1) (t':=3) Tryz.underlying44 h rfl rfl rfl ae
 obtain ⟨n1,y1,h1⟩:=aO (i:=1) (off:=1) (k:=1) (t':=3) Tryz.underlying44 h rfl rfl rfl ae
 match cs,hl with
 | [c0,c1],_ =>
  obtain ⟨s0,e0,b0⟩:=bp h0
  obtain ⟨s1,e1,b1⟩:=bp h1
  simp at e0 e1
  exact ⟨s0,s1,by rw [e0,e1],b0,b1⟩
theorem A8 {fuel:Nat} {cs:List Value} {x:DataW H×List MemPlace} (h:DataW.trod enc Tryz.prog w base spare held fuel 46 cs=some x):∃ a:ActD,cs=a.cells∧a.at_ w∧a.Rng∧a.target.size≤maxLen:=by
 have hl:=fX Tryz.underlying46 (k:=20) ae h
 obtain ⟨n0,y0,h0⟩:=aO (i:=0) (off:=0) (k:=1) (t':=9) Tryz.underlying46 h rfl rfl rfl ae
 obtain ⟨n1,y1,h1⟩:=aO (i:=1) (off:=1) (k:=1) (t':=3) Tryz.underlying46 h rfl rfl rfl ae
 obtain ⟨n2,y2,h2⟩:=aO (i:=2) (off:=2) (k:=1) (t':=9) Tryz.underlying46 h rfl rfl rfl ae
 obtain ⟨n3,y3,h3⟩:=aO (i:=3) (off:=3) (k:=1) (t':=3) Tryz.underlying46 h rfl rfl rfl ae
 obtain ⟨n4,y4,h4⟩:=aO (i:=4) (off:=4) (k:=1) (t':=3) Tryz.underlying46 h rfl rfl rfl ae
 obtain ⟨n5,y5,h5⟩:=aO (i:=5) (off:=5) (k:=1) (t':=9) Tryz.underlying46 h rfl rfl rfl ae
 obtain ⟨n6,y6,h6⟩:=aO (i:=6) (off:=6) (k:=1) (t':=9) Tryz.underlying46 h rfl rfl rfl ae
 obtain ⟨n7,y7,h7⟩:=aO (i:=7) (off:=7) (k:=1) (t':=3) Tryz.underlying46 h rfl rfl rfl ae
 obtain ⟨n8,y8,h8⟩:=aO (i:=8) (off:=8) (k:=1) (t':=9) Tryz.underlying46 h rfl rfl rfl ae
 obtain ⟨n9,y9,h9⟩:=aO (i:=9) (off:=9) (k:=1) (t':=39) Tryz.underlying46 h rfl rfl rfl ae
 obtain ⟨n10,y10,h10⟩:=aO (i:=10) (off:=10) (k:=1) (t':=9) Tryz.underlying46 h rfl rfl rfl ae
 obtain ⟨n11,y11,h11⟩:=aO (i:=11) (off:=11) (k:=3) (t':=41) Tryz.underlying46 h rfl rfl rfl ae
 obtain ⟨n12,y12,h12⟩:=aO (i:=12) (off:=14) (k:=1) (t':=3) Tryz.underlying46 h rfl rfl rfl ae
 obtain ⟨n13,y13,h13⟩:=aO (i:=13) (off:=15) (k:=1) (t':=42) Tryz.underlying46 h rfl rfl rfl ae
 obtain ⟨n14,y14,h14⟩:=aO (i:=14) (off:=16) (k:=1) (t':=3) Tryz.underlying46 h rfl rfl rfl ae
 obtain ⟨n15,y15,h15⟩:=aO (i:=15) (off:=17) (k:=1) (t':=3) Tryz.underlying46 h rfl rfl rfl ae
 obtain ⟨n16,y16,h16⟩:=aO (i:=16) (off:=18) (k:=2) (t':=44) Tryz.underlying46 h rfl rfl rfl ae
 match cs,hl with
 | [c0,c1,c2,c3,c4,c5,c6,c7,c8,c9,c10,c11,c12,c13,c14,c15,c16,c17,c18,c19],_ =>
  obtain ⟨s0,e0,b0⟩:=bV h0
  obtain ⟨s1,e1,b1⟩:=bp h1
  obtain ⟨s2,e2,b2⟩:=bV h2
  obtain ⟨s3,e3,b3⟩:=bp h3
  obtain ⟨s4,e4,b4⟩:=bp h4
  obtain ⟨s5,e5,b5⟩:=bV h5
  obtain ⟨s6,e6,b6⟩:=bV h6
  obtain ⟨s7,e7,b7⟩:=bp h7
  obtain ⟨s8,e8,b8⟩:=bV h8
  obtain ⟨s9,l9,e9,b9⟩:=qa h9
  obtain ⟨s10,e10,b10⟩:=bV h10
  obtain ⟨s11,e11⟩:=rJ h11
  obtain ⟨s12,e12,b12⟩:=bp h12
  obtain ⟨s13,l13,e13,b13,r13⟩:=un h13
  obtain ⟨s14,e14,b14⟩:=bp h14
  obtain ⟨s15,e15,b15⟩:=bp h15
  obtain ⟨s16,s17,e16,b16,b17⟩:=jB h16
  simp [BoxD.cells] at e0 e1 e2 e3 e4 e5 e6 e7 e8 e9 e10 e11 e12 e13 e14 e15 e16
  refine ⟨⟨s0,s1,s2,s3,s4,s5,s6,s7,s8,s9,s10,s11,s12,s13,s14,s15,s16,s17,l9,l13⟩,?_,⟨b9,b13⟩,⟨⟨b1,b3,b4,b7,b12,b14,b15,b16,b17⟩,r13,by have:=RowsD.len b9;simpa [strs] using this,by have:=RowsD.len b13;simpa using this⟩,b6⟩
  simp [ActD.cells,e0,e1,e2,e3,e4,e5,e6,e7,e8,e9,e10,e11,e12,e13,e14,e15,e16]
end
end Go.Proofs.YtaolfiikahlmkaaGreatDoor
namespace Go.Proofs.YtaolfiikahlmkaaGreatDoor
open Go Go.Proofs Sy Go.RowKit Go.Deep Go.ChangeShapes
section
variable {H:Type} {enc:TypeId×Value→H} {P:Program} {w:World} {base:Nat} {spare:Nat→Bool} {held:Bool}
theorem iK {fuel:Nat} {cs:List Value} {x:DataW H×List MemPlace} (h:DataW.trod enc Tryz.prog w base spare held fuel 39 cs=some x):∃ (s:SlV) (l:List ByteArray),cs=[s.v]∧Strs w s l∧∀ x∈l,x.size≤maxLen:=by
 obtain ⟨s,l,h1,h2,h3⟩:=gm (α:=ByteArray) Tryz.underlying39 (size:=1) ae (fun s=>[.string s]) (fun s=>s.size≤maxLen) (fun n cs y hy=>by obtain ⟨s,h1,h2⟩:=bV hy;exact ⟨s,h1,h2⟩) h
 exact ⟨s,l,h1,h2,h3⟩
end
end Go.Proofs.YtaolfiikahlmkaaGreatDoor
namespace Go.Proofs.YtaolfiikahlmkaaGreatDoor
open Go Go.Proofs Sy
def draftV (c:ChainD) (k t:Int):ActD:={ ActD.zero with author:=c.id,seq:=(c.acts.n:Int),prev:=c.prev,kind:=k,time:=t }
theorem B7 (c:ChainD) (k t:Int):Pu Tryz.prog 34 #[c.v,.int .i64 k,.int .i64 t] (fun _=>True) (draftV c k t).v:=by
 refine ak (args:=[_,_,_]) _ Tryz.func34 rfl Tryz.ntmps34 rfl fun av bor w0=>?_
 repeat' (first|refine gs ?_|refine gs1 fun _=>?_|(refine aD (cs:=(draftV c k t).cells) (hf:=by rfl) ?_)|(refine gp ?_ ?_<;>intro hx_ this)|fail)
 exact ad (cL rfl rfl aW (by rfl)) rfl
def undoK (k:Int):Bool:=decide (k=4)||decide (k=5)||decide (k=7)||decide (k=8)||decide (k=10)||decide (k=11)||decide (k=17)||decide (k=23)
theorem qM (k:Int):Pu Tryz.prog 192 #[.int .i64 k] (fun _=>True) (.bool (undoK k)):=by
 refine ak (args:=[_]) _ Tryz.func192 rfl Tryz.ntmps192 rfl fun av bor w0=>?_
 repeat' (first|refine gs ?_|(refine gp ?_ ?_<;>intro hx_ this)|fail)
 (all_goals (apply ad;apply ag;rfl;rfl));all_goals first|rfl|(simp only [undoK, *,Zt,Zr,Zf,Ze,Zh,Zg,Zk,Zj,Zn,Zl,Zs,Zm,Zq,Zi];done)|(simp_all [undoK];done)
def atK (c:ChainD) (o:Option Nat) (p:Int→Bool):Bool:=match o with
 | some j=>p (c.actsL.getD j ActD.zero).kind
 | none=>false
def fitsV (c:ChainD) (a:ActD) (pl:Option Nat):Bool :=
 bif !rightB a||!seqB a.author c.id||!decide (a.seq=(c.acts.n:Int))||!seqB a.prev c.prev then false
 else bif decide (a.kind=0) != decide ((c.acts.n:Int)=0) then false
 else bif decide (a.kind=6) then atK c pl undoK
 else bif decide (a.kind=13)||decide (a.kind=14) then atK c pl postK else true
set_option maxRecDepth 20000 in
theorem Ei (c:ChainD) (a:ActD) (gf:Nat) [FnBody Tryz.prog gf] (lb:List Value) (pl:Option Nat) (Y:World→Prop) (hpl:Pu Tryz.prog gf (.string a.object::lb).toArray Y (idxP pl)) (hlt:∀ j,pl=some j→j<c.actsL.length) :
  Pu Tryz.prog 119 #[c.v,a.v,.func (.func gf) #[] lb.toArray] (fun w=>c.at_ w∧a.at_ w∧Y w) (.bool (fitsV c a pl)):=by
 refine ak (args:=[_,_,_]) _ Tryz.func119 rfl Tryz.ntmps119 rfl fun av bor w0=>?_
 refine aP (p:=c.acts.n=c.actsL.length∧c.acts.n≤maxLen∧(0<c.actsL.length→c.acts.p.isSome=true)) (fun w h=>⟨h.1.len_,h.1.max_,h.1.some_⟩) fun ⟨hl,hm,hp⟩=>?_
 simp only [maxLen] at hm
 have hri:=dY a
 cases hB:(!rightB a||!seqB a.author c.id||!decide (a.seq=(c.acts.n:Int))||!seqB a.prev c.prev) with
 | true =>
  rw [show fitsV c a pl=false from by rw [fitsV,hB];rfl]
  repeat' (first|(refine ab (hc:=hri) (hX:=fun _ h=>h.2.1) ?_)|refine gs ?_|refine gs1 fun _=>?_|(refine gp ?_ ?_<;>intro hx_ this)|fail)
  all_goals first
   | (apply ad;apply ag;rfl;rfl;rfl)
   | (exfalso;simp_all;done)
 | false =>
  have hB':=hB
  simp only [Ql,Bool.not_eq_false',Zw] at hB'
  obtain ⟨⟨⟨e1,e2⟩,e3⟩,e4⟩:=hB'
  rw [e1] at hri
  cases hK:(decide (a.kind=0) != decide ((c.acts.n:Int)=0)) with
  | true =>
   rw [show fitsV c a pl=false from by rw [fitsV,hB,hK];rfl]
   repeat' (first|refine gB (hab:=e3) ?_|(refine ab (hc:=hri) (hX:=fun _ h=>h.2.1) ?_)|refine gs ?_|refine gs1 fun _=>?_|(refine gp ?_ ?_<;>intro hx_ this)|fail)
   all_goals first
    | (apply ad;apply ag;rfl;rfl;rfl)
    | (exfalso;simp_all;done)
  | false =>
   have hF:fitsV c a pl=(bif decide (a.kind=6) then atK c pl undoK else bif decide (a.kind=13)||decide (a.kind=14) then atK c pl postK else true):=by rw [fitsV,hB,hK];rfl
   rw [hF]
   cases pl with
   | none =>
    have hpl':Pu Tryz.prog gf (.string a.object::lb).toArray Y (.tuple #[.int .i64 0,.bool false]):=hpl
    repeat' (first|refine gB (hab:=e3) ?_|(refine ab (hc:=hri) (hX:=fun _ h=>h.2.1) ?_)|(refine fq (hc:=hpl') (hX:=fun _ h=>h.2.2) (h:=?_))|refine gs ?_|refine gs1 fun _=>?_|(refine gp ?_ ?_<;>intro hx_ this)|fail)
    all_goals first
     | (exfalso;simp_all;done)
     | (apply ad;apply ag;rfl;rfl;simp_all [atK];done)
   | some j =>
    have hjl:=hlt j rfl
    have hp':=hp aa
    obtain ⟨x,hx⟩:∃ x,c.actsL[j]?=some x:=⟨_,Zb hjl⟩
    have hA:∀ p,atK c (some j) p=p x.kind:=fun p=>by simp only [atK,Zo,hx,Qe]
    rw [hA,hA] at hF ⊢
    have hpl':Pu Tryz.prog gf (.string a.object::lb).toArray Y (.tuple #[.int .i64 (j:Nat),.bool true]):=hpl
    clear hpl
    repeat' (first|refine gB (hab:=e3) ?_|(refine ab (hc:=hri) (hX:=fun _ h=>h.2.1) ?_)|(refine fq (hc:=hpl') (hX:=fun _ h=>h.2.2) (h:=?_))|refine ab (hc:=qM x.kind) ?_|refine ab (hc:=uk x.kind) ?_|refine gs ?_|refine gs1 fun _=>?_|(refine aI (q:=j*20) ?_)|(refine je ?_)|(refine dc (q:=j*20+3) (u:=.int .i64 x.kind) (hF:=fun w h=>(Acts.get h.1 hx).2.2 3 _ rfl) ?_)|(refine gp ?_ ?_<;>intro hx_ this)|fail)
    all_goals first
     | (exfalso;simp_all;done)
     | (apply ad;apply ag;rfl;rfl;simp_all;done)
end Go.Proofs.YtaolfiikahlmkaaGreatDoor
namespace Go.Proofs.YtaolfiikahlmkaaGreatDoor
open Go Go.Proofs Sy
structure KeyD where
 from_:Int
 public_:Int
 home:Int
def KeyD.cells (k:KeyD):List Value:=[.int .i64 k.from_,.int .i64 k.public_,.int .i64 k.home]
def KeyD.v (k:KeyD):Value:=.agg k.cells.toArray
def KeyD.zero:KeyD:=⟨0,0,0⟩
def Keyz (w:World) (s:SlV) (l:List KeyD):Prop:=RowsD w 3 s (l.map KeyD.cells)
namespace Sy
section
variable {P:Program} {N:Nat} {av bor:List Nat} {w0:World} {ops:Array Oper} {rest:List Oper} {E:Env} {loc:List Res} {X:World→Prop} {k:St→Prop} {ty:TypeId} {pos:String} {af:Array Edge} {g:Option (Nat×Bool)} {bb want:Bool}
end
end Sy
end Go.Proofs.YtaolfiikahlmkaaGreatDoor
namespace Go.Proofs.YtaolfiikahlmkaaGreatDoor
open Go Go.Proofs Sy
structure ChS where
 acts:List ActD
 keys:List KeyD
 prev:ByteArray
 gen:Nat
structure OfW where
 L:List ActD
 id:ByteArray
 won:Nat→Option ClaimD
 clm:Int→ClaimD→Bool
 dgC:ClaimD→ByteArray
 ver:Int→ActD→Bool
 B:Nat
def ChS.key (st:ChS):Int:=(st.keys.getD (st.keys.length-1) KeyD.zero).public_
def ChS.ch (st:ChS) (id:ByteArray):ChainD:=⟨id,⟨none,st.acts.length,0⟩,⟨none,0,0⟩,st.prev,(st.gen:Int),false,st.acts⟩
def posB (n:Nat) (p:ByteArray) (a:ActD):Bool:=decide (a.seq=(n:Int))&&seqB a.prev p
def addS (st:ChS) (a:ActD):ChS:=⟨st.acts++[a],bif decide (a.kind=18) then st.keys++[⟨((st.acts.length+1:Nat):Int),a.n,a.m⟩] else st.keys,digV a,st.gen⟩
def setI (l:List ActD):Nat→Option Nat
 | 0=>none
 | n+1=>bif decide ((l.getD n ActD.zero).kind=19) then some n else setI l n
def regS (W:OfW) (st:ChS):Option ChS:=match W.won st.gen with
 | none=>none
 | some c=>bif decide (c.base=(st.acts.length:Int))&&seqB c.prev st.prev then (match setI st.acts st.acts.length with
  | none=>none
  | some i=>bif W.clm (st.acts.getD i ActD.zero).m c then some ⟨st.acts,st.keys++[⟨(st.acts.length:Nat),c.pub,c.home⟩],W.dgC c,st.gen+1⟩ else none) else none
def candB (W:OfW) (st:ChS) (a:ActD):Bool:=fitsV (st.ch W.id) a (idxV st.acts a.object)&&W.ver st.key a
def candL (W:OfW) (st:ChS):List ActD:=(W.L.filter (posB st.acts.length st.prev)).filter (candB W st)
def oneA:List ActD→Option ActD
 | [a]=>some a
 | _=>none
def stepS (W:OfW) (st:ChS):Option ChS:=match regS W st with
 | some s=>some s
 | none=>(oneA (candL W st)).map (addS st)
def runS (W:OfW):Nat→ChS→ChS
 | 0,st=>st
 | n+1,st=>match stepS W st with
  | some s=>runS W n s
  | none=>st
def firstB (W:OfW) (a:ActD):Bool:=decide (a.kind=0)&&seqB (idV a.n) W.id&&W.ver a.n a
def firstL (W:OfW):List ActD:=(W.L.filter (posB 0 ⟨#[]⟩)).filter (firstB W)
def begS (a:ActD):ChS:=addS ⟨[],[⟨0,a.n,a.m⟩],⟨#[]⟩,0⟩ a
def finS (W:OfW) (a:ActD):ChS:=runS W (W.L.length+W.B) (begS a)
structure InvS (W:OfW) (st:ChS):Prop where
 seq:∀ i,i<st.acts.length→∃ a∈W.L,a.seq=(i:Int)
 mem:∀ a∈st.acts,a∈W.L
 one:0<st.acts.length
 key:0<st.keys.length
 keyn:st.keys.length≤st.acts.length+st.gen+1
 gen:st.gen≤W.B
theorem kj:∀ {n:Nat} {l:List Int},(∀ i,i<n→(i:Int)∈l)→n≤l.length
 | 0,l,_=>Z4 _
 | n+1,l,h=>by
  have ih:=kj (n:=n) (l:=l.erase (n:Int)) fun i hi=>(List.mem_erase_of_ne aa).2 (h i aa)
  have hm:=h n (Nat.lt_succ_self n)
  rw [List.length_erase_of_mem hm] at ih
  have:0<l.length:=List.length_pos_of_mem hm
  omega
theorem InvS.len {W:OfW} {st:ChS} (h:InvS W st):st.acts.length≤W.L.length:=by
 have:=kj (n:=st.acts.length) (l:=W.L.map ActD.seq) fun i hi=>by
  obtain ⟨a,ha,e⟩:=h.seq i hi
  exact QJ.2 ⟨a,ha,e⟩
 simpa using this
def muS (W:OfW) (st:ChS):Nat:=(W.L.length-st.acts.length)+(W.B-st.gen)
theorem gu {l:List ActD} {a:ActD} (h:oneA l=some a):l=[a]:=by
 cases l with
 | nil=>cases h
 | cons x r =>
  cases r with
  | nil=>rw [oneA,ZM] at h;rw [h]
  | cons y r=>cases h
theorem oK {W:OfW} {st s:ChS} (h:regS W st=some s):∃ c,W.won st.gen=some c∧s.acts=st.acts∧s.gen=st.gen+1∧s.keys.length=st.keys.length+1:=by
 rw [regS] at h
 cases hw:W.won st.gen with
 | none=>rw [hw] at h;cases h
 | some c =>
  rw [hw] at h
  simp only at h
  cases hb:decide (c.base=(st.acts.length:Int))&&seqB c.prev st.prev with
  | false=>rw [hb] at h;cases h
  | true =>
   rw [hb] at h
   cases hs:setI st.acts st.acts.length with
   | none=>rw [hs] at h;cases h
   | some i =>
    rw [hs] at h
    simp only [Zf] at h
    cases hc:W.clm (st.acts.getD i ActD.zero).m c with
    | false=>rw [hc] at h;cases h
    | true =>
     rw [hc,Zf,ZM] at h
     subst h
     exact ⟨c,rfl,rfl,rfl,by simp⟩
theorem jU {W:OfW} {st:ChS} {a:ActD} (h:a∈candL W st):a∈W.L∧a.seq=(st.acts.length:Int)∧candB W st a=true:=by
 rw [candL,QN,QN] at h
 have h2:=h.1.2
 simp only [posB,Zp,Zw] at h2
 exact ⟨h.1.1,h2.1,h.2⟩
theorem yJ (st:ChS) (a:ActD):st.keys.length≤(addS st a).keys.length∧(addS st a).keys.length≤st.keys.length+1:=by
 simp only [addS]
 cases decide (a.kind=18) with
 | true=>simp
 | false=>simp
theorem jn {W:OfW} (hB:∀ g c,W.won g=some c→g<W.B) {st s:ChS} (h:InvS W st) (hs:stepS W st=some s):InvS W s∧muS W s+1≤muS W st:=by
 have hl:=h.len
 rw [stepS] at hs
 cases hr:regS W st with
 | some s' =>
  rw [hr,ZM] at hs
  subst hs
  obtain ⟨c,h1,h2,h3,h4⟩:=oK hr
  have:=hB _ _ h1
  refine ⟨⟨by rw [h2];exact h.seq,by rw [h2];exact h.mem,by rw [h2];exact h.one,by omega,by rw [h2,h3];have:=h.keyn;omega,by omega⟩,?_⟩
  simp only [muS,h2,h3]
  omega
 | none =>
  rw [hr] at hs
  cases ho:oneA (candL W st) with
  | none=>rw [ho] at hs;cases hs
  | some a =>
   rw [ho,Option.map_some,ZM] at hs
   subst hs
   have ha:a∈candL W st:=by rw [gu ho];exact Z5.2 rfl
   obtain ⟨m1,m2,m3⟩:=jU ha
   have hk:=yJ st a
   have hal:(addS st a).acts.length=st.acts.length+1:=by simp [addS]
   have hI:InvS W (addS st a):=⟨fun i hi=>by
     rw [hal] at hi
     by_cases e:i=st.acts.length
     · subst e;exact ⟨a,m1,m2⟩
     · exact h.seq i aa,fun x hx=>by
     rcases Qy.1 (show x∈st.acts++[a] from hx) with hx|hx
     · exact h.mem x hx
     · rw [Z5.1 hx];exact m1,by omega,by have:=h.key;omega,by rw [hal];have:=h.keyn;show _≤_+st.gen+1;omega,h.gen⟩
   refine ⟨hI,?_⟩
   have:=hI.len
   simp only [muS,hal] at *
   show _+(W.B-st.gen)+1≤_
   omega
theorem fK {W:OfW} {st:ChS} (h:stepS W st=none):∀ n,runS W n st=st
 | 0=>rfl
 | n+1=>by rw [runS,h]
theorem eM {W:OfW} {st s:ChS} (h:stepS W st=some s) {n:Nat}:runS W (n+1) st=runS W n s:=by rw [runS,h]
theorem qy {W:OfW} {a:ActD} (ha:a∈firstL W):InvS W (begS a)∧muS W (begS a)+1≤W.L.length+W.B:=by
 rw [firstL,QN,QN] at ha
 have h2:=ha.1.2
 simp only [posB,Zp,Zw] at h2
 have h3:=ha.2
 simp only [firstB,Zp,Zw] at h3
 have hk:begS a=⟨[a],[⟨0,a.n,a.m⟩],digV a,0⟩:=by
  rw [begS,addS,h3.1.1]
  rfl
 have hL:0<W.L.length:=List.length_pos_of_mem ha.1.1
 rw [hk]
 refine ⟨⟨fun i hi=>⟨a,ha.1.1,by rw [h2.1,show i=0 from by simpa using hi]⟩,fun x hx=>by rw [Z5.1 hx];exact ha.1.1,by simp,by simp,by simp,Z4 _⟩,?_⟩
 simp only [muS,List.length_singleton]
 omega
end Go.Proofs.YtaolfiikahlmkaaGreatDoor
namespace Go.Proofs.YtaolfiikahlmkaaGreatDoor.Sy
open Go Go.RowKit Go.MapKept
class KeyS (P:Program) (kt:TypeId) (κ:Type) [DecidableEq κ] where
 enc:κ→Value
 inj:∀ a b,enc a=enc b→a=b
 check:∀ (w:World) e a,(Instr.checkKey e 10000 kt (enc a)).run P w=.ok () w
 eq:∀ (w:World) a b,(Op.equal kt (enc a) (enc b)).run P w=.ok (decide (a=b)) w
 ask:∀ d a b,P.underlying kt=some d→Instr.sameNow d (enc a) (enc b)=none
 stay:∀ (w:World) a,(Instr.keyThatStays (enc a) (enc a)).run P w=.ok (enc a) w
section
variable {κ:Type} [DecidableEq κ] {β:Type}
def dget:List (κ×β)→κ→Option β
 | [],_=>none
 | (k',v')::r,k=>bif decide (k=k') then some v' else dget r k
def dput:List (κ×β)→κ→β→List (κ×β)
 | [],k,v=>[(k,v)]
 | (k',v')::r,k,v=>bif decide (k=k') then (k,v)::r else (k',v')::dput r k v
theorem kB:∀ (b:List (κ×β)) (k a:κ) (v:β),dget (dput b k v) a=bif decide (a=k) then some v else dget b a
 | [],k,a,v=>rfl
 | (k',v')::r,k,a,v=>by
  have ih:=kB r k a v
  simp only [dput]
  by_cases hk:k=k'
  · subst hk
    simp only [Zt,Zf,dget]
    cases decide (a=k)<;>rfl
  · simp only [hk,Zr,Ze,dget,ih]
    by_cases ha:a=k'
    · subst ha
      have:¬ a=k:=fun e=>hk e.symm
      simp [this]
    · simp [ha]
theorem sO:∀ {b:List (κ×β)} {k:κ} {v:β},dget b k=some v→(k,v)∈b
 | (k',v')::r,k,v,h=>by
  simp only [dget] at h
  by_cases hk:k=k'
  · simp only [hk,Zt,Zf,ZM] at h
    rw [hk,h]
    exact aw
  · simp only [hk,Zr,Ze] at h
    exact Zv _ (sO h)
end
section
variable {P:Program} {kt:TypeId} {κ:Type} [DecidableEq κ] [K:KeyS P kt κ]
def SMapAt (P:Program) (kt:TypeId) {κ:Type} [DecidableEq κ] [K:KeyS P kt κ] (w:World) (g:Nat) (l:List (κ×Value)):Prop :=
 ∃ es clock,w.heap[g]?=some (.map es clock)∧Stamped es clock∧es.toList.map (fun e=>(e.key,e.val))=l.map fun p=>(K.enc p.1,p.2)
def smapr (P:Program) (kt:TypeId) {κ:Type} [DecidableEq κ] [K:KeyS P kt κ] (g:Nat) (l:List (κ×Value)):Res:=⟨[g],fun w=>SMapAt P kt w g l⟩
theorem kx (w:World) (k:κ):∀ (es:List MapEntry) (l:List (κ×Value)) (i:Nat),es.map (fun e=>(e.key,e.val))=l.map (fun p=>(K.enc p.1,p.2)) →
  ((Instr.findAsking kt (K.enc k) es i).run P w=.ok none w∧dget l k=none∧(∀ v,dput l k v=l++[(k,v)])∧∀ x∈es,x.key≠K.enc k) ∨
  ∃ j e v0,(Instr.findAsking kt (K.enc k) es i).run P w=.ok (some (i+j,v0)) w∧es[j]?=some e∧e.key=K.enc k∧dget l k=some v0∧∀ v,dput l k v=l.set j (k,v)
 | [],l,i,h=>by
  have:l=[]:=by cases l<;>simp_all
  subst this
  exact .inl ⟨rfl,rfl,fun _=>rfl,by simp⟩
 | e::es,[],i,h=>by simp at h
 | e::es,(k',v')::l,i,h=>by
  simp only [Z1,List.cons.injEq,Prod.mk.injEq] at h
  obtain ⟨⟨h1,h2⟩,h3⟩:=h
  have hs:(Op.equal kt (K.enc k) e.key).run P w=.ok (decide (k=k')) w:=by rw [h1];exact K.eq w k k'
  by_cases hb:k=k'
  · subst hb
    exact .inr ⟨0,e,v',by simp [Instr.findAsking,hs,h2,Result.andThen],rfl,h1,by simp [dget],fun v=>by simp [dput]⟩
  · have hne:e.key≠K.enc k:=fun q=>hb (K.inj _ _ (q.symm.trans h1))
    rcases kx w k es l (i+1) h3 with ⟨g1,g2,g3,g4⟩|⟨j,e',v0,g1,g2,g3,g4,g5⟩
    · exact .inl ⟨by simp [Instr.findAsking,hs,hb,g1,Result.andThen],by simp [dget,hb,g2],fun v=>by simp [dput,hb,g3],fun x hx=>by
       cases hx with
       | head=>exact hne
       | tail _ hx=>exact g4 x hx⟩
    · exact .inr ⟨j+1,e',v0,by simp [Instr.findAsking,hs,hb,g1,Result.andThen];omega,by simpa using g2,g3,by simp [dget,hb,g4],fun v=>by simp [dput,hb,g5]⟩
theorem jr {w:World} {d:TypeDesc} (hd:P.underlying kt=some d) (k:κ) {es:List MapEntry} {l:List (κ×Value)} (h:es.map (fun e=>(e.key,e.val))=l.map (fun p=>(K.enc p.1,p.2))) :
  (Instr.findKey kt (K.enc k) es).run P w=(Instr.findAsking kt (K.enc k) es 0).run P w:=by
 cases es with
 | nil=>simp [Instr.findKey,run_underlying hd,Result.andThen,Instr.findNow,Instr.findAsking]
 | cons e es =>
  cases l with
  | nil=>simp at h
  | cons p l =>
   simp only [Z1,List.cons.injEq,Prod.mk.injEq] at h
   have hs:Instr.sameNow d (K.enc k) e.key=none:=by rw [h.1.1];exact K.ask d k p.1 hd
   simp [Instr.findKey,run_underlying hd,Result.andThen,Instr.findNow,hs]
def smapOf (P:Program) (t:TypeId):Option (TypeId×TypeId) :=
 match P.underlying t with
 | some (.map kt et)=>(P.underlying kt).map fun _=>(kt,et)
 | _=>none
class TySMap (P:Program) (t:TypeId) (kt et:outParam Nat):Prop where out:smapOf P t=some (kt,et)
theorem kL {t kt et:TypeId} (h:smapOf P t=some (kt,et)):P.underlying t=some (.map kt et)∧∃ d,P.underlying kt=some d:=by
 unfold smapOf at h
 split at h
 · rename_i kt et' he
   cases hk:P.underlying kt with
   | none=>simp [hk] at h
   | some d' =>
    simp [hk] at h
    obtain ⟨rfl,rfl⟩:=h
    exact ⟨he,_,hk⟩
 · cases h
theorem q7 {w:World} {t et:TypeId} {z:Value} (ht:smapOf P t=some (kt,et)) (hz:zeroOf P et=some z) {g:Nat} {l:List (κ×Value)} (h:SMapAt P kt w g l) (k:κ) :
  (Instr.lookup t (.map (some g)) (K.enc k) false).run P w=.ok ((dget l k).getD z) w:=by
 obtain ⟨h1,d,h2⟩:=kL ht
 obtain ⟨es,clock,hb,hs,hl⟩:=h
 have hzr:(zeroValue et).run P w=.ok z w:=dS hz w
 have hf:=jr (w:=w) h2 k hl
 have hc:=K.check w es.isEmpty k
 rcases kx w k es.toList l 0 hl with ⟨g1,g2,g3,g4⟩|⟨j,e,v0,g1,g2,g3,g4,g5⟩
 · rw [g1] at hf
   simp [Instr.lookup,run_underlying h1,MapKept.run_getObj_map hb,hc,hf,hzr,g2,Result.andThen]
 · rw [g1] at hf
   simp [Instr.lookup,run_underlying h1,MapKept.run_getObj_map hb,hc,hf,g4,Result.andThen]
end
section
variable {P:Program} {N:Nat} {av bor:List Nat} {w0:World} {ops:Array Oper} {rest:List Oper} {k:St→Prop} {E:Env} {loc loc':List Res} {X:World→Prop}
variable {d:Option Tmp} {ty:TypeId} {pos:String} {af:Array Edge} {g:Option (Nat×Bool)} {bb want:Bool}
theorem qT (κ:Type) (kt:TypeId) [DecidableEq κ] [KS:KeyS P kt κ] {n:Nat} {t:TypeId} (hg:gdB ops E g=some (bb,want):=by rfl) (hb:bb=want:=by exact ao) (hd:Nat.blt n N=true:=by rfl)
  (h:∀ q,Sw P N av bor w0 ops rest ⟨(n,.map (some q))::E,smapr P kt q ([]:List (κ×Value))::loc,X⟩ k):Sw P N av bor w0 ops (⟨some n,.makeMap t none,ty,pos,af,g⟩::rest) ⟨E,loc,X⟩ k:=Sw.mk fun a w ok=>by
 have hd':inB N (some n)=true:=by have h1:n<N:=Zx hd;simpa [inB] using h1
 simp only [wpList]
 rw [bA ok (o:=⟨some n,.makeMap t none,ty,pos,af,g⟩) hg]
 subst hb
 simp only [Zz,ZN]
 left
 unfold Oper.wp
 have hr:(execOp a.eval ⟨some n,.makeMap t none,ty,pos,af,g⟩).run P w=.ok (.value (.map (some w.heap.size))) (w.alloc (.map #[] 0)):=by
  have:(newObj (.map #[] 0)).run P w=.ok w.heap.size (w.alloc (.map #[] 0)):=rfl
  simp [execOp,Instr.makeMap,this]
 rw [hr]
 have ok':Ok N av bor w0 ⟨E,smapr P kt w.heap.size ([]:List (κ×Value))::loc,X⟩ a (w.alloc (.map #[] 0)):=(ok.via fun M G=>G.new (.map #[] 0) (fun w2=>SMapAt P kt w2 w.heap.size ([]:List (κ×Value))) fun w2 h=>⟨#[],0,h,stamped_empty 0,rfl⟩)
 exact (h _).run _ _ (df (some n) _▸ok'.put hd' _)
theorem on {κ:Type} {kt:TypeId} [DecidableEq κ] [KS:KeyS P kt κ] {st:St} {t et:Nat} [ht:TySMap P t kt et] {z:Value} [hz:TyZero P et z] {m x:Operand} {q:Nat} {l:List (κ×Value)} {kk:κ} {o:Option Value} {v:Value} (hm:ev st.env m=some (.map (some q))) (hx:ev st.env x=some (KS.enc kk))
  (hl:∀ w,Gam av bor w0 st.loc st.ext w→SMapAt P kt w q l) (ho:dget l kk=o) (hv:o.getD z=v):Sy.Yields P N av bor w0 st (.lookup t m x false) ty v:=Sy.Yields.mk fun A w ok d pos af g=>by
 have:=q7 (P:=P) (t:=t) ht.out hz.out (hl w ok.gam) kk
 subst ho
 subst hv
 simp [execOp,ok.eval hm,ok.eval hx,this]
theorem qX {κ:Type} {kt:TypeId} [DecidableEq κ] [KS:KeyS P kt κ] {q:Nat} {l:List (κ×Value)} (hm:∀ w,X w→SMapAt P kt w q l):∀ w,Gam av bor w0 loc X w→SMapAt P kt w q l:=fun w G=>hm w G.keep.now
end
section
variable {κ:Type} [DecidableEq κ] {β:Type}
theorem kz:∀ (l:List (κ×β)) (k:κ) (u v:β),dput (dput l k u) k v=dput l k v
 | [],k,u,v=>by simp [dput]
 | (k',v')::r,k,u,v=>by
  by_cases h:k=k'
  · subst h;simp [dput]
  · simp [dput,h,kz r k u v]
theorem kA:∀ (l:List (κ×β)) (k:κ) (v:β),dget l k=some v→dput l k v=l
 | [],k,v,h=>by cases h
 | (k',v')::r,k,v,h=>by
  by_cases e:k=k'
  · subst e
    simp only [dget,Zt,Zf,ZM] at h
    simp [dput,h]
  · simp only [dget,e,Zr,Ze] at h
    simp [dput,e,kA r k v h]
end
section
variable {P:Program} {kt:TypeId} {κ:Type} [DecidableEq κ] [K:KeyS P kt κ]
def SMapE (P:Program) (kt:TypeId) {κ:Type} [DecidableEq κ] [K:KeyS P kt κ] (w:World) (g:Nat) (l:List (κ×Value)) (k:κ) (b:Nat):Prop :=
 ∃ es clock j e,w.heap[g]?=some (.map es clock)∧Stamped es clock∧es.toList.map (fun e=>(e.key,e.val))=l.map (fun p=>(K.enc p.1,p.2))∧es[j]?=some e∧e.key=K.enc k∧e.born=b∧∀ v,dput l k v=l.set j (k,v)
def smape (P:Program) (kt:TypeId) {κ:Type} [DecidableEq κ] [K:KeyS P kt κ] (g:Nat) (l:List (κ×Value)) (k:κ) (b:Nat):Res:=⟨[g],fun w=>SMapE P kt w g l k b⟩
theorem nQ {w:World} {t et:TypeId} {z:Value} (ht:smapOf P t=some (kt,et)) (hz:zeroOf P et=some z) {g:Nat} {l:List (κ×Value)} (h:SMapAt P kt w g l) (k:κ) :
  ∃ o b,(Instr.mapEntry t (.map (some g)) (K.enc k)).run P w=.ok (.tuple #[(dget l k).getD z,.int .i64 (b:Nat)]) { w with heap:=w.heap.setIfInBounds g o }∧∀ w':World,w'.heap[g]?=some o→SMapE P kt w' g (dput l k ((dget l k).getD z)) k b:=by
 obtain ⟨h1,d,h2⟩:=kL ht
 obtain ⟨es,clock,hb,hs,hl⟩:=h
 have hf:=jr (w:=w) h2 k hl
 have hc:=K.check w false k
 have hzr:(zeroValue et).run P w=.ok z w:=dS hz w
 have hlen:es.size=l.length:=by simpa using congrArg List.length hl
 rcases kx w k es.toList l 0 hl with ⟨g1,g2,g3,g4⟩|⟨j,e,v0,g1,g2,g3,g4,g5⟩
 · rw [g1] at hf
   refine ⟨.map (es.push { key:=K.enc k,val:=z,born:=clock }) (clock+1),clock,?_,fun w' hw=>⟨_,_,es.size,{ key:=K.enc k,val:=z,born:=clock },hw,stamped_push hs g4,?_,by simp,rfl,rfl,fun v=>?_⟩⟩
   · simp [Instr.mapEntry,run_underlying h1,MapKept.run_getObj_map hb,hc,hf,hzr,g2,MapKept.run_setObj_map _ hb,Result.andThen,goInt]
   · rw [g2,Option.getD_none,g3]
     simp [hl]
   · rw [g2,Option.getD_none,kz,g3,g3,hlen]
     simp
 · have hj:es[j]?=some e:=by simpa using g2
   have hst:=K.stay w k
   rw [g1] at hf
   refine ⟨.map (es.modify j fun e=>{ e with key:=K.enc k }) clock,e.born,?_,fun w' hw=>⟨_,_,j,{ e with key:=K.enc k },hw,stamped_modify hs _ _ (fun _ _=>rfl) (fun e' _ he'=>by rw [hj] at he';cases he';exact g3.symm),?_,by simp [QI,hj],rfl,rfl,fun v=>?_⟩⟩
   · simp [Instr.mapEntry,run_underlying h1,MapKept.run_getObj_map hb,hc,hf,hj,g3,g4,hst,MapKept.run_setObj_map _ hb,Result.andThen,goInt]
   · rw [g4,Qe,kA l k v0 g4,←hl]
     apply List.ext_getElem?
     intro q
     simp only [Z7,Qo,QI]
     by_cases e1:j=q
     · subst e1
       simp [hj,g3]
     · simp [e1]
   · rw [g4,Qe,kA l k v0 g4]
     exact g5 v
theorem lk {w:World} {t:TypeId} {g:Nat} {l:List (κ×Value)} {k:κ} {b:Nat} (h:SMapE P kt w g l k b) (v:Value) :
  ∃ o,(Instr.entryStore t (.map (some g)) (.int .i64 (b:Nat)) v).run P w=.ok () { w with heap:=w.heap.setIfInBounds g o }∧∀ w':World,w'.heap[g]?=some o→SMapAt P kt w' g (dput l k v):=by
 obtain ⟨es,clock,j,e,hb,hs,hl,hj,hk,hbn,hset⟩:=h
 have hjl:j<es.size:=(QM.1 hj).1
 have hje:es[j]=e:=(QM.1 hj).2
 have hlen:es.size=l.length:=by simpa using congrArg List.length hl
 have hfi:es.findIdx? (fun e=>(e.born:Int)==(b:Int))=some j:=by
  rw [Array.findIdx?_eq_some_iff_getElem]
  refine ⟨hjl,by rw [hje,hbn];simp,fun q hq hp=>?_⟩
  have hnd:=((stamped_iff es clock).1 hs).2.1
  have hq':es[q].born=e.born:=by rw [hbn];have:=beq_iff_eq.1 hp;omega
  have h1:(es.toList.map (·.born))[q]?=some e.born:=by simp [Z7,Qo,Array.getElem?_eq_getElem (show q<es.size by omega),hq']
  have h2:(es.toList.map (·.born))[j]?=some e.born:=by simp [Z7,Qo,hj]
  have:=(List.getElem?_inj (by simp;omega) hnd).1 (h1.trans h2.symm)
  omega
 refine ⟨.map (es.modify j fun e=>{ e with val:=v }) clock,?_,fun w' hw=>⟨_,_,hw,stamped_modify hs _ _ (fun _ _=>rfl) (fun e' _ he'=>rfl),?_⟩⟩
 · have ha:(asIntOf (Value.int IntKind.i64 (b:Nat))).run P w=.ok (.i64,((b:Nat):Int)) w:=rfl
   simp [Instr.entryStore,MapKept.run_getObj_map hb,asInt,ha,hfi,MapKept.run_setObj_map _ hb,Result.andThen]
 · rw [hset]
   apply List.ext_getElem?
   intro q
   have hq:=congrArg (fun l=>l[q]?) hl
   simp only [Z7,Qo] at hq
   simp only [Z7,Qo,QI,List.getElem?_set]
   by_cases e1:j=q
   · subst e1
     simp [hj,show j<l.length by omega,hk]
   · simp [e1,hq]
end
section
variable {P:Program} {N:Nat} {av bor:List Nat} {w0:World} {ops:Array Oper} {rest:List Oper} {k:St→Prop} {E:Env} {loc loc':List Res} {X:World→Prop}
variable {d:Option Tmp} {ty:TypeId} {pos:String} {af:Array Edge} {g:Option (Nat×Bool)} {bb want:Bool}
theorem jk {lo:Nat→List Res} {κ:Type} {kt:TypeId} [DecidableEq κ] [KS:KeyS P kt κ] {n:Nat} {t et:Nat} [ht:TySMap P t kt et] {z:Value} [hz:TyZero P et z] {m x:Operand} {q:Nat} {l:List (κ×Value)} {kk:κ} {o:Option Value} {u:Value} (hm:ev E m=some (.map (some q)):=by rfl) (hx:ev E x=some (KS.enc kk):=by rfl) (ho:dget l kk=o) (hu:o.getD z=u:=by rfl)
  (hA:∀ b,At (smapr P kt q l) (smape P kt q (dput l kk u) kk b) loc (lo b)) (hg:gdB ops E g=some (bb,want):=by rfl) (hb:bb=want:=by exact ao) (hd:Nat.blt n N=true:=by rfl)
  (h:∀ b:Nat,Sw P N av bor w0 ops rest ⟨(n,.tuple #[u,.int .i64 (b:Nat)])::E,lo b,X⟩ k):Sw P N av bor w0 ops (⟨some n,.mapEntry t m x,ty,pos,af,g⟩::rest) ⟨E,loc,X⟩ k:=Sw.mk fun a w ok=>by
 have hd':inB N (some n)=true:=by have h1:n<N:=Zx hd;simpa [inB] using h1
 subst ho
 subst hu
 simp only [wpList]
 rw [bA ok (o:=⟨some n,.mapEntry t m x,ty,pos,af,g⟩) hg]
 subst hb
 simp only [Zz,ZN]
 left
 unfold Oper.wp
 have hmp:SMapAt P kt w q l:=(ok.gam.here _ (hA 0).mem).now
 obtain ⟨o,b,hr,ho⟩:=nQ ht.out hz.out hmp kk
 obtain ⟨es,c,hbk,_⟩:=hmp
 have hs:=heap_set (o':=o) hbk
 have ok':Ok N av bor w0 ⟨E,lo b,X⟩ a { w with heap:=w.heap.setIfInBounds q o }:=ok.via fun M G=>G.turn ((hA b).app M) rfl rfl rfl (by simp) (fun i hi=>hs.2 i hi) fun w2 h2=>ho w2 (h2.trans hs.1)
 have hr':(execOp a.eval ⟨some n,.mapEntry t m x,ty,pos,af,g⟩).run P w=.ok (.value (.tuple #[(dget l kk).getD z,.int .i64 (b:Nat)])) { w with heap:=w.heap.setIfInBounds q o }:=by
  simp [execOp,ok.eval (st:=⟨E,loc,X⟩) hm,ok.eval (st:=⟨E,loc,X⟩) hx,hr]
 rw [hr']
 exact (h b).run _ _ (df (some n) _▸ok'.put hd' _)
theorem mC {κ:Type} {kt:TypeId} [DecidableEq κ] [KS:KeyS P kt κ] {t:Nat} {m x y:Operand} {q:Nat} {l:List (κ×Value)} {kk:κ} {b:Nat} {v:Value} (hm:ev E m=some (.map (some q)):=by rfl) (hx:ev E x=some (.int .i64 (b:Nat)):=by rfl) (hy:ev E y=some v:=by rfl)
  (hA:At (smape P kt q l kk b) (smapr P kt q (dput l kk v)) loc loc':=by (repeat (first|exact At.here _|apply At.there))) (hg:gdB ops E g=some (bb,want):=by rfl) (hb:bb=want:=by exact ao) (hd:inB N d=true:=by rfl)
  (h:Sw P N av bor w0 ops rest ⟨putE E d undef,loc',X⟩ k):Sw P N av bor w0 ops (⟨d,.entryStore t m x y,ty,pos,af,g⟩::rest) ⟨E,loc,X⟩ k:=Sw.mk fun a w ok=>by
 simp only [wpList]
 rw [bA ok (o:=⟨d,.entryStore t m x y,ty,pos,af,g⟩) hg]
 subst hb
 simp only [Zz,ZN]
 left
 unfold Oper.wp
 have hmp:SMapE P kt w q l kk b:=(ok.gam.here _ hA.mem).now
 obtain ⟨o,hr,ho⟩:=lk (t:=t) hmp v
 obtain ⟨es,c,j,e,hbk,_⟩:=hmp
 have hs:=heap_set (o':=o) hbk
 have ok':Ok N av bor w0 ⟨E,loc',X⟩ a { w with heap:=w.heap.setIfInBounds q o }:=ok.via fun M G=>G.turn (hA.app M) rfl rfl rfl (by simp) (fun i hi=>hs.2 i hi) fun w2 h2=>ho w2 (h2.trans hs.1)
 have hr':(execOp a.eval ⟨d,.entryStore t m x y,ty,pos,af,g⟩).run P w=.ok .skip { w with heap:=w.heap.setIfInBounds q o }:=by
  simp [execOp,ok.eval (st:=⟨E,loc,X⟩) hm,ok.eval (st:=⟨E,loc,X⟩) hx,ok.eval (st:=⟨E,loc,X⟩) hy,hr]
 rw [hr']
 exact h.run _ _ (df d _▸ok'.put hd _)
end
end Go.Proofs.YtaolfiikahlmkaaGreatDoor.Sy
namespace Go.Proofs.YtaolfiikahlmkaaGreatDoor
open Go Go.Proofs Sy
abbrev PosK:=Int×ByteArray
def posV (k:PosK):Value:=.agg #[.int .i64 k.1,.string k.2]
theorem mK (w:World) {cs:Array Value} {off:Nat} {v:Value} (h:cs[off]?=some v):(part 9 cs off).run Tryz.prog w=.ok v w:=by
 simp [part,isAgg,run_underlying Tryz.underlying9,h]
theorem BY (w:World) (d:Nat) (a b:ByteArray):(Op.equalIn (d+1) 9 (.string a) (.string b)).run Tryz.prog w=.ok (seqB a b) w:=by
 rw [run_equalIn_string w d _ a b Tryz.underlying9]
 rfl
theorem xD (w:World) (d:Nat) (a b:PosK):(Op.equalIn (d+2) 129 (posV a) (posV b)).run Tryz.prog w=.ok (decide (a=b)) w:=by
 have p0:∀ x:PosK,(part 3 #[.int .i64 x.1,.string x.2] 0).run Tryz.prog w=.ok (.int .i64 x.1) w:=fun x=>gE w rfl
 have p1:∀ x:PosK,(part 9 #[.int .i64 x.1,.string x.2] 1).run Tryz.prog w=.ok (.string x.2) w:=fun x=>mK w rfl
 unfold posV
 rw [run_equalIn_agg _ _ _ _ _ ae ae]
 simp only [Program.fieldsOf,Tryz.underlying129]
 simp [Op.eqFields,p0,p1,sK,BY]
 obtain ⟨a1,a2⟩:=a
 obtain ⟨b1,b2⟩:=b
 by_cases h1:a1=b1<;>cases h2:seqB a2 b2<;>simp [h1,h2]
 · exact fun e=>by rw [e,cF] at h2;cases h2
 · exact seqB_iff.1 h2
instance posK:KeyS Tryz.prog 129 PosK where
 enc:=posV
 inj:=by
  rintro ⟨a,b⟩ ⟨c,d⟩ h
  simp [posV] at h
  simp [h]
 check:=by
  intro w e a
  have c0:(Instr.checkKey e 9999 3 (.int .i64 a.1)).run Tryz.prog w=.ok () w:=MapKept.run_checkKey (k:=.int .i64 a.1) Tryz.underlying3 (show IntKind.i64=IntKind.i64 from rfl) e 9998
  have c1:(Instr.checkKey e 9999 9 (.string a.2)).run Tryz.prog w=.ok () w:=MapKept.run_checkKey (k:=.string a.2) Tryz.underlying9 (show True from trivial) e 9998
  have p0:(part 3 #[.int .i64 a.1,.string a.2] 0).run Tryz.prog w=.ok (.int .i64 a.1) w:=gE w rfl
  have p1:(part 9 #[.int .i64 a.1,.string a.2] 1).run Tryz.prog w=.ok (.string a.2) w:=mK w rfl
  unfold posV Instr.checkKey
  simp [run_underlying Tryz.underlying129,Result.andThen,p0,p1,c0,c1]
 eq:=by
  intro w a b
  exact xD w 9998 a b
 ask:=by
  intro d a b h
  rw [Tryz.underlying129] at h
  cases h
  rfl
 stay:=by
  intro w a
  have hb:Instr.sameBits (9999+1) (posV a) (posV a)=true:=by simp [posV,Instr.sameBits,MapKept.bytes_beq]
  show (Instr.keyThatStays (posV a) (posV a)).run Tryz.prog w=.ok (posV a) w
  simp [Instr.keyThatStays,hb]
instance:TySMap Tryz.prog 123 129 32:=⟨ae⟩
theorem eqbB (a b:ByteArray):KeyT.eqb a b=seqB a b:=Bool.eq_iff_iff.2 ((KeyT.eqb_iff a b).trans seqB_iff.symm)
structure PostD where
 id:ByteArray
 author:ByteArray
 pos:Nat
 kind:Int
 scope:Int
 group:ByteArray
 to:SlV
 object:ByteArray
 time:Int
 ed:SlV
 gone:Bool
 toL:List ByteArray
 edL:List Int
def PostD.cells (p:PostD):List Value:=[.string p.id,.string p.author,.int .i64 (p.pos:Nat),.int .i64 p.kind,.int .i64 p.scope,.string p.group,p.to.v,.string p.object,.int .i64 p.time,p.ed.v,.bool p.gone]
def PostD.v (p:PostD):Value:=.agg p.cells.toArray
def PostD.zero:PostD:=⟨⟨#[]⟩,⟨#[]⟩,0,0,0,⟨#[]⟩,⟨none,0,0⟩,⟨#[]⟩,0,⟨none,0,0⟩,false,[],[]⟩
def PostD.can (p:PostD):PostD:={ p with to:=⟨none,0,0⟩,ed:=⟨none,0,0⟩ }
def newP (id:ByteArray) (i:Nat) (a:ActD):PostD:=⟨digV a,id,i,a.kind,a.scope,a.group,⟨none,0,0⟩,a.object,a.time,⟨none,0,0⟩,false,a.toL,[]⟩
def openF (c:ChainD):Nat→List PostD
 | 0=>[]
 | i+1=>openF c i++(bif postK (c.actsL.getD i ActD.zero).kind then [newP c.id i (c.actsL.getD i ActD.zero)] else [])
def posP (P:List PostD) (j:Nat):Option Nat:=P.findIdx? fun p=>p.pos==j
def refV (l:List ActD) (P:List PostD) (i:Nat):Option Nat:=match idxV l (l.getD i ActD.zero).object with
 | some j=>bif decide (j<i) then posP P j else none
 | none=>none
def goneP (p:PostD):PostD:={ p with gone:=true }
def editB (a:ActD) (p:PostD):Bool:=!p.gone&&decide (a.scope=p.scope)&&seqB a.group p.group&&eqL a.toL p.toL
def editP (a:ActD) (i:Nat) (p:PostD):PostD:=bif editB a p then { p with edL:=p.edL++[(i:Int)] } else p
def modP (P:List PostD) (o:Option Nat) (f:PostD→PostD):List PostD:=match o with
 | some n=>P.set n (f (P.getD n PostD.zero))
 | none=>P
def stepP (l:List ActD) (i:Nat) (P:List PostD):List PostD :=
 bif decide ((l.getD i ActD.zero).kind=13) then modP P (refV l P i) goneP else bif decide ((l.getD i ActD.zero).kind=14) then modP P (refV l P i) (editP (l.getD i ActD.zero) i) else P
def ofP (c:ChainD):Nat→List PostD
 | 0=>openF c c.actsL.length
 | i+1=>stepP c.actsL i (ofP c i)
def postsV (c:ChainD):List PostD:=ofP c c.actsL.length
theorem mZ {κ β:Type} [KeyT κ]:∀ (b:List (κ×β)) (k a:κ) (v:β),mget (mput b k v) a=bif KeyT.eqb a k then some v else mget b a
 | [],k,a,v=>rfl
 | (k',v')::r,k,a,v=>by
  have ih:=mZ r k a v
  simp only [mput]
  cases hk:KeyT.eqb k k' with
  | true =>
   obtain rfl:=(KeyT.eqb_iff k k').1 hk
   simp only [Zf,mget]
   cases KeyT.eqb a k<;>rfl
  | false =>
   simp only [Ze,mget,ih]
   cases ha:KeyT.eqb a k' with
   | true =>
    obtain rfl:=(KeyT.eqb_iff a k').1 ha
    have hne:KeyT.eqb a k=false:=by
     rw [←ZE]
     intro e
     rw [(KeyT.eqb_iff a k).1 e,(KeyT.eqb_iff k k).2 rfl] at hk
     cases hk
    rw [hne]
    rfl
   | false=>rfl
end Go.Proofs.YtaolfiikahlmkaaGreatDoor
namespace Go.Proofs.YtaolfiikahlmkaaGreatDoor
open Go Go.Proofs Sy
abbrev postR (s:SlV) (P:List PostD):Res:=orow 68 11 (.slice s.p s.n s.c) s.n (P.map PostD.cells).flatten
namespace Sy
section
variable {N:Nat} {av bor:List Nat} {w0:World} {st:St} {ty:TypeId} {x y:Operand} {E:Env} {loc:List Res} {X:World→Prop} {ops:Array Oper} {kk:St→Prop} {pos:String} {af:Array Edge} {g:Option (Nat×Bool)} {rest:List Oper} {bb want:Bool}
variable {n:Nat} {t t2:TypeId}
end
end Sy
structure PermI (P:List PostD) (n:Nat) where
 k:Nat
 hk:k≤n
 Q:List PostD
 hQ:Q.Perm P
section
variable {N:Nat} {av bor:List Nat} {w0:World} {ops:Array Oper} {rest:List Oper} {k:St→Prop} {E:Env} {X:World→Prop} {d:Option Tmp} {ty:TypeId} {pos:String} {af:Array Edge} {g:Option (Nat×Bool)} {bb want:Bool}
end
structure RotI (P:List PostD) (p q:Nat) where
 i:Nat
 j:Nat
 h1:1≤i
 h2:i≤p
 h3:1≤j
 h4:j≤q
 Q:List PostD
 hQ:Q.Perm P
end Go.Proofs.YtaolfiikahlmkaaGreatDoor
namespace Go.Proofs.YtaolfiikahlmkaaGreatDoor
open Go Go.Proofs Sy
namespace Sy
section
variable {N:Nat} {av bor:List Nat} {w0:World} {st:St} {ty:TypeId} {x y:Operand} {E:Env} {loc:List Res} {X:World→Prop} {ops:Array Oper} {kk:St→Prop} {pos:String} {af:Array Edge} {g:Option (Nat×Bool)} {rest:List Oper} {bb want:Bool} {t:TypeId}
end
end Sy
instance:TyMap Tryz.prog 124 3 (keyD ByteArray):=⟨ae⟩
structure RegI (c:ChainD) where
 k:Nat
 hk:k≤c.actsL.length
 P:List PostD
 hP:P.map PostD.can=openF c k
 hz:∀ p∈P,p.ed=⟨none,0,0⟩∧p.edL=[]
 pl:List (ByteArray×Value)
 hpl:∀ d,mget pl d=(idxV (c.actsL.take k) d).map fun (j:Nat)=>Value.int .i64 (j:Int)
 num:List (Int×Value)
 hnum:∀ j:Nat,mget num (j:Int)=(posP P j).map fun (n:Nat)=>Value.int .i64 (n:Int)
 n:Nat
 hn:n=P.length
 xs:List Value
 hxs:xs=(P.map PostD.cells).flatten
 A:Option Addr
 cp:Nat
namespace Sy
section
variable {P:Program} {N:Nat} {av bor:List Nat} {w0:World} {loc0:List Res} {X0:World→Prop} {ops:Array Oper} {fuel:Nat} {listed:Array Bool} {E:Env} {loc:List Res} {X:World→Prop} {k:St→Prop}
end
end Sy
structure BldH where
 ks:SlV
 ki:SlV
 id:ByteArray
 fork:Bool
 q1:Nat
 q2:Nat
 cl:ClaimD
 wn:Bool
def bldC (h:BldH) (sa sk:SlV) (prev:ByteArray) (gen:Int):List Value:=[h.ks.v,h.ki.v,.string h.id,.slice sa.p sa.n sa.c,.slice sk.p sk.n sk.c,.string prev,.int .i64 gen,.bool h.fork,.map (some h.q1),.map (some h.q2),.string h.cl.actor,.int .i64 h.cl.base,.string h.cl.prev,.int .i64 h.cl.gen,.int .i64 h.cl.home,.int .i64 h.cl.pub,.int .i64 h.cl.time,.int .i64 h.cl.e,.int .i64 h.cl.s,.bool h.wn]
def actR (s:SlV) (L:List ActD):Res:=orow 46 20 (.slice s.p s.n s.c) s.n (L.map ActD.cells).flatten
def keyR (s:SlV) (L:List KeyD):Res:=orow 133 3 (.slice s.p s.n s.c) s.n (L.map KeyD.cells).flatten
def bldR (b:Nat) (h:BldH) (sa sk:SlV) (st:ChS) (pl:List (ByteArray×Value)):List Res:=[cel b 126 (bldC h sa sk st.prev (st.gen:Nat)),actR sa st.acts,keyR sk st.keys,mapr h.q2 pl]
def PlOk (pl:List (ByteArray×Value)) (l:List ActD):Prop:=∀ d,mget pl d=(idxV l d).map fun (j:Nat)=>Value.int .i64 (j:Int)
structure BldOk (sa sk:SlV) (st:ChS) (pl:List (ByteArray×Value)):Prop where
 hn:sa.n=st.acts.length
 hk:sk.n=st.keys.length
 hp:PlOk pl st.acts
def BldAt (b:Nat) (h:BldH) (st:ChS) (v u:Value) (R:List Res):Prop:=u=v∧∃ (sa sk:SlV) (pl:List (ByteArray×Value)),BldOk sa sk st pl∧R=bldR b h sa sk st pl
theorem oY (l:List ActD) (x:ActD) (d:ByteArray):idxV (l++[x]) d=(idxV l d).or (bif seqB (digV x) d then some l.length else none):=by
 rw [idxV,idxV,List.findIdx?_append]
 congr 1
 rw [List.findIdx?_singleton]
 cases seqB (digV x) d with
 | true=>simp
 | false=>simp
theorem AW {pl:List (ByteArray×Value)} {l:List ActD} (h:PlOk pl l) {x:ActD} {j:Nat} (hj:idxV l (digV x)=some j):PlOk pl (l++[x]):=fun d=>by
 rw [oY,h d]
 cases hs:seqB (digV x) d with
 | true =>
  obtain rfl:=seqB_iff.1 hs
  rw [hj]
  rfl
 | false=>cases idxV l d<;>rfl
theorem AX {pl:List (ByteArray×Value)} {l:List ActD} (h:PlOk pl l) {x:ActD} (hj:idxV l (digV x)=none):PlOk (mput pl (digV x) (.int .i64 (l.length:Nat))) (l++[x]):=fun d=>by
 rw [mZ,oY,eqbB]
 cases hs:seqB d (digV x) with
 | true =>
  obtain rfl:=seqB_iff.1 hs
  rw [hj,hs]
  rfl
 | false =>
  rw [xy (digV x) d,hs,h d]
  cases idxV l d<;>rfl
theorem Cy (b:Nat) (h:BldH) (sa sk:SlV) (st:ChS) (pl:List (ByteArray×Value)) (ok:BldOk sa sk st pl) (a:ActD) (ha:a.Rng) (hs:a.Sm) (hl:st.acts.length≤1000000) (hl2:st.keys.length≤1000000) :
  Ct Tryz.prog 65 #[.pointer (some ⟨b,0,none⟩),a.v] (bldR b h sa sk st pl) (fun w=>a.at_ w∧Glob w) (fun u R _=>BldAt b h (addS st a) (.tuple #[]) u R):=by
 obtain ⟨hn,hk,hp⟩:=ok
 refine eY (args:=[_,_]) _ Tryz.func65 rfl Tryz.ntmps65 rfl fun av bor w0=>?_
 have hlk:=hp (digV a)
 unfold bldR actR keyR
 repeat' (first|refine gs ?_|refine gs1 fun _=>?_|(refine sy_nilX (hp:=rfl) (h:=?_))|(refine gp ?_ ?_<;>intro hx_ this)|fail)
 rename_i b1
 refine fS (ι:=Option Addr×Nat) (fun i=>⟨[(0,.pointer (some ⟨b,0,none⟩)),(3,.pointer (some ⟨b1,0,none⟩)),(4,.pointer (some ⟨b,2,none⟩)),(5,.int .i64 (sa.n:Nat))],[cel b1 46 a.cells,cel b 126 (bldC h ⟨i.1,sa.n+1,i.2⟩ sk st.prev (st.gen:Nat)),orow 46 20 (.slice i.1 (sa.n+1) i.2) (sa.n+1) ((st.acts.map ActD.cells).flatten++a.cells),orow 133 3 (.slice sk.p sk.n sk.c) sk.n (st.keys.map KeyD.cells).flatten,mapr h.q2 pl],fun w=>a.at_ w∧Glob w⟩) ?_ fun i=>?_
 · (refine ar ⟨[0,1,2,3,5],[(4,⟨[],[(6,⟨[],[(7,⟨[8,9],[(10,⟨[],[]⟩)]⟩)]⟩)]⟩),(6,⟨[],[(4,⟨[],[(7,⟨[8,9],[(10,⟨[],[]⟩)]⟩)]⟩)]⟩)]⟩ [cel b1 46 a.cells] (fun w=>a.at_ w∧Glob w) (h:=?_))
   all_goals repeat' (first|refine gdz ?_|refine aA ?_ (h':=?_)|exact aB|refine cA (size:=20) (vs:=[a.v]) (css:=a.cells) (hsz:=by rfl) (hcs:=by rfl) fun _=>?_|(refine iS ?_;refine aF (size:=20) (news:=a.cells) (q:=1) rfl rfl rfl rfl (fun _=>by (repeat (first|with_reducible exact At.here _|apply At.there))) (fun w G=>bT G aW rfl rfl 1) aa (by simp only [maxLen];omega) rfl ?_ rfl ?_;(first|with_reducible rfl|with_reducible assumption|with_reducible exact Zl|with_reducible exact Zn);intro A2 c2)|refine gs1 fun _=>?_|(refine gq ?_ ?_<;>intro hx_ this)|fail)
   all_goals exact ⟨(_,_),aj am (Z2 _ (al _)) fun w h=>h⟩
 obtain ⟨A2,c2⟩:=i
 simp only
 repeat' (first|refine gs ?_|refine gs1 fun _=>?_|(refine gp ?_ ?_<;>intro hx_ this)|fail)
 refine bZ (hc:=jC a ha hs) (hX:=fun w h=>h.1) fun v1 X1 h1=>?_
 obtain ⟨x',rfl,hdig,hr',hat⟩:=h1
 refine ab (hc:=iE x' hr') (hX:=fun w h=>⟨hat w h.2,h.1.2⟩) ?_
 rw [hdig]
 generalize hD:digV a=D at hlk
 refine kK ?_
 refine bY ?_
 refine bO ?_
 apply bF
 apply QS
 refine fS (ι:={ pl':List (ByteArray×Value) // PlOk pl' (st.acts++[a]) }) (fun i=>⟨[(3,.pointer (some ⟨b1,0,none⟩)),(4,.pointer (some ⟨b,2,none⟩)),(5,.int .i64 (sa.n:Nat))],[cel b1 46 a.cells,cel b 126 (bldC h ⟨A2,sa.n+1,c2⟩ sk D (st.gen:Nat)),orow 46 20 (.slice A2 (sa.n+1) c2) (sa.n+1) ((st.acts.map ActD.cells).flatten++a.cells),orow 133 3 (.slice sk.p sk.n sk.c) sk.n (st.keys.map KeyD.cells).flatten,mapr h.q2 i.1],fun w=>a.at_ w∧Glob w⟩) ?_ fun i=>?_
 · have hpn:=fun hj=>AX hp (x:=a) hj
   have hpo:=fun j hj=>AW hp (x:=a) (j:=j) hj
   rw [hD] at hpn hpo
   cases hj:idxV st.acts D with
   | none =>
    rw [hj] at hlk
    apply QS
    (refine ar ⟨[0,1,2,3,4,5,6,7],[(8,⟨[9,10,11,12,13],[]⟩)]⟩ [cel b1 46 a.cells,cel b 126 (bldC h ⟨A2,sa.n+1,c2⟩ sk D (st.gen:Nat)),orow 46 20 (.slice A2 (sa.n+1) c2) (sa.n+1) ((st.acts.map ActD.cells).flatten++a.cells),orow 133 3 (.slice sk.p sk.n sk.c) sk.n (st.keys.map KeyD.cells).flatten,mapr h.q2 pl] (fun w=>(a.at_ w∧Glob w)∧X1 w) (h:=?_))
    all_goals repeat' (first|refine gdz ?_|refine aA ?_ (h':=?_)|exact aB|(refine eS (κ:=ByteArray) (kk:=D) (b:=false) (v:=.int .i64 0) (hl:=gI aW) (ho:=hlk) ?_)|refine gs1 fun _=>?_|(refine gq ?_ ?_<;>intro hx_ this)|fail)
    all_goals
     repeat' (first|refine gs ?_|refine gs1 fun _=>?_|(refine gp ?_ ?_<;>intro hx_ this)|fail)
     (refine ar ⟨[0,1,2,3,4,5,6,7,8],[(9,⟨[],[]⟩)]⟩ [cel b1 46 a.cells,cel b 126 (bldC h ⟨A2,sa.n+1,c2⟩ sk D (st.gen:Nat)),orow 46 20 (.slice A2 (sa.n+1) c2) (sa.n+1) ((st.acts.map ActD.cells).flatten++a.cells),orow 133 3 (.slice sk.p sk.n sk.c) sk.n (st.keys.map KeyD.cells).flatten] (fun w=>(a.at_ w∧Glob w)∧X1 w) (h:=?_))
     all_goals repeat' (first|refine gdz ?_|refine aA ?_ (h':=?_)|exact aB|(refine eV (κ:=ByteArray) (kk:=D) (v:=.int .i64 (sa.n:Nat)) ?_)|refine gs1 fun _=>?_|(refine gq ?_ ?_<;>intro hx_ this)|fail)
     all_goals exact ⟨⟨mput pl D (.int .i64 (sa.n:Nat)),by rw [hn];exact hpn hj⟩,aj am (al _) fun w h=>h.1⟩
   | some j =>
    rw [hj] at hlk
    apply QS
    (refine ar ⟨[0,1,2,3,4,5,6,7],[(8,⟨[9,10,11,12,13],[]⟩)]⟩ [cel b1 46 a.cells,cel b 126 (bldC h ⟨A2,sa.n+1,c2⟩ sk D (st.gen:Nat)),orow 46 20 (.slice A2 (sa.n+1) c2) (sa.n+1) ((st.acts.map ActD.cells).flatten++a.cells),orow 133 3 (.slice sk.p sk.n sk.c) sk.n (st.keys.map KeyD.cells).flatten,mapr h.q2 pl] (fun w=>(a.at_ w∧Glob w)∧X1 w) (h:=?_))
    all_goals repeat' (first|refine gdz ?_|refine aA ?_ (h':=?_)|exact aB|(refine eS (κ:=ByteArray) (kk:=D) (b:=true) (v:=.int .i64 (j:Nat)) (hl:=gI aW) (ho:=hlk) ?_)|refine gs1 fun _=>?_|(refine gq ?_ ?_<;>intro hx_ this)|fail)
    all_goals
     repeat' (first|refine gs ?_|refine gs1 fun _=>?_|(refine gp ?_ ?_<;>intro hx_ this)|fail)
     exact ⟨⟨pl,hpo j hj⟩,aj am (al _) fun w h=>h.1⟩
 obtain ⟨pl',hpl'⟩:=i
 simp only
 clear hp hlk hdig hr' hat
 have hfl:((st.acts++[a]).map ActD.cells).flatten=(st.acts.map ActD.cells).flatten++a.cells:=by simp
 by_cases hk18:a.kind=18
 · have hst:addS st a=⟨st.acts++[a],st.keys++[⟨((sa.n+1:Nat):Int),a.n,a.m⟩],D,st.gen⟩:=by rw [addS,hk18,hD,hn];rfl
   have hfk:((st.keys++[(⟨((sa.n+1:Nat):Int),a.n,a.m⟩:KeyD)]).map KeyD.cells).flatten=(st.keys.map KeyD.cells).flatten++KeyD.cells ⟨((sa.n+1:Nat):Int),a.n,a.m⟩:=by simp
   repeat' (first|refine aH (hab:=hk18) ?_|refine gs ?_|refine gs1 fun _=>?_|(refine gp ?_ ?_<;>intro hx_ this)|fail)
   (refine ar ⟨[0,1,2,3,5,6,7,8,9,10,11],[(4,⟨[],[(12,⟨[],[(13,⟨[14,15],[(16,⟨[],[]⟩)]⟩)]⟩)]⟩),(12,⟨[],[(4,⟨[],[(13,⟨[14,15],[(16,⟨[],[]⟩)]⟩)]⟩)]⟩)]⟩ [cel b1 46 a.cells] (fun w=>a.at_ w∧Glob w) (h:=?_))
   all_goals repeat' (first|refine gdz ?_|refine ay (hsub:=by exact aE) (hy:=by first|(apply fa (cs:=KeyD.cells ⟨((sa.n+1:Nat):Int),a.n,a.m⟩);rfl;rfl)) ?_|refine aA ?_ (h':=?_)|exact aB|refine cA (size:=3) (vs:=[KeyD.v ⟨((sa.n+1:Nat):Int),a.n,a.m⟩]) (css:=KeyD.cells ⟨((sa.n+1:Nat):Int),a.n,a.m⟩) (hsz:=by rfl) (hcs:=by rfl) fun _=>?_|(refine iS ?_;refine aF (size:=3) (news:=KeyD.cells ⟨((sa.n+1:Nat):Int),a.n,a.m⟩) (q:=1) rfl rfl rfl rfl (fun _=>by (repeat (first|with_reducible exact At.here _|apply At.there))) (fun w G=>bT G aW rfl rfl 1) aa (by simp only [maxLen];omega) rfl ?_ rfl ?_;(first|with_reducible rfl|with_reducible assumption|with_reducible exact Zl|with_reducible exact Zn);intro A3 c3)|refine gs1 fun _=>?_|(refine gq ?_ ?_<;>intro hx_ this)|fail)
   all_goals
    refine bH (bn rfl) ⟨_,Z2 _ (Z2 _ (al _)),rfl,⟨A2,sa.n+1,c2⟩,⟨A3,sk.n+1,c3⟩,pl',⟨?_,?_,?_⟩,?_⟩
    · rw [hst,ZA,hn];rfl
    · rw [hst,ZA,hk];rfl
    · rw [hst];exact hpl'
    · rw [hst]
      unfold bldR actR keyR
      rw [hfl,hfk]
      rfl
 · repeat' (first|refine aG (hab:=hk18) ?_|refine gs ?_|refine gs1 fun _=>?_|(refine gp ?_ ?_<;>intro hx_ this)|fail)
   have hst:addS st a=⟨st.acts++[a],st.keys,D,st.gen⟩:=by rw [addS,hD,Zc hk18];rfl
   refine bH (bn rfl) ⟨_,Z2 _ (al _),rfl,⟨A2,sa.n+1,c2⟩,sk,pl',⟨?_,?_,?_⟩,?_⟩
   · rw [hst,ZA,hn];rfl
   · rw [hst,hk]
   · rw [hst];exact hpl'
   · rw [hst]
     unfold bldR actR keyR
     rw [hfl]
end Go.Proofs.YtaolfiikahlmkaaGreatDoor
namespace Go.Proofs.YtaolfiikahlmkaaGreatDoor
open Go Go.Proofs Sy
def BldH.look (h:BldH) (o:Option ClaimD):BldH:={ h with cl:=o.getD ClaimD.zero,wn:=o.isSome }
def bldCel (b:Nat) (h:BldH) (sa sk:SlV) (st:ChS):Res:=cel b 126 (bldC h sa sk st.prev (st.gen:Nat))
theorem vR (b:Nat) (h:BldH) (sa sk:SlV) (st:ChS) (o:Option ClaimD) (Y:World→Prop)
  (hwon:Pu Tryz.prog 115 #[.agg #[h.ks.v,h.ki.v],.string h.id,.int .i64 (st.gen:Nat)] Y (.tuple #[(o.getD ClaimD.zero).v,.bool o.isSome])) :
  Ct Tryz.prog 66 #[.pointer (some ⟨b,0,none⟩)] [bldCel b h sa sk st] Y (fun u R _=>u=.tuple #[]∧R=[bldCel b (h.look o) sa sk st]):=by
 refine eY (args:=[_]) _ Tryz.func66 rfl Tryz.ntmps66 rfl fun av bor w0=>?_
 unfold bldCel
 generalize hc:o.getD ClaimD.zero=c at hwon
 generalize hi:o.isSome=i at hwon
 have hL:h.look o={ h with cl:=c,wn:=i }:=by rw [BldH.look,hc,hi]
 rw [hL]
 (refine ar ⟨[0,1,2,3,4,6,7,8,9,11,12,13,14],[(5,⟨[],[(10,⟨[],[(15,⟨[],[(16,⟨[17,18,19,20,21],[(22,⟨[23,24],[(25,⟨[],[]⟩)]⟩)]⟩)]⟩)]⟩),(15,⟨[],[(10,⟨[],[(16,⟨[17,18,19,20,21],[(22,⟨[23,24],[(25,⟨[],[]⟩)]⟩)]⟩)]⟩)]⟩)]⟩),(10,⟨[],[(5,⟨[],[(15,⟨[],[(16,⟨[17,18,19,20,21],[(22,⟨[23,24],[(25,⟨[],[]⟩)]⟩)]⟩)]⟩)]⟩),(15,⟨[],[(5,⟨[],[(16,⟨[17,18,19,20,21],[(22,⟨[23,24],[(25,⟨[],[]⟩)]⟩)]⟩)]⟩)]⟩)]⟩),(15,⟨[],[(5,⟨[],[(10,⟨[],[(16,⟨[17,18,19,20,21],[(22,⟨[23,24],[(25,⟨[],[]⟩)]⟩)]⟩)]⟩)]⟩),(10,⟨[],[(5,⟨[],[(16,⟨[17,18,19,20,21],[(22,⟨[23,24],[(25,⟨[],[]⟩)]⟩)]⟩)]⟩)]⟩)]⟩)]⟩ [] (fun w=>Y w) (h:=?_))
 all_goals repeat' (first|(refine ab (hc:=hwon) (hX:=fun w h=>h) ?_)|refine gd ?_|refine aA ?_ (h':=?_)|exact aB|(refine ax (vs:=[h.ks.v,h.ki.v]) (hv:=rfl) ?_)|(refine dH (bldC { h with cl:=c } sa sk st.prev (st.gen:Nat)) (h:=?_))|(refine dH (bldC { h with cl:=c,wn:=i } sa sk st.prev (st.gen:Nat)) (h:=?_))|(refine gq ?_ ?_<;>intro hx_ this)|fail)
 all_goals exact bH (bn rfl) ⟨_,al _,rfl,rfl⟩
namespace Sy
section
variable {P:Program} {N:Nat} {av bor:List Nat} {w0:World} {st:St} {t:TypeId} {ty:TypeId} {x:Operand}
theorem gz {e size m i c j:Nat} [h:TyOne P t] {A:Option Addr} {xs:List (List Value)} {cs:List Value} {u:Value} (hx:ev st.env x=some (elP A (i*size+j))) (hm:orow e size (.slice A m c) m xs.flatten∈st.loc) (hn:m=xs.length) (hs:∀ r∈xs,r.length=size) (hi:xs[i]?=some cs) (hj:cs[j]?=some u) :
  Yields P N av bor w0 st (.load t x) ty u:=Sy.Yields.mk fun B w ok d pos af g=>by
 have hr:=bz (ok.gam.here _ hm).now hn hs
 obtain ⟨h1,hp,hc⟩:=RowsD.row hr i cs hi
 obtain ⟨a,rfl⟩:=QO.1 hp
 simp [execOp,ok.eval hx,elP,Instr.loadAt,Instr.sureAddr,loadVar,(cv h.out w).1,(hc j u hj).2 a rfl]
theorem d7 [h:TyOne P t] {bl j:Nat} {v:Value} (hx:ev st.env x=some (.pointer (some ⟨bl,j,none⟩))) (hF:∀ w,st.ext w→w.cell? ⟨bl,j,none⟩=some v):Yields P N av bor w0 st (.load t x) ty v:=Sy.Yields.mk fun B w ok d pos af g=>by
 simp [execOp,ok.eval hx,Instr.loadAt,Instr.sureAddr,loadVar,(cv h.out w).1,hF w ok.gam.keep.now]
end
end Sy
def CelD (b:Nat) (cs:List Value) (w:World):Prop:=∀ j v,cs[j]?=some v→w.cell? ⟨b,j,none⟩=some v
theorem fC {b T:Nat} {cs:List Value} {w:World} (h:(cel b T cs).F w):CelD b cs w:=fun j v hj=>by
 have h1:w.heap[b]?=some (.cells cs.toArray T (0,0)):=h
 simp [World.cell?,h1,hj]
theorem Cd (b b1:Nat) (h:BldH) (sa sk:SlV) (st:ChS) (pl:List (ByteArray×Value)) (hp:PlOk pl st.acts) (d:ByteArray) :
  Pu Tryz.prog 118 #[.string d,.pointer (some ⟨b1,0,none⟩)] (fun w=>CelD b1 [.pointer (some ⟨b,0,none⟩)] w∧CelD b (bldC h sa sk st.prev (st.gen:Nat)) w∧MapAt w h.q2 pl) (idxP (idxV st.acts d)):=by
 refine ak (args:=[_,_]) _ Tryz.func118 rfl Tryz.ntmps118 rfl fun av bor w0=>?_
 have hlk:=hp d
 cases hj:idxV st.acts d with
 | none =>
  rw [hj] at hlk
  repeat' (first|refine gs ?_|(refine ai (d7 rfl (fun w h=>h.1 0 _ rfl)) rfl rfl rfl ?_)|(refine ai (d7 rfl (fun w h=>h.2.1 9 _ rfl)) rfl rfl rfl ?_)|(refine eS (κ:=ByteArray) (kk:=d) (b:=false) (v:=.int .i64 0) (hl:=lw fun w h=>h.2.2) (ho:=hlk) ?_)|(refine gp ?_ ?_<;>intro hx_ this)|fail)
  exact ad (fi rfl rfl rfl) rfl
 | some j =>
  rw [hj] at hlk
  repeat' (first|refine gs ?_|(refine ai (d7 rfl (fun w h=>h.1 0 _ rfl)) rfl rfl rfl ?_)|(refine ai (d7 rfl (fun w h=>h.2.1 9 _ rfl)) rfl rfl rfl ?_)|(refine eS (κ:=ByteArray) (kk:=d) (b:=true) (v:=.int .i64 (j:Nat)) (hl:=lw fun w h=>h.2.2) (ho:=hlk) ?_)|(refine gp ?_ ?_<;>intro hx_ this)|fail)
  exact ad (fi rfl rfl rfl) rfl
end Go.Proofs.YtaolfiikahlmkaaGreatDoor
namespace Go.Proofs.YtaolfiikahlmkaaGreatDoor
open Go Go.Proofs Sy
structure FndA where
 rank:Int
 dg:ByteArray
 a:ActD
def FndA.cells (f:FndA):List Value:=.int .i64 f.rank::.string f.dg::f.a.cells
def fndR (s:SlV) (P:List FndA):Res:=orow 243 22 (.slice s.p s.n s.c) s.n (P.map FndA.cells).flatten
theorem Eg (P:List FndA):∀ r∈P.map FndA.cells,r.length=22:=fun r hr=>by
 obtain ⟨c,_,rfl⟩:=QJ.1 hr
 rfl
def cmpA:Value:=.func (.func 184) #[] #[]
def PermA (s:SlV) (P:List FndA) (u:Value) (R:List Res) (X:World→Prop):Prop:=u=.tuple #[]∧∃ Q:List FndA,Q.Perm P∧R=[fndR s Q]
def SortA (n:Nat):Prop:=∀ (s:SlV) (P:List FndA),s.n=P.length→P.length≤n→Ct Tryz.prog 183 #[s.v,cmpA] [fndR s P] (fun _=>True) (PermA s P)
theorem dp {P:Program} {fn:Func} {N t u u2 ty n:Nat} {s:St} {b T:Nat} {cs:List Value} {x y:Value} [hI:TyAgg P ty n] (hr:fn.results=#[.cell t ty,.tmp u,.tmp u2]) (h:Sy.look s.env t=some (.pointer (some ⟨b,0,none⟩))) (h':Sy.look s.env u=some x) (h2':Sy.look s.env u2=some y) (hm:cel b T cs∈s.loc) (hn:cs.length=n) :
  Res1 P fn N s (.tuple #[.agg cs.toArray,x,y]):=fun av bor w0 a w ok=>by
 obtain ⟨D,h1,h2,h3⟩:=cY hI.out
 have ht:=ok.env t _ h
 have hu:=ok.env u _ h'
 have hu2:=ok.env u2 _ h2'
 have:(loadVar ty ⟨b,0,none⟩).run P w=.ok (.agg cs.toArray) w:=by
  cases D<;>simp at h2
  · exact run_loadVar_row w b T ty cs.toArray (0,0) _ (eP ok hm) h1 rfl (by rw [h3];simp [hn])
  · exact run_loadVar_row w b T ty cs.toArray (0,0) _ (eP ok hm) h1 rfl (by rw [h3];simp [hn])
 simp [results,hr,ht,hu,hu2,asAddr,this]
def wantA (au:ByteArray) (it:ItemD):Bool:=decide (it.kind=0)&&seqB it.act.author au
theorem zi (bW:Nat) (au:ByteArray) (it:ItemD):Pu Tryz.prog 110 #[it.v,.pointer (some ⟨bW,0,none⟩)] (CelD bW [.string au]) (.tuple #[it.act.v,.int .i64 it.act.seq,.bool (wantA au it)]):=by
 refine ak (args:=[_,_]) _ Tryz.func110 rfl Tryz.ntmps110 rfl fun av bor w0=>?_
 repeat' (first|refine gs ?_|refine gs1 fun _=>?_|(refine gp ?_ ?_<;>intro hx_ this)|fail)
 rename_i b2 b3
 by_cases h0:it.kind=0
 · (refine ar ⟨[0,1,2,3,4,5,6,7,8,9,10,11,12,13,14],[(15,⟨[16,17],[]⟩)]⟩ [cel b2 60 it.cells] (CelD bW [.string au]) (h:=?_))
   all_goals repeat' (first|refine ay (hsub:=by exact aE) (hy:=by first|(apply eH true;rfl;rfl;exact Zd h0)) ?_|refine gdz ?_|refine ay (hsub:=by exact aE) (hy:=by first|(apply cE (vs:=it.act.cells);rfl;exact .head _;rfl;rfl)|(apply d7;rfl;exact (fun w h=>h 0 _ rfl))) ?_|refine aA ?_ (h':=?_)|exact aB|refine gs1 fun _=>?_|(refine gq ?_ ?_<;>intro hx_ this)|fail)
   all_goals
    repeat' (first|refine gs ?_|refine gs1 fun _=>?_|(refine gp ?_ ?_<;>intro hx_ this)|fail)
    exact ad (dp rfl rfl rfl rfl (.head _) rfl) (by rw [wantA,Zd h0];rfl)
 · (refine ar ⟨[0,1,2,3,4,5,6,7,8,9,10,11,12,13,14],[(15,⟨[16,17],[]⟩)]⟩ [cel b2 60 it.cells] (CelD bW [.string au]) (h:=?_))
   all_goals repeat' (first|refine ay (hsub:=by exact aE) (hy:=by first|(apply eH false;rfl;rfl;exact Zc h0)) ?_|refine gdz ?_|refine ay (hsub:=by exact aE) (hy:=by first|(apply cE (vs:=it.act.cells);rfl;exact .head _;rfl;rfl)|(apply d7;rfl;exact (fun w h=>h 0 _ rfl))) ?_|refine aA ?_ (h':=?_)|exact aB|refine gs1 fun _=>?_|(refine gq ?_ ?_<;>intro hx_ this)|fail)
   all_goals
    repeat' (first|refine gs ?_|refine gs1 fun _=>?_|(refine gp ?_ ?_<;>intro hx_ this)|fail)
    exact ad (dp rfl rfl rfl rfl (.head _) rfl) (by rw [wantA,Zc h0];rfl)
def fndOf (dI:ItemD→ByteArray) (it:ItemD):FndA:=⟨it.act.seq,dI it,it.act⟩
def selB (au:ByteArray) (rI:ItemD→Bool) (it:ItemD):Bool:=wantA au it&&rI it
def selF (au:ByteArray) (rI:ItemD→Bool) (dI:ItemD→ByteArray) (I:List ItemD):List FndA:=(I.filter (selB au rI)).map (fndOf dI)
def selA (au:ByteArray) (rI:ItemD→Bool) (I:List ItemD):List ActD:=(I.filter (selB au rI)).map ItemD.act
theorem FM (au:ByteArray) (rI:ItemD→Bool) (dI:ItemD→ByteArray) (I:List ItemD):(selF au rI dI I).map FndA.a=selA au rI I:=by rw [selF,selA,Z0];rfl
structure PikI (I:List ItemD) (au:ByteArray) (rI:ItemD→Bool) (dI:ItemD→ByteArray) where
 k:Nat
 hk:k≤I.length
 A:Option Addr
 c:Nat
 n:Nat
 hn:n=(selF au rI dI (I.take k)).length
 xs:List Value
 hxs:xs=((selF au rI dI (I.take k)).map FndA.cells).flatten
structure ValI (Q:List FndA) where
 k:Nat
 hk:k≤Q.length
 A:Option Addr
 c:Nat
 xs:List Value
 hxs:xs=((Q.take k).map fun f=>f.a.cells).flatten
def wantV (bW:Nat):Value:=.func (.func 110) #[] #[.pointer (some ⟨bW,0,none⟩)]
theorem AY (ks ki:SlV) (I:List ItemD) (bW:Nat) (au:ByteArray) (rI:ItemD→Bool) (dI:ItemD→ByteArray)
  (hR:∀ it∈I,Pu Tryz.prog 73 #[it.v] (fun w=>it.at_ w) (.bool (rI it)))
  (hD:∀ it∈I,Pu Tryz.prog 18 #[it.v] (fun w=>it.at_ w∧Glob w) (.string (dI it)))
  (hI:I.length≤1000) (hsort:SortA I.length) :
  Mk Tryz.prog 109 #[.agg #[ks.v,ki.v],wantV bW] (fun w=>(Items w ki I∧CelD bW [.string au] w)∧Glob w)
   (fun u X'=>∃ (s:SlV) (L:List ActD),u=s.v∧L.Perm (selA au rI I)∧∀ w,X' w→Acts w s L):=by
 refine bM (args:=[_,_]) _ Tryz.func109 rfl Tryz.ntmps109 rfl fun av bor w0=>?_
 refine aP (p:=ki.n=I.length∧ki.n≤maxLen∧(0<I.length→ki.p.isSome=true)) (fun w h=>⟨h.1.1.len_,h.1.1.max_,h.1.1.some_⟩) fun ⟨hkn,hkm,hkp⟩=>?_
 simp only [maxLen] at hkm
 repeat' (first|refine gs ?_|refine gs1 fun _=>?_|fail)
 rename_i b2
 refine cS 243 22 ?_
 refine aq (ι:=PikI I au rI dI) (fun i=>⟨[(1,wantV bW),(5,.slice i.A i.n i.c),(15,ki.v),(16,.int .i64 (ki.n:Nat)),(17,.int .i64 (i.k:Nat))],[orow 243 22 (.slice i.A i.n i.c) i.n i.xs],fun w=>(Items w ki I∧CelD bW [.string au] w)∧Glob w⟩) (fun i=>I.length-i.k) ⟨0,Z4 _,none,0,0,rfl,[],rfl⟩ (aj am (.cons_cons _ (Zu _)) fun _ h=>h) fun i=>?_
 obtain ⟨k,hk,A,c,n,hn,xs,hxs⟩:=i
 simp only
 repeat' (first|refine gs ?_|refine gs1 fun _=>?_|(refine gp ?_ ?_<;>intro hx_ this)|fail)
 · have hlt:k<I.length:=by omega
   have hkp':=hkp aa
   obtain ⟨it,hit⟩:∃ it,I[k]?=some it:=⟨_,Zb hlt⟩
   have him:=Z6 hit
   have hnl:n≤1000:=by
    rw [hn,selF,ZF]
    exact ZY (Qa _ _) (by rw [Qi];omega)
   repeat' (first|refine gs ?_|refine gs1 fun _=>?_|(refine aI (q:=k*49) ?_)|(refine ca (cs:=it.cells) (hF:=fun w h=>h.1.1.get hit) ?_)|(refine gp ?_ ?_<;>intro hx_ this)|fail)
   rename_i b7
   have hri:=hR it him
   have hdi:=hD it him
   have hwa:=zi bW au it
   have htk:selF au rI dI (I.take (k+1))=selF au rI dI (I.take k)++(bif selB au rI it then [fndOf dI it] else []):=by
    rw [selF,selF,Qg,hit,Qv,ZW,Qu]
    congr 1
    cases hb:selB au rI it with
    | true=>simp [hb]
    | false=>simp [hb]
   cases hwt:wantA au it with
   | false =>
    rw [hwt] at hwa
    have hno:selF au rI dI (I.take (k+1))=selF au rI dI (I.take k):=by rw [htk,selB,hwt];exact ZJ _
    refine fq (args:=[it.v]) (all:=[it.v,.pointer (some ⟨bW,0,none⟩)]) (first:=#[]) (caps:=#[.pointer (some ⟨bW,0,none⟩)]) (hx:=rfl) (ha:=rfl) (hall:=rfl) (hc:=hwa) (hX:=fun w h=>h.1.2) (h:=?_)
    repeat' (first|refine gs ?_|refine gs1 fun _=>?_|(refine gp ?_ ?_<;>intro hx_ this)|fail)
    exact ⟨(⟨k+1,hlt,A,c,n,by rw [hno];exact hn,xs,by rw [hno];exact hxs⟩:PikI I au rI dI),(by show I.length-(k+1)<I.length-k;omega),aj am (.cons _ (.cons _ (al _))) fun _ h=>h⟩
   | true =>
    rw [hwt] at hwa
    cases hrt:rI it with
    | false =>
     rw [hrt] at hri
     have hno:selF au rI dI (I.take (k+1))=selF au rI dI (I.take k):=by rw [htk,selB,hwt,hrt];exact ZJ _
     refine fq (args:=[it.v]) (all:=[it.v,.pointer (some ⟨bW,0,none⟩)]) (first:=#[]) (caps:=#[.pointer (some ⟨bW,0,none⟩)]) (hx:=rfl) (ha:=rfl) (hall:=rfl) (hc:=hwa) (hX:=fun w h=>h.1.2) (h:=?_)
     repeat' (first|(refine ab (hc:=hri) (hX:=fun w h=>h.1.1.2 it him) ?_)|refine gs ?_|refine gs1 fun _=>?_|(refine gp ?_ ?_<;>intro hx_ this)|fail)
     exact ⟨(⟨k+1,hlt,A,c,n,by rw [hno];exact hn,xs,by rw [hno];exact hxs⟩:PikI I au rI dI),(by show I.length-(k+1)<I.length-k;omega),aj am (.cons _ (.cons _ (al _))) fun _ h=>h⟩
    | true =>
     rw [hrt] at hri
     have hyes:selF au rI dI (I.take (k+1))=selF au rI dI (I.take k)++[fndOf dI it]:=by rw [htk,selB,hwt,hrt];rfl
     refine fq (args:=[it.v]) (all:=[it.v,.pointer (some ⟨bW,0,none⟩)]) (first:=#[]) (caps:=#[.pointer (some ⟨bW,0,none⟩)]) (hx:=rfl) (ha:=rfl) (hall:=rfl) (hc:=hwa) (hX:=fun w h=>h.1.2) (h:=?_)
     repeat' (first|(refine ab (hc:=hri) (hX:=fun w h=>h.1.1.2 it him) ?_)|refine gs ?_|refine gs1 fun _=>?_|(refine gp ?_ ?_<;>intro hx_ this)|fail)
     rename_i b8
     (refine ar ⟨[0,1,2,4],[(3,⟨[5],[(6,⟨[],[(7,⟨[8],[]⟩)]⟩)]⟩)]⟩ [cel b8 46 it.act.cells,cel b7 60 it.cells] (fun w=>(Items w ki I∧CelD bW [.string au] w)∧Glob w) (h:=?_))
     all_goals repeat' (first|(refine ab (hc:=hdi) (hX:=fun w h=>⟨h.1.1.2 it him,h.2⟩) ?_)|refine gdz ?_|refine ay (hsub:=by exact aE) (hy:=by first|(apply fa (cs:=(fndOf dI it).cells);rfl;rfl)) ?_|refine aA ?_ (h':=?_)|exact aB|refine cA (size:=22) (vs:=[.agg (fndOf dI it).cells.toArray]) (css:=(fndOf dI it).cells) (hsz:=by rfl) (hcs:=by rfl) fun _=>?_|(refine iS ?_;refine aF (size:=22) (news:=(fndOf dI it).cells) (q:=1) rfl rfl rfl rfl (fun _=>At.there _ (At.there _ (At.there _ (At.here _)))) (fun w G=>bT G aw rfl rfl 1) aa (by simp only [maxLen];omega) rfl ?_ rfl ?_;(first|with_reducible rfl|with_reducible assumption|with_reducible exact Zl|with_reducible exact Zn);intro A2 c2)|refine gs1 fun _=>?_|(refine gq ?_ ?_<;>intro hx_ this)|fail)
     all_goals
      repeat' (first|refine gs ?_|refine gs1 fun _=>?_|(refine gp ?_ ?_<;>intro hx_ this)|fail)
      exact ⟨(⟨k+1,hlt,A2,c2,n+1,by rw [hyes,ZA,←hn];rfl,xs++(fndOf dI it).cells,by rw [hyes,hxs];simp⟩:PikI I au rI dI),(by show I.length-(k+1)<I.length-k;omega),aj am (.cons _ (.cons _ (.cons _ (al _)))) fun _ h=>h⟩
 have hkE:k=I.length:=by omega
 rw [hkE,Qh] at hn hxs
 obtain ⟨P,hP⟩:∃ P,selF au rI dI I=P:=⟨_,rfl⟩
 rw [hP] at hn hxs
 have hPl:P.length≤I.length:=by rw [←hP,selF,ZF];exact Qa _ _
 subst hxs
 refine cj (pre:=[fndR ⟨A,n,c⟩ P]) (fr:=[]) (first:=#[]) (caps:=#[]) (hc:=hsort ⟨A,n,c⟩ P hn hPl) (hX:=fun _ _=>trivial) (h:=?_)
 rintro v R X' ⟨rfl,Q,hQ,rfl⟩
 have hQl:Q.length=n:=hQ.length_eq.trans hn.symm
 have hnI:n≤1000:=by omega
 refine cH (X':=fun w=>(Items w ki I∧CelD bW [.string au] w)∧Glob w) (fun w h=>h.1) ?_
 repeat' (first|refine gs ?_|refine gs1 fun _=>?_|(refine ix (c:=n) (hm:=Nat.ble_eq_true_of_le aa) (hm2:=Nat.ble_eq_true_of_le aa) fun bv=>?_)|(refine gp ?_ ?_<;>intro hx_ this)|fail)
 refine cO (r:=fndR ⟨A,n,c⟩ Q) aW (p:=0<n→A.isSome=true) (fun w h h0=>cC h h0) fun hAp=>?_
 refine aq (ι:=ValI Q) (fun i=>⟨[(11,.slice i.A i.k i.c),(47,.slice A n c),(48,.int .i64 (n:Nat)),(49,.int .i64 (i.k:Nat))],[orow 46 20 (.slice i.A i.k i.c) i.k i.xs,fndR ⟨A,n,c⟩ Q],fun w=>(Items w ki I∧CelD bW [.string au] w)∧Glob w⟩) (fun i=>Q.length-i.k) ⟨0,Z4 _,_,_,[],rfl⟩ (aj am (al _) fun _ h=>h) fun i=>?_
 obtain ⟨k2,hk2,A2,c2,xs2,hxs2⟩:=i
 simp only
 repeat' (first|refine gs ?_|refine gs1 fun _=>?_|(refine gp ?_ ?_<;>intro hx_ this)|fail)
 · have hlt:k2<Q.length:=by omega
   have hAp':=hAp aa
   obtain ⟨f,hf⟩:∃ f,Q[k2]?=some f:=⟨_,Zb hlt⟩
   repeat' (first|refine cA (size:=20) (vs:=[f.a.v]) (css:=f.a.cells) (hsz:=by rfl) (hcs:=by rfl) fun _=>?_|refine gs ?_|refine gs1 fun _=>?_|(refine aI (q:=k2*22) ?_)|(refine ai (gS (size:=22) (m:=n) (i:=k2) (xs:=Q.map FndA.cells) (cs:=f.cells) rfl (.tail _ (.head _)) (by rw [ZF];exact hQl.symm) (Eg Q) (by simp [hf])) rfl rfl rfl ?_)|(refine ax (vs:=f.a.cells) (hv:=rfl) ?_)|(refine gp ?_ ?_<;>intro hx_ this)|fail)
   refine aF (size:=20) (news:=f.a.cells) (q:=1) rfl rfl rfl rfl (fun _=>At.there _ (At.there _ (At.here _))) (fun w G=>bT G aw rfl rfl 1) aa (by simp only [maxLen];omega) rfl ?_ rfl ?_
   · (first|with_reducible rfl|with_reducible assumption|with_reducible exact Zl|with_reducible exact Zn)
   intro A3 c3
   repeat' (first|refine gs ?_|refine gs1 fun _=>?_|(refine gp ?_ ?_<;>intro hx_ this)|fail)
   exact ⟨(⟨k2+1,hlt,A3,c3,xs2++f.a.cells,by rw [Qg,hf,hxs2];simp⟩:ValI Q),(by show Q.length-(k2+1)<Q.length-k2;omega),aj am (.cons _ (.cons _ (al _))) fun _ h=>h⟩
 have hk2E:k2=Q.length:=by omega
 rw [hk2E,Qh] at hxs2
 have hLp:(Q.map FndA.a).Perm (selA au rI I):=by rw [←FM au rI dI I,hP];exact hQ.map _
 refine ad (ag rfl rfl) ⟨⟨A2,k2,c2⟩,Q.map FndA.a,rfl,hLp,fun w h=>?_⟩
 have hr:=h.2 (orow 46 20 (.slice A2 k2 c2) k2 xs2) (.head _)
 refine fD (l:=Q.map FndA.a) (by rw [Z0];rw [hxs2] at hr;exact hr) (by rw [ZF];exact hk2E) fun a ha=>?_
 have ha2:=hLp.subset ha
 rw [selA] at ha2
 obtain ⟨it,hit,rfl⟩:=QJ.1 ha2
 exact (h.1.1.1.2 it (QN.1 hit).1).1
theorem qf (ks ki:SlV) (I:List ItemD) (au:ByteArray) (rI:ItemD→Bool) (dI:ItemD→ByteArray)
  (hR:∀ it∈I,Pu Tryz.prog 73 #[it.v] (fun w=>it.at_ w) (.bool (rI it)))
  (hD:∀ it∈I,Pu Tryz.prog 18 #[it.v] (fun w=>it.at_ w∧Glob w) (.string (dI it)))
  (hI:I.length≤1000) (hsort:SortA I.length) :
  Mk Tryz.prog 62 #[.agg #[ks.v,ki.v],.string au] (fun w=>Items w ki I∧Glob w)
   (fun u X'=>∃ (s:SlV) (L:List ActD),u=s.v∧L.Perm (selA au rI I)∧∀ w,X' w→Acts w s L):=by
 refine bM (args:=[_,_]) _ Tryz.func62 rfl Tryz.ntmps62 rfl fun av bor w0=>?_
 repeat' (first|refine gs ?_|refine gs1 fun _=>?_|(refine dR ?_)|(refine gp ?_ ?_<;>intro hx_ this)|fail)
 rename_i b2 b3
 refine aZ ?_
 refine bZ (hc:=AY ks ki I b3 au rI dI hR hD hI hsort) (hX:=fun w h=>⟨⟨h.1.1,fC h.2⟩,h.1.2⟩) fun v X1 h1=>?_
 obtain ⟨s,L,rfl,hL,hw⟩:=h1
 repeat' (first|refine gs ?_|refine gs1 fun _=>?_|(refine gp ?_ ?_<;>intro hx_ this)|fail)
 exact ad (ag rfl rfl) ⟨s,L,rfl,hL,fun w h=>hw w h.1.2⟩
structure FndC where
 rank:Int
 dg:ByteArray
 a:ClaimD
def FndC.cells (f:FndC):List Value:=.int .i64 f.rank::.string f.dg::f.a.cells
theorem BR (P:List FndC):∀ r∈P.map FndC.cells,r.length=11:=fun r hr=>by
 obtain ⟨c,_,rfl⟩:=QJ.1 hr
 rfl
end Go.Proofs.YtaolfiikahlmkaaGreatDoor
