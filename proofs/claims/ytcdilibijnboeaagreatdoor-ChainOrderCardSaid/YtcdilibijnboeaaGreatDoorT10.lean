/- Joined by program out of: Um Un Uo Up Ur Va Zp Zq Zr Zs Jt Jw. -/
import Derived.Test.YtcdilibijnboeaaGreatDoorT9
set_option linter.unusedVariables false
set_option linter.unusedSimpArgs false
namespace Go.Proofs.YtcdilibijnboeaaGreatDoor
open Go Go.Proofs Sy
def numsR (a:ActD):Bool:=!isId a.author||(decide (a.seq<0)||(decide (1073741824<a.seq)||(decide (a.time<0)||(decide (1099511627776<a.time)||(decide (a.e<0)||(decide (2305843009213693950≤a.e)||(decide (a.s<0)||decide (2305843009213693950≤a.s))))))))
def seqR (a:ActD):Bool:=decide (a.seq=0)&&(!seqB a.prev ⟨#[]⟩||!decide (a.kind=0))||decide (0<a.seq)&&(!decide ((a.prev.size:Int)=32)||decide (a.kind=0))
theorem dnot {p q:Prop} [Decidable p] [Decidable q] (h:p↔¬ q):decide p=!decide q:=by rw [←decide_not];exact decide_eq_decide.2 h
theorem xD (a:ActD):(bif numsR a then false else bif seqR a then false else fitsR a)=rightB a:=by
 rw [AJ,rightB,numsR,seqR,placedB,withinB,withinB,withinB,withinB,isDigestB]
 rw [dnot (p:=a.seq<0) (q:=0≤a.seq) ae,dnot (p:=1073741824<a.seq) (q:=a.seq≤1073741824) ae,dnot (p:=a.time<0) (q:=0≤a.time) ae,dnot (p:=1099511627776<a.time) (q:=a.time≤1099511627776) ae,
  dnot (p:=a.e<0) (q:=0≤a.e) ae,dnot (p:=2305843009213693950≤a.e) (q:=a.e≤2305843009213693949) ae,dnot (p:=a.s<0) (q:=0≤a.s) ae,dnot (p:=2305843009213693950≤a.s) (q:=a.s≤2305843009213693949) (by omega)]
 cases isId a.author
 · rfl
 cases decide (0≤a.time)
 · cases decide (0≤a.seq)<;>cases decide (a.seq≤1073741824)<;>simp
 cases decide (a.time≤1099511627776)
 · cases decide (0≤a.seq)<;>cases decide (a.seq≤1073741824)<;>simp
 cases decide (0≤a.e)
 · cases decide (0≤a.seq)<;>cases decide (a.seq≤1073741824)<;>simp
 cases decide (a.e≤2305843009213693949)
 · cases decide (0≤a.seq)<;>cases decide (a.seq≤1073741824)<;>simp
 cases decide (0≤a.s)
 · cases decide (0≤a.seq)<;>cases decide (a.seq≤1073741824)<;>simp
 cases decide (a.s≤2305843009213693949)
 · cases decide (0≤a.seq)<;>cases decide (a.seq≤1073741824)<;>simp
 by_cases h0:a.seq=0
 · rw [h0]
   cases seqB a.prev ⟨#[]⟩<;>cases decide (a.kind=0)<;>simp
 by_cases h1:0<a.seq
 · rw [Zn h0,ZA h1,ZA (show 0≤a.seq by omega),ZA (show 1≤a.seq by omega)]
   cases decide (a.seq≤1073741824)<;>cases decide ((a.prev.size:Int)=32)<;>cases decide (a.kind=0)<;>simp
 · rw [Zn h0,Zn (show ¬ 0≤a.seq by omega),Zn (show ¬ 1≤a.seq by omega)]
   simp
set_option maxRecDepth 8000 in
set_option maxHeartbeats 8000000 in
theorem jJ (a:ActD) (hs:a.Str):Pu Tryz.prog 168 #[a.v] (ActD.at_ · a) (.bool (rightB a)):=by
 refine ay (args:=[_]) _ Tryz.func168 rfl Tryz.ntmps168 rfl fun av bor w0=>?_
 rw [←xD]
 have c1:=fR a.author hs.author
 have c2:=q8 a hs
 repeat' (first|apply ab|apply Qt|apply Qu|refine aj ?_|refine ad ?_|refine aB ?_|refine aA ?_|refine aF ?_|refine aD ?_|refine aG ?_|refine bD ?_|refine bP ?_|refine dF ?_|refine bj ?_|refine cG ?_|refine cZ ?_|refine fu ?_|refine bT ?_|refine aJ ?_|refine bR ?_|refine fH ?_|refine aL fun _=>?_|refine Qx ?_|refine Qy ?_|apply Qw|apply ar|(refine ao (hc:=c1) (hX:=fun _ _=>trivial) ?_)|(refine ao (hc:=c2) (hX:=fun w h=>h) ?_)|((fail_if_success (refine aZ ?_));refine aR (ht:=?_) (hf:=?_);all_goals (intro hx_;first|have:=aP hx_|have:=aT hx_|skip))|(refine aH (ht:=?_) (hf:=?_);all_goals (intro hx_;first|have:=aP hx_|have:=aT hx_)))
 all_goals refine al (ap rfl rfl) ?_
 all_goals first
  | rfl
  | (simp only [numsR,seqR, *,ZQ,ZO,ZC,ZB,ZE,ZD,ZH,ZG,ZK,ZI,ZP,ZJ,ZN,ZF];done)
  | (simp_all [numsR,seqR];done)
  | (simp_all [numsR,seqR];intros;omega)
  | skip
theorem mR (b:BoxD) (hb:b.Fit):Pu Tryz.prog 248 #[b.v] (fun _=>True) (.string (boxV b)):=by
 refine ay (args:=[_]) _ Tryz.func248 rfl Tryz.ntmps248 rfl fun av bor w0=>?_
 have h1:=aX b.nonce
 have h2:=aX b.data
 have h3:=aX b.tag
 have k1:=hb.nonce
 have k2:=hb.data
 have k3:=hb.tag
 repeat' (first|apply ab|apply Qt|apply Qu|refine ad ?_|refine aL fun _=>?_|fail)
 (apply bI;kernel_rfl)
 all_goals refine aa 0 ?_<;>refine aa 1 ?_<;>refine aa 3 ?_<;>refine aa 4 ?_<;>refine aa 7 ?_<;>refine aa 8 ?_<;>(refine ag 2 ?_;(refine ao (hc:=bX _ ae) ?_);apply ab;refine ai ?_)<;>(refine ag 5 ?_;(refine ao (hc:=bX _ ae) ?_);apply ab;refine ai ?_)<;>(refine aa 6 (hy:=by (apply bE;rfl;rfl;(try simp only [Zl]);omega)) ?_)<;>(refine ag 9 ?_;(refine ao (hc:=bX _ ae) ?_);apply ab;refine ai ?_)<;>(refine aa 10 (hy:=by (apply bE;rfl;rfl;(try simp only [Zl]);omega)) ?_)<;>refine aa 11 ?_<;>(refine aw ?_)
 repeat' (first|apply ar|fail)
 all_goals exact al (ap rfl rfl) rfl
theorem vZ {w:World} {p:Option Addr} {q:Nat} {x:WrapD} (h:∀ j u,x.cells[j]?=some u→CellAt w p (q+j) u):∀ j u,x.box.cells[j]?=some u→CellAt w p (q+2+j) u:=fun j u hj=>by
 have h1:=h (j+2) u hj
 rw [show q+2+j=q+(j+2) from by omega]
 exact h1
set_option maxRecDepth 8000 in
set_option maxHeartbeats 8000000 in
theorem ra (a:ActD) (hs:a.Str) (ha:rightB a=true→a.Fit):Pu Tryz.prog 216 #[a.v] (ActD.at_ · a) (.string (actCore a)):=by
 have hri:=jJ a hs
 rw [actCore]
 cases hrB:rightB a with
 | false =>
  rw [hrB] at hri
  refine ay (args:=[_]) _ Tryz.func216 rfl Tryz.ntmps216 rfl fun av bor w0=>?_
  repeat' (first|apply ab|apply Qt|apply Qu|refine aj ?_|refine ad ?_|refine aF ?_|refine bD ?_|refine aL fun _=>?_|refine Qx ?_|apply ar|(refine ao (hc:=hri) (hX:=fun w h=>h) ?_)|fail)
  exact al (ap rfl rfl) rfl
 | true =>
 rw [hrB] at hri
 replace ha:=ha hrB
 refine ay (args:=[_]) _ Tryz.func216 rfl Tryz.ntmps216 rfl fun av bor w0=>?_
 refine bJ (p:=a.wraps.n=a.wrapsL.length∧a.wraps.n≤maxLen∧(0<a.wrapsL.length→a.wraps.p.isSome=true)) (fun w h=>⟨h.2.len_,Qp (RowsD.cap h.2) (RowsD.max h.2),h.2.some_⟩) fun ⟨hl,hm,hp⟩=>?_
 simp only [maxLen] at hm
 obtain ⟨i1,i2,i3,i4,i5,i6,i7,i8,i9⟩:=ha.ints
 have s1:=aX a.author
 have s2:=aX a.prev
 have s3:=aX a.object
 have s4:=aX a.target
 have s5:=aX a.group
 have s6:=aX a.text
 have s7:=aX ⟨#[97,99,116]⟩
 have s8:=fV ha.body
 have h1:=ha.author
 have h2:=ha.prev
 have h3:=ha.object
 have h4:=ha.target
 have h5:=ha.group
 have h6:=ha.text
 have h7:=ha.to
 have h8:(⟨#[97,99,116]⟩:ByteArray).size=3:=rfl
 have n1:=aO a.seq
 have n2:=aO a.kind
 have n3:=aO a.time
 have n4:=aO a.scope
 have n5:=aO a.epoch
 have n6:=aO a.wraps.n
 have n7:=aO a.n
 have n8:=aO a.m
 repeat' (first|apply ab|apply Qt|apply Qu|refine aj ?_|refine ad ?_|refine aF ?_|refine bD ?_|refine aL fun _=>?_|refine Qy ?_|apply Qw|(refine ao (hc:=hri) (hX:=fun w h=>h) ?_)|fail)
 (apply bI;kernel_rfl)
 all_goals refine aa 1 ?_<;>refine aa 2 ?_<;>refine aa 5 ?_<;>refine aa 6 ?_<;>refine aa 9 ?_<;>refine aa 10 ?_<;>refine aa 13 ?_<;>refine aa 14 ?_<;>refine aa 17 ?_<;>refine aa 18 ?_<;>(refine ag 0 ?_;(refine ao (hc:=bX _ ae) ?_);apply ab;refine ai ?_)<;>(refine ag 3 ?_;(refine ao (hc:=bX _ ae) ?_);apply ab;refine ai ?_)<;>(refine aa 4 (hy:=by (apply bE;rfl;rfl;(try simp only [Zl]);omega)) ?_)<;>(refine ag 7 ?_;(refine ao (hc:=bz _ ae) ?_);apply ab;refine ai ?_)<;>(refine aa 8 (hy:=by (apply bE;rfl;rfl;(try simp only [Zl]);omega)) ?_)<;>(refine ag 11 ?_;(refine ao (hc:=bX _ ae) ?_);apply ab;refine ai ?_)<;>(refine aa 12 (hy:=by (apply bE;rfl;rfl;(try simp only [Zl]);omega)) ?_)<;>(refine ag 15 ?_;(refine ao (hc:=bz _ ae) ?_);apply ab;refine ai ?_)<;>(refine aa 16 (hy:=by (apply bE;rfl;rfl;(try simp only [Zl]);omega)) ?_)<;>(refine ag 19 ?_;(refine ao (hc:=bz _ ae) ?_);apply ab;refine ai ?_)<;>(refine aa 20 (hy:=by (apply bE;rfl;rfl;(try simp only [Zl]);omega)) ?_)<;>refine aa 21 ?_<;>(refine aw ?_)
 repeat' (first|apply Qt|fail)
 (apply bI;kernel_rfl)
 all_goals refine aa 0 ?_<;>refine aa 1 ?_<;>refine aa 2 ?_<;>refine aa 5 ?_<;>refine aa 6 ?_<;>refine aa 9 ?_<;>refine aa 10 ?_<;>refine aa 13 ?_<;>refine aa 14 ?_<;>refine aa 17 ?_<;>refine aa 18 ?_<;>refine aa 21 ?_<;>refine aa 22 ?_<;>(refine ag 3 ?_;(refine ao (hc:=bX _ ae) ?_);apply ab;refine ai ?_)<;>(refine aa 4 (hy:=by (apply bE;rfl;rfl;(try simp only [Zl]);omega)) ?_)<;>(refine ag 7 ?_;(refine ao (hc:=bX _ ae) ?_);apply ab;refine ai ?_)<;>(refine aa 8 (hy:=by (apply bE;rfl;rfl;(try simp only [Zl]);omega)) ?_)<;>(refine ag 11 ?_;(refine ao (hc:=bz _ ae) ?_);apply ab;refine ai ?_)<;>(refine aa 12 (hy:=by (apply bE;rfl;rfl;(try simp only [Zl]);omega)) ?_)<;>(refine ag 15 ?_;(refine ao (hc:=bX _ ae) ?_);apply ab;refine ai ?_)<;>(refine aa 16 (hy:=by (apply bE;rfl;rfl;(try simp only [Zl]);omega)) ?_)<;>(refine ag 19 ?_;(refine ao (hc:=lp a.to a.toL ae) ?_);apply ab;refine ai ?_)<;>(refine aa 20 (hy:=by (apply bE;rfl;rfl;(try simp only [Zl]);omega)) ?_)<;>(refine ag 23 ?_;(refine ao (hc:=bX _ ae) ?_);apply ab;refine ai ?_)<;>(refine aa 24 (hy:=by (apply bE;rfl;rfl;(try simp only [Zl]);omega)) ?_)<;>refine aa 25 ?_<;>(refine aw ?_)
 repeat' (first|apply Qt|fail)
 (apply bI;kernel_rfl)
 all_goals refine aa 0 ?_<;>refine aa 1 ?_<;>(refine aa 2 (hy:=by (apply cH;rfl;(repeat (exact aI));exact ActD.cells_body _;rfl)) ?_)<;>refine aa 5 ?_<;>refine aa 6 ?_<;>refine aa 9 ?_<;>refine aa 10 ?_<;>refine aa 11 ?_<;>(refine ag 3 ?_;(refine ao (hc:=mR a.body ha.body) ?_);apply ab;refine ai ?_)<;>(refine aa 4 (hy:=by (apply bE;rfl;rfl;(try simp only [Zl]);omega)) ?_)<;>(refine ag 7 ?_;(refine ao (hc:=bz _ ae) ?_);apply ab;refine ai ?_)<;>(refine aa 8 (hy:=by (apply bE;rfl;rfl;(try simp only [Zl]);omega)) ?_)<;>(refine ag 12 ?_;(refine ao (hc:=bz _ ae) ?_);apply ab;refine ai ?_)<;>(refine aa 13 (hy:=by (apply bE;rfl;rfl;(try simp only [Zl]);omega)) ?_)<;>refine aa 14 ?_<;>(refine aw ?_)
 repeat' (first|apply ab|apply Qt|apply Qu|refine ad ?_|apply Qv|fail)
 rename_i b
 have hc4:(core4 a).size≤100000000000:=by
  have:(numV a.wrapsL.length).size≤10:=aO _
  simp only [core4,core3,core2,core1,Zl]
  omega
 have hle:=eO (a.wrapsL.map wrapV)
 have hw:=ha.wrapsV
 have e0:core5 a 0=core4 a:=by simp [core5,cats]
 refine aU (ι:=Kth a.wrapsL.length) (fun i=>⟨[(1,.pointer (some ⟨b,0,none⟩)),(4,.string (core5 a i.k)),(5,.int .i64 (i.k:Nat))],[cel b 46 a.cells],(ActD.at_ · a)⟩) (fun i=>a.wrapsL.length-i.k) ⟨0,Nat.zero_le _⟩ (ax ⟨rfl,?_,rfl,trivial⟩ (aE _) fun _ h=>h) fun i=>?_
 · simp only [e0,core4,core3,core2,core1,←hl,ZV];rfl
 have hik:=i.hk
 have hk5:(core5 a i.k).size≤200000000000:=by have:=hle i.k;simp only [core5,Zl];omega
 repeat' (first|apply ab|apply Qt|apply Qu|refine aj ?_|refine aB ?_|refine aA ?_|refine bj ?_|refine aY ?_|apply Qw|apply Qv|apply aQ|(refine aH (ht:=?_) (hf:=?_);all_goals (intro hx_;first|have:=aP hx_|have:=aT hx_)))
 · have hlt:i.k<a.wrapsL.length:=by omega
   have hp':=hp ae
   obtain ⟨x,hx⟩:∃ x,a.wrapsL[i.k]?=some x:=⟨_,Zm hlt⟩
   have hxm:x∈a.wrapsL:=List.mem_of_getElem? hx
   have hf:=ha.wraps x hxm
   have hfs:=fV hf
   obtain ⟨w1,w2⟩:=ha.wints x hxm
   have m1:=aO x.to
   have m2:=aO x.eph
   (refine aS [cel b 46 a.cells] (ActD.at_ · a) ak ?_)
   all_goals refine aa 0 ?_<;>refine aa 1 ?_<;>refine aa 2 ?_<;>refine aa 3 ?_<;>(refine aa 4 (hy:=by (apply aN (q:=i.k*5);rfl;rfl;omega;omega;assumption;omega)) ?_)<;>(refine aa 5 (hy:=by (apply eU;rfl;assumption;rfl)) ?_)<;>(refine aa 6 (hy:=by (apply dv (q:=i.k*5) (u:=.int .i64 x.to);rfl;exact fun w h=>(Wraps.get h.2 hx).2.2 0 _ rfl)) ?_)<;>refine aa 9 ?_<;>refine aa 10 ?_<;>refine aa 11 ?_<;>(refine aa 12 (hy:=by (apply aN (q:=i.k*5);rfl;rfl;omega;omega;assumption;omega)) ?_)<;>(refine aa 13 (hy:=by (apply eU;rfl;assumption;rfl)) ?_)<;>(refine aa 14 (hy:=by (apply dv (q:=i.k*5+1) (u:=.int .i64 x.eph);rfl;exact fun w h=>(Wraps.get h.2 hx).2.2 1 _ rfl)) ?_)<;>refine aa 17 ?_<;>refine aa 18 ?_<;>refine aa 19 ?_<;>(refine aa 20 (hy:=by (apply aN (q:=i.k*5);rfl;rfl;omega;omega;assumption;omega)) ?_)<;>(refine aa 21 (hy:=by (apply eU;rfl;assumption;rfl)) ?_)<;>(refine aa 22 (hy:=by (apply cX (q:=i.k*5+2) (cs:=x.box.cells);rfl;exact fun w h=>⟨rfl,(Wraps.get h.2 hx).2.1,vZ (Wraps.get h.2 hx).2.2⟩)) ?_)<;>(refine ag 7 ?_;(refine ao (hc:=bz _ ae) ?_);apply ab;refine ai ?_)<;>(refine aa 8 (hy:=by (apply bE;rfl;rfl;(try simp only [Zl]);omega)) ?_)<;>(refine ag 15 ?_;(refine ao (hc:=bz _ ae) ?_);apply ab;refine ai ?_)<;>(refine aa 16 (hy:=by (apply bE;rfl;rfl;(try simp only [Zl]);omega)) ?_)<;>(refine ag 23 ?_;(refine ao (hc:=mR x.box hf) ?_);apply ab;refine ai ?_)<;>(refine aa 24 (hy:=by (apply bE;rfl;rfl;(try simp only [Zl]);omega)) ?_)<;>refine aa 25 ?_<;>(refine aw ?_)
   repeat' (first|apply ab|apply Qu|refine aj ?_|refine ad ?_|refine be (h:=?_)|fail)
   have hsucc:=fg (a.wrapsL.map wrapV) (k:=i.k) (by simpa using hlt)
   have hget:(a.wrapsL.map wrapV).getD i.k .empty=wrapV x:=by simp [hx]
   rw [hget] at hsucc
   have e2:core5 a (i.k+1)=core5 a i.k++numV x.to++numV x.eph++boxV x.box:=by simp only [core5,hsucc,ZV,wrapV]
   all_goals exact ⟨(⟨i.k+1,hlt⟩:Kth a.wrapsL.length),(by show a.wrapsL.length-(i.k+1)<a.wrapsL.length-i.k;omega),ax ⟨rfl,by rw [e2];rfl,rfl,trivial⟩ (aE _) fun _ h=>h⟩
 have hke:i.k=a.wrapsL.length:=by omega
 (apply bI;kernel_rfl)
 all_goals refine aa 0 ?_<;>refine aa 1 ?_<;>refine aa 2 ?_<;>refine aa 5 ?_<;>refine aa 6 ?_<;>(refine ag 3 ?_;(refine ao (hc:=bz _ ae) ?_);apply ab;refine ai ?_)<;>(refine aa 4 (hy:=by (apply bE;rfl;rfl;(try simp only [Zl]);omega)) ?_)<;>(refine ag 7 ?_;(refine ao (hc:=bz _ ae) ?_);apply ab;refine ai ?_)<;>(refine aa 8 (hy:=by (apply bE;rfl;rfl;(try simp only [Zl]);omega)) ?_)<;>refine aa 9 ?_<;>(refine aw ?_)
 repeat' (first|apply ar|fail)
 refine al (ap rfl rfl) ?_
 simp only [ZC,coreV,←hke]
theorem ls (a:ActD) (hs:a.Str) (ha:rightB a=true→a.Fit) (hi:a.e<9223372036854775808∧a.s<9223372036854775808):Pu Tryz.prog 179 #[a.v] (ActD.at_ · a) (.string (actBytes a)):=by
 refine ay (args:=[_]) _ Tryz.func179 rfl Tryz.ntmps179 rfl fun av bor w0=>?_
 obtain ⟨i8,i9⟩:=hi
 have n7:=aO a.e
 have n8:=aO a.s
 have hc:(actCore a).size≤300000000000:=by
  unfold actCore
  cases hrB:rightB a with
  | true=>exact gp (ha hrB)
  | false=>simp [ByteArray.size]
 have hcp:=ra a hs ha
 repeat' (first|apply ab|apply Qt|apply Qu|refine aj ?_|refine ad ?_|refine aF ?_|refine cI ?_|refine aL fun _=>?_|apply Qw|apply ar|(refine ao (hc:=hcp) (hX:=fun w h=>h) ?_)|(refine aH (ht:=?_) (hf:=?_);all_goals (intro hx_;skip)))
 · (all_goals (apply al;apply ap;rfl;rfl));all_goals (simp only [actBytes, *,ZQ,ZO,ZC,ZB,ZE,ZD,ZH,ZG,ZK,ZI,ZP,ZJ,ZN,ZF];done)
 (apply bI;kernel_rfl)
 all_goals refine aa 0 ?_<;>refine aa 1 ?_<;>refine aa 2 ?_<;>refine aa 3 ?_<;>refine aa 6 ?_<;>refine aa 7 ?_<;>refine aa 8 ?_<;>(refine ag 4 ?_;(refine ao (hc:=bz _ ae) ?_);apply ab;refine ai ?_)<;>(refine aa 5 (hy:=by (apply bE;rfl;rfl;(try simp only [Zl]);omega)) ?_)<;>(refine ag 9 ?_;(refine ao (hc:=bz _ ae) ?_);apply ab;refine ai ?_)<;>(refine aa 10 (hy:=by (apply bE;rfl;rfl;(try simp only [Zl]);omega)) ?_)<;>refine aa 11 ?_<;>(refine aw ?_)
 repeat' (first|apply ar|fail)
 all_goals ((all_goals (apply al;apply ap;rfl;rfl));all_goals (simp only [actBytes, *,ZQ,ZO,ZC,ZB,ZE,ZD,ZH,ZG,ZK,ZI,ZP,ZJ,ZN,ZF];done))
theorem qS:Tryz.prog.underlying 44=some (.struct (Tryz.prog.fieldsOf 44)):=by kernel_rfl
theorem uC:Tryz.prog.stoodInHeld 44=false:=by kernel_rfl
theorem uD:Tryz.prog.eqGuardType Tryz.prog.depth 44=false:=by kernel_rfl
theorem uI (w:World) (a b c d:Int):(Op.equalIn 10000 44 (.agg #[.int .i64 a,.int .i64 b]) (.agg #[.int .i64 c,.int .i64 d])).run Tryz.prog w=.ok (decide (a=c)&&decide (b=d)) w:=by
 have e:(10000:Nat)=9999+1:=rfl
 have e2:(9999:Nat)=9998+1:=rfl
 rw [e,run_equalIn_agg _ _ _ _ _ qS uC]
 have hf:(Tryz.prog.fieldsOf 44).toList.map (fun f=>(f.name,f.type,f.offset))=[("E",3,0),("S",3,1)]:=by kernel_rfl
 generalize (Tryz.prog.fieldsOf 44).toList=l at hf
 rcases l with _|⟨f1,_|⟨f2,_|⟨f3,l⟩⟩⟩
 case cons.cons.nil =>
  simp only [Qs,List.map_nil,List.cons.injEq,Prod.mk.injEq,and_true] at hf
  obtain ⟨⟨n1,t1,o1⟩,n2,t2,o2⟩:=hf
  have hag:=fun w=>(cD (TyOne.out (P:=Tryz.prog) (t:=3)) w).1
  have hst:=fun (x y:Int) (w:World)=>run_equalIn_int (P:=Tryz.prog) w 9998 3 .i64 .i64 x y TyInt.out
  cases h1:decide (a=c)<;>cases h2:decide (b=d) <;>
  · simp only [ZT,decide_eq_false_iff_not] at h1 h2
    simp [Op.eqFields,n1,n2,t1,t2,o1,o2,part,hag,e2,hst,h1,h2]
 all_goals (have:=congrArg List.length hf;simp at this)
theorem rU {N:Nat} {av bor:List Nat} {w0:World} {E:Env} {loc:List Res} {X:World→Prop} {ty t2:TypeId} {x y:Operand} {a b c d:Int} (hx:ev E x=some (.agg #[.int .i64 a,.int .i64 b])) (hy:ev E y=some (.agg #[.int .i64 c,.int .i64 d])) :
  Sy.Yields Tryz.prog N av bor w0 ⟨E,loc,X⟩ (.binOp .eql 44 x y t2) ty (.bool (decide (a=c)&&decide (b=d))):=Sy.Yields.mk fun A w ok dd pos af g=>by
 have h1:=run_eql_struct (P:=Tryz.prog) w 44 #[.int .i64 a,.int .i64 b] #[.int .i64 c,.int .i64 d]
 have h2:=uI w a b c d
 rw [h2] at h1
 simp [execOp,ok.eval (st:=⟨E,loc,X⟩) hx,ok.eval (st:=⟨E,loc,X⟩) hy,run_eqGuard_agg _ _ _ _ _ _ _ uD,h1]
section
variable {N:Nat} {av bor:List Nat} {w0:World} {ops:Array Oper} {rest:List Oper} {kk:St→Prop} {E:Env} {loc:List Res} {X:World→Prop} {n:Nat} {ty t2:TypeId} {pos:String} {af:Array Edge} {g:Option (Nat×Bool)} {bb want:Bool} {x y:Operand} {a b c d:Int}
theorem xg (h:Sw Tryz.prog N av bor w0 ops rest ⟨(n,.bool (decide (a=c)&&decide (b=d)))::E,loc,X⟩ kk) (hx:ev E x=some (.agg #[.int .i64 a,.int .i64 b]):=by rfl) (hy:ev E y=some (.agg #[.int .i64 c,.int .i64 d]):=by rfl) (hg:gdB ops E g=some (bb,want):=by rfl) (hbb:bb=want:=by exact aC) (hd:Nat.blt n N=true:=by rfl) :
  Sw Tryz.prog N av bor w0 ops (⟨some n,.binOp .eql 44 x y t2,ty,pos,af,g⟩::rest) ⟨E,loc,X⟩ kk:=am (rU hx hy) hg hbb hd h
end
def sameZ (a:ActD):Bool:=decide ((a.to.n:Int)=0)&&(decide ((a.wraps.n:Int)=0)&&(seqB a.author ActD.zero.author&&(decide (a.seq=ActD.zero.seq)&&(seqB a.prev ActD.zero.prev&&(decide (a.kind=ActD.zero.kind)&&(decide (a.time=ActD.zero.time)&&(seqB a.object ActD.zero.object&&(seqB a.target ActD.zero.target&&(decide (a.scope=ActD.zero.scope)&&(seqB a.group ActD.zero.group&&(seqB a.text ActD.zero.text&&(boxEq a.body BoxD.zero&&(decide (a.epoch=ActD.zero.epoch)&&(decide (a.n=ActD.zero.n)&&(decide (a.m=ActD.zero.m)&&(decide (a.e=0)&&decide (a.s=0)))))))))))))))))
set_option maxRecDepth 20000 in
set_option maxHeartbeats 8000000 in
theorem qZ (a:ActD):Pu Tryz.prog 42 #[a.v,ActD.zero.v] (fun _=>True) (.bool (sameZ a)):=by
 refine ay (args:=[_,_]) _ Tryz.func42 rfl Tryz.ntmps42 rfl fun av bor w0=>?_
 repeat' (first|apply ab|apply Qt|apply Qu|refine aj ?_|refine ad ?_|refine aB ?_|refine aA ?_|refine aD ?_|refine aG ?_|refine dF ?_|refine aY ?_|refine bR ?_|refine aL fun _=>?_|refine Qx ?_|apply Qw|apply Qv|apply ar|((fail_if_success (refine aZ ?_));refine aR (ht:=?_) (hf:=?_);all_goals (intro hx_;skip))|(refine aH (ht:=?_) (hf:=?_);all_goals (intro hx_;skip)))
 · refine al (ap rfl rfl) ?_
   have h0:ActD.zero.to.n=0:=rfl
   rw [h0] at hx_
   simp_all [sameZ]
 · refine al (ap rfl rfl) ?_
   have h0:ActD.zero.wraps.n=0:=rfl
   rw [h0] at hx_
   simp_all [sameZ]
 rename_i b1 b2 g1
 have n1:a.to.n=0:=by
  have h0:ActD.zero.to.n=0:=rfl
  rw [h0] at g1
  simpa using g1
 have n2:a.wraps.n=0:=by
  have h0:ActD.zero.wraps.n=0:=rfl
  rw [h0] at hx_
  simpa using hx_
 refine aU (ι:=Unit) (fun _=>⟨[(2,.pointer (some ⟨b1,0,none⟩)),(3,.pointer (some ⟨b2,0,none⟩)),(5,.int .i64 0)],[cel b2 46 ActD.zero.cells,cel b1 46 a.cells],fun _=>True⟩) (fun _=>0) () (ax ⟨rfl,rfl,rfl,trivial⟩ (aE _) fun _ h=>h) fun _=>?_
 repeat' (first|apply ab|apply Qt|apply Qu|refine aj ?_|refine ad ?_|refine aB ?_|refine aA ?_|refine bj ?_|refine aY ?_|apply Qw|apply Qv|apply aQ|(refine aH (ht:=?_) (hf:=?_);all_goals (intro hx_;first|have:=aP hx_|have:=aT hx_)))
 · exact absurd this (by rw [n1];decide)
 refine aU (ι:=Unit) (fun _=>⟨[(2,.pointer (some ⟨b1,0,none⟩)),(3,.pointer (some ⟨b2,0,none⟩)),(6,.int .i64 0)],[cel b2 46 ActD.zero.cells,cel b1 46 a.cells],fun _=>True⟩) (fun _=>0) () (ax ⟨rfl,rfl,rfl,trivial⟩ (aE _) fun _ h=>h) fun _=>?_
 repeat' (first|apply ab|apply Qt|apply Qu|refine aj ?_|refine ad ?_|refine aB ?_|refine aA ?_|refine aD ?_|refine aG ?_|refine bP ?_|refine bj ?_|refine cI ?_|refine aY ?_|refine aJ ?_|apply Qw|apply Qv|apply ar|apply aQ|(refine iu (a:=a.body) (b:=BoxD.zero) ?_)|(refine xg (a:=a.e) (b:=a.s) (c:=0) (d:=0) ?_)|(refine aW ?_)|((fail_if_success (refine aZ ?_));refine aR (ht:=?_) (hf:=?_);all_goals (intro hx_;first|have:=aP hx_|have:=aT hx_|skip))|(refine aH (ht:=?_) (hf:=?_);all_goals (intro hx_;first|have:=aP hx_|have:=aT hx_)))
 · exact absurd this (by rw [n2];decide)
 all_goals (
  refine al (ap rfl rfl) ?_
  have q1:decide ((a.to.n:Int)=0)=true:=by rw [n1];rfl
  have q2:decide ((a.wraps.n:Int)=0)=true:=by rw [n2];rfl
  rw [sameZ,q1,q2]
  clear q1 q2 n1 n2
  first
   | rfl
   | (simp_all only [ZD,ZG,ZH,ZQ,ZO,ZE];done)
   | (simp_all;done)
   | skip)
theorem CellAt.same {w:World} {p:Option Addr} {q:Nat} {u v:Value} (h1:CellAt w p q u) (h2:CellAt w p q v):u=v:=by
 obtain ⟨a,ha⟩:=Option.isSome_iff_exists.1 h1.1
 have:=(h1.2 a ha).symm.trans (h2.2 a ha)
 exact Option.some.inj this
theorem Strs.same {w:World} {s:SlV} {l m:List ByteArray} (h1:Strs w s l) (h2:Strs w s m):l=m:=by
 have hl:l.length=m.length:=h1.len_.symm.trans h2.len_
 apply List.ext_getElem hl
 intro i i1 i2
 have a1:=h1.at_ (Zm i1)
 have a2:=h2.at_ (Zm i2)
 exact Value.string.inj (CellAt.same a1 a2)
section
variable {H:Type} {enc:TypeId×Value→H} {P:Program} {w:World} {base:Nat} {spare:Nat→Bool} {held:Bool}
theorem SlV.v_inj {s t:SlV} (h:s.v=t.v):s=t:=by
 obtain ⟨p,n,c⟩:=s
 obtain ⟨p',n',c'⟩:=t
 simp only [SlV.v,Value.slice.injEq] at h
 obtain ⟨rfl,rfl,rfl⟩:=h
 rfl
theorem yS {fuel:Nat} {a:ActD} {x:DataW H×List MemPlace} (h:DataW.trod enc Tryz.prog w base spare held fuel 46 a.cells=some x) (ha:a.at_ w):a.Str:=by
 obtain ⟨n0,y0,h0⟩:=bA (i:=0) (off:=0) (k:=1) (t':=9) Tryz.underlying46 h rfl rfl rfl ak
 obtain ⟨n6,y6,h6⟩:=bA (i:=6) (off:=6) (k:=1) (t':=9) Tryz.underlying46 h rfl rfl rfl ak
 obtain ⟨n8,y8,h8⟩:=bA (i:=8) (off:=8) (k:=1) (t':=9) Tryz.underlying46 h rfl rfl rfl ak
 obtain ⟨n9,y9,h9⟩:=bA (i:=9) (off:=9) (k:=1) (t':=39) Tryz.underlying46 h rfl rfl rfl ak
 obtain ⟨n10,y10,h10⟩:=bA (i:=10) (off:=10) (k:=1) (t':=9) Tryz.underlying46 h rfl rfl rfl ak
 obtain ⟨s0,e0,b0⟩:=cg h0
 obtain ⟨s6,e6,b6⟩:=cg h6
 obtain ⟨s8,e8,b8⟩:=cg h8
 obtain ⟨s9,l9,e9,r9,b9⟩:=gY h9
 obtain ⟨s10,e10,b10⟩:=cg h10
 simp [ActD.cells] at e0 e6 e8 e9 e10
 have e9':=SlV.v_inj e9
 subst e0;subst e6;subst e8;subst e10
 rw [←e9'] at r9
 have e:=Strs.same ha.1 r9
 exact ⟨b0,b6,b8,b10,by rw [e];exact b9⟩
theorem u9 {fuel:Nat} {cs:List Value} {x:DataW H×List MemPlace} (h:DataW.trod enc Tryz.prog w base spare held fuel 46 cs=some x):∃ a:ActD,cs=a.cells∧a.at_ w∧a.Rng∧a.target.size≤maxLen∧a.Str:=by
 obtain ⟨a,e,h1,h2,h3⟩:=xL h
 subst e
 exact ⟨a,rfl,h1,h2,h3,yS h h1⟩
end
end Go.Proofs.YtcdilibijnboeaaGreatDoor
namespace Go.Proofs.YtcdilibijnboeaaGreatDoor
open Go Go.Proofs Sy Go.RowKit Go.Deep Go.ChangeShapes
structure ClaimD.Str (c:ClaimD):Prop where
 actor:c.actor.size≤maxLen
 prev:c.prev.size≤maxLen
 rng:c.base<9223372036854775808∧c.gen<9223372036854775808∧c.home<9223372036854775808∧c.pub<9223372036854775808∧c.time<9223372036854775808∧c.e<9223372036854775808∧c.s<9223372036854775808
structure BallotD.Str (b:BallotD):Prop where
 actor:b.actor.size≤maxLen
 claim:b.claim.size≤maxLen
 rng:b.server<9223372036854775808∧b.gen<9223372036854775808∧b.time<9223372036854775808∧b.e<9223372036854775808∧b.s<9223372036854775808
structure DecD.Str (d:DecD):Prop where
 actor:d.actor.size≤maxLen
 object:d.object.size≤maxLen
 text:d.text.size≤maxLen
 to:∀ x∈d.toL,x.size≤maxLen
 rng:d.server<9223372036854775808∧d.number<9223372036854775808∧d.kind<9223372036854775808∧d.n<9223372036854775808∧d.from_<9223372036854775808∧d.until_<9223372036854775808∧d.e<9223372036854775808∧d.s<9223372036854775808
structure ItemD.Str (i:ItemD):Prop where
 act:i.act.Str
 rng:i.act.Rng
 claim:i.claim.Str
 ballot:i.ballot.Str
 dec:i.dec.Str
section
variable {H:Type} {enc:TypeId×Value→H} {P:Program} {w:World} {base:Nat} {spare:Nat→Bool} {held:Bool}
theorem lw {fuel:Nat} {cs:List Value} {x:DataW H×List MemPlace} (h:DataW.trod enc Tryz.prog w base spare held fuel 22 cs=some x):∃ (s:SlV) (l:List Int),cs=[s.v]∧Ints w s l∧∀ n∈l,n<9223372036854775808:=by
 obtain ⟨s,l,h1,h2,h3⟩:=fS (α:=Int) Tryz.underlying22 (size:=1) ak (fun n=>[.int .i64 n]) (fun n=>n<9223372036854775808) (fun n cs y hy=>by obtain ⟨s,h1,h2⟩:=bQ hy;exact ⟨s,h1,h2⟩) h
 exact ⟨s,l,h1,h2,h3⟩
theorem rr {fuel:Nat} {cs:List Value} {x:DataW H×List MemPlace} (h:DataW.trod enc Tryz.prog w base spare held fuel 51 cs=some x):∃ a:ClaimD,cs=a.cells∧a.Str:=by
 have hl:=gg Tryz.underlying51 (k:=9) ak h
 obtain ⟨n0,y0,h0⟩:=bA (i:=0) (off:=0) (k:=1) (t':=9) Tryz.underlying51 h rfl rfl rfl ak
 obtain ⟨n1,y1,h1⟩:=bA (i:=1) (off:=1) (k:=1) (t':=3) Tryz.underlying51 h rfl rfl rfl ak
 obtain ⟨n2,y2,h2⟩:=bA (i:=2) (off:=2) (k:=1) (t':=9) Tryz.underlying51 h rfl rfl rfl ak
 obtain ⟨n3,y3,h3⟩:=bA (i:=3) (off:=3) (k:=1) (t':=3) Tryz.underlying51 h rfl rfl rfl ak
 obtain ⟨n4,y4,h4⟩:=bA (i:=4) (off:=4) (k:=1) (t':=3) Tryz.underlying51 h rfl rfl rfl ak
 obtain ⟨n5,y5,h5⟩:=bA (i:=5) (off:=5) (k:=1) (t':=3) Tryz.underlying51 h rfl rfl rfl ak
 obtain ⟨n6,y6,h6⟩:=bA (i:=6) (off:=6) (k:=1) (t':=3) Tryz.underlying51 h rfl rfl rfl ak
 obtain ⟨n7,y7,h7⟩:=bA (i:=7) (off:=7) (k:=2) (t':=44) Tryz.underlying51 h rfl rfl rfl ak
 match cs,hl with
 | [c0,c1,c2,c3,c4,c5,c6,c7,c8],_ =>
  obtain ⟨s0,e0,b0⟩:=cg h0
  obtain ⟨s1,e1,b1⟩:=bQ h1
  obtain ⟨s2,e2,b2⟩:=cg h2
  obtain ⟨s3,e3,b3⟩:=bQ h3
  obtain ⟨s4,e4,b4⟩:=bQ h4
  obtain ⟨s5,e5,b5⟩:=bQ h5
  obtain ⟨s6,e6,b6⟩:=bQ h6
  obtain ⟨s7,t7,e7,b7,bb7⟩:=iL h7
  simp at e0 e1 e2 e3 e4 e5 e6 e7
  exact ⟨⟨s0,s1,s2,s3,s4,s5,s6,s7,t7⟩,by simp [ClaimD.cells,e0,e1,e2,e3,e4,e5,e6,e7],⟨b0,b2,b1,b3,b4,b5,b6,b7,bb7⟩⟩
theorem pO {fuel:Nat} {cs:List Value} {x:DataW H×List MemPlace} (h:DataW.trod enc Tryz.prog w base spare held fuel 53 cs=some x):∃ a:BallotD,cs=a.cells∧a.Str:=by
 have hl:=gg Tryz.underlying53 (k:=7) ak h
 obtain ⟨n0,y0,h0⟩:=bA (i:=0) (off:=0) (k:=1) (t':=3) Tryz.underlying53 h rfl rfl rfl ak
 obtain ⟨n1,y1,h1⟩:=bA (i:=1) (off:=1) (k:=1) (t':=9) Tryz.underlying53 h rfl rfl rfl ak
 obtain ⟨n2,y2,h2⟩:=bA (i:=2) (off:=2) (k:=1) (t':=3) Tryz.underlying53 h rfl rfl rfl ak
 obtain ⟨n3,y3,h3⟩:=bA (i:=3) (off:=3) (k:=1) (t':=9) Tryz.underlying53 h rfl rfl rfl ak
 obtain ⟨n4,y4,h4⟩:=bA (i:=4) (off:=4) (k:=1) (t':=3) Tryz.underlying53 h rfl rfl rfl ak
 obtain ⟨n5,y5,h5⟩:=bA (i:=5) (off:=5) (k:=2) (t':=44) Tryz.underlying53 h rfl rfl rfl ak
 match cs,hl with
 | [c0,c1,c2,c3,c4,c5,c6],_ =>
  obtain ⟨s0,e0,b0⟩:=bQ h0
  obtain ⟨s1,e1,b1⟩:=cg h1
  obtain ⟨s2,e2,b2⟩:=bQ h2
  obtain ⟨s3,e3,b3⟩:=cg h3
  obtain ⟨s4,e4,b4⟩:=bQ h4
  obtain ⟨s5,t5,e5,b5,bb5⟩:=iL h5
  simp at e0 e1 e2 e3 e4 e5
  exact ⟨⟨s0,s1,s2,s3,s4,s5,t5⟩,by simp [BallotD.cells,e0,e1,e2,e3,e4,e5],⟨b1,b3,b0,b2,b4,b5,bb5⟩⟩
theorem xK {fuel:Nat} {cs:List Value} {x:DataW H×List MemPlace} (h:DataW.trod enc Tryz.prog w base spare held fuel 55 cs=some x):∃ a:DecD,cs=a.cells∧DecD.at_ w a∧a.Str:=by
 have hl:=gg Tryz.underlying55 (k:=12) ak h
 obtain ⟨n0,y0,h0⟩:=bA (i:=0) (off:=0) (k:=1) (t':=3) Tryz.underlying55 h rfl rfl rfl ak
 obtain ⟨n1,y1,h1⟩:=bA (i:=1) (off:=1) (k:=1) (t':=3) Tryz.underlying55 h rfl rfl rfl ak
 obtain ⟨n2,y2,h2⟩:=bA (i:=2) (off:=2) (k:=1) (t':=3) Tryz.underlying55 h rfl rfl rfl ak
 obtain ⟨n3,y3,h3⟩:=bA (i:=3) (off:=3) (k:=1) (t':=9) Tryz.underlying55 h rfl rfl rfl ak
 obtain ⟨n4,y4,h4⟩:=bA (i:=4) (off:=4) (k:=1) (t':=9) Tryz.underlying55 h rfl rfl rfl ak
 obtain ⟨n5,y5,h5⟩:=bA (i:=5) (off:=5) (k:=1) (t':=9) Tryz.underlying55 h rfl rfl rfl ak
 obtain ⟨n6,y6,h6⟩:=bA (i:=6) (off:=6) (k:=1) (t':=39) Tryz.underlying55 h rfl rfl rfl ak
 obtain ⟨n7,y7,h7⟩:=bA (i:=7) (off:=7) (k:=1) (t':=3) Tryz.underlying55 h rfl rfl rfl ak
 obtain ⟨n8,y8,h8⟩:=bA (i:=8) (off:=8) (k:=1) (t':=3) Tryz.underlying55 h rfl rfl rfl ak
 obtain ⟨n9,y9,h9⟩:=bA (i:=9) (off:=9) (k:=1) (t':=3) Tryz.underlying55 h rfl rfl rfl ak
 obtain ⟨n10,y10,h10⟩:=bA (i:=10) (off:=10) (k:=2) (t':=44) Tryz.underlying55 h rfl rfl rfl ak
 match cs,hl with
 | [c0,c1,c2,c3,c4,c5,c6,c7,c8,c9,c10,c11],_ =>
  obtain ⟨s0,e0,b0⟩:=bQ h0
  obtain ⟨s1,e1,b1⟩:=bQ h1
  obtain ⟨s2,e2,b2⟩:=bQ h2
  obtain ⟨s3,e3,b3⟩:=cg h3
  obtain ⟨s4,e4,b4⟩:=cg h4
  obtain ⟨s5,e5,b5⟩:=cg h5
  obtain ⟨s6,l6,e6,r6,b6⟩:=gY h6
  obtain ⟨s7,e7,b7⟩:=bQ h7
  obtain ⟨s8,e8,b8⟩:=bQ h8
  obtain ⟨s9,e9,b9⟩:=bQ h9
  obtain ⟨s10,t10,e10,b10,bb10⟩:=iL h10
  simp at e0 e1 e2 e3 e4 e5 e6 e7 e8 e9 e10
  exact ⟨⟨s0,s1,s2,s3,s4,s5,s6,s7,s8,s9,s10,t10,l6⟩,by simp [DecD.cells,e0,e1,e2,e3,e4,e5,e6,e7,e8,e9,e10],r6,⟨b3,b4,b5,b6,b0,b1,b2,b7,b8,b9,b10,bb10⟩⟩
theorem mS {fuel:Nat} {cs:List Value} {x:DataW H×List MemPlace} (h:DataW.trod enc Tryz.prog w base spare held fuel 57 cs=some x):∃ a:ItemD,cs=a.cells∧ItemD.at_ w a∧a.Str:=by
 have hl:=gg Tryz.underlying57 (k:=49) ak h
 obtain ⟨n0,y0,h0⟩:=bA (i:=0) (off:=0) (k:=1) (t':=3) Tryz.underlying57 h rfl rfl rfl ak
 obtain ⟨n1,y1,h1⟩:=bA (i:=1) (off:=1) (k:=20) (t':=46) Tryz.underlying57 h rfl rfl rfl ak
 obtain ⟨n2,y2,h2⟩:=bA (i:=2) (off:=21) (k:=9) (t':=51) Tryz.underlying57 h rfl rfl rfl ak
 obtain ⟨n3,y3,h3⟩:=bA (i:=3) (off:=30) (k:=7) (t':=53) Tryz.underlying57 h rfl rfl rfl ak
 obtain ⟨n4,y4,h4⟩:=bA (i:=4) (off:=37) (k:=12) (t':=55) Tryz.underlying57 h rfl rfl rfl ak
 obtain ⟨a0,e0,_⟩:=bQ h0
 obtain ⟨a1,e1,q1,r1,_,s1⟩:=u9 h1
 obtain ⟨a2,e2,s2⟩:=rr h2
 obtain ⟨a3,e3,s3⟩:=pO h3
 obtain ⟨a4,e4,q4,s4⟩:=xK h4
 refine ⟨⟨a0,a1,a2,a3,a4⟩,?_,⟨q1,q4⟩,⟨s1,r1,s2,s3,s4⟩⟩
 have h5:cs=cs.take 1++((cs.drop 1).take 20++((cs.drop 21).take 9++((cs.drop 30).take 7++(cs.drop 37).take 12))):=by
  have t1:(cs.drop 37).take 12=cs.drop 37:=List.take_of_length_le (by rw [List.length_drop];omega)
  rw [t1,show cs.drop 37=(cs.drop 30).drop 7 from by rw [List.drop_drop],List.take_append_drop,show cs.drop 30=(cs.drop 21).drop 9 from by rw [List.drop_drop],List.take_append_drop,show cs.drop 21=(cs.drop 1).drop 20 from by rw [List.drop_drop],List.take_append_drop,List.take_append_drop]
 rw [List.drop_zero] at e0
 rw [h5,e0,e1,e2,e3,e4]
 simp [ItemD.cells]
theorem rq {fuel:Nat} {cs:List Value} {x:DataW H×List MemPlace} (h:DataW.trod enc Tryz.prog w base spare held fuel 23 cs=some x):∃ (s:SlV) (l:List ItemD),cs=[s.v]∧Items w s l∧∀ i∈l,i.Str:=by
 haveI:Inhabited ItemD:=⟨ItemD.zero⟩
 obtain ⟨s,l,h1,h2,h3⟩:=fS (α:=ItemD) Tryz.underlying23 (size:=49) ak ItemD.cells (fun a=>ItemD.at_ w a∧a.Str) (fun n cs y hy=>mS hy) h
 exact ⟨s,l,h1,⟨h2,fun a ha=>(h3 a ha).1⟩,fun a ha=>(h3 a ha).2⟩
theorem rp {fuel:Nat} {cs:List Value} {x:DataW H×List MemPlace} (h:DataW.trod enc Tryz.prog w base spare held fuel 25 cs=some x):∃ (s t:SlV) (l:List Int) (I:List ItemD),cs=[s.v,t.v]∧Ints w s l∧Items w t I∧(∀ n∈l,n<9223372036854775808)∧∀ i∈I,i.Str:=by
 have hl:=gg Tryz.underlying25 (k:=2) ak h
 obtain ⟨n0,y0,h0⟩:=bA (i:=0) (off:=0) (k:=1) (t':=22) Tryz.underlying25 h rfl rfl rfl ak
 obtain ⟨n1,y1,h1⟩:=bA (i:=1) (off:=1) (k:=1) (t':=23) Tryz.underlying25 h rfl rfl rfl ak
 match cs,hl with
 | [c0,c1],_ =>
  obtain ⟨s0,l0,e0,r0,b0⟩:=lw h0
  obtain ⟨s1,l1,e1,r1,b1⟩:=rq h1
  simp at e0 e1
  exact ⟨s0,s1,l0,l1,by rw [e0,e1],r0,r1,b0,b1⟩
end
end Go.Proofs.YtcdilibijnboeaaGreatDoor
namespace Go.Proofs.YtcdilibijnboeaaGreatDoor
open Go Go.Proofs Sy
theorem gb (n l h:Int):Pu Tryz.prog 209 #[.int .i64 n,.int .i64 l,.int .i64 h] (fun _=>True) (.bool (withinB n l h)):=by
 refine ay (args:=[_,_,_]) _ Tryz.func209 rfl Tryz.ntmps209 rfl fun av bor w0=>?_
 repeat' (first|apply ab|apply Qt|apply Qu|refine aj ?_|refine ad ?_|refine aD ?_|refine aG ?_|refine cF ?_|refine cZ ?_|refine aJ ?_|apply ar|((fail_if_success (refine aZ ?_));refine aR (ht:=?_) (hf:=?_);all_goals (intro hx_;first|have:=aP hx_|have:=aT hx_))|fail)
 (all_goals (apply al;apply ap;rfl;rfl));all_goals (simp only [withinB, *,ZQ,ZO,ZC,ZB,ZE,ZD,ZH,ZG,ZK,ZI,ZP,ZJ,ZN,ZF];done)
theorem jm (e s:Int):Pu Tryz.prog 210 #[.agg #[.int .i64 e,.int .i64 s]] (fun _=>True) (.bool (sigB e s)):=by
 refine ay (args:=[_]) _ Tryz.func210 rfl Tryz.ntmps210 rfl fun av bor w0=>?_
 repeat' (first|apply ab|apply Qt|apply Qu|refine aj ?_|refine ad ?_|refine aB ?_|refine aA ?_|refine aD ?_|refine aG ?_|refine aJ ?_|refine aL fun _=>?_|apply ar|refine ao (hc:=gb _ _ _) ?_|((fail_if_success (refine aZ ?_));refine aR (ht:=?_) (hf:=?_);all_goals (intro hx_;skip))|fail)
 (all_goals (apply al;apply ap;rfl;rfl));all_goals (simp only [sigB, *,ZQ,ZO,ZC,ZB,ZE,ZD,ZH,ZG,ZK,ZI,ZP,ZJ,ZN,ZF];done)
set_option maxHeartbeats 8000000 in
theorem ms (c:ClaimD) (hs:c.Str):Pu Tryz.prog 169 #[c.v] (fun _=>True) (.bool (claimR c)):=by
 refine ay (args:=[_]) _ Tryz.func169 rfl Tryz.ntmps169 rfl fun av bor w0=>?_
 have hid:=fR c.actor hs.actor
 repeat' (first|apply ab|apply Qt|apply Qu|refine aj ?_|refine ad ?_|refine aB ?_|refine aA ?_|refine aD ?_|refine aG ?_|refine bP ?_|refine bT ?_|refine aJ ?_|refine aL fun _=>?_|apply ar|(refine ao (hc:=hid) (hX:=fun _ _=>trivial) ?_)|refine ao (hc:=gb _ _ _) ?_|refine ao (hc:=jm c.e c.s) ?_|(refine aW (vs:=[.int .i64 c.e,.int .i64 c.s]) (hv:=rfl) ?_)|((fail_if_success (refine aZ ?_));refine aR (ht:=?_) (hf:=?_);all_goals (intro hx_;first|have:=aP hx_|have:=aT hx_|skip))|fail)
 (all_goals (apply al;apply ap;rfl;rfl));all_goals (simp only [claimR,isDigestB, *,ZQ,ZO,ZC,ZB,ZE,ZD,ZH,ZG,ZK,ZI,ZP,ZJ,ZN,ZF];done)
set_option maxHeartbeats 8000000 in
theorem pH (b:BallotD) (hs:b.Str):Pu Tryz.prog 170 #[b.v] (fun _=>True) (.bool (ballotR b)):=by
 refine ay (args:=[_]) _ Tryz.func170 rfl Tryz.ntmps170 rfl fun av bor w0=>?_
 have hid:=fR b.actor hs.actor
 repeat' (first|apply ab|apply Qt|apply Qu|refine aj ?_|refine ad ?_|refine aB ?_|refine aA ?_|refine aD ?_|refine aG ?_|refine bP ?_|refine bT ?_|refine aJ ?_|refine aL fun _=>?_|apply ar|(refine ao (hc:=hid) (hX:=fun _ _=>trivial) ?_)|refine ao (hc:=gb _ _ _) ?_|refine ao (hc:=jm b.e b.s) ?_|(refine aW (vs:=[.int .i64 b.e,.int .i64 b.s]) (hv:=rfl) ?_)|((fail_if_success (refine aZ ?_));refine aR (ht:=?_) (hf:=?_);all_goals (intro hx_;first|have:=aP hx_|have:=aT hx_|skip))|fail)
 (all_goals (apply al;apply ap;rfl;rfl));all_goals (simp only [ballotR,isDigestB, *,ZQ,ZO,ZC,ZB,ZE,ZD,ZH,ZG,ZK,ZI,ZP,ZJ,ZN,ZF];done)
def numsD (d:DecD):Bool:=withinB d.server 0 19&&(withinB d.number 0 1073741824&&(withinB d.kind 0 9&&(withinB d.from_ 0 1099511627776&&(withinB d.until_ 0 1099511627776&&decide (d.from_<d.until_)))))
def decF (d:DecD):Bool:=bif !numsD d||!sigB d.e d.s then false
 else bif kindO d.kind then seqB d.actor ⟨#[]⟩&&(isDigestB d.object&&(reasonD d&&plainD d))
 else bif decide (d.kind=8) then seqB d.actor ⟨#[]⟩&&(seqB d.object ⟨#[]⟩&&(reasonD d&&(isIds d.toL&&withinB d.n 1 (d.to.n:Nat))))
 else bif decide (d.kind=9) then seqB d.actor ⟨#[]⟩&&(seqB d.object ⟨#[]⟩&&(decide ((d.text.size:Int)≤4096)&&plainD d))
 else isId d.actor&&(seqB d.object ⟨#[]⟩&&(reasonD d&&plainD d))
theorem yj {k:Int} (h:withinB k 0 9=true) (h1:kindO k=false) (h2:decide (k=8)=false) (h3:decide (k=9)=false):kindA k=true:=by
 simp only [withinB,kindO,kindA,ZM,Bool.or_eq_true,Bool.or_eq_false_iff,ZT,decide_eq_false_iff_not] at *
 omega
theorem Ax {k:Int} (h1:kindO k=true):withinB k 0 9=true∧kindA k=false:=by
 simp only [withinB,kindO,kindA,ZM,Bool.or_eq_true,Bool.or_eq_false_iff,ZT,decide_eq_false_iff_not] at *
 omega
theorem Ay {k:Int} (h1:kindA k=true):withinB k 0 9=true∧kindO k=false∧decide (k=8)=false∧decide (k=9)=false:=by
 simp only [withinB,kindO,kindA,ZM,Bool.or_eq_true,Bool.or_eq_false_iff,ZT,decide_eq_false_iff_not] at *
 omega
theorem Ba (d:DecD):decF d=decR d:=by
 rw [decF,decR,numsD,termsB]
 cases hA:kindA d.kind with
 | true =>
  obtain ⟨h1,h2,h3,h4⟩:=Ay hA
  rw [h1,h2,h3,h4]
  generalize withinB d.server 0 19=b1
  generalize withinB d.number 0 1073741824=b2
  generalize withinB d.from_ 0 1099511627776=b3
  generalize withinB d.until_ 0 1099511627776=b4
  generalize decide (d.from_<d.until_)=b5
  generalize sigB d.e d.s=b6
  simp only [ZC,ZB]
  generalize (isId d.actor&&(seqB d.object ⟨#[]⟩&&(reasonD d&&plainD d)))=b7
  cases b1<;>cases b2<;>cases b3<;>cases b4<;>cases b5<;>cases b6<;>cases b7<;>rfl
 | false =>
  cases hO:kindO d.kind with
  | true =>
   rw [(Ax hO).1]
   generalize withinB d.server 0 19=b1
   generalize withinB d.number 0 1073741824=b2
   generalize withinB d.from_ 0 1099511627776=b3
   generalize withinB d.until_ 0 1099511627776=b4
   generalize decide (d.from_<d.until_)=b5
   generalize sigB d.e d.s=b6
   simp only [ZC,ZB]
   generalize (seqB d.actor ⟨#[]⟩&&(isDigestB d.object&&(reasonD d&&plainD d)))=b7
   cases b1<;>cases b2<;>cases b3<;>cases b4<;>cases b5<;>cases b6<;>cases b7<;>rfl
  | false =>
   cases h8:decide (d.kind=8) with
   | true =>
    have hw:withinB d.kind 0 9=true:=by rw [aP h8];rfl
    rw [hw]
    generalize withinB d.server 0 19=b1
    generalize withinB d.number 0 1073741824=b2
    generalize withinB d.from_ 0 1099511627776=b3
    generalize withinB d.until_ 0 1099511627776=b4
    generalize decide (d.from_<d.until_)=b5
    generalize sigB d.e d.s=b6
    simp only [ZC,ZB]
    generalize (seqB d.actor ⟨#[]⟩&&(seqB d.object ⟨#[]⟩&&(reasonD d&&(isIds d.toL&&withinB d.n 1 (d.to.n:Nat)))))=b7
    cases b1<;>cases b2<;>cases b3<;>cases b4<;>cases b5<;>cases b6<;>cases b7<;>rfl
   | false =>
    cases h9:decide (d.kind=9) with
    | true =>
     have hw:withinB d.kind 0 9=true:=by rw [aP h9];rfl
     rw [hw]
     generalize withinB d.server 0 19=b1
     generalize withinB d.number 0 1073741824=b2
     generalize withinB d.from_ 0 1099511627776=b3
     generalize withinB d.until_ 0 1099511627776=b4
     generalize decide (d.from_<d.until_)=b5
     generalize sigB d.e d.s=b6
     simp only [ZC,ZB]
     generalize (seqB d.actor ⟨#[]⟩&&(seqB d.object ⟨#[]⟩&&(decide ((d.text.size:Int)≤4096)&&plainD d)))=b7
     cases b1<;>cases b2<;>cases b3<;>cases b4<;>cases b5<;>cases b6<;>cases b7<;>rfl
    | false =>
     cases hw:withinB d.kind 0 9 with
     | true=>rw [yj hw hO h8 h9] at hA;cases hA
     | false=>simp
set_option maxHeartbeats 16000000 in
theorem mr (d:DecD) (hs:d.Str):Pu Tryz.prog 171 #[d.v] (fun w=>d.at_ w) (.bool (decR d)):=by
 refine ay (args:=[_]) _ Tryz.func171 rfl Tryz.ntmps171 rfl fun av bor w0=>?_
 rw [←Ba]
 have hid:=fR d.actor hs.actor
 have hids:=jp d.to d.toL hs.to
 repeat' (first|apply ab|apply Qt|apply Qu|refine aj ?_|refine ad ?_|refine aB ?_|refine aA ?_|refine aD ?_|refine aG ?_|refine bD ?_|refine bP ?_|refine bj ?_|refine cF ?_|refine cI ?_|refine bT ?_|refine aY ?_|refine aJ ?_|refine bR ?_|refine aL fun _=>?_|refine Qx ?_|apply Qw|apply Qv|apply ar|(refine ao (hc:=hid) (hX:=fun _ _=>trivial) ?_)|(refine ao (hc:=hids) (hX:=fun w h=>h) ?_)|refine ao (hc:=gb _ _ _) ?_|refine ao (hc:=jm d.e d.s) ?_|(refine aW (vs:=[.int .i64 d.e,.int .i64 d.s]) (hv:=rfl) ?_)|((fail_if_success (refine aZ ?_));refine aR (ht:=?_) (hf:=?_);all_goals (intro hx_;first|have:=aP hx_|have:=aT hx_|skip))|(refine aH (ht:=?_) (hf:=?_);all_goals (intro hx_;first|have:=aP hx_|have:=aT hx_|skip)))
 all_goals (apply al;apply ap;rfl;rfl)
 all_goals first
  | rfl
  | (simp_all [decF,numsD,plainD,reasonD,kindO,isDigestB];done)
  | (simp_all [decF,numsD,plainD,reasonD,kindO,isDigestB];intros;omega)
theorem di (x:ByteArray) (l:List ByteArray):textsV (x::l)=textV x++textsV l:=rfl
theorem dD:textsV []=ByteArray.empty:=rfl
theorem dU (x:Int) (l:List Int):numsV (x::l)=numV x++numsV l:=rfl
theorem ex:numsV []=ByteArray.empty:=rfl
structure ClaimD.Sm (c:ClaimD):Prop where
 actor:c.actor.size≤1000000
 prev:c.prev.size≤1000000
structure BallotD.Sm (c:BallotD):Prop where
 actor:c.actor.size≤1000000
 claim:c.claim.size≤1000000
structure DecD.Sm (c:DecD):Prop where
 actor:c.actor.size≤1000000
 object:c.object.size≤1000000
 text:c.text.size≤1000000
 to:(listV c.toL).size≤1000000
theorem nW (c:ClaimD) (hl:c.Lt) (hs:c.Sm):Pu Tryz.prog 180 #[c.v] (fun _=>True) (.string (coreCl c)):=by
 refine ay (args:=[_]) _ Tryz.func180 rfl Tryz.ntmps180 rfl fun av bor w0=>?_
 have h1:=hs.actor
 have h2:=hs.prev
 have s1:=aX c.actor
 have s2:=aX c.prev
 have n1:=aO c.base
 have n2:=aO c.gen
 have n3:=aO c.home
 have n4:=aO c.pub
 have n5:=aO c.time
 obtain ⟨i1,i2,i3,i4,i5,_,_⟩:=hl
 repeat' (first|apply ab|apply Qt|apply Qu|refine ad ?_|refine aL fun _=>?_|fail)
 (apply bI;kernel_rfl)
 all_goals refine aa 0 ?_<;>refine aa 1 ?_<;>refine aa 3 ?_<;>refine aa 4 ?_<;>refine aa 7 ?_<;>refine aa 8 ?_<;>refine aa 11 ?_<;>refine aa 12 ?_<;>refine aa 15 ?_<;>refine aa 16 ?_<;>refine aa 19 ?_<;>refine aa 20 ?_<;>refine aa 23 ?_<;>refine aa 24 ?_<;>(refine ag 2 ?_;(refine ao (hc:=bX _ ae) ?_);apply ab;refine ai ?_)<;>(refine ag 5 ?_;(refine ao (hc:=bz _ ae) ?_);apply ab;refine ai ?_)<;>(refine aa 6 (hy:=by (apply bE;rfl;rfl;(try simp only [Zl]);omega)) ?_)<;>(refine ag 9 ?_;(refine ao (hc:=bX _ ae) ?_);apply ab;refine ai ?_)<;>(refine aa 10 (hy:=by (apply bE;rfl;rfl;(try simp only [Zl]);omega)) ?_)<;>(refine ag 13 ?_;(refine ao (hc:=bz _ ae) ?_);apply ab;refine ai ?_)<;>(refine aa 14 (hy:=by (apply bE;rfl;rfl;(try simp only [Zl]);omega)) ?_)<;>(refine ag 17 ?_;(refine ao (hc:=bz _ ae) ?_);apply ab;refine ai ?_)<;>(refine aa 18 (hy:=by (apply bE;rfl;rfl;(try simp only [Zl]);omega)) ?_)<;>(refine ag 21 ?_;(refine ao (hc:=bz _ ae) ?_);apply ab;refine ai ?_)<;>(refine aa 22 (hy:=by (apply bE;rfl;rfl;(try simp only [Zl]);omega)) ?_)<;>(refine ag 25 ?_;(refine ao (hc:=bz _ ae) ?_);apply ab;refine ai ?_)<;>(refine aa 26 (hy:=by (apply bE;rfl;rfl;(try simp only [Zl]);omega)) ?_)<;>refine aa 27 ?_<;>(refine aw ?_)
 all_goals
  repeat' (first|apply ar|fail)
  refine al (ap rfl rfl) ?_
  simp only [coreCl,di,dD,dU,ex,ByteArray.append_empty,ZV]
theorem iJ (c:BallotD) (hl:c.Lt) (hs:c.Sm):Pu Tryz.prog 176 #[c.v] (fun _=>True) (.string (coreBa c)):=by
 refine ay (args:=[_]) _ Tryz.func176 rfl Tryz.ntmps176 rfl fun av bor w0=>?_
 have h1:=hs.actor
 have h2:=hs.claim
 have s1:=aX c.actor
 have s2:=aX c.claim
 have n1:=aO c.server
 have n2:=aO c.gen
 have n3:=aO c.time
 obtain ⟨i1,i2,i3,_,_⟩:=hl
 repeat' (first|apply ab|apply Qt|apply Qu|refine ad ?_|refine aL fun _=>?_|fail)
 (apply bI;kernel_rfl)
 all_goals refine aa 0 ?_<;>refine aa 1 ?_<;>refine aa 3 ?_<;>refine aa 4 ?_<;>refine aa 7 ?_<;>refine aa 8 ?_<;>refine aa 11 ?_<;>refine aa 12 ?_<;>refine aa 15 ?_<;>refine aa 16 ?_<;>(refine ag 2 ?_;(refine ao (hc:=bz _ ae) ?_);apply ab;refine ai ?_)<;>(refine ag 5 ?_;(refine ao (hc:=bX _ ae) ?_);apply ab;refine ai ?_)<;>(refine aa 6 (hy:=by (apply bE;rfl;rfl;(try simp only [Zl]);omega)) ?_)<;>(refine ag 9 ?_;(refine ao (hc:=bz _ ae) ?_);apply ab;refine ai ?_)<;>(refine aa 10 (hy:=by (apply bE;rfl;rfl;(try simp only [Zl]);omega)) ?_)<;>(refine ag 13 ?_;(refine ao (hc:=bX _ ae) ?_);apply ab;refine ai ?_)<;>(refine aa 14 (hy:=by (apply bE;rfl;rfl;(try simp only [Zl]);omega)) ?_)<;>(refine ag 17 ?_;(refine ao (hc:=bz _ ae) ?_);apply ab;refine ai ?_)<;>(refine aa 18 (hy:=by (apply bE;rfl;rfl;(try simp only [Zl]);omega)) ?_)<;>refine aa 19 ?_<;>(refine aw ?_)
 all_goals
  repeat' (first|apply ar|fail)
  refine al (ap rfl rfl) ?_
  simp only [coreBa,di,dD,dU,ex,ByteArray.append_empty,ZV]
theorem iI (c:DecD) (hl:c.Lt) (hs:c.Sm):Pu Tryz.prog 177 #[c.v] (fun w=>c.at_ w) (.string (coreDe c)):=by
 refine ay (args:=[_]) _ Tryz.func177 rfl Tryz.ntmps177 rfl fun av bor w0=>?_
 have h1:=hs.actor
 have h2:=hs.object
 have h3:=hs.text
 have h4:=hs.to
 have s1:=aX c.actor
 have s2:=aX c.object
 have s3:=aX c.text
 have n1:=aO c.server
 have n2:=aO c.number
 have n3:=aO c.kind
 have n4:=aO c.n
 have n5:=aO c.from_
 have n6:=aO c.until_
 have hli:=lp c.to c.toL ae
 obtain ⟨i1,i2,i3,i4,i5,i6,_,_⟩:=hl
 repeat' (first|apply ab|apply Qt|apply Qu|refine ad ?_|refine aL fun _=>?_|fail)
 (apply bI;kernel_rfl)
 all_goals refine aa 0 ?_<;>refine aa 1 ?_<;>refine aa 3 ?_<;>refine aa 4 ?_<;>refine aa 7 ?_<;>refine aa 8 ?_<;>refine aa 11 ?_<;>refine aa 12 ?_<;>refine aa 15 ?_<;>refine aa 16 ?_<;>refine aa 19 ?_<;>refine aa 20 ?_<;>(refine ag 2 ?_;(refine ao (hc:=bz _ ae) ?_);apply ab;refine ai ?_)<;>(refine ag 5 ?_;(refine ao (hc:=bz _ ae) ?_);apply ab;refine ai ?_)<;>(refine aa 6 (hy:=by (apply bE;rfl;rfl;(try simp only [Zl]);omega)) ?_)<;>(refine ag 9 ?_;(refine ao (hc:=bz _ ae) ?_);apply ab;refine ai ?_)<;>(refine aa 10 (hy:=by (apply bE;rfl;rfl;(try simp only [Zl]);omega)) ?_)<;>(refine ag 13 ?_;(refine ao (hc:=bX _ ae) ?_);apply ab;refine ai ?_)<;>(refine aa 14 (hy:=by (apply bE;rfl;rfl;(try simp only [Zl]);omega)) ?_)<;>(refine ag 17 ?_;(refine ao (hc:=bX _ ae) ?_);apply ab;refine ai ?_)<;>(refine aa 18 (hy:=by (apply bE;rfl;rfl;(try simp only [Zl]);omega)) ?_)<;>(refine ag 21 ?_;(refine ao (hc:=bX _ ae) ?_);apply ab;refine ai ?_)<;>(refine aa 22 (hy:=by (apply bE;rfl;rfl;(try simp only [Zl]);omega)) ?_)<;>refine aa 23 ?_<;>(refine aw ?_)
 all_goals
  repeat' (first|apply Qt|fail)
  (apply bI;kernel_rfl)
  all_goals refine aa 0 ?_<;>refine aa 1 ?_<;>refine aa 2 ?_<;>refine aa 5 ?_<;>refine aa 6 ?_<;>refine aa 9 ?_<;>refine aa 10 ?_<;>refine aa 13 ?_<;>refine aa 14 ?_<;>(refine ag 3 ?_;(refine ao (hc:=hli) (hX:=fun w h=>h) ?_);apply ab;refine ai ?_)<;>(refine aa 4 (hy:=by (apply bE;rfl;rfl;(try simp only [Zl]);omega)) ?_)<;>(refine ag 7 ?_;(refine ao (hc:=bz _ ae) ?_);apply ab;refine ai ?_)<;>(refine aa 8 (hy:=by (apply bE;rfl;rfl;(try simp only [Zl]);omega)) ?_)<;>(refine ag 11 ?_;(refine ao (hc:=bz _ ae) ?_);apply ab;refine ai ?_)<;>(refine aa 12 (hy:=by (apply bE;rfl;rfl;(try simp only [Zl]);omega)) ?_)<;>(refine ag 15 ?_;(refine ao (hc:=bz _ ae) ?_);apply ab;refine ai ?_)<;>(refine aa 16 (hy:=by (apply bE;rfl;rfl;(try simp only [Zl]);omega)) ?_)<;>refine aa 17 ?_<;>(refine aw ?_)
  all_goals
   repeat' (first|apply ar|fail)
   refine al (ap rfl rfl) ?_
   simp only [coreDe,di,dD,dU,ex,ByteArray.append_empty,ZV]
theorem g8 (e s:Int) (he:e<9223372036854775808) (hs:s<9223372036854775808):Pu Tryz.prog 181 #[.agg #[.int .i64 e,.int .i64 s]] (fun _=>True) (.string (numsV [e,s])):=by
 refine ay (args:=[_]) _ Tryz.func181 rfl Tryz.ntmps181 rfl fun av bor w0=>?_
 have n1:=aO e
 have n2:=aO s
 repeat' (first|apply ab|apply Qt|apply Qu|refine ad ?_|refine aL fun _=>?_|fail)
 (apply bI;kernel_rfl)
 all_goals refine aa 0 ?_<;>refine aa 1 ?_<;>refine aa 3 ?_<;>refine aa 4 ?_<;>(refine ag 2 ?_;(refine ao (hc:=bz _ ae) ?_);apply ab;refine ai ?_)<;>(refine ag 5 ?_;(refine ao (hc:=bz _ ae) ?_);apply ab;refine ai ?_)<;>(refine aa 6 (hy:=by (apply bE;rfl;rfl;(try simp only [Zl]);omega)) ?_)<;>refine aa 7 ?_<;>(refine aw ?_)
 all_goals
  repeat' (first|apply ar|fail)
  refine al (ap rfl rfl) ?_
  simp only [dU,ex,ByteArray.append_empty]
theorem cA {n l h:Int} (w:withinB n l h=true):l≤n∧n≤h:=by
 simpa only [withinB,ZM,ZT] using w
theorem qR {e s:Int} (w:sigB e s=true):(0≤e∧e≤2305843009213693949)∧0≤s∧s≤2305843009213693949:=by
 rw [sigB,ZM] at w
 exact ⟨cA w.1,cA w.2⟩
theorem gT {s:ByteArray} (h:isId s=true):s.size=16:=by
 rw [isId,ZM,ZT] at h
 exact_mod_cast h.1
theorem ig {s:ByteArray} (h:isDigestB s=true):s.size=32:=by
 rw [isDigestB,ZT] at h
 exact_mod_cast h
theorem dM {s:ByteArray} (h:seqB s ⟨#[]⟩=true):s.size=0:=by
 rw [seqB_iff.1 h];rfl
theorem gV {c:ClaimD} (h:claimR c=true):c.Lt∧c.Sm:=by
 simp only [claimR,ZM] at h
 obtain ⟨h1,h2,h3,h4,h5,h6,h7,h8⟩:=h
 have e1:=gT h1
 have e2:=cA h2
 have e3:=ig h3
 have e4:=cA h4
 have e5:=cA h5
 have e6:=cA h6
 have e7:=cA h7
 have e8:=qR h8
 exact ⟨⟨by omega,by omega,by omega,by omega,by omega,by omega,by omega⟩,⟨by omega,by omega⟩⟩
theorem ft {c:BallotD} (h:ballotR c=true):c.Lt∧c.Sm:=by
 simp only [ballotR,ZM] at h
 obtain ⟨h2,h1,h4,h3,h7,h8⟩:=h
 have e1:=gT h1
 have e2:=cA h2
 have e3:=ig h3
 have e4:=cA h4
 have e7:=cA h7
 have e8:=qR h8
 exact ⟨⟨by omega,by omega,by omega,by omega,by omega⟩,⟨by omega,by omega⟩⟩
theorem nf {m:Nat}:∀ {l:List ByteArray},(∀ x∈l,x.size≤m)→(cats l).size≤l.length*m
 | [],_=>by simp [cats]
 | a::l,h=>by
  have h1:=h a aI
  have h2:=nf (m:=m) (l:=l) fun x hx=>h x (ZS _ hx)
  rw [cats,Zl,ZY,Nat.add_mul]
  omega
theorem rv {l:List ByteArray} (h:isIds l=true):(listV l).size≤2000:=by
 rw [isIds,ZM,Bool.not_eq_true',decide_eq_false_iff_not] at h
 have hl:l.length≤64:=by omega
 have he:∀ x∈l,x.size=16:=fun x hx=>by
  obtain ⟨k,hk,rfl⟩:=List.getElem_of_mem hx
  have h2:=h.2
  rw [allB,List.all_eq_true] at h2
  have h3:=h2 k (List.mem_range.2 hk)
  rw [Bool.not_eq_true',badIds,Bool.or_eq_false_iff,Bool.not_eq_false'] at h3
  have h4:=h3.1
  rw [ZL,Zm hk,Option.getD_some] at h4
  exact gT h4
 have h1:=aO (l.length:Int)
 have h2:=nf (m:=26) (l:=l.map textV) fun x hx=>by
  obtain ⟨y,hy,rfl⟩:=List.mem_map.1 hx
  have:=aO (y.size:Int)
  rw [textV,Zl,he y hy]
  have:=aO ((16:Nat):Int)
  omega
 rw [Z3] at h2
 rw [listV,Zl]
 omega
theorem vg:(listV []).size≤2000:=by
 have h1:=aO ((0:Nat):Int)
 rw [listV,Zl]
 simp only [List.map_nil,cats,ByteArray.size_empty,Qh]
 omega
theorem ia {d:DecD} (hn:d.to.n=d.toL.length) (h:plainD d=true):(listV d.toL).size≤2000∧d.n=0:=by
 rw [plainD,ZM,ZT,ZT] at h
 have:d.toL=[]:=List.length_eq_zero_iff.1 ae
 rw [this]
 exact ⟨vg,h.2⟩
theorem gB {d:DecD} (h:reasonD d=true):d.text.size≤500:=by
 rw [reasonD,ZT] at h
 omega
theorem qH {d:DecD} (hn:d.to.n=d.toL.length) (h:termsB d=true):d.Sm∧0≤d.n∧d.n≤64∧d.kind<10:=by
 rw [termsB] at h
 cases hA:kindA d.kind with
 | true =>
  rw [hA,ZC] at h
  simp only [ZM] at h
  have e1:=gT h.1
  have e2:=dM h.2.1
  have e3:=gB h.2.2.1
  have e4:=ia hn h.2.2.2
  simp only [kindA,Bool.or_eq_true,ZT] at hA
  exact ⟨⟨by omega,by omega,by omega,by omega⟩,by omega,by omega,by omega⟩
 | false =>
  rw [hA,ZB] at h
  cases hO:kindO d.kind with
  | true =>
   rw [hO,ZC] at h
   simp only [ZM] at h
   have e1:=dM h.1
   have e2:=ig h.2.1
   have e3:=gB h.2.2.1
   have e4:=ia hn h.2.2.2
   simp only [kindO,Bool.or_eq_true,ZT] at hO
   exact ⟨⟨by omega,by omega,by omega,by omega⟩,by omega,by omega,by omega⟩
  | false =>
   rw [hO,ZB] at h
   cases h8:decide (d.kind=8) with
   | true =>
    rw [h8,ZC] at h
    simp only [ZM] at h
    have e1:=dM h.1
    have e2:=dM h.2.1
    have e3:=gB h.2.2.1
    have e4:=rv h.2.2.2.1
    have e5:=cA h.2.2.2.2
    have e6:=aP h8
    have e7:d.toL.length≤64:=by
     have:=h.2.2.2.1
     rw [isIds,ZM,Bool.not_eq_true',decide_eq_false_iff_not] at this
     omega
    exact ⟨⟨by omega,by omega,by omega,by omega⟩,by omega,by omega,by omega⟩
   | false =>
    rw [h8,ZB] at h
    cases h9:decide (d.kind=9) with
    | true =>
     rw [h9,ZC] at h
     simp only [ZM] at h
     have e1:=dM h.1
     have e2:=dM h.2.1
     have e3:=aP h.2.2.1
     have e4:=ia hn h.2.2.2
     have e6:=aP h9
     exact ⟨⟨by omega,by omega,by omega,by omega⟩,by omega,by omega,by omega⟩
    | false=>rw [h9] at h;cases h
theorem iT {d:DecD} (hn:d.to.n=d.toL.length) (h:decR d=true):d.Lt∧d.Sm:=by
 simp only [decR,ZM] at h
 obtain ⟨h1,h2,h3,h4,h5,h6,h7⟩:=h
 have e1:=cA h1
 have e2:=cA h2
 have e3:=cA h3
 have e4:=cA h4
 obtain ⟨e6,e7,e8,e9⟩:=qH hn h6
 have e10:=qR h7
 exact ⟨⟨by omega,by omega,by omega,by omega,by omega,by omega,by omega,by omega⟩,e6⟩
theorem fB {c:ClaimD} (hs:c.Sm):(coreCl c).size≤3000000:=by
 have h1:=hs.actor
 have h2:=hs.prev
 have s1:=aX c.actor
 have s2:=aX c.prev
 have n1:=aO c.base
 have n2:=aO c.gen
 have n3:=aO c.home
 have n4:=aO c.pub
 have n5:=aO c.time
 simp only [coreCl,di,dD,dU,ex,ByteArray.append_empty,Zl]
 omega
theorem eA {c:BallotD} (hs:c.Sm):(coreBa c).size≤3000000:=by
 have h1:=hs.actor
 have h2:=hs.claim
 have s1:=aX c.actor
 have s2:=aX c.claim
 have n1:=aO c.server
 have n2:=aO c.gen
 have n3:=aO c.time
 simp only [coreBa,di,dD,dU,ex,ByteArray.append_empty,Zl]
 omega
theorem ez {c:DecD} (hs:c.Sm):(coreDe c).size≤5000000:=by
 have h1:=hs.actor
 have h2:=hs.object
 have h3:=hs.text
 have h4:=hs.to
 have s1:=aX c.actor
 have s2:=aX c.object
 have s3:=aX c.text
 have n1:=aO c.server
 have n2:=aO c.number
 have n3:=aO c.kind
 have n4:=aO c.n
 have n5:=aO c.from_
 have n6:=aO c.until_
 simp only [coreDe,di,dD,dU,ex,ByteArray.append_empty,Zl]
 omega
theorem gE {nm p:ByteArray} (h:nm.size≤20) (hp:p.size≤5000000):(textsV [nm]++p).size≤6000000:=by
 have s1:=aX nm
 simp only [di,dD,ByteArray.append_empty,Zl]
 omega
theorem dJ (e s:Int):(numsV [e,s]).size≤20:=by
 have n1:=aO e
 have n2:=aO s
 simp only [dU,ex,ByteArray.append_empty,Zl]
 omega
def bodyIt (i:ItemD):ByteArray:=bif decide (i.kind=0) then actBytes i.act else bif decide (i.kind=1) then coreCl i.claim++numsV [i.claim.e,i.claim.s] else bif decide (i.kind=2) then coreBa i.ballot++numsV [i.ballot.e,i.ballot.s] else coreDe i.dec++numsV [i.dec.e,i.dec.s]
def bytesIt (i:ItemD):ByteArray:=bif rightIt i then numV i.kind++bodyIt i else ⟨#[]⟩
def digIt (i:ItemD):ByteArray:=bif seqB (bytesIt i) ⟨#[]⟩ then ⟨#[]⟩ else shaV (bytesIt i)
theorem dH {i:ItemD} (h:rightIt i=true):i.kind=0∧rightB i.act=true∨i.kind=1∧claimR i.claim=true∨i.kind=2∧ballotR i.ballot=true∨i.kind=3∧decR i.dec=true:=by
 rw [rightIt,ZM] at h
 have h:=h.1
 rw [rightK2] at h
 by_cases h0:i.kind=0
 · rw [ZA h0] at h;exact .inl ⟨h0,h⟩
 by_cases h1:i.kind=1
 · rw [Zn h0,ZA h1] at h;exact .inr (.inl ⟨h1,h⟩)
 by_cases h2:i.kind=2
 · rw [Zn h0,Zn h1,ZA h2] at h;exact .inr (.inr (.inl ⟨h2,h⟩))
 by_cases h3:i.kind=3
 · rw [Zn h0,Zn h1,Zn h2,ZA h3] at h;exact .inr (.inr (.inr ⟨h3,h⟩))
 rw [Zn h0,Zn h1,Zn h2,Zn h3] at h
 cases h
theorem po {i:ItemD} (h:i.kind=0) (hr:rightIt i=true):rightB i.act=true:=by
 rcases dH hr with h1|h1|h1|h1
 · exact h1.2
 all_goals (rw [h] at h1;exact absurd h1.1 (by decide))
theorem gL {i:ItemD} (hr:i.act.Rng) (hn:i.dec.to.n=i.dec.toL.length) (h:rightIt i=true):(bodyIt i).size≤300000000025:=by
 rw [bodyIt]
 rcases dH h with ⟨h0,h1⟩|⟨h0,h1⟩|⟨h0,h1⟩|⟨h0,h1⟩
 · have:=fG hr
   rw [h0]
   show (actBytes i.act).size≤_
   omega
 · have:=fB (gV h1).2
   have:=dJ i.claim.e i.claim.s
   rw [h0]
   show (coreCl i.claim++numsV [i.claim.e,i.claim.s]).size≤_
   rw [Zl]
   omega
 · have:=eA (ft h1).2
   have:=dJ i.ballot.e i.ballot.s
   rw [h0]
   show (coreBa i.ballot++numsV [i.ballot.e,i.ballot.s]).size≤_
   rw [Zl]
   omega
 · have:=ez (iT hn h1).2
   have:=dJ i.dec.e i.dec.s
   rw [h0]
   show (coreDe i.dec++numsV [i.dec.e,i.dec.s]).size≤_
   rw [Zl]
   omega
theorem iV {i:ItemD} (hr:i.act.Rng) (hn:i.dec.to.n=i.dec.toL.length):(bytesIt i).size≤300000000040:=by
 rw [bytesIt]
 cases h:rightIt i with
 | false=>rw [ZB];simp [ByteArray.size]
 | true =>
  have:=gL hr hn h
  have:=aO i.kind
  rw [ZC,Zl]
  omega
set_option maxRecDepth 20000 in
set_option maxHeartbeats 16000000 in
theorem mt (i:ItemD) (hr:i.act.Rng) (hdn:i.dec.to.n=i.dec.toL.length):Pu Tryz.prog 38 #[i.v] (fun w=>i.at_ w) (.string (bytesIt i)):=by
 have hri:=dN i
 have hbs:=@gL i hr hdn
 rw [bytesIt]
 cases hrB:rightIt i with
 | false =>
  rw [hrB] at hri
  refine ay (args:=[_]) _ Tryz.func38 rfl Tryz.ntmps38 rfl fun av bor w0=>?_
  repeat' (first|apply ab|apply Qt|apply Qu|refine ad ?_|refine aF ?_|refine bD ?_|refine aL fun _=>?_|refine Qx ?_|apply ar|(refine ao (hc:=hri) (hX:=fun w h=>h) ?_)|fail)
  all_goals exact al (ap rfl rfl) rfl
 | true =>
 rw [hrB] at hri
 have hk:=dH hrB
 replace hbs:=hbs hrB
 have hkl:i.kind<9223372036854775808:=by rcases hk with h|h|h|h<;>omega
 refine ay (args:=[_]) _ Tryz.func38 rfl Tryz.ntmps38 rfl fun av bor w0=>?_
 repeat' (first|apply ab|apply Qt|apply Qu|refine ad ?_|refine aB ?_|refine aA ?_|refine aF ?_|refine bD ?_|refine aM fun _=>?_|refine aL fun _=>?_|refine bS fun _=>?_|refine Qy ?_|apply Qw|(refine ao (hc:=hri) (hX:=fun w h=>h) ?_)|fail)
 rename_i bi bb bs
 have hS:(⟨#[]⟩:ByteArray)++numsV [i.kind]=numV i.kind:=by
  show ByteArray.empty++(numV i.kind++ByteArray.empty)=numV i.kind
  rw [ByteArray.append_empty,ByteArray.empty_append]
 have hnk:=aO i.kind
 have hns:(⟨#[]⟩:ByteArray).size+(numsV [i.kind]).size≤1099511627776:=by
  rw [←Zl,hS]
  omega
 refine co ?_
 refine fI 5 1 ?_
 refine dc (l:=bld bb none 0 ⟨#[]⟩++[cel bi 57 i.cells]) (List.Perm.swap _ _ _) ?_
 refine cw (pre:=bld bb none 0 ⟨#[]⟩) (fr:=[cel bi 57 i.cells]) (hc:=ea bb none 0 ⟨#[]⟩ ⟨some ⟨bs,0,none⟩,1,1⟩ [i.kind] (by simpa using hkl) hns) (hX:=fun w h=>bK (xs:=[[.int .i64 i.kind]]) h.2 rfl (by decide) (by simp)) (h:=?_)
 rintro v R X' ⟨A1,c1,rfl,rfl⟩
 refine cP (X':=fun w=>i.at_ w) (fun w h=>h.1.1) ?_
 rw [hS]
 generalize hs1:numV i.kind=s1 at *
 rw [bodyIt] at hbs ⊢
 rcases hk with ⟨h0,h1⟩|⟨h0,h1⟩|⟨h0,h1⟩|⟨h0,h1⟩
 · rw [ZA h0,ZC] at hbs ⊢
   have hab:=j0 i.act (dZ hr) ⟨hr.ints.2.2.2.2.2.2.2.1,hr.ints.2.2.2.2.2.2.2.2⟩
   generalize actBytes i.act=body at *
   unfold bld
   repeat' (first|refine bm (hab:=h0) ?_|apply ab|apply Qt|apply Qu|refine aB ?_|refine aA ?_|refine Qx ?_|fail)
   simp only [Z9,Qa]
   (refine aS [cel bi 57 i.cells] (fun w=>i.at_ w) ak ?_)
   all_goals refine aa 0 ?_<;>refine aa 2 ?_<;>(refine aa 3 (hy:=by (apply cH (vs:=i.act.cells);rfl;exact .head _;rfl;rfl)) ?_)<;>(refine bw 1 4 (h:=?_) (h':=?_);(focus (((refine aA ?_);apply ab;refine ai ?_);all_goals ((refine ag 4 ?_;(refine ao (hc:=hab) (hX:=fun w h=>h.1) ?_);apply ab;refine ai ?_);all_goals (refine ag 5 ?_;(refine aV (size:=1) (z:=.int .u8 0) rfl rfl rfl rfl (fun _=>At.there _ (At.here _)) (fun w G=>d9 ae) ae (by simp only [maxLen];omega) rfl ?_ rfl ?_;(with_reducible rfl);intro A2 c2);apply ab;refine ai ?_);all_goals (refine aa 6 ?_);all_goals (refine ag 7 ?_;(refine bc ?_);apply ab;refine ai ?_);all_goals (refine aw ?_))));rotate_right;(focus (((refine ao (hc:=hab) (hX:=fun w h=>h.1) ?_);apply ab;refine ai ?_);all_goals ((refine ag 1 ?_;(refine aA ?_);apply ab;refine ai ?_);all_goals (refine ag 5 ?_;(refine aV (size:=1) (z:=.int .u8 0) rfl rfl rfl rfl (fun _=>At.there _ (At.here _)) (fun w G=>d9 ae) ae (by simp only [maxLen];omega) rfl ?_ rfl ?_;(with_reducible rfl);intro A2 c2);apply ab;refine ai ?_);all_goals (refine aa 6 ?_);all_goals (refine ag 7 ?_;(refine bc ?_);apply ab;refine ai ?_);all_goals (refine aw ?_)))))
   all_goals
    repeat' (first|apply Qt|apply Qu|refine aB ?_|refine aA ?_|fail)
    rw [←cu,←dO]
    refine eG (hm:=ZS _ aI) ?_
    repeat' (first|apply ab|refine ad ?_|apply ar|fail)
    apply al;apply ap;rfl;rfl
    simp only [cK,ZC]
 · rw [Zn (show ¬ i.kind=0 by omega),ZB,ZA h0,ZC] at hbs ⊢
   obtain ⟨hl,hsm⟩:=gV h1
   have hfo:=lL i h0
   have hcs:=fB hsm
   have hn2:=dJ i.claim.e i.claim.s
   have hc1:=fun (A:Option Addr) (c:Nat)=>nd bb A c s1 i hl ae
   have hc2:=fun (A:Option Addr) (c:Nat) (p:ByteArray) (hp:p.size≤6000000) (sl:SlV)=>ea bb A c p sl [i.claim.e,i.claim.s] (by simp;exact ⟨hl.e,hl.s⟩) ae
   generalize coreCl i.claim=core at *
   generalize numsV [i.claim.e,i.claim.s]=sg at *
   unfold bld
   repeat' (first|refine bt (hab:=by omega) ?_|apply ab|apply Qt|apply Qu|refine aB ?_|refine aA ?_|refine aF ?_|refine aM fun _=>?_|refine aK ?_|refine Qy ?_|(refine ao (hc:=hfo) (hX:=fun _ _=>trivial) ?_)|fail)
   rename_i bf
   refine dc (l:=bld bb A1 c1 s1++[cel bf 125 (formCells nameC 110 i.claim.e i.claim.s),cel bi 57 i.cells]) (show List.Perm ([_]++[_,_]++[_]) ([_,_]++[_]++[_]) from List.perm_append_comm.append_right _) ?_
   refine cw (pre:=bld bb A1 c1 s1) (fr:=[cel bf 125 (formCells nameC 110 i.claim.e i.claim.s),cel bi 57 i.cells]) (hc:=hc1 A1 c1) (hX:=fun _ _=>trivial) (h:=?_)
   rintro v R X' ⟨A2,c2,rfl,rfl⟩
   refine cP (X':=fun w=>i.at_ w) (fun w h=>h.1) ?_
   unfold bld
   repeat' (first|apply ab|apply Qu|refine aB ?_|refine aA ?_|refine bS fun _=>?_|fail)
   rename_i bs2
   refine co ?_
   refine cw (pre:=bld bb A2 c2 (s1++core)) (fr:=[cel bf 125 (formCells nameC 110 i.claim.e i.claim.s),cel bi 57 i.cells]) (hc:=hc2 A2 c2 (s1++core) (by rw [Zl];omega) ⟨some ⟨bs2,0,none⟩,2,2⟩) (hX:=fun w h=>bK (xs:=[[.int .i64 i.claim.e],[.int .i64 i.claim.s]]) h.2 rfl (by decide) (by simp)) (h:=?_)
   rintro v R X' ⟨A3,c3,rfl,rfl⟩
   unfold bld
   repeat' (first|apply ab|apply Qt|apply Qu|refine aB ?_|refine aA ?_|fail)
   refine eG (hm:=ZS _ aI) ?_
   repeat' (first|apply ab|refine ad ?_|apply ar|fail)
   all_goals
    apply al;apply ap;rfl;rfl
    simp only [cK,ZC,ZV]
 · rw [Zn (show ¬ i.kind=0 by omega),ZB,Zn (show ¬ i.kind=1 by omega),ZB,ZA h0,ZC] at hbs ⊢
   obtain ⟨hl,hsm⟩:=ft h1
   have hfo:=lM i h0
   have hcs:=eA hsm
   have hn2:=dJ i.ballot.e i.ballot.s
   have hc1:=fun (A:Option Addr) (c:Nat)=>l8 bb A c s1 i hl ae
   have hc2:=fun (A:Option Addr) (c:Nat) (p:ByteArray) (hp:p.size≤6000000) (sl:SlV)=>ea bb A c p sl [i.ballot.e,i.ballot.s] (by simp;exact ⟨hl.e,hl.s⟩) ae
   generalize coreBa i.ballot=core at *
   generalize numsV [i.ballot.e,i.ballot.s]=sg at *
   unfold bld
   repeat' (first|refine bt (hab:=by omega) ?_|apply ab|apply Qt|apply Qu|refine aB ?_|refine aA ?_|refine aF ?_|refine aM fun _=>?_|refine aK ?_|refine Qy ?_|(refine ao (hc:=hfo) (hX:=fun _ _=>trivial) ?_)|fail)
   rename_i bf
   refine dc (l:=bld bb A1 c1 s1++[cel bf 125 (formCells nameB 111 i.ballot.e i.ballot.s),cel bi 57 i.cells]) (show List.Perm ([_]++[_,_]++[_]) ([_,_]++[_]++[_]) from List.perm_append_comm.append_right _) ?_
   refine cw (pre:=bld bb A1 c1 s1) (fr:=[cel bf 125 (formCells nameB 111 i.ballot.e i.ballot.s),cel bi 57 i.cells]) (hc:=hc1 A1 c1) (hX:=fun _ _=>trivial) (h:=?_)
   rintro v R X' ⟨A2,c2,rfl,rfl⟩
   refine cP (X':=fun w=>i.at_ w) (fun w h=>h.1) ?_
   unfold bld
   repeat' (first|apply ab|apply Qu|refine aB ?_|refine aA ?_|refine bS fun _=>?_|fail)
   rename_i bs2
   refine co ?_
   refine cw (pre:=bld bb A2 c2 (s1++core)) (fr:=[cel bf 125 (formCells nameB 111 i.ballot.e i.ballot.s),cel bi 57 i.cells]) (hc:=hc2 A2 c2 (s1++core) (by rw [Zl];omega) ⟨some ⟨bs2,0,none⟩,2,2⟩) (hX:=fun w h=>bK (xs:=[[.int .i64 i.ballot.e],[.int .i64 i.ballot.s]]) h.2 rfl (by decide) (by simp)) (h:=?_)
   rintro v R X' ⟨A3,c3,rfl,rfl⟩
   unfold bld
   repeat' (first|apply ab|apply Qt|apply Qu|refine aB ?_|refine aA ?_|fail)
   refine eG (hm:=ZS _ aI) ?_
   repeat' (first|apply ab|refine ad ?_|apply ar|fail)
   all_goals
    apply al;apply ap;rfl;rfl
    simp only [cK,ZC,ZV]
 · rw [Zn (show ¬ i.kind=0 by omega),ZB,Zn (show ¬ i.kind=1 by omega),ZB,Zn (show ¬ i.kind=2 by omega),ZB] at hbs ⊢
   obtain ⟨hl,hsm⟩:=iT hdn h1
   have hfo:=lK i h0
   have hcs:=ez hsm
   have hn2:=dJ i.dec.e i.dec.s
   have hc1:=fun (A:Option Addr) (c:Nat)=>iS bb A c s1 i hl ae
   have hc2:=fun (A:Option Addr) (c:Nat) (p:ByteArray) (hp:p.size≤6000000) (sl:SlV)=>ea bb A c p sl [i.dec.e,i.dec.s] (by simp;exact ⟨hl.e,hl.s⟩) ae
   generalize coreDe i.dec=core at *
   generalize numsV [i.dec.e,i.dec.s]=sg at *
   unfold bld
   repeat' (first|refine bt (hab:=by omega) ?_|apply ab|apply Qt|apply Qu|refine aB ?_|refine aA ?_|refine aF ?_|refine aM fun _=>?_|refine aK ?_|refine Qy ?_|(refine ao (hc:=hfo) (hX:=fun _ _=>trivial) ?_)|fail)
   rename_i bf
   refine dc (l:=bld bb A1 c1 s1++[cel bf 125 (formCells nameD 112 i.dec.e i.dec.s),cel bi 57 i.cells]) (show List.Perm ([_]++[_,_]++[_]) ([_,_]++[_]++[_]) from List.perm_append_comm.append_right _) ?_
   refine cw (pre:=bld bb A1 c1 s1) (fr:=[cel bf 125 (formCells nameD 112 i.dec.e i.dec.s),cel bi 57 i.cells]) (hc:=hc1 A1 c1) (hX:=fun w h=>h) (h:=?_)
   rintro v R X' ⟨A2,c2,rfl,rfl⟩
   refine cP (X':=fun w=>i.at_ w) (fun w h=>h.1) ?_
   unfold bld
   repeat' (first|apply ab|apply Qu|refine aB ?_|refine aA ?_|refine bS fun _=>?_|fail)
   rename_i bs2
   refine co ?_
   refine cw (pre:=bld bb A2 c2 (s1++core)) (fr:=[cel bf 125 (formCells nameD 112 i.dec.e i.dec.s),cel bi 57 i.cells]) (hc:=hc2 A2 c2 (s1++core) (by rw [Zl];omega) ⟨some ⟨bs2,0,none⟩,2,2⟩) (hX:=fun w h=>bK (xs:=[[.int .i64 i.dec.e],[.int .i64 i.dec.s]]) h.2 rfl (by decide) (by simp)) (h:=?_)
   rintro v R X' ⟨A3,c3,rfl,rfl⟩
   unfold bld
   repeat' (first|apply ab|apply Qt|apply Qu|refine aB ?_|refine aA ?_|fail)
   refine eG (hm:=ZS _ aI) ?_
   repeat' (first|apply ab|refine ad ?_|apply ar|fail)
   all_goals
    apply al;apply ap;rfl;rfl
    simp only [cK,ZC,ZV]
theorem dA (i:ItemD) (hr:i.act.Rng) (hdn:i.dec.to.n=i.dec.toL.length):Pu Tryz.prog 14 #[i.v] (fun w=>i.at_ w∧Glob w) (.string (digIt i)):=by
 refine ay (args:=[_]) _ Tryz.func14 rfl Tryz.ntmps14 rfl fun av bor w0=>?_
 have hsz:=iV hr hdn
 have hb:=mt i hr hdn
 repeat' (first|apply ab|apply Qt|apply Qu|refine aj ?_|refine ad ?_|refine aF ?_|refine cI ?_|refine aL fun _=>?_|apply Qw|apply ar|(refine ao (hc:=hb) (hX:=fun w h=>h.1) ?_)|refine ao (hc:=nN _ ae) ?_|(refine aH (ht:=?_) (hf:=?_);all_goals (intro hx_;skip)))
 all_goals (apply al;apply ap;rfl;rfl)
 · simp only [digIt,hx_,ZC]
 · simp only [digIt,hx_,ZB]
theorem vw {i:ItemD} (h:i.kind=0) (hr:rightIt i=true):digIt i=digV i.act:=by
 have e:bytesIt i=bytesV i.act:=by rw [bytesIt,bytesV,hr,po h hr,ZC,ZC,bodyIt,h];rfl
 rw [digIt,digV,e]
theorem rH (p:Int) (c:ClaimD) (h:claimR c=true):Pu Tryz.prog 52 #[.int .i64 p,c.v] Glob (.bool (sgnC p c)):=by
 refine ay (args:=[_,_]) _ Tryz.func52 rfl Tryz.ntmps52 rfl fun av bor w0=>?_
 obtain ⟨hl,hsm⟩:=gV h
 have hsi:=nL p (ofClaimI c) rfl hl (Qp (gE (by decide) (Qp (fB hsm) (by decide))) (by decide))
 have hat:∀ w,(ofClaimI c).at_ w:=fun w=>⟨⟨cB w 1,cB w 5⟩,cB w 1⟩
 repeat' (first|apply ab|apply Qt|apply Qu|refine aj ?_|refine ad ?_|refine aF ?_|refine aL fun _=>?_|apply ar|(refine ao (hc:=gd c) (hX:=fun _ _=>trivial) ?_)|(refine ao (hc:=hsi) (hX:=fun w h=>⟨hat w,h⟩) ?_)|fail)
 exact al (ap rfl rfl) rfl
def signedIt (L:List Int) (i:ItemD):Bool:=rightIt i&&bif decide (i.kind=2) then decide (i.ballot.server<(L.length:Nat))&&sgnB (L.getD i.ballot.server.toNat 0) i.ballot else bif decide (i.kind=3) then decide (i.dec.server<(L.length:Nat))&&sgnD (L.getD i.dec.server.toNat 0) i.dec else true
set_option maxRecDepth 20000 in
set_option maxHeartbeats 16000000 in
theorem gx (s:SlV) (L:List Int) (i:ItemD) (hdn:i.dec.to.n=i.dec.toL.length):Pu Tryz.prog 45 #[s.v,i.v] (fun w=>(Ints w s L∧i.at_ w)∧Glob w) (.bool (signedIt L i)):=by
 refine ay (args:=[_,_]) _ Tryz.func45 rfl Tryz.ntmps45 rfl fun av bor w0=>?_
 refine bJ (p:=s.n=L.length∧s.n≤maxLen∧(0<L.length→s.p.isSome=true)) (fun w h=>⟨h.1.1.len_,Qp (RowsD.cap h.1.1) (RowsD.max h.1.1),h.1.1.some_⟩) fun ⟨hsn,hsm,hsp⟩=>?_
 simp only [maxLen] at hsm
 have hri:=dN i
 cases hrB:rightIt i with
 | false =>
  rw [hrB] at hri
  rw [show signedIt L i=false from by rw [signedIt,hrB];rfl]
  repeat' (first|apply ab|apply Qt|apply Qu|refine ad ?_|refine aF ?_|refine bD ?_|refine aL fun _=>?_|refine Qx ?_|apply ar|(refine ao (hc:=hri) (hX:=fun w h=>h.1.2) ?_)|fail)
  exact al (ap rfl rfl) rfl
 | true =>
 rw [hrB] at hri
 have hk:=dH hrB
 by_cases h2:i.kind=2
 · rcases hk with h|h|h|h
   all_goals first|(exfalso;omega)|skip
   have h1:=h.2
   clear h
   obtain ⟨hl,hz⟩:=ft h1
   have hlo:0≤i.ballot.server:=(cA (by have:=h1;simp only [ballotR,ZM] at this;exact this.1)).1
   have hms:=gE (nm:=nameB) (by decide) (Qp (eA hz) (by decide))
   have hsg:=fun p:Int=>nM p i h2 hl (Qp hms (by decide))
   by_cases hlt:i.ballot.server<(L.length:Nat)
   · have hsp':=hsp ae
     have e:signedIt L i=sgnB (L.getD i.ballot.server.toNat 0) i.ballot:=by rw [signedIt,hrB,ZA h2,ZC,ZA hlt,ZD,ZD]
     rw [e]
     have hget:∀ w,(Ints w s L∧i.at_ w)∧Glob w→CellAt w s.p i.ballot.server.toNat (.int .i64 (L.getD i.ballot.server.toNat 0)):=fun w h=>Ints.get h.1.1 ae
     have hsg1:=hsg (L.getD i.ballot.server.toNat 0)
     generalize L.getD i.ballot.server.toNat 0=pk at *
     repeat' (first|refine bm (hab:=by omega) ?_|apply ab|apply Qt|apply Qu|refine ad ?_|refine aB ?_|refine aA ?_|refine aF ?_|refine bD ?_|refine aL fun _=>?_|refine Qx ?_|refine Qy ?_|apply Qw|apply Qv|(refine ao (hc:=hri) (hX:=fun w h=>h.1.2) ?_)|fail)
     rename_i b3
     (refine aS [cel b3 57 i.cells] (fun w=>(Ints w s L∧i.at_ w)∧Glob w) ak ?_)
     all_goals refine aa 0 ?_<;>refine aa 1 ?_<;>refine aa 2 ?_<;>(refine aa 3 (hy:=by (apply bM true;rfl;rfl;exact ZA ae)) ?_)<;>refine aa 4 ?_<;>refine aa 5 ?_<;>refine aa 6 ?_<;>(refine aa 7 (hy:=by (apply aN (q:=i.ballot.server.toNat);rfl;rfl;omega;omega;assumption;omega)) ?_)<;>(refine aa 8 (hy:=by (apply dv (q:=i.ballot.server.toNat) (u:=.int .i64 pk);rfl;exact hget)) ?_)<;>refine aa 9 ?_<;>(refine ag 10 ?_;(refine ao (hc:=hsg1) (hX:=fun w h=>⟨h.1.2,h.2⟩) ?_);apply ab;refine ai ?_)<;>refine aa 11 ?_<;>refine aa 12 ?_<;>(refine aw ?_)
     all_goals
      repeat' (first|apply ar|fail)
      exact al (ap rfl rfl) rfl
   · have e:signedIt L i=false:=by rw [signedIt,hrB,ZA h2,ZC,Zn hlt];rfl
     rw [e]
     repeat' (first|refine bm (hab:=by omega) ?_|apply ab|apply Qt|apply Qu|refine ad ?_|refine aB ?_|refine aA ?_|refine aF ?_|refine bD ?_|refine aL fun _=>?_|refine Qx ?_|refine Qy ?_|apply Qw|apply Qv|(refine ao (hc:=hri) (hX:=fun w h=>h.1.2) ?_)|fail)
     rename_i b3
     (refine aS [cel b3 57 i.cells] (fun w=>(Ints w s L∧i.at_ w)∧Glob w) ak ?_)
     all_goals refine aa 0 ?_<;>refine aa 1 ?_<;>refine aa 2 ?_<;>(refine aa 3 (hy:=by (apply bM false;rfl;rfl;exact Zn ae)) ?_)<;>refine aa 4 ?_<;>refine az 5 ?_<;>refine az 6 ?_<;>refine az 7 ?_<;>refine az 8 ?_<;>refine az 9 ?_<;>(refine ag 10 ?_;(refine aJ ?_);apply ab;refine ai ?_)<;>refine aa 11 ?_<;>refine aa 12 ?_<;>(refine aw ?_)
     all_goals
      repeat' (first|apply ar|fail)
      exact al (ap rfl rfl) rfl
 by_cases h3:i.kind=3
 · rcases hk with h|h|h|h
   all_goals first|(exfalso;omega)|skip
   have h1:=h.2
   clear h
   obtain ⟨hl,hz⟩:=iT hdn h1
   have hlo:0≤i.dec.server:=(cA (by have:=h1;simp only [decR,ZM] at this;exact this.1)).1
   have hms:=gE (nm:=nameD) (by decide) (Qp (ez hz) (by decide))
   have hsg:=fun p:Int=>nK p i h3 hl (Qp hms (by decide))
   by_cases hlt:i.dec.server<(L.length:Nat)
   · have hsp':=hsp ae
     have e:signedIt L i=sgnD (L.getD i.dec.server.toNat 0) i.dec:=by rw [signedIt,hrB,Zn h2,ZB,ZA h3,ZC,ZA hlt,ZD,ZD]
     rw [e]
     have hget:∀ w,(Ints w s L∧i.at_ w)∧Glob w→CellAt w s.p i.dec.server.toNat (.int .i64 (L.getD i.dec.server.toNat 0)):=fun w h=>Ints.get h.1.1 ae
     have hsg1:=hsg (L.getD i.dec.server.toNat 0)
     generalize L.getD i.dec.server.toNat 0=pk at *
     repeat' (first|refine bm (hab:=by omega) ?_|refine bt (hab:=by omega) ?_|apply ab|apply Qt|apply Qu|refine ad ?_|refine aB ?_|refine aA ?_|refine aF ?_|refine bD ?_|refine aL fun _=>?_|refine Qx ?_|refine Qy ?_|apply Qw|apply Qv|(refine ao (hc:=hri) (hX:=fun w h=>h.1.2) ?_)|fail)
     rename_i b3
     (refine aS [cel b3 57 i.cells] (fun w=>(Ints w s L∧i.at_ w)∧Glob w) ak ?_)
     all_goals refine aa 0 ?_<;>refine aa 1 ?_<;>refine aa 2 ?_<;>(refine aa 3 (hy:=by (apply bM true;rfl;rfl;exact ZA ae)) ?_)<;>refine aa 4 ?_<;>refine aa 5 ?_<;>refine aa 6 ?_<;>(refine aa 7 (hy:=by (apply aN (q:=i.dec.server.toNat);rfl;rfl;omega;omega;assumption;omega)) ?_)<;>(refine aa 8 (hy:=by (apply dv (q:=i.dec.server.toNat) (u:=.int .i64 pk);rfl;exact hget)) ?_)<;>refine aa 9 ?_<;>(refine ag 10 ?_;(refine ao (hc:=hsg1) (hX:=fun w h=>⟨h.1.2,h.2⟩) ?_);apply ab;refine ai ?_)<;>refine aa 11 ?_<;>refine aa 12 ?_<;>(refine aw ?_)
     all_goals
      repeat' (first|apply ar|fail)
      exact al (ap rfl rfl) rfl
   · have e:signedIt L i=false:=by rw [signedIt,hrB,Zn h2,ZB,ZA h3,ZC,Zn hlt];rfl
     rw [e]
     repeat' (first|refine bm (hab:=by omega) ?_|refine bt (hab:=by omega) ?_|apply ab|apply Qt|apply Qu|refine ad ?_|refine aB ?_|refine aA ?_|refine aF ?_|refine bD ?_|refine aL fun _=>?_|refine Qx ?_|refine Qy ?_|apply Qw|apply Qv|(refine ao (hc:=hri) (hX:=fun w h=>h.1.2) ?_)|fail)
     rename_i b3
     (refine aS [cel b3 57 i.cells] (fun w=>(Ints w s L∧i.at_ w)∧Glob w) ak ?_)
     all_goals refine aa 0 ?_<;>refine aa 1 ?_<;>refine aa 2 ?_<;>(refine aa 3 (hy:=by (apply bM false;rfl;rfl;exact Zn ae)) ?_)<;>refine aa 4 ?_<;>refine az 5 ?_<;>refine az 6 ?_<;>refine az 7 ?_<;>refine az 8 ?_<;>refine az 9 ?_<;>(refine ag 10 ?_;(refine aJ ?_);apply ab;refine ai ?_)<;>refine aa 11 ?_<;>refine aa 12 ?_<;>(refine aw ?_)
     all_goals
      repeat' (first|apply ar|fail)
      exact al (ap rfl rfl) rfl
 have e:signedIt L i=true:=by rw [signedIt,hrB,Zn h2,Zn h3];rfl
 rw [e]
 repeat' (first|refine bt (hab:=by omega) ?_|apply ab|apply Qt|apply Qu|refine ad ?_|refine aB ?_|refine aA ?_|refine aF ?_|refine bD ?_|refine aL fun _=>?_|refine Qy ?_|apply Qw|apply Qv|apply ar|(refine ao (hc:=hri) (hX:=fun w h=>h.1.2) ?_)|fail)
 all_goals exact al (ap rfl rfl) rfl
def actsFor (L:List ActD) (k:PosK):List ActD:=L.filter fun a=>decide (a.seq=k.1)&&seqB a.prev k.2
structure NextD (q:Nat) (G:List (PosK×SlV)) (L:List ActD) (w:World):Prop where
 map:SMapAt Tryz.prog 89 w q (G.map fun g=>(g.1,g.2.v))
 rows:∀ k,Acts w ((dget G k).getD ⟨none,0,0⟩) (actsFor L k)
theorem gI {κ β γ:Type} [DecidableEq κ] (f:β→γ):∀ (l:List (κ×β)) (k:κ),dget (l.map fun p=>(p.1,f p.2)) k=(dget l k).map f
 | [],_=>rfl
 | (k',v')::r,k=>by
  simp only [Qs,dget,gI f r k]
  cases decide (k=k')<;>rfl
theorem yv {st:ChS} {h:BldH} {sa sk:SlV} {id:ByteArray} (hid:h.id=id) (hn:sa.n=st.acts.length) (a:ActD) (pl:Option Nat):fitsV ⟨h.id,sa,sk,st.prev,(st.gen:Nat),h.fork,st.acts⟩ a pl=fitsV (st.ch id) a pl:=by
 subst hid
 obtain ⟨p,n,c⟩:=sa
 simp only at hn
 subst hn
 rfl
theorem m0 (l:List KeyD):∀ r∈l.map KeyD.cells,r.length=3:=fun r hr=>by
 obtain ⟨c,_,rfl⟩:=List.mem_map.1 hr
 rfl
theorem mU {l:List ActD} (h:l.length≠1):oneA l=none:=by
 match l,h with
 | [],_=>rfl
 | [x],h=>exact absurd rfl h
 | x::y::r,_=>rfl
structure CanI (M:List ActD) (B:ActD→Bool) where
 k:Nat
 hk:k≤M.length
 A:Option Addr
 c:Nat
 n:Nat
 hn:n=((M.take k).filter B).length
 xs:List Value
 hxs:xs=(((M.take k).filter B).map ActD.cells).flatten
set_option maxHeartbeats 16000000 in
theorem ou (b:Nat) (h:BldH) (sa sk:SlV) (st:ChS) (pl:List (ByteArray×Value)) (ok:BldOk sa sk st pl) (W:OfW) (G:List (PosK×SlV)) (hI:InvS W st) (hid:h.id=W.id)
  (hok:ActsOk W.L) (hL:W.L.length≤100000) (hB:W.B≤100000)
  (hver:∀ a∈W.L,∀ p:Int,Pu Tryz.prog 24 #[.int .i64 p,a.v] (fun w=>a.at_ w∧Glob w) (.bool (W.ver p a))) :
  Ct Tryz.prog 35 #[.pointer (some ⟨b,0,none⟩)] (bldR b h sa sk st pl) (fun w=>(NextD h.q1 G W.L w∧∀ a∈W.L,a.at_ w)∧Glob w)
   (fun u R _=>(∀ a,oneA (candL W st)=some a→BldAt b h (addS st a) (.bool true) u R)∧(oneA (candL W st)=none→BldAt b { h with fork:=decide (1<(candL W st).length) } st (.bool false) u R)):=by
 have hlen:=hI.len
 have hkn:=hI.keyn
 have hgen:=hI.gen
 have ok':=ok
 obtain ⟨hn,hk,hp⟩:=ok
 refine d4 (args:=[_]) _ Tryz.func35 rfl Tryz.ntmps35 rfl fun av bor w0=>?_
 obtain ⟨K,hK⟩:∃ K,st.keys[st.keys.length-1]?=some K:=⟨_,Zm (by have:=hI.key;omega)⟩
 have hKey:st.key=K.public_:=by rw [ChS.key,ZL,hK];rfl
 have hk0:=hI.key
 obtain ⟨M,hM⟩:∃ M,actsFor W.L ((sa.n:Int),st.prev)=M:=⟨_,rfl⟩
 have hcand:candL W st=M.filter (candB W st):=by rw [candL,←hM,actsFor,hn];rfl
 have hMm:∀ a∈M,a∈W.L:=fun a ha=>by rw [←hM] at ha;exact (List.mem_filter.1 ha).1
 have hMl:M.length≤W.L.length:=by rw [←hM];exact List.length_filter_le _ _
 obtain ⟨s,hs⟩:∃ s,(dget G ((sa.n:Int),st.prev)).getD ⟨none,0,0⟩=s:=⟨_,rfl⟩
 have hgl:∃ o,dget (G.map fun g=>(g.1,g.2.v)) ((sa.n:Int),st.prev)=o∧o.getD (.slice none 0 0)=s.v:=by
  refine ⟨_,rfl,?_⟩
  rw [gI,←hs]
  cases dget G ((sa.n:Int),st.prev)<;>rfl
 obtain ⟨o,ho,hov⟩:=hgl
 refine bJ (p:=s.n=M.length∧s.n≤maxLen∧(0<M.length→s.p.isSome=true)) (fun w h=>by
  have h1:=h.1.1.rows ((sa.n:Int),st.prev)
  rw [hs,hM] at h1
  exact ⟨h1.len_,h1.max_,h1.some_⟩) fun ⟨hsn,hsm,hsp⟩=>?_
 simp only [maxLen] at hsm
 have hro:∀ w,((NextD h.q1 G W.L w∧∀ a∈W.L,a.at_ w)∧Glob w)→Acts w s M:=fun w h=>by
  have h1:=h.1.1.rows ((sa.n:Int),st.prev)
  rwa [hs,hM] at h1
 unfold bldR keyR actR
 refine cO (r:=orow 35 3 (.slice sk.p sk.n sk.c) sk.n (st.keys.map KeyD.cells).flatten) bU (p:=sk.p.isSome=true) (fun w h=>cE h ae) fun hkp=>?_
 repeat' (first|apply ab|apply Qt|apply Qu|refine ad ?_|refine cv ?_|refine aB ?_|refine aA ?_|refine aL fun _=>?_|fail)
 rename_i b1
 have hLOC:True:=trivial
 (refine aS [cel b1 83 [.pointer (some ⟨b,0,none⟩)],cel b 87 (bldC h sa sk st.prev (st.gen:Nat)),orow 46 20 (.slice sa.p sa.n sa.c) sa.n (st.acts.map ActD.cells).flatten,orow 35 3 (.slice sk.p sk.n sk.c) sk.n (st.keys.map KeyD.cells).flatten,mapr h.q2 pl] (fun w=>(NextD h.q1 G W.L w∧∀ a∈W.L,a.at_ w)∧Glob w) ak ?_)
 all_goals refine aq 0 ?_<;>refine aq 1 ?_<;>refine aq 2 ?_<;>refine aq 3 ?_<;>refine aq 4 ?_<;>refine aq 5 ?_<;>refine aq 6 ?_<;>refine aq 7 ?_<;>refine aq 8 ?_<;>refine aq 9 ?_<;>(refine aq 10 (hy:=by (apply aN (q:=(sk.n-1)*3);rfl;rfl;omega;omega;assumption;omega)) ?_)<;>(refine aq 11 (hy:=by (apply eU;rfl;assumption;rfl)) ?_)<;>(refine aq 12 (hy:=by (apply f0 (xs:=st.keys.map KeyD.cells) (cs:=K.cells) (i:=sk.n-1) (j:=1) (u:=.int .i64 K.public_);rfl;(repeat (first|exact aI|apply ZS));(simp [hk]);exact m0 st.keys;(simp [hk,hK]);rfl)) ?_)<;>refine aq 13 ?_<;>(refine aw ?_)
 repeat' (first|apply ab|apply Qt|apply Qu|refine ad ?_|(refine er ?_)|fail)
 (refine aS [cel b1 83 [.pointer (some ⟨b,0,none⟩)],cel b 87 (bldC h sa sk st.prev (st.gen:Nat)),orow 46 20 (.slice sa.p sa.n sa.c) sa.n (st.acts.map ActD.cells).flatten,orow 35 3 (.slice sk.p sk.n sk.c) sk.n (st.keys.map KeyD.cells).flatten,mapr h.q2 pl] (fun w=>(NextD h.q1 G W.L w∧∀ a∈W.L,a.at_ w)∧Glob w) ak ?_)
 all_goals refine aq 0 ?_<;>refine aq 1 ?_<;>refine aq 2 ?_<;>refine aq 3 ?_<;>refine aq 4 ?_<;>refine aq 5 ?_<;>refine aq 6 ?_<;>refine aq 7 ?_<;>refine aq 8 ?_<;>refine aq 9 ?_<;>refine aq 10 ?_<;>refine aq 11 ?_<;>refine aq 12 ?_<;>(refine aq 13 (hy:=by (apply cj (cs:=[.int .i64 (sa.n:Nat),.string st.prev]);rfl;rfl)) ?_)<;>refine aq 16 ?_<;>(refine ag 14 ?_;(refine am (mB (κ:=PosK) (kk:=((sa.n:Int),st.prev)) (z:=.slice none 0 0) (o:=o) (v:=s.v) rfl rfl (oZ fun w h=>h.1.1.map) ho hov) rfl rfl rfl ?_);apply ab;refine ef ?_)<;>refine aq 15 ?_<;>(refine aw ?_)
 apply Qv
 refine cW 46 20 ?_
 refine aU (ι:=CanI M (candB W st)) (fun i=>⟨[(1,.pointer (some ⟨b1,0,none⟩)),(3,.pointer (some ⟨b,2,none⟩)),(4,.int .i64 K.public_),(5,.func (.func 66) #[] #[.pointer (some ⟨b1,0,none⟩)]),(6,.slice i.A i.n i.c),(40,s.v),(41,.int .i64 (s.n:Nat)),(42,.int .i64 (i.k:Nat))],[orow 46 20 (.slice i.A i.n i.c) i.n i.xs,cel b1 83 [.pointer (some ⟨b,0,none⟩)],cel b 87 (bldC h sa sk st.prev (st.gen:Nat)),orow 46 20 (.slice sa.p sa.n sa.c) sa.n (st.acts.map ActD.cells).flatten,orow 35 3 (.slice sk.p sk.n sk.c) sk.n (st.keys.map KeyD.cells).flatten,mapr h.q2 pl],(fun w=>(NextD h.q1 G W.L w∧∀ a∈W.L,a.at_ w)∧Glob w)⟩) (fun i=>M.length-i.k) ⟨0,Nat.zero_le _,none,0,0,rfl,[],rfl⟩ (ax ⟨rfl,rfl,rfl,rfl,rfl,rfl,rfl,rfl,trivial⟩ (aE _) fun _ h=>h) fun i=>?_
 obtain ⟨k,hk',A,cc,n,hn',xs,hxs⟩:=i
 simp only
 have hnl:n≤100000:=by have h1:=List.length_filter_le (candB W st) (M.take k);rw [←hn',List.length_take] at h1;omega
 repeat' (first|apply ab|apply Qt|apply Qu|refine aj ?_|refine ad ?_|refine cv ?_|refine aB ?_|refine dF ?_|refine bj ?_|refine cG ?_|refine aY ?_|refine bc ?_|apply Qw|apply Qv|apply ar|apply aQ|(refine aH (ht:=?_) (hf:=?_);all_goals (intro hx_;first|have:=aP hx_|have:=aT hx_|skip)))
 · have hlt:k<M.length:=by omega
   have hsp':=hsp ae
   obtain ⟨a,ha⟩:∃ a,M[k]?=some a:=⟨_,Zm hlt⟩
   have ham:a∈M:=List.mem_of_getElem? ha
   repeat' (first|apply ab|apply Qt|refine aM fun _=>?_|refine aK ?_|(refine bx (q:=k*20) ?_)|(refine cr (cs:=a.cells) (hF:=fun w h=>Acts.get (hro w h) ha) ?_)|fail)
   rename_i b8
   have hf:=AI ⟨h.id,sa,sk,st.prev,(st.gen:Nat),h.fork,st.acts⟩ a 66 [.pointer (some ⟨b1,0,none⟩)] (idxV st.acts a.object) _ (yH b b1 h sa sk st pl hp a.object) (fun j hj=>AC hj)
   rw [yv hid hn] at hf
   have hXf:∀ w,((NextD h.q1 G W.L w∧∀ a∈W.L,a.at_ w)∧Glob w)→(∀ r∈[cel b8 46 a.cells,orow 46 20 (.slice A n cc) n xs,cel b1 83 [.pointer (some ⟨b,0,none⟩)],cel b 87 (bldC h sa sk st.prev (st.gen:Nat)),orow 46 20 (.slice sa.p sa.n sa.c) sa.n (st.acts.map ActD.cells).flatten,orow 35 3 (.slice sk.p sk.n sk.c) sk.n (st.keys.map KeyD.cells).flatten,mapr h.q2 pl],r.F w)→(ChainD.at_ w ⟨h.id,sa,sk,st.prev,(st.gen:Nat),h.fork,st.acts⟩∧a.at_ w∧CelD b1 [.pointer (some ⟨b,0,none⟩)] w∧CelD b (bldC h sa sk st.prev (st.gen:Nat)) w∧MapAt w h.q2 pl):=fun w hw hr =>
    ⟨fe (hr _ (.tail _ (.tail _ (.tail _ (.tail _ (.head _)))))) hn (fun x hx=>hw.1.2 x (hI.mem x hx)),hw.1.2 a (hMm a ham),fd (hr _ (.tail _ (.tail _ (.head _)))),fd (hr _ (.tail _ (.tail _ (.tail _ (.head _))))),hr _ (.tail _ (.tail _ (.tail _ (.tail _ (.tail _ (.tail _ (.head _)))))))⟩
   have hv:=hver a (hMm a ham) K.public_
   have htk:((M.take (k+1)).filter (candB W st))=(M.take k).filter (candB W st)++(bif candB W st a then [a] else []):=by
    rw [List.take_add_one,ha,List.filter_append,Option.toList_some]
    congr 1
   have hcb:candB W st a=(fitsV (st.ch W.id) a (idxV st.acts a.object)&&W.ver K.public_ a):=by rw [candB,hKey]
   cases hfv:fitsV (st.ch W.id) a (idxV st.acts a.object) with
   | false =>
    rw [hfv] at hf hcb
    have hno:(M.take (k+1)).filter (candB W st)=(M.take k).filter (candB W st):=by simp [htk,hcb]
    (refine aS [cel b8 46 a.cells,orow 46 20 (.slice A n cc) n xs,cel b1 83 [.pointer (some ⟨b,0,none⟩)],cel b 87 (bldC h sa sk st.prev (st.gen:Nat)),orow 46 20 (.slice sa.p sa.n sa.c) sa.n (st.acts.map ActD.cells).flatten,orow 35 3 (.slice sk.p sk.n sk.c) sk.n (st.keys.map KeyD.cells).flatten,mapr h.q2 pl] (fun w=>(NextD h.q1 G W.L w∧∀ a∈W.L,a.at_ w)∧Glob w) ak ?_)
    all_goals refine aq 0 ?_<;>refine aq 1 ?_<;>(refine aq 2 (hy:=by (apply cH (vs:=[.string h.id,.slice sa.p sa.n sa.c,.slice sk.p sk.n sk.c,.string st.prev,.int .i64 (st.gen:Nat),.bool h.fork]);rfl;(repeat (first|exact aI|apply ZS));rfl;rfl)) ?_)<;>refine aq 3 ?_<;>refine aq 4 ?_<;>(refine ag 5 ?_;(refine nG (hc:=hf) (hX:=hXf) ?_);apply ab;refine ef ?_)<;>refine aq 6 ?_<;>refine ni 7 ?_<;>refine ni 8 ?_<;>(refine ag 9 ?_;(refine aJ ?_);apply ab;refine ef ?_)<;>refine aq 10 ?_<;>(refine aw ?_)
    all_goals
     repeat' (first|apply ab|apply Qu|refine aj ?_|refine be (h:=?_)|refine Qy ?_|apply Qw|fail)
     exact ⟨(⟨k+1,hlt,A,cc,n,by rw [hno];exact hn',xs,by rw [hno];exact hxs⟩:CanI M (candB W st)),(by show M.length-(k+1)<M.length-k;omega),ax ⟨rfl,rfl,rfl,rfl,rfl,rfl,rfl,rfl,trivial⟩ (List.Sublist.cons _ (aE _)) fun _ h=>h⟩
   | true =>
    rw [hfv] at hf hcb
    cases hve:W.ver K.public_ a with
    | false =>
     rw [hve] at hv hcb
     have hno:(M.take (k+1)).filter (candB W st)=(M.take k).filter (candB W st):=by simp [htk,hcb]
     (refine aS [cel b8 46 a.cells,orow 46 20 (.slice A n cc) n xs,cel b1 83 [.pointer (some ⟨b,0,none⟩)],cel b 87 (bldC h sa sk st.prev (st.gen:Nat)),orow 46 20 (.slice sa.p sa.n sa.c) sa.n (st.acts.map ActD.cells).flatten,orow 35 3 (.slice sk.p sk.n sk.c) sk.n (st.keys.map KeyD.cells).flatten,mapr h.q2 pl] (fun w=>(NextD h.q1 G W.L w∧∀ a∈W.L,a.at_ w)∧Glob w) ak ?_)
     all_goals refine aq 0 ?_<;>refine aq 1 ?_<;>(refine aq 2 (hy:=by (apply cH (vs:=[.string h.id,.slice sa.p sa.n sa.c,.slice sk.p sk.n sk.c,.string st.prev,.int .i64 (st.gen:Nat),.bool h.fork]);rfl;(repeat (first|exact aI|apply ZS));rfl;rfl)) ?_)<;>refine aq 3 ?_<;>refine aq 4 ?_<;>(refine ag 5 ?_;(refine nG (hc:=hf) (hX:=hXf) ?_);apply ab;refine ef ?_)<;>refine aq 6 ?_<;>refine aq 7 ?_<;>refine aq 8 ?_<;>(refine ag 9 ?_;(refine ao (hc:=hv) (hX:=fun w h=>⟨h.1.2 a (hMm a ham),h.2⟩) ?_);apply ab;refine ef ?_)<;>refine aq 10 ?_<;>(refine aw ?_)
     all_goals
      repeat' (first|apply ab|apply Qu|refine aj ?_|refine be (h:=?_)|refine Qy ?_|apply Qw|fail)
      exact ⟨(⟨k+1,hlt,A,cc,n,by rw [hno];exact hn',xs,by rw [hno];exact hxs⟩:CanI M (candB W st)),(by show M.length-(k+1)<M.length-k;omega),ax ⟨rfl,rfl,rfl,rfl,rfl,rfl,rfl,rfl,trivial⟩ (List.Sublist.cons _ (aE _)) fun _ h=>h⟩
    | true =>
     rw [hve] at hv hcb
     have hyes:(M.take (k+1)).filter (candB W st)=(M.take k).filter (candB W st)++[a]:=by rw [htk,hcb];rfl
     (refine aS [cel b8 46 a.cells,orow 46 20 (.slice A n cc) n xs,cel b1 83 [.pointer (some ⟨b,0,none⟩)],cel b 87 (bldC h sa sk st.prev (st.gen:Nat)),orow 46 20 (.slice sa.p sa.n sa.c) sa.n (st.acts.map ActD.cells).flatten,orow 35 3 (.slice sk.p sk.n sk.c) sk.n (st.keys.map KeyD.cells).flatten,mapr h.q2 pl] (fun w=>(NextD h.q1 G W.L w∧∀ a∈W.L,a.at_ w)∧Glob w) ak ?_)
     all_goals refine aq 0 ?_<;>refine aq 1 ?_<;>(refine aq 2 (hy:=by (apply cH (vs:=[.string h.id,.slice sa.p sa.n sa.c,.slice sk.p sk.n sk.c,.string st.prev,.int .i64 (st.gen:Nat),.bool h.fork]);rfl;(repeat (first|exact aI|apply ZS));rfl;rfl)) ?_)<;>refine aq 3 ?_<;>refine aq 4 ?_<;>(refine ag 5 ?_;(refine nG (hc:=hf) (hX:=hXf) ?_);apply ab;refine ef ?_)<;>refine aq 6 ?_<;>refine aq 7 ?_<;>refine aq 8 ?_<;>(refine ag 9 ?_;(refine ao (hc:=hv) (hX:=fun w h=>⟨h.1.2 a (hMm a ham),h.2⟩) ?_);apply ab;refine ef ?_)<;>refine aq 10 ?_<;>(refine aw ?_)
     all_goals
      repeat' (first|refine bH (size:=20) (vs:=[a.v]) (css:=a.cells) (hsz:=by rfl) (hcs:=by rfl) fun _=>?_|apply Qu|refine aj ?_|refine aF ?_|refine Qx ?_|fail)
      refine aV (size:=20) (news:=a.cells) (q:=1) rfl rfl rfl rfl (fun _=>At.there _ (At.there _ (At.here _))) (fun w G=>bo G aI rfl rfl 1) ae (by simp only [maxLen];omega) rfl ?_ rfl ?_
      · (with_reducible rfl)
      intro A2 c2
      repeat' (first|apply ab|apply Qu|refine aj ?_|refine ad ?_|refine be (h:=?_)|fail)
      exact ⟨(⟨k+1,hlt,A2,c2,n+1,by rw [hyes,ZX,←hn'];rfl,xs++a.cells,by rw [hyes,hxs];simp⟩:CanI M (candB W st)),(by show M.length-(k+1)<M.length-k;omega),ax ⟨rfl,rfl,rfl,rfl,rfl,rfl,rfl,rfl,trivial⟩ (List.Sublist.cons _ (List.Sublist.cons _ (aE _))) fun _ h=>h⟩
 have hkE:k=M.length:=by omega
 have hfin:candL W st=(M.take k).filter (candB W st):=by rw [hcand,hkE,List.take_length]
 have hnc:n=(candL W st).length:=by rw [hfin];exact hn'
 · have hn1:n≠1:=by
    intro e
    rw [e] at hx_
    exact absurd hx_ (by decide)
   have hone:oneA (candL W st)=none:=mU ae
   have hdc:decide ((1:Int)<(n:Int))=decide (1<(candL W st).length):=by
    rw [←hnc]
    by_cases h1:1<n
    · rw [ZA h1,ZA (by omega)]
    · rw [Zn h1,Zn (by omega)]
   refine al (ap rfl rfl) ⟨bldR b { h with fork:=decide ((1:Int)<(n:Int)) } sa sk st pl,List.Sublist.cons _ (List.Sublist.cons _ (aE _)),fun a ha=>?_,fun _=>?_⟩
   · rw [hone] at ha
     cases ha
   · rw [←hdc]
     exact ⟨rfl,sa,sk,pl,ok',rfl⟩
 have hkE:k=M.length:=by omega
 have hfin:candL W st=(M.take k).filter (candB W st):=by rw [hcand,hkE,List.take_length]
 have hnc:n=(candL W st).length:=by rw [hfin];exact hn'
 have hn1:n=1:=by
  by_cases e:n=1
  · exact e
  · exact absurd hx_ (by simp;omega)
 obtain ⟨a,ha⟩:∃ a,candL W st=[a]:=List.length_eq_one_iff.1 ae
 have ham:a∈W.L:=(lY (show a∈candL W st from by rw [ha];exact List.mem_singleton.2 rfl)).1
 have hxa:xs=a.cells:=by rw [hxs,←hfin,ha];simp
 subst hxa
 subst hn1
 refine cO (r:=orow 46 20 (.slice A 1 cc) 1 a.cells) bU (p:=A.isSome=true) (fun w h=>cE h (by decide)) fun hAp=>?_
 have had:=yO b h sa sk st pl ok' a (hok.rng a ham) (hok.sm a ham) ae ae
 (refine aS [] (fun _=>True) ak ?_)
 all_goals refine aa 1 ?_<;>(refine aa 2 (hy:=by (apply aN (q:=0);rfl;rfl;omega;omega;assumption;rfl)) ?_)<;>(refine bw 0 3 (h:=?_) (h':=?_);(focus (((refine aA ?_);apply ab;refine ai ?_);all_goals ((refine ag 3 ?_;(refine am (fZ (size:=20) (m:=1) (i:=0) (xs:=[a.cells]) (cs:=a.cells) rfl (by exact aI) rfl (fun r hr=>by rw [List.mem_singleton.1 hr];rfl) rfl) rfl rfl rfl ?_);apply ab;refine ai ?_);all_goals (refine ag 4 ?_;(refine dc (l:=bldR b h sa sk st pl++[orow 46 20 (.slice A 1 cc) 1 a.cells,cel b1 83 [.pointer (some ⟨b,0,none⟩)]]) (List.perm_append_comm (l₁:=[orow 46 20 (.slice A 1 cc) 1 a.cells,cel b1 83 [.pointer (some ⟨b,0,none⟩)]]) (l₂:=bldR b h sa sk st pl)) ?_;refine cw (pre:=bldR b h sa sk st pl) (fr:=[orow 46 20 (.slice A 1 cc) 1 a.cells,cel b1 83 [.pointer (some ⟨b,0,none⟩)]]) (first:=#[]) (caps:=#[]) (hc:=had) (hX:=fun w hw=>⟨hw.1.2 a ham,hw.2⟩) (h:=?_);rintro v R X' ⟨rfl,sa2,sk2,pl2,ok2,rfl⟩;simp only [bldR,Z9,Qa]);apply ab;refine ai ?_);all_goals (refine aw ?_))));rotate_right;(focus (((refine am (fZ (size:=20) (m:=1) (i:=0) (xs:=[a.cells]) (cs:=a.cells) rfl (by exact aI) rfl (fun r hr=>by rw [List.mem_singleton.1 hr];rfl) rfl) rfl rfl rfl ?_);apply ab;refine ai ?_);all_goals ((refine ag 0 ?_;(refine aA ?_);apply ab;refine ai ?_);all_goals (refine ag 4 ?_;(refine dc (l:=bldR b h sa sk st pl++[orow 46 20 (.slice A 1 cc) 1 a.cells,cel b1 83 [.pointer (some ⟨b,0,none⟩)]]) (List.perm_append_comm (l₁:=[orow 46 20 (.slice A 1 cc) 1 a.cells,cel b1 83 [.pointer (some ⟨b,0,none⟩)]]) (l₂:=bldR b h sa sk st pl)) ?_;refine cw (pre:=bldR b h sa sk st pl) (fr:=[orow 46 20 (.slice A 1 cc) 1 a.cells,cel b1 83 [.pointer (some ⟨b,0,none⟩)]]) (first:=#[]) (caps:=#[]) (hc:=had) (hX:=fun w hw=>⟨hw.1.2 a ham,hw.2⟩) (h:=?_);rintro v R X' ⟨rfl,sa2,sk2,pl2,ok2,rfl⟩;simp only [bldR,Z9,Qa]);apply ab;refine ai ?_);all_goals (refine aw ?_)))))
 all_goals
  repeat' (first|apply ab|apply Qt|apply Qu|refine ad ?_|apply ar|fail)
  refine al (ap rfl rfl) ⟨bldR b h sa2 sk2 (addS st a) pl2,List.sublist_append_left _ _,fun a' ha'=>?_,fun ho=>?_⟩
  · rw [ha,oneA,Qb] at ha'
    subst ha'
    exact ⟨rfl,sa2,sk2,pl2,ok2,rfl⟩
  · rw [ha] at ho
    cases ho
end Go.Proofs.YtcdilibijnboeaaGreatDoor
namespace Go.Proofs.YtcdilibijnboeaaGreatDoor
open Go Go.Proofs Sy
structure Grp where
 s:SlV
 l:List ActD
def grpR (g:PosK×Grp):Res:=actR g.2.s g.2.l
theorem qi {κ β γ:Type} [DecidableEq κ] (f:β→γ):∀ (l:List (κ×β)) (k:κ) (v:β),(dput l k v).map (fun p=>(p.1,f p.2))=dput (l.map fun p=>(p.1,f p.2)) k (f v)
 | [],_,_=>rfl
 | (k',v')::r,k,v=>by
  simp only [dput,Qs,←qi f r k v]
  cases decide (k=k')<;>rfl
theorem p9 {κ β:Type} [DecidableEq κ] (R:κ×β→Res):∀ (G:List (κ×β)) (k:κ),∃ rest:List Res,(∀ g',((dput G k g').map R).Perm (R (k,g')::rest))∧(∀ g,dget G k=some g→(G.map R).Perm (R (k,g)::rest))∧(dget G k=none→rest=G.map R)
 | [],k=>⟨[],fun g'=>List.Perm.refl _,fun g h=>(by cases h),fun _=>rfl⟩
 | (k',v')::r,k=>by
  by_cases e:k=k'
  · subst e
    refine ⟨r.map R,fun g'=>?_,fun g h=>?_,fun h=>?_⟩
    · simp [dput]
    · simp only [dget,ZQ,ZC,Qb] at h
      subst h
      exact List.Perm.refl _
    · simp [dget] at h
  · obtain ⟨rest,h1,h2,h3⟩:=p9 R r k
    refine ⟨R (k',v')::rest,fun g'=>?_,fun g h=>?_,fun h=>?_⟩
    · have:=(h1 g').cons (R (k',v'))
      simp only [dput,e,ZO,ZB,Qs]
      exact this.trans (List.Perm.swap _ _ _)
    · simp only [dget,e,ZO,ZB] at h
      exact ((h2 g h).cons (R (k',v'))).trans (List.Perm.swap _ _ _)
    · simp only [dget,e,ZO,ZB] at h
      rw [h3 h]
      rfl
theorem permG {x O:Res} {C rest R:List Res} (h:R.Perm (O::rest)):(x::O::(C++rest)).Perm (x::(C++R)):=((List.perm_middle.symm).trans (h.symm.append_left C)).cons x
theorem permH {c m sm c4:Res} {R:List Res}:([c,m,sm,c4]++R).Perm ((sm::R)++[c,m,c4]):=(List.perm_middle (l₁:=[c,m])).trans (List.Perm.cons sm (List.perm_append_comm (l₁:=[c,m,c4])))
theorem permK {an kb o c m c4:Res}:[an,kb,o,c,m,c4].Perm [c,an,kb,m,o,c4]:=(List.perm_middle (l₁:=[an,kb,o])).trans (.cons _ (.cons _ (.cons _ (.swap _ _ _))))
def grpL (o:Option Grp):List ActD:=(o.map Grp.l).getD []
def grpS (o:Option Grp):SlV:=(o.map Grp.s).getD ⟨none,0,0⟩
structure GrpOk (G:List (PosK×Grp)) (L:List ActD):Prop where
 all:∀ k,grpL (dget G k)=actsFor L k
 len:∀ k g,dget G k=some g→g.s.n=g.l.length
theorem oE (L:List ActD) (a:ActD) (k:PosK):actsFor (L++[a]) k=actsFor L k++(bif decide (k=((a.seq,a.prev):PosK)) then [a] else []):=by
 rw [actsFor,actsFor,List.filter_append]
 congr 1
 obtain ⟨n,p⟩:=k
 by_cases h1:a.seq=n
 · by_cases h2:a.prev=p
   · subst h1;subst h2;simp [List.filter,cf]
   · have hb:seqB a.prev p=false:=by
      cases h:seqB a.prev p with
      | false=>rfl
      | true=>exact absurd (seqB_iff.1 h) h2
     have hne:¬ ((n,p):PosK)=(a.seq,a.prev):=fun e=>h2 (congrArg Prod.snd e).symm
     simp [List.filter,hb,hne]
 · have hne:¬ ((n,p):PosK)=(a.seq,a.prev):=fun e=>h1 (congrArg Prod.fst e).symm
   simp [List.filter,h1,hne]
theorem GrpOk.step {G:List (PosK×Grp)} {L:List ActD} (h:GrpOk G L) (a:ActD) (s':SlV) (hs:s'.n=(grpL (dget G ((a.seq,a.prev):PosK))).length+1) :
  GrpOk (dput G ((a.seq,a.prev):PosK) ⟨s',grpL (dget G ((a.seq,a.prev):PosK))++[a]⟩) (L++[a]):=by
 refine ⟨fun k=>?_,fun k g hg=>?_⟩
 · rw [oE,jB]
   by_cases e:k=((a.seq,a.prev):PosK)
   · subst e
     simp only [ZQ,ZC]
     rw [←h.all]
     rfl
   · rw [Zn e,ZB,ZB,Z8]
     exact h.all k
 · rw [jB] at hg
   by_cases e:k=((a.seq,a.prev):PosK)
   · subst e
     simp only [ZQ,ZC,Qb] at hg
     subst hg
     rw [ZX]
     exact hs
   · rw [Zn e,ZB] at hg
     exact h.len k g hg
namespace Sy
section
variable {P:Program} {N:Nat} {av bor:List Nat} {w0:World} {E:Env} {loc:List Res} {X:World→Prop} {K:Exit→St→Prop} {c:Code}
theorem Gam.giveL {w:World}:∀ (L:List Res) {X:World→Prop},Gam av bor w0 (L++loc) X w→Gam av bor w0 loc (fun w=>X w∧∀ r∈L,r.F w) w
  | [],X,G=>G.imp fun _ h=>⟨h,by simp⟩
  | r :: L,X,G=>(Gam.giveL L (Gam.give (r:=r) (loc:=L++loc) G)).imp fun w h=>⟨h.1.1,fun q hq=>by
      rcases List.mem_cons.1 hq with rfl|hq
      · exact h.1.2
      · exact h.2 q hq⟩
theorem xm {ops:Array Oper} {rest:List Oper} {k:St→Prop} (L:List Res) (h:Sw P N av bor w0 ops rest ⟨E,loc,fun w=>X w∧∀ r∈L,r.F w⟩ k):Sw P N av bor w0 ops rest ⟨E,L++loc,X⟩ k:=Sw.mk fun a w ok=>h.run a w (ok.via fun M G=>by
 rw [ZZ] at G
 exact G.giveL L)
theorem yG {b e:Nat} {cs:List Value} (size m:Nat) (hl:cs.length=m*size:=by rfl) (hm:m≤maxLen) (h:Cw P N av bor w0 c ⟨E,orow e size (.slice (some ⟨b,0,none⟩) m m) m cs::loc,X⟩ K):Cw P N av bor w0 c ⟨E,cel b e cs::loc,X⟩ K:=Cw.mk fun a w ok=>h.run a w (ok.via fun M G=>G.orow hl hm)
theorem lV {l:List Res} (hs:loc.Perm l) (h:Cw P N av bor w0 c ⟨E,l,X⟩ K):Cw P N av bor w0 c ⟨E,loc,X⟩ K:=Cw.mk fun a w ok=>h.run a w (ok.via fun M G=>G.perm (hs.append_right M))
end
end Sy
section
variable {N:Nat} {av bor:List Nat} {w0:World} {E:Env} {X:World→Prop} {K:Exit→St→Prop} {c:Code}
theorem CD {G:List (PosK×Grp)} {k:PosK} {rest:List Res} (C:List Res) (h2:∀ g,dget G k=some g→(G.map grpR).Perm (grpR (k,g)::rest)) (h3:dget G k=none→rest=G.map grpR)
  (h:Cw Tryz.prog N av bor w0 c ⟨E,actR (grpS (dget G k)) (grpL (dget G k))::(C++rest),X⟩ K):Cw Tryz.prog N av bor w0 c ⟨E,C++G.map grpR,X⟩ K:=by
 cases hd:dget G k with
 | none =>
  rw [hd,h3 hd] at h
  exact cW 46 20 h
 | some g =>
  rw [hd] at h
  exact lV (((h2 g hd).append_left C).trans List.perm_middle) h
end
theorem Am {q:Nat} {G:List (PosK×Grp)} {L:List ActD} (h:GrpOk G L) {w:World} (hm:SMapAt Tryz.prog 89 w q (G.map fun g=>(g.1,g.2.s.v))) (hr:∀ r∈G.map grpR,r.F w) (ha:∀ a∈L,a.at_ w) :
  NextD q (G.map fun g=>(g.1,g.2.s)) L w:=by
 refine ⟨by rw [Qr];exact hm,fun k=>?_⟩
 rw [gI,←h.all k]
 have hsub:∀ a∈grpL (dget G k),a.at_ w:=fun a h1=>by
  rw [h.all k] at h1
  exact ha a (List.mem_filter.1 h1).1
 cases hd:dget G k with
 | none=>exact ⟨cB w 20,fun a h=>by cases h⟩
 | some g =>
  rw [hd] at hsub
  have hg:=hr (grpR (k,g)) (List.mem_map_of_mem (qj hd))
  exact fe hg (h.len k g hd) hsub
end Go.Proofs.YtcdilibijnboeaaGreatDoor
