/- Joined. -/
import Derived.Test.YtggionfjlgfihaaGreatDoorI0
import Derived.Test.YtggionfjlgfihaaGreatDoorI1
import Derived.Test.YtggionfjlgfihaaGreatDoorI13
import Derived.Test.YtggionfjlgfihaaGreatDoorI14
import Derived.Test.YtggionfjlgfihaaGreatDoorI9
set_option linter.unusedVariables false
set_option linter.unusedSimpArgs false
set_option maxHeartbeats 16000000
namespace Go.Proofs.YtggionfjlgfihaaGreatDoor
open Go Go.Proofs Sy
def ofClaimI (c:Xg):Xb:=⟨1,Xa.zero,c,Xi.zero,Xr.zero⟩
theorem fI (c:Xg):Pu Tryz.prog 135 #[c.v] (fun _=>True) (ofClaimI c).v:=by
 refine ar Tryz.func135 Tryz.ntmps135 fun av bor w0=>?_
 repeat' (first|refine aM (cs:=(ofClaimI c).cells) (hf:=by rfl) ?_|refine gs ?_|refine gs1 fun _=>?_|(refine gp ?_ ?_<;>intro hx_ this)|fail)
 exact ab (bx rfl rfl aL (by rfl)) rfl
theorem l7 (b:Nat) (h:BldH) (sa sk:Xj) (st:Xz) (pl:List (ByteArray×Value)) (ok:BldOk sa sk st pl) (hw:h.wn=false) (Y:World→Prop) :
  Ct Tryz.prog 75 #[.pointer (some ⟨b,0,none⟩)] (bldR b h sa sk st pl) Y (fun u R _=>BldAt b h st (.bool false) u R):=by
 obtain ⟨ks,ki,id,fork,q1,q2,cl,wn⟩:=h
 simp only at hw
 subst hw
 refine cX (args:=[_]) _ Tryz.func75 rfl Tryz.ntmps75 rfl fun av bor w0=>?_
 unfold bldR
 repeat' (first|refine gs ?_|refine gs1 fun _=>?_|(refine gp ?_ ?_<;>intro hx_ this)|fail)
 (refine ao ⟨[0,1,2,3,4,5,6,7,8,9,10,11,12,13,14,15,16,17,18,19,20,21,22,23,24,25,26,27,28,29],[]⟩ [cel b 131 (bldC ⟨ks,ki,id,fork,q1,q2,cl,false⟩ sa sk st.prev (st.gen:Nat)),actR sa st.acts,keyR sk st.keys,mapr q2 pl] (fun w=>Y w) (h:=?_))
 all_goals repeat' (first|refine ax (hsub:=by exact aF) (hy:=by first|(apply nd (v:=.bool false);rfl;(repeat (first|exact ap|apply List.mem_cons_of_mem));rfl)) ?_|refine gdz ?_|refine ay ?_ (h':=?_)|exact az|refine gs1 fun _=>?_|(refine gq ?_ ?_<;>intro hx_ this)|fail)
 repeat' (first|refine gs ?_|refine gs1 fun _=>?_|(refine gp ?_ ?_<;>intro hx_ this)|fail)
 exact ab (ai rfl rfl) ⟨_,aj _,rfl,sa,sk,pl,ok,rfl⟩
structure SetI (l:List Xa) where
 k:Nat
 hk:k≤l.length
 hs:setI l l.length=setI l k
theorem l5 (b:Nat) (h:BldH) (sa sk:Xj) (st:Xz) (pl:List (ByteArray×Value)) (ok:BldOk sa sk st pl) (W:Ee) (c0:Xg) (hwc:W.won st.gen=some c0) (hcl:h.cl=c0) (hwn:h.wn=true) (Y:World→Prop)
  (hl:st.acts.length≤1000000) (hl2:st.keys.length≤1000000) (hg:st.gen≤1000000)
  (hclm:∀ p:Int,Pu Tryz.prog 134 #[.int .i64 p,c0.v] (fun w=>Y w∧Xf w) (.bool (W.clm p c0)))
  (hdg:Pu Tryz.prog 19 #[(ofClaimI c0).v] (fun w=>Y w∧Xf w) (.string (W.dgC c0)))
  (hwon:Pu Tryz.prog 133 #[.agg #[h.ks.v,h.ki.v],.string h.id,.int .i64 ((st.gen+1:Nat):Int)] (fun w=>Y w∧Xf w) (.tuple #[((W.won (st.gen+1)).getD Xg.zero).v,.bool (W.won (st.gen+1)).isSome])) :
  Ct Tryz.prog 75 #[.pointer (some ⟨b,0,none⟩)] (bldR b h sa sk st pl) (fun w=>Y w∧Xf w)
   (fun u R _=>(∀ s,regS W st=some s→BldAt b (h.look (W.won (st.gen+1))) s (.bool true) u R)∧(regS W st=none→BldAt b h st (.bool false) u R)):=by
 obtain ⟨ks,ki,id,fork,q1,q2,c,wn⟩:=h
 simp only at hcl hwn
 subst hcl
 subst hwn
 have ok':=ok
 obtain ⟨hn,hk,hp⟩:=ok
 refine cX (args:=[_]) _ Tryz.func75 rfl Tryz.ntmps75 rfl fun av bor w0=>?_
 have hreg:regS W st=bif decide (c.base=(st.acts.length:Int))&&seqB c.prev st.prev then (match setI st.acts st.acts.length with
  | none=>none
  | some i=>bif W.clm (st.acts.getD i Xa.zero).m c then some ⟨st.acts,st.keys++[⟨(st.acts.length:Nat),c.pub,c.home⟩],W.dgC c,st.gen+1⟩ else none) else none:=by rw [regS,hwc];rfl
 generalize hgo:regS W st=go at *
 unfold bldR actR keyR
 repeat' (first|refine gs ?_|refine gs1 fun _=>?_|(refine gp ?_ ?_<;>intro hx_ this)|fail)
 cases hb:decide (c.base=(st.acts.length:Int)) with
 | false =>
  rw [hb] at hreg
  have hb':(!decide (c.base=(sa.n:Int)))=true:=by rw [hn,hb];rfl
  (refine ao ⟨[0,1,2,3,4,5,6,7,8,9,10,11,12,13,14,15,16,17,18,19,20,21,22,23,24,25,26,27,28,29],[]⟩ [cel b 131 (bldC ⟨ks,ki,id,fork,q1,q2,c,true⟩ sa sk st.prev (st.gen:Nat)),orow 37 20 (.slice sa.p sa.n sa.c) sa.n (st.acts.map Xa.cells).flatten,orow 137 3 (.slice sk.p sk.n sk.c) sk.n (st.keys.map Xl.cells).flatten,mapr q2 pl] (fun w=>Y w∧Xf w) (h:=?_))
  all_goals repeat' (first|refine ax (hsub:=by exact aF) (hy:=by first|(apply nd (v:=.bool true);rfl;(repeat (first|exact ap|apply List.mem_cons_of_mem));rfl)|(apply dd true;rfl;rfl;exact hb')) ?_|refine gdz ?_|refine ay ?_ (h':=?_)|exact az|refine gs1 fun _=>?_|(refine gq ?_ ?_<;>intro hx_ this)|fail)
  all_goals
   repeat' (first|refine gs ?_|refine gs1 fun _=>?_|(refine gp ?_ ?_<;>intro hx_ this)|fail)
   exact ab (ai rfl rfl) ⟨bldR b ⟨ks,ki,id,fork,q1,q2,c,true⟩ sa sk st pl,aj _,⟨fun s hs=>(by rw [hreg] at hs;cases hs),fun _=>⟨rfl,sa,sk,pl,ok',rfl⟩⟩⟩
 | true =>
 rw [hb] at hreg
 have hb':(!decide (c.base=(sa.n:Int)))=false:=by rw [hn,hb];rfl
 have hbe:c.base=(st.acts.length:Int):=cI hb
 cases hpv:seqB c.prev st.prev with
 | false =>
  rw [hpv] at hreg
  have hpv':(!seqB c.prev st.prev)=true:=by rw [hpv];rfl
  (refine ao ⟨[0,1,2,3,4,5,6,7,8,9,10,11,12,13,14,15,16,17,18,19,20,21,22,23,24,25,26,27,28,29],[]⟩ [cel b 131 (bldC ⟨ks,ki,id,fork,q1,q2,c,true⟩ sa sk st.prev (st.gen:Nat)),orow 37 20 (.slice sa.p sa.n sa.c) sa.n (st.acts.map Xa.cells).flatten,orow 137 3 (.slice sk.p sk.n sk.c) sk.n (st.keys.map Xl.cells).flatten,mapr q2 pl] (fun w=>Y w∧Xf w) (h:=?_))
  all_goals repeat' (first|refine ax (hsub:=by exact aF) (hy:=by first|(apply nd (v:=.bool true);rfl;(repeat (first|exact ap|apply List.mem_cons_of_mem));rfl)|(apply dd false;rfl;rfl;exact hb')|(apply fx true;rfl;rfl;exact hpv')) ?_|refine gdz ?_|refine ay ?_ (h':=?_)|exact az|refine gs1 fun _=>?_|(refine gq ?_ ?_<;>intro hx_ this)|fail)
  all_goals
   repeat' (first|refine gs ?_|refine gs1 fun _=>?_|(refine gp ?_ ?_<;>intro hx_ this)|fail)
   exact ab (ai rfl rfl) ⟨bldR b ⟨ks,ki,id,fork,q1,q2,c,true⟩ sa sk st pl,aj _,⟨fun s hs=>(by rw [hreg] at hs;cases hs),fun _=>⟨rfl,sa,sk,pl,ok',rfl⟩⟩⟩
 | true =>
 rw [hpv] at hreg
 have hpv':(!seqB c.prev st.prev)=false:=by rw [hpv];rfl
 (refine ao ⟨[0,1,2,3,4,5,6,7,8,9,10,11,12,13,14,15,16,17,18,19,20,21,22,23,24,25,26,27,28,29],[]⟩ [cel b 131 (bldC ⟨ks,ki,id,fork,q1,q2,c,true⟩ sa sk st.prev (st.gen:Nat)),orow 37 20 (.slice sa.p sa.n sa.c) sa.n (st.acts.map Xa.cells).flatten,orow 137 3 (.slice sk.p sk.n sk.c) sk.n (st.keys.map Xl.cells).flatten,mapr q2 pl] (fun w=>Y w∧Xf w) (h:=?_))
 all_goals repeat' (first|refine ax (hsub:=by exact aF) (hy:=by first|(apply nd (v:=.bool true);rfl;(repeat (first|exact ap|apply List.mem_cons_of_mem));rfl)|(apply dd false;rfl;rfl;exact hb')|(apply fx false;rfl;rfl;exact hpv')) ?_|refine gdz ?_|refine ay ?_ (h':=?_)|exact az|refine gs1 fun _=>?_|(refine gq ?_ ?_<;>intro hx_ this)|fail)
 repeat' (first|refine gs ?_|refine gs1 fun _=>?_|(refine gp ?_ ?_<;>intro hx_ this)|fail)
 refine am (ι:=SetI st.acts) (fun i=>⟨[(0,.pointer (some ⟨b,0,none⟩)),(3,.pointer (some ⟨b,2,none⟩)),(4,.int .i64 ((i.k:Nat)-1))],[cel b 131 (bldC ⟨ks,ki,id,fork,q1,q2,c,true⟩ sa sk st.prev (st.gen:Nat)),orow 37 20 (.slice sa.p sa.n sa.c) sa.n (st.acts.map Xa.cells).flatten,orow 137 3 (.slice sk.p sk.n sk.c) sk.n (st.keys.map Xl.cells).flatten,mapr q2 pl],fun w=>Y w∧Xf w⟩) (fun i=>i.k) ⟨sa.n,by omega,by rw [hn]⟩ (ae al (aj _) fun _ h=>h) fun i=>?_
 obtain ⟨k,hk',hs⟩:=i
 simp only
 cases k with
 | zero =>
  have hset:setI st.acts st.acts.length=none:=hs
  rw [hset] at hreg
  simp only [Bool.and_true,Bool.true_and,cond_true] at hreg
  repeat' (first|refine ny ?_|refine gs ?_|refine gs1 fun _=>?_|(refine gp ?_ ?_<;>intro hx_ this)|fail)
  (refine ao ⟨[0,1,2,3,4,5,6,7,8,9,10,11,12,13,14],[(15,⟨[16,17],[]⟩)]⟩ [cel b 131 (bldC ⟨ks,ki,id,fork,q1,q2,c,true⟩ sa sk st.prev (st.gen:Nat)),orow 37 20 (.slice sa.p sa.n sa.c) sa.n (st.acts.map Xa.cells).flatten,orow 137 3 (.slice sk.p sk.n sk.c) sk.n (st.keys.map Xl.cells).flatten,mapr q2 pl] (fun w=>Y w∧Xf w) (h:=?_))
  all_goals repeat' (first|refine ax (hsub:=by exact aF) (hy:=by first|(apply bj true;rfl;rfl;exact decide_eq_true aa)) ?_|refine gdz ?_|refine ay ?_ (h':=?_)|exact az|refine gs1 fun _=>?_|(refine gq ?_ ?_<;>intro hx_ this)|fail)
  all_goals
   repeat' (first|refine gs ?_|refine gs1 fun _=>?_|(refine gp ?_ ?_<;>intro hx_ this)|fail)
   exact ab (ai rfl rfl) ⟨bldR b ⟨ks,ki,id,fork,q1,q2,c,true⟩ sa sk st pl,aj _,⟨fun s hs=>(by rw [hreg] at hs;cases hs),fun _=>⟨rfl,sa,sk,pl,ok',rfl⟩⟩⟩
 | succ k =>
  obtain ⟨a,ha⟩:∃ a,st.acts[k]?=some a:=⟨_,List.getElem?_eq_getElem aa⟩
  have haD:st.acts.getD k Xa.zero=a:=by rw [List.getD_eq_getElem?_getD,ha];rfl
  refine bH (r:=orow 37 20 (.slice sa.p sa.n sa.c) sa.n (st.acts.map Xa.cells).flatten) aL (p:=sa.p.isSome=true) (fun w h=>bu h aa) fun hap=>?_
  have hm1:(sa.n:Nat)=(st.acts.map Xa.cells).length:=by rw [List.length_map];exact hn
  have hi1:(st.acts.map Xa.cells)[k]?=some a.cells:=by simp [ha]
  have hrow:orow 37 20 (.slice sa.p sa.n sa.c) sa.n (st.acts.map Xa.cells).flatten∈[cel b 131 (bldC ⟨ks,ki,id,fork,q1,q2,c,true⟩ sa sk st.prev (st.gen:Nat)),orow 37 20 (.slice sa.p sa.n sa.c) sa.n (st.acts.map Xa.cells).flatten,orow 137 3 (.slice sk.p sk.n sk.c) sk.n (st.keys.map Xl.cells).flatten,mapr q2 pl]:=.tail _ (.head _)
  by_cases hk19:a.kind=19
  · have hset:setI st.acts st.acts.length=some k:=by rw [hs,setI,haD,decide_eq_true hk19];rfl
    rw [hset] at hreg
    simp only [Bool.and_true,Bool.true_and,cond_true,haD] at hreg
    have hcl:=hclm a.m
    repeat' (first|refine ak (fX true rfl rfl (decide_eq_true aa)) rfl rfl rfl ?_|refine dP (hab:=hk19) ?_|refine gs ?_|refine gs1 fun _=>?_|(refine aE (q:=k*20) ?_)|(refine dA ?_)|(refine ak (fA (i:=k) (j:=3) (cs:=a.cells) (u:=.int .i64 a.kind) rfl hrow hm1 (fu _) hi1 rfl) rfl rfl rfl ?_)|(refine gp ?_ ?_<;>intro hx_ this)|fail)
    cases hcm:W.clm a.m c with
    | false =>
     rw [hcm] at hcl hreg
     (refine ao ⟨[0,1,2,3,4,5,6,7,8,9,10,11,12,13,14],[(15,⟨[16,17],[]⟩)]⟩ [cel b 131 (bldC ⟨ks,ki,id,fork,q1,q2,c,true⟩ sa sk st.prev (st.gen:Nat)),orow 37 20 (.slice sa.p sa.n sa.c) sa.n (st.acts.map Xa.cells).flatten,orow 137 3 (.slice sk.p sk.n sk.c) sk.n (st.keys.map Xl.cells).flatten,mapr q2 pl] (fun w=>Y w∧Xf w) (h:=?_))
     all_goals repeat' (first|refine ax (hsub:=by exact aF) (hy:=by first|(apply bj false;rfl;rfl;exact decide_eq_false aa)) ?_|(refine ag (hc:=hcl) ?_)|refine gdz ?_|refine ax (hsub:=by exact aF) (hy:=by first|(apply aG (q:=k*20);rfl;rfl;omega;omega;assumption;omega)|(apply cN;rfl;assumption;rfl)|(apply fA (i:=k) (j:=17) (cs:=a.cells) (u:=.int .i64 a.m);rfl;exact hrow;exact hm1;exact fu _;exact hi1;rfl)|(apply da (vs:=c.cells);rfl;exact .head _;rfl;rfl)) ?_|refine ay ?_ (h':=?_)|exact az|refine gs1 fun _=>?_|(refine gq ?_ ?_<;>intro hx_ this)|fail)
     all_goals
      repeat' (first|refine gs ?_|refine gs1 fun _=>?_|(refine gp ?_ ?_<;>intro hx_ this)|fail)
      exact ab (ai rfl rfl) ⟨bldR b ⟨ks,ki,id,fork,q1,q2,c,true⟩ sa sk st pl,aj _,⟨fun s hs=>(by rw [hreg] at hs;cases hs),fun _=>⟨rfl,sa,sk,pl,ok',rfl⟩⟩⟩
    | true =>
     rw [hcm] at hcl hreg
     simp only [cond_true] at hreg
     (refine ao ⟨[0,1,2,3,4,5,6,7,8,9,10,11,12,13,14],[(15,⟨[16,17],[]⟩)]⟩ [cel b 131 (bldC ⟨ks,ki,id,fork,q1,q2,c,true⟩ sa sk st.prev (st.gen:Nat)),orow 37 20 (.slice sa.p sa.n sa.c) sa.n (st.acts.map Xa.cells).flatten,orow 137 3 (.slice sk.p sk.n sk.c) sk.n (st.keys.map Xl.cells).flatten,mapr q2 pl] (fun w=>Y w∧Xf w) (h:=?_))
     all_goals repeat' (first|refine ax (hsub:=by exact aF) (hy:=by first|(apply bj false;rfl;rfl;exact decide_eq_false aa)) ?_|(refine ag (hc:=hcl) ?_)|refine gdz ?_|refine ax (hsub:=by exact aF) (hy:=by first|(apply aG (q:=k*20);rfl;rfl;omega;omega;assumption;omega)|(apply cN;rfl;assumption;rfl)|(apply fA (i:=k) (j:=17) (cs:=a.cells) (u:=.int .i64 a.m);rfl;exact hrow;exact hm1;exact fu _;exact hi1;rfl)|(apply da (vs:=c.cells);rfl;exact .head _;rfl;rfl)) ?_|refine ay ?_ (h':=?_)|exact az|refine gs1 fun _=>?_|(refine gq ?_ ?_<;>intro hx_ this)|fail)
     all_goals
      repeat' (first|refine gs ?_|refine gs1 fun _=>?_|(refine gp ?_ ?_<;>intro hx_ this)|fail)
      refine gW (ι:=Option Addr×Nat) (fun i=>⟨[(0,.pointer (some ⟨b,0,none⟩)),(3,.pointer (some ⟨b,2,none⟩))],[cel b 131 (bldC ⟨ks,ki,id,fork,q1,q2,c,true⟩ sa ⟨i.1,sk.n+1,i.2⟩ st.prev (st.gen:Nat)),orow 37 20 (.slice sa.p sa.n sa.c) sa.n (st.acts.map Xa.cells).flatten,orow 137 3 (.slice i.1 (sk.n+1) i.2) (sk.n+1) ((st.keys.map Xl.cells).flatten++(⟨((sa.n:Nat):Int),c.pub,c.home⟩:Xl).cells),mapr q2 pl],fun w=>Y w∧Xf w⟩) ?_ fun i=>?_
      · (refine ao ⟨[0,1,2,3,5,6,7,10,11,12,13,15,16,17,18],[(4,⟨[],[(8,⟨[9],[(14,⟨[],[(19,⟨[20],[(21,⟨[],[(22,⟨[23,24],[(25,⟨[],[]⟩)]⟩)]⟩)]⟩)]⟩),(19,⟨[],[(14,⟨[20],[(21,⟨[],[(22,⟨[23,24],[(25,⟨[],[]⟩)]⟩)]⟩)]⟩)]⟩)]⟩),(14,⟨[],[(8,⟨[9],[(19,⟨[20],[(21,⟨[],[(22,⟨[23,24],[(25,⟨[],[]⟩)]⟩)]⟩)]⟩)]⟩),(19,⟨[],[(8,⟨[9,20],[(21,⟨[],[(22,⟨[23,24],[(25,⟨[],[]⟩)]⟩)]⟩)]⟩)]⟩)]⟩),(19,⟨[],[(8,⟨[9],[(14,⟨[20],[(21,⟨[],[(22,⟨[23,24],[(25,⟨[],[]⟩)]⟩)]⟩)]⟩)]⟩),(14,⟨[],[(8,⟨[9,20],[(21,⟨[],[(22,⟨[23,24],[(25,⟨[],[]⟩)]⟩)]⟩)]⟩)]⟩)]⟩)]⟩),(8,⟨[9],[(4,⟨[],[(14,⟨[],[(19,⟨[20],[(21,⟨[],[(22,⟨[23,24],[(25,⟨[],[]⟩)]⟩)]⟩)]⟩)]⟩),(19,⟨[],[(14,⟨[20],[(21,⟨[],[(22,⟨[23,24],[(25,⟨[],[]⟩)]⟩)]⟩)]⟩)]⟩)]⟩),(14,⟨[],[(4,⟨[],[(19,⟨[20],[(21,⟨[],[(22,⟨[23,24],[(25,⟨[],[]⟩)]⟩)]⟩)]⟩)]⟩),(19,⟨[20],[(4,⟨[],[(21,⟨[],[(22,⟨[23,24],[(25,⟨[],[]⟩)]⟩)]⟩)]⟩),(21,⟨[],[(4,⟨[],[(22,⟨[23,24],[(25,⟨[],[]⟩)]⟩)]⟩)]⟩)]⟩)]⟩),(19,⟨[],[(4,⟨[],[(14,⟨[20],[(21,⟨[],[(22,⟨[23,24],[(25,⟨[],[]⟩)]⟩)]⟩)]⟩)]⟩),(14,⟨[20],[(4,⟨[],[(21,⟨[],[(22,⟨[23,24],[(25,⟨[],[]⟩)]⟩)]⟩)]⟩),(21,⟨[],[(4,⟨[],[(22,⟨[23,24],[(25,⟨[],[]⟩)]⟩)]⟩)]⟩)]⟩)]⟩)]⟩),(14,⟨[],[(4,⟨[],[(8,⟨[9],[(19,⟨[20],[(21,⟨[],[(22,⟨[23,24],[(25,⟨[],[]⟩)]⟩)]⟩)]⟩)]⟩),(19,⟨[],[(8,⟨[9,20],[(21,⟨[],[(22,⟨[23,24],[(25,⟨[],[]⟩)]⟩)]⟩)]⟩)]⟩)]⟩),(8,⟨[9],[(4,⟨[],[(19,⟨[20],[(21,⟨[],[(22,⟨[23,24],[(25,⟨[],[]⟩)]⟩)]⟩)]⟩)]⟩),(19,⟨[20],[(4,⟨[],[(21,⟨[],[(22,⟨[23,24],[(25,⟨[],[]⟩)]⟩)]⟩)]⟩),(21,⟨[],[(4,⟨[],[(22,⟨[23,24],[(25,⟨[],[]⟩)]⟩)]⟩)]⟩)]⟩)]⟩),(19,⟨[],[(4,⟨[],[(8,⟨[9,20],[(21,⟨[],[(22,⟨[23,24],[(25,⟨[],[]⟩)]⟩)]⟩)]⟩)]⟩),(8,⟨[9,20],[(4,⟨[],[(21,⟨[],[(22,⟨[23,24],[(25,⟨[],[]⟩)]⟩)]⟩)]⟩),(21,⟨[],[(4,⟨[],[(22,⟨[23,24],[(25,⟨[],[]⟩)]⟩)]⟩)]⟩)]⟩)]⟩)]⟩),(19,⟨[],[(4,⟨[],[(8,⟨[9],[(14,⟨[20],[(21,⟨[],[(22,⟨[23,24],[(25,⟨[],[]⟩)]⟩)]⟩)]⟩)]⟩),(14,⟨[],[(8,⟨[9,20],[(21,⟨[],[(22,⟨[23,24],[(25,⟨[],[]⟩)]⟩)]⟩)]⟩)]⟩)]⟩),(8,⟨[9],[(4,⟨[],[(14,⟨[20],[(21,⟨[],[(22,⟨[23,24],[(25,⟨[],[]⟩)]⟩)]⟩)]⟩)]⟩),(14,⟨[20],[(4,⟨[],[(21,⟨[],[(22,⟨[23,24],[(25,⟨[],[]⟩)]⟩)]⟩)]⟩),(21,⟨[],[(4,⟨[],[(22,⟨[23,24],[(25,⟨[],[]⟩)]⟩)]⟩)]⟩)]⟩)]⟩),(14,⟨[],[(4,⟨[],[(8,⟨[9,20],[(21,⟨[],[(22,⟨[23,24],[(25,⟨[],[]⟩)]⟩)]⟩)]⟩)]⟩),(8,⟨[9,20],[(4,⟨[],[(21,⟨[],[(22,⟨[23,24],[(25,⟨[],[]⟩)]⟩)]⟩)]⟩),(21,⟨[],[(4,⟨[],[(22,⟨[23,24],[(25,⟨[],[]⟩)]⟩)]⟩)]⟩)]⟩)]⟩)]⟩)]⟩ [] (fun _=>True) (h:=?_))
        all_goals repeat' (first|refine gd ?_|refine ax (hy:=by first|(apply dp (cs:=(⟨((sa.n:Nat):Int),c.pub,c.home⟩:Xl).cells);rfl;rfl)) ?_|refine ay ?_ (h':=?_)|exact az|refine bL (size:=3) (vs:=[(⟨((sa.n:Nat):Int),c.pub,c.home⟩:Xl).v]) (css:=(⟨((sa.n:Nat):Int),c.pub,c.home⟩:Xl).cells) (hsz:=by rfl) (hcs:=by rfl) fun _=>?_|(refine fU ?_;refine aC (size:=3) (news:=(⟨((sa.n:Nat):Int),c.pub,c.home⟩:Xl).cells) (q:=1) rfl rfl rfl rfl (fun _=>At.there _ (At.there _ (At.there _ (At.here _)))) (fun w G=>aU G ap rfl rfl 1) aa (by simp only [maxLen];omega) rfl ?_ rfl ?_;(first|with_reducible rfl|with_reducible assumption|with_reducible exact Bool.not_false|with_reducible exact Bool.not_true);intro A3 c3)|refine gs1 fun _=>?_|(refine gq ?_ ?_<;>intro hx_ this)|fail)
        all_goals exact ⟨(_,_),ae al (List.Sublist.cons _ (aj _)) fun w h=>h⟩
      obtain ⟨A3,c3⟩:=i
      simp only
      have hlk:=sD b ⟨ks,ki,id,fork,q1,q2,c,true⟩ sa ⟨A3,sk.n+1,c3⟩ ⟨st.acts,st.keys++[(⟨((sa.n:Nat):Int),c.pub,c.home⟩:Xl)],W.dgC c,st.gen+1⟩ (W.won (st.gen+1)) (fun w=>Y w∧Xf w) hwon
      repeat' (first|(refine ag (hc:=fI c) ?_)|(refine ag (hc:=hdg) ?_)|refine gs ?_|refine gs1 fun _=>?_|(refine aB (vs:=c.cells) (hv:=rfl) ?_)|(refine gp ?_ ?_<;>intro hx_ this)|fail)
      refine aZ (pre:=[bldCel b ⟨ks,ki,id,fork,q1,q2,c,true⟩ sa ⟨A3,sk.n+1,c3⟩ (⟨st.acts,st.keys++[(⟨((sa.n:Nat):Int),c.pub,c.home⟩:Xl)],W.dgC c,st.gen+1⟩:Xz)]) (fr:=[orow 37 20 (.slice sa.p sa.n sa.c) sa.n (st.acts.map Xa.cells).flatten,orow 137 3 (.slice A3 (sk.n+1) c3) (sk.n+1) ((st.keys.map Xl.cells).flatten++(⟨((sa.n:Nat):Int),c.pub,c.home⟩:Xl).cells),mapr q2 pl]) (first:=#[]) (caps:=#[]) (hc:=hlk) (hX:=fun _ h=>h) (h:=?_)
      rintro v R X' ⟨rfl,rfl⟩
      repeat' (first|refine gs ?_|refine gs1 fun _=>?_|(refine gp ?_ ?_<;>intro hx_ this)|fail)
      have hfk:((st.keys++[(⟨((sa.n:Nat):Int),c.pub,c.home⟩:Xl)]).map Xl.cells).flatten=(st.keys.map Xl.cells).flatten++(⟨((sa.n:Nat):Int),c.pub,c.home⟩:Xl).cells:=by simp
      rw [←hn] at hreg
      refine ab (ai rfl rfl) ⟨bldR b ((⟨ks,ki,id,fork,q1,q2,c,true⟩:BldH).look (W.won (st.gen+1))) sa ⟨A3,sk.n+1,c3⟩ (⟨st.acts,st.keys++[(⟨((sa.n:Nat):Int),c.pub,c.home⟩:Xl)],W.dgC c,st.gen+1⟩:Xz) pl,?_,⟨fun s hs=>?_,fun hs=>?_⟩⟩
      · unfold bldR actR keyR
        rw [hfk]
        exact aj _
      · rw [hreg,Option.some.injEq] at hs
        subst hs
        exact ⟨rfl,sa,⟨A3,sk.n+1,c3⟩,pl,⟨hn,by rw [List.length_append,←hk];rfl,hp⟩,rfl⟩
      · rw [hreg] at hs
        cases hs
  · have hne:(!decide (a.kind=(19:Int)))=true:=by rw [decide_eq_false hk19];rfl
    repeat' (first|refine ak (fX true rfl rfl (decide_eq_true aa)) rfl rfl rfl ?_|refine aO ?_ (dd true rfl rfl hne)|refine gs ?_|refine gs1 fun _=>?_|(refine aE (q:=k*20) ?_)|(refine dA ?_)|(refine ak (fA (i:=k) (j:=3) (cs:=a.cells) (u:=.int .i64 a.kind) rfl hrow hm1 (fu _) hi1 rfl) rfl rfl rfl ?_)|(refine gp ?_ ?_<;>intro hx_ this)|fail)
    exact ⟨(⟨k,by omega,by rw [hs,setI,haD,decide_eq_false hk19];rfl⟩:SetI st.acts),Nat.lt_succ_self k,ae ⟨rfl,rfl,(by show some (Value.int IntKind.i64 (((k+1:Nat):Int)-1-1))=some (Value.int IntKind.i64 ((k:Int)-1));rw [show ((k+1:Nat):Int)-1-1=(k:Int)-1 from by omega]),trivial⟩ (aj _) fun _ h=>h⟩
end Go.Proofs.YtggionfjlgfihaaGreatDoor
