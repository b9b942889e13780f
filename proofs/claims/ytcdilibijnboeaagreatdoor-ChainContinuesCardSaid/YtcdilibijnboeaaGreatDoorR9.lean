/- Joined by program out of: Ze Bc Ua Ub Uc Ud Pd Pf Pb Pg Nq Nt Ph Rx Ci Ks Rl Ro Me We Fs Rp Rb Hp Nu Ue Uf Ug. -/
import Derived.Test.YtcdilibijnboeaaGreatDoorR8
set_option linter.unusedVariables false
set_option linter.unusedSimpArgs false
namespace Go.Proofs.YtcdilibijnboeaaGreatDoor
open Go Go.Proofs Sy
def rightK2 (i:ItemD):Bool:=bif decide (i.kind=0) then rightB i.act else bif decide (i.kind=1) then claimR i.claim else bif decide (i.kind=2) then ballotR i.ballot else bif decide (i.kind=3) then decR i.dec else false
def restI (i:ItemD):ItemD:=bif decide (i.kind=0) then ⟨0,ActD.zero,i.claim,i.ballot,i.dec⟩ else bif decide (i.kind=1) then ⟨0,i.act,ClaimD.zero,i.ballot,i.dec⟩ else bif decide (i.kind=2) then ⟨0,i.act,i.claim,BallotD.zero,i.dec⟩ else bif decide (i.kind=3) then ⟨0,i.act,i.claim,i.ballot,DecD.zero⟩ else ⟨0,i.act,i.claim,i.ballot,i.dec⟩
def rightIt (i:ItemD):Bool:=rightK2 i&&sameIZ (restI i)
set_option maxRecDepth 20000 in
set_option maxHeartbeats 16000000 in
theorem dQ (i:ItemD):Pu Tryz.prog 44 #[i.v] (fun w=>i.at_ w) (.bool (rightIt i)):=by
 refine ay (args:=[_]) _ Tryz.func44 rfl Tryz.ntmps44 rfl fun av bor w0=>?_
 by_cases h0:i.kind=0
 · have hri:=d5 i.act
   have hsa:=ff ⟨0,ActD.zero,i.claim,i.ballot,i.dec⟩
   have e:rightIt i=(rightB i.act&&sameIZ ⟨0,ActD.zero,i.claim,i.ballot,i.dec⟩):=by simp [rightIt,rightK2,restI,h0]
   rw [e]
   generalize rightB i.act=rb at *
   generalize sameIZ ⟨0,ActD.zero,i.claim,i.ballot,i.dec⟩=sb at *
   repeat' (first|refine bn (hab:=by omega) ?_|apply ab|apply Qu|apply Qv|refine aj ?_|refine ad ?_|refine az ?_|refine aA ?_|refine aD ?_|refine aB ?_|refine aC ?_|refine aL ?_|refine aI fun _=>?_|refine aK fun _=>?_|refine bc ?_|refine aH ?_|refine Qy ?_|apply Qw|apply ar|(refine bm (cs:=ActD.zero.cells) (hf:=by rfl) ?_)|(refine ao (hc:=hri) (hX:=fun w h=>h.1) ?_)|(refine ao (hc:=hsa) (hX:=fun _ _=>trivial) ?_)|(refine db (⟨0,ActD.zero,i.claim,i.ballot,i.dec⟩:ItemD).cells (h:=?_))|(refine aX (vs:=i.act.cells) (hv:=rfl) ?_)|(refine bm (cs:=ItemD.zero.cells) (hf:=by rfl) ?_)|((fail_if_success (refine aZ ?_));refine aP (ht:=?_) (hf:=?_);all_goals (intro hx_;skip))|fail)
   all_goals first
    | exact ak (ap rfl rfl) rfl
    | (refine ak (ap rfl rfl) ?_;simp_all;done)
 by_cases h1:i.kind=1
 · have hri:=mN i.claim
   have hsa:=ff ⟨0,i.act,ClaimD.zero,i.ballot,i.dec⟩
   have e:rightIt i=(claimR i.claim&&sameIZ ⟨0,i.act,ClaimD.zero,i.ballot,i.dec⟩):=by simp [rightIt,rightK2,restI,h0,h1]
   rw [e]
   generalize claimR i.claim=rb at *
   generalize sameIZ ⟨0,i.act,ClaimD.zero,i.ballot,i.dec⟩=sb at *
   repeat' (first|refine bn (hab:=by omega) ?_|refine bt (hab:=by omega) ?_|apply ab|apply Qu|apply Qv|refine aj ?_|refine ad ?_|refine az ?_|refine aA ?_|refine aD ?_|refine aB ?_|refine aC ?_|refine aL ?_|refine aI fun _=>?_|refine aK fun _=>?_|refine bc ?_|refine aH ?_|refine Qy ?_|refine Qz ?_|apply Qw|apply ar|(refine bm (cs:=ClaimD.zero.cells) (hf:=by rfl) ?_)|(refine ao (hc:=hri) (hX:=fun _ _=>trivial) ?_)|(refine ao (hc:=hsa) (hX:=fun _ _=>trivial) ?_)|(refine db (⟨0,i.act,ClaimD.zero,i.ballot,i.dec⟩:ItemD).cells (h:=?_))|(refine aX (vs:=i.claim.cells) (hv:=rfl) ?_)|(refine bm (cs:=ItemD.zero.cells) (hf:=by rfl) ?_)|((fail_if_success (refine aZ ?_));refine aP (ht:=?_) (hf:=?_);all_goals (intro hx_;skip))|fail)
   all_goals first
    | exact ak (ap rfl rfl) rfl
    | (refine ak (ap rfl rfl) ?_;simp_all;done)
 by_cases h2:i.kind=2
 · have hri:=lQ i.ballot
   have hsa:=ff ⟨0,i.act,i.claim,BallotD.zero,i.dec⟩
   have e:rightIt i=(ballotR i.ballot&&sameIZ ⟨0,i.act,i.claim,BallotD.zero,i.dec⟩):=by simp [rightIt,rightK2,restI,h0,h1,h2]
   rw [e]
   generalize ballotR i.ballot=rb at *
   generalize sameIZ ⟨0,i.act,i.claim,BallotD.zero,i.dec⟩=sb at *
   repeat' (first|refine bn (hab:=by omega) ?_|refine bt (hab:=by omega) ?_|apply ab|apply Qu|apply Qv|refine aj ?_|refine ad ?_|refine az ?_|refine aA ?_|refine aD ?_|refine aB ?_|refine aC ?_|refine aL ?_|refine aI fun _=>?_|refine aK fun _=>?_|refine bc ?_|refine aH ?_|refine Qy ?_|refine Qz ?_|apply Qw|apply ar|(refine bm (cs:=BallotD.zero.cells) (hf:=by rfl) ?_)|(refine ao (hc:=hri) (hX:=fun _ _=>trivial) ?_)|(refine ao (hc:=hsa) (hX:=fun _ _=>trivial) ?_)|(refine db (⟨0,i.act,i.claim,BallotD.zero,i.dec⟩:ItemD).cells (h:=?_))|(refine aX (vs:=i.ballot.cells) (hv:=rfl) ?_)|(refine bm (cs:=ItemD.zero.cells) (hf:=by rfl) ?_)|((fail_if_success (refine aZ ?_));refine aP (ht:=?_) (hf:=?_);all_goals (intro hx_;skip))|fail)
   all_goals first
    | exact ak (ap rfl rfl) rfl
    | (refine ak (ap rfl rfl) ?_;simp_all;done)
 by_cases h3:i.kind=3
 · have hri:=jz i.dec
   have hsa:=ff ⟨0,i.act,i.claim,i.ballot,DecD.zero⟩
   have e:rightIt i=(decR i.dec&&sameIZ ⟨0,i.act,i.claim,i.ballot,DecD.zero⟩):=by simp [rightIt,rightK2,restI,h0,h1,h2,h3]
   rw [e]
   generalize decR i.dec=rb at *
   generalize sameIZ ⟨0,i.act,i.claim,i.ballot,DecD.zero⟩=sb at *
   repeat' (first|refine bn (hab:=by omega) ?_|refine bt (hab:=by omega) ?_|apply ab|apply Qu|apply Qv|refine aj ?_|refine ad ?_|refine az ?_|refine aA ?_|refine aD ?_|refine aB ?_|refine aC ?_|refine aL ?_|refine aI fun _=>?_|refine aK fun _=>?_|refine bc ?_|refine aH ?_|refine Qy ?_|refine Qz ?_|apply Qw|apply ar|(refine bm (cs:=DecD.zero.cells) (hf:=by rfl) ?_)|(refine ao (hc:=hri) (hX:=fun w h=>h.2) ?_)|(refine ao (hc:=hsa) (hX:=fun _ _=>trivial) ?_)|(refine db (⟨0,i.act,i.claim,i.ballot,DecD.zero⟩:ItemD).cells (h:=?_))|(refine aX (vs:=i.dec.cells) (hv:=rfl) ?_)|(refine bm (cs:=ItemD.zero.cells) (hf:=by rfl) ?_)|((fail_if_success (refine aZ ?_));refine aP (ht:=?_) (hf:=?_);all_goals (intro hx_;skip))|fail)
   all_goals first
    | exact ak (ap rfl rfl) rfl
    | (refine ak (ap rfl rfl) ?_;simp_all;done)
 have e:rightIt i=false:=by simp [rightIt,rightK2,h0,h1,h2,h3]
 rw [e]
 repeat' (first|refine bt (hab:=by omega) ?_|apply ab|apply Qu|apply Qv|refine aj ?_|refine ad ?_|refine az ?_|refine aA ?_|refine aD ?_|refine aC ?_|refine aL ?_|refine aI fun _=>?_|refine aK fun _=>?_|refine bc ?_|refine aH ?_|refine Qz ?_|apply Qx|apply Qw|apply ar|fail)
 all_goals exact ak (ap rfl rfl) rfl
def formCells (nm:ByteArray) (f:Nat) (e s:Int):List Value:=[.string nm,.func (.func f) #[] #[],.int .i64 e,.int .i64 s]
theorem gy {N:Nat} {av bor:List Nat} {w0:World} {st:St} {ty:TypeId} {x:Operand} {nm:ByteArray} {f:Nat} {e s:Int} (hx:ev st.env x=some (.agg (formCells nm f e s).toArray)):Sy.Yields Tryz.prog N av bor w0 st (.field 125 x 2) ty (.agg #[.int .i64 e,.int .i64 s]):=Sy.Yields.mk fun A w ok d pos af g=>by
 have hp:(part 44 (formCells nm f e s).toArray 2).run Tryz.prog w=.ok (.agg #[.int .i64 e,.int .i64 s]) w:=by rw [gH];rfl
 simp only [formCells] at hx hp
 simp [execOp,ok.eval hx,Instr.field,run_underlying Tryz.underlying125,asAgg,hp]
def nameC:ByteArray:=⟨#[99,108,97,105,109]⟩
theorem mj (it:ItemD) (h:it.kind=1):Pu Tryz.prog 71 #[it.v] (fun _=>True) (.agg (formCells nameC 110 it.claim.e it.claim.s).toArray):=by
 refine ay (args:=[_]) _ Tryz.func71 rfl Tryz.ntmps71 rfl fun av bor w0=>?_
 repeat' (first|refine bn (hab:=by omega) ?_|apply ab|apply Qu|apply Qv|refine ad ?_|refine az ?_|refine aA ?_|refine aI fun _=>?_|refine aK fun _=>?_|refine aH ?_|refine Qy ?_|apply Qw|apply ar|(refine aX (vs:=[.int .i64 it.claim.e,.int .i64 it.claim.s]) (hv:=rfl) ?_)|(refine bm (cs:=formCells nameC 110 it.claim.e it.claim.s) (hf:=by rfl) ?_)|fail)
 all_goals exact ak (cJ rfl rfl bL (by rfl)) rfl
def msgC (x:ClaimD):ByteArray:=textsV [nameC]++coreCl x
set_option maxHeartbeats 8000000 in
theorem Bu (it:ItemD) (h:it.kind=1) (hl:it.claim.Lt) (hz:(msgC it.claim).size≤1099511627776):Pu Tryz.prog 122 #[it.v] (fun _=>True) (.string (msgC it.claim)):=by
 refine ay (args:=[_]) _ Tryz.func122 rfl Tryz.ntmps122 rfl fun av bor w0=>?_
 have hfo:=mj it h
 rw [msgC] at hz ⊢
 rw [Zl] at hz
 have hS:(⟨#[]⟩:ByteArray)++textsV [nameC]=textsV [nameC]:=ByteArray.empty_append
 have hts:(⟨#[]⟩:ByteArray).size+(textsV [nameC]).size≤1099511627776:=by
  rw [←Zl,hS]
  omega
 repeat' (first|apply ab|apply Qu|apply Qv|refine ad ?_|refine az ?_|refine aA ?_|refine aD ?_|refine aI fun _=>?_|refine aK fun _=>?_|refine bX fun _=>?_|refine aH ?_|(refine ao (hc:=hfo) (hX:=fun _ _=>trivial) ?_)|fail)
 rename_i bi bf bb bs
 refine cu ?_
 refine fO 5 1 ?_
 refine dk (l:=bld bb none 0 ⟨#[]⟩++[cel bf 125 (formCells nameC 110 it.claim.e it.claim.s),cel bi 57 it.cells]) (List.Perm.swap _ _ _) ?_
 refine cC (pre:=bld bb none 0 ⟨#[]⟩) (fr:=[cel bf 125 (formCells nameC 110 it.claim.e it.claim.s),cel bi 57 it.cells]) (hc:=eT bb none 0 ⟨#[]⟩ ⟨some ⟨bs,0,none⟩,1,1⟩ [nameC] hts) (hX:=fun w h=>bO (xs:=[[encB nameC]]) h.2 rfl (by decide) (by simp)) (h:=?_)
 rintro v R X' ⟨A1,c1,rfl,rfl⟩
 refine cT (X':=(fun _=>True)) (fun w h=>trivial) ?_
 rw [hS]
 generalize textsV [nameC]=p0 at *
 unfold bld
 repeat' (first|apply ab|apply Qu|apply Qv|refine az ?_|refine aA ?_|refine aD ?_|fail)
 refine cC (pre:=bld bb A1 c1 p0) (fr:=[cel bf 125 (formCells nameC 110 it.claim.e it.claim.s),cel bi 57 it.cells]) (hc:=nP bb A1 c1 p0 it hl hz) (hX:=fun _ _=>trivial) (h:=?_)
 rintro v R X' ⟨A2,c2,rfl,rfl⟩
 unfold bld
 repeat' (first|apply ab|apply Qu|apply Qv|refine az ?_|refine aA ?_|fail)
 refine eI (hm:=ZS _ aJ) ?_
 repeat' (first|apply ab|refine ad ?_|apply ar|fail)
 all_goals
  apply ak;apply ap;rfl;rfl
  simp only [cP]
def sgnC (p:Int) (x:ClaimD):Bool:=verN p (msgC x) x.e x.s
theorem ox (p:Int) (it:ItemD) (h:it.kind=1) (hl:it.claim.Lt) (hz:(msgC it.claim).size≤1000000000000):Pu Tryz.prog 78 #[.int .i64 p,it.v] (fun w=>it.at_ w∧Glob w) (.bool (sgnC p it.claim)):=by
 refine ay (args:=[_,_]) _ Tryz.func78 rfl Tryz.ntmps78 rfl fun av bor w0=>?_
 have hms:=Bu it h hl ae
 have hfo:=mj it h
 have hve:=gU p (msgC it.claim) it.claim.e it.claim.s hz
 rw [sgnC]
 generalize verN p (msgC it.claim) it.claim.e it.claim.s=V at *
 repeat' (first|apply ab|apply Qu|apply Qv|refine ad ?_|refine aK fun _=>?_|fail)
 rename_i b3
 (refine aU [cel b3 57 it.cells] (fun w=>it.at_ w∧Glob w) al ?_)
 all_goals refine aa 0 ?_<;>refine aa 1 ?_<;>refine aa 3 ?_<;>(refine ag 2 ?_;(refine ao (hc:=hms) (hX:=fun w h=>trivial) ?_);apply ab;refine ai ?_)<;>(refine ag 4 ?_;(refine ao (hc:=hfo) (hX:=fun _ _=>trivial) ?_);apply ab;refine ai ?_)<;>(refine aa 5 (hy:=by (apply gy;rfl)) ?_)<;>(refine ag 6 ?_;(refine ao (hc:=hve) (hX:=fun w h=>h.2) ?_);apply ab;refine ai ?_)<;>refine aa 7 ?_<;>(refine aw ?_)
 all_goals
  repeat' (first|apply ar|fail)
  exact ak (ap rfl rfl) rfl
def nameB:ByteArray:=⟨#[98,97,108,108,111,116]⟩
theorem ml (it:ItemD) (h:it.kind=2):Pu Tryz.prog 71 #[it.v] (fun _=>True) (.agg (formCells nameB 111 it.ballot.e it.ballot.s).toArray):=by
 refine ay (args:=[_]) _ Tryz.func71 rfl Tryz.ntmps71 rfl fun av bor w0=>?_
 repeat' (first|refine bn (hab:=by omega) ?_|refine bt (hab:=by omega) ?_|apply ab|apply Qu|apply Qv|refine ad ?_|refine az ?_|refine aA ?_|refine aI fun _=>?_|refine aK fun _=>?_|refine aH ?_|refine Qy ?_|refine Qz ?_|apply Qw|apply ar|(refine aX (vs:=[.int .i64 it.ballot.e,.int .i64 it.ballot.s]) (hv:=rfl) ?_)|(refine bm (cs:=formCells nameB 111 it.ballot.e it.ballot.s) (hf:=by rfl) ?_)|fail)
 all_goals exact ak (cJ rfl rfl bL (by rfl)) rfl
def msgB (x:BallotD):ByteArray:=textsV [nameB]++coreBa x
set_option maxHeartbeats 8000000 in
theorem Bv (it:ItemD) (h:it.kind=2) (hl:it.ballot.Lt) (hz:(msgB it.ballot).size≤1099511627776):Pu Tryz.prog 122 #[it.v] (fun _=>True) (.string (msgB it.ballot)):=by
 refine ay (args:=[_]) _ Tryz.func122 rfl Tryz.ntmps122 rfl fun av bor w0=>?_
 have hfo:=ml it h
 rw [msgB] at hz ⊢
 rw [Zl] at hz
 have hS:(⟨#[]⟩:ByteArray)++textsV [nameB]=textsV [nameB]:=ByteArray.empty_append
 have hts:(⟨#[]⟩:ByteArray).size+(textsV [nameB]).size≤1099511627776:=by
  rw [←Zl,hS]
  omega
 repeat' (first|apply ab|apply Qu|apply Qv|refine ad ?_|refine az ?_|refine aA ?_|refine aD ?_|refine aI fun _=>?_|refine aK fun _=>?_|refine bX fun _=>?_|refine aH ?_|(refine ao (hc:=hfo) (hX:=fun _ _=>trivial) ?_)|fail)
 rename_i bi bf bb bs
 refine cu ?_
 refine fO 5 1 ?_
 refine dk (l:=bld bb none 0 ⟨#[]⟩++[cel bf 125 (formCells nameB 111 it.ballot.e it.ballot.s),cel bi 57 it.cells]) (List.Perm.swap _ _ _) ?_
 refine cC (pre:=bld bb none 0 ⟨#[]⟩) (fr:=[cel bf 125 (formCells nameB 111 it.ballot.e it.ballot.s),cel bi 57 it.cells]) (hc:=eT bb none 0 ⟨#[]⟩ ⟨some ⟨bs,0,none⟩,1,1⟩ [nameB] hts) (hX:=fun w h=>bO (xs:=[[encB nameB]]) h.2 rfl (by decide) (by simp)) (h:=?_)
 rintro v R X' ⟨A1,c1,rfl,rfl⟩
 refine cT (X':=(fun _=>True)) (fun w h=>trivial) ?_
 rw [hS]
 generalize textsV [nameB]=p0 at *
 unfold bld
 repeat' (first|apply ab|apply Qu|apply Qv|refine az ?_|refine aA ?_|refine aD ?_|fail)
 refine cC (pre:=bld bb A1 c1 p0) (fr:=[cel bf 125 (formCells nameB 111 it.ballot.e it.ballot.s),cel bi 57 it.cells]) (hc:=mG bb A1 c1 p0 it hl hz) (hX:=fun _ _=>trivial) (h:=?_)
 rintro v R X' ⟨A2,c2,rfl,rfl⟩
 unfold bld
 repeat' (first|apply ab|apply Qu|apply Qv|refine az ?_|refine aA ?_|fail)
 refine eI (hm:=ZS _ aJ) ?_
 repeat' (first|apply ab|refine ad ?_|apply ar|fail)
 all_goals
  apply ak;apply ap;rfl;rfl
  simp only [cP]
def sgnB (p:Int) (x:BallotD):Bool:=verN p (msgB x) x.e x.s
theorem oy (p:Int) (it:ItemD) (h:it.kind=2) (hl:it.ballot.Lt) (hz:(msgB it.ballot).size≤1000000000000):Pu Tryz.prog 78 #[.int .i64 p,it.v] (fun w=>it.at_ w∧Glob w) (.bool (sgnB p it.ballot)):=by
 refine ay (args:=[_,_]) _ Tryz.func78 rfl Tryz.ntmps78 rfl fun av bor w0=>?_
 have hms:=Bv it h hl ae
 have hfo:=ml it h
 have hve:=gU p (msgB it.ballot) it.ballot.e it.ballot.s hz
 rw [sgnB]
 generalize verN p (msgB it.ballot) it.ballot.e it.ballot.s=V at *
 repeat' (first|apply ab|apply Qu|apply Qv|refine ad ?_|refine aK fun _=>?_|fail)
 rename_i b3
 (refine aU [cel b3 57 it.cells] (fun w=>it.at_ w∧Glob w) al ?_)
 all_goals refine aa 0 ?_<;>refine aa 1 ?_<;>refine aa 3 ?_<;>(refine ag 2 ?_;(refine ao (hc:=hms) (hX:=fun w h=>trivial) ?_);apply ab;refine ai ?_)<;>(refine ag 4 ?_;(refine ao (hc:=hfo) (hX:=fun _ _=>trivial) ?_);apply ab;refine ai ?_)<;>(refine aa 5 (hy:=by (apply gy;rfl)) ?_)<;>(refine ag 6 ?_;(refine ao (hc:=hve) (hX:=fun w h=>h.2) ?_);apply ab;refine ai ?_)<;>refine aa 7 ?_<;>(refine aw ?_)
 all_goals
  repeat' (first|apply ar|fail)
  exact ak (ap rfl rfl) rfl
def nameD:ByteArray:=⟨#[100,101,99,105,115,105,111,110]⟩
theorem mi (it:ItemD) (h:it.kind=3):Pu Tryz.prog 71 #[it.v] (fun _=>True) (.agg (formCells nameD 112 it.dec.e it.dec.s).toArray):=by
 refine ay (args:=[_]) _ Tryz.func71 rfl Tryz.ntmps71 rfl fun av bor w0=>?_
 repeat' (first|refine bt (hab:=by omega) ?_|apply ab|apply Qu|apply Qv|refine ad ?_|refine az ?_|refine aA ?_|refine aI fun _=>?_|refine aK fun _=>?_|refine aH ?_|refine Qz ?_|apply Qx|apply Qw|apply ar|(refine aX (vs:=[.int .i64 it.dec.e,.int .i64 it.dec.s]) (hv:=rfl) ?_)|(refine bm (cs:=formCells nameD 112 it.dec.e it.dec.s) (hf:=by rfl) ?_)|fail)
 all_goals exact ak (cJ rfl rfl bL (by rfl)) rfl
def msgD (x:DecD):ByteArray:=textsV [nameD]++coreDe x
set_option maxHeartbeats 8000000 in
theorem Bt (it:ItemD) (h:it.kind=3) (hl:it.dec.Lt) (hz:(msgD it.dec).size≤1099511627776):Pu Tryz.prog 122 #[it.v] (fun w=>it.at_ w) (.string (msgD it.dec)):=by
 refine ay (args:=[_]) _ Tryz.func122 rfl Tryz.ntmps122 rfl fun av bor w0=>?_
 have hfo:=mi it h
 rw [msgD] at hz ⊢
 rw [Zl] at hz
 have hS:(⟨#[]⟩:ByteArray)++textsV [nameD]=textsV [nameD]:=ByteArray.empty_append
 have hts:(⟨#[]⟩:ByteArray).size+(textsV [nameD]).size≤1099511627776:=by
  rw [←Zl,hS]
  omega
 repeat' (first|apply ab|apply Qu|apply Qv|refine ad ?_|refine az ?_|refine aA ?_|refine aD ?_|refine aI fun _=>?_|refine aK fun _=>?_|refine bX fun _=>?_|refine aH ?_|(refine ao (hc:=hfo) (hX:=fun _ _=>trivial) ?_)|fail)
 rename_i bi bf bb bs
 refine cu ?_
 refine fO 5 1 ?_
 refine dk (l:=bld bb none 0 ⟨#[]⟩++[cel bf 125 (formCells nameD 112 it.dec.e it.dec.s),cel bi 57 it.cells]) (List.Perm.swap _ _ _) ?_
 refine cC (pre:=bld bb none 0 ⟨#[]⟩) (fr:=[cel bf 125 (formCells nameD 112 it.dec.e it.dec.s),cel bi 57 it.cells]) (hc:=eT bb none 0 ⟨#[]⟩ ⟨some ⟨bs,0,none⟩,1,1⟩ [nameD] hts) (hX:=fun w h=>bO (xs:=[[encB nameD]]) h.2 rfl (by decide) (by simp)) (h:=?_)
 rintro v R X' ⟨A1,c1,rfl,rfl⟩
 refine cT (X':=(fun w=>it.at_ w)) (fun w h=>h.1.1) ?_
 rw [hS]
 generalize textsV [nameD]=p0 at *
 unfold bld
 repeat' (first|apply ab|apply Qu|apply Qv|refine az ?_|refine aA ?_|refine aD ?_|fail)
 refine cC (pre:=bld bb A1 c1 p0) (fr:=[cel bf 125 (formCells nameD 112 it.dec.e it.dec.s),cel bi 57 it.cells]) (hc:=jd bb A1 c1 p0 it hl hz) (hX:=fun w h=>h) (h:=?_)
 rintro v R X' ⟨A2,c2,rfl,rfl⟩
 unfold bld
 repeat' (first|apply ab|apply Qu|apply Qv|refine az ?_|refine aA ?_|fail)
 refine eI (hm:=ZS _ aJ) ?_
 repeat' (first|apply ab|refine ad ?_|apply ar|fail)
 all_goals
  apply ak;apply ap;rfl;rfl
  simp only [cP]
def sgnD (p:Int) (x:DecD):Bool:=verN p (msgD x) x.e x.s
theorem ow (p:Int) (it:ItemD) (h:it.kind=3) (hl:it.dec.Lt) (hz:(msgD it.dec).size≤1000000000000):Pu Tryz.prog 78 #[.int .i64 p,it.v] (fun w=>it.at_ w∧Glob w) (.bool (sgnD p it.dec)):=by
 refine ay (args:=[_,_]) _ Tryz.func78 rfl Tryz.ntmps78 rfl fun av bor w0=>?_
 have hms:=Bt it h hl ae
 have hfo:=mi it h
 have hve:=gU p (msgD it.dec) it.dec.e it.dec.s hz
 rw [sgnD]
 generalize verN p (msgD it.dec) it.dec.e it.dec.s=V at *
 repeat' (first|apply ab|apply Qu|apply Qv|refine ad ?_|refine aK fun _=>?_|fail)
 rename_i b3
 (refine aU [cel b3 57 it.cells] (fun w=>it.at_ w∧Glob w) al ?_)
 all_goals refine aa 0 ?_<;>refine aa 1 ?_<;>refine aa 3 ?_<;>(refine ag 2 ?_;(refine ao (hc:=hms) (hX:=fun w h=>h.1) ?_);apply ab;refine ai ?_)<;>(refine ag 4 ?_;(refine ao (hc:=hfo) (hX:=fun _ _=>trivial) ?_);apply ab;refine ai ?_)<;>(refine aa 5 (hy:=by (apply gy;rfl)) ?_)<;>(refine ag 6 ?_;(refine ao (hc:=hve) (hX:=fun w h=>h.2) ?_);apply ab;refine ai ?_)<;>refine aa 7 ?_<;>(refine aw ?_)
 all_goals
  repeat' (first|apply ar|fail)
  exact ak (ap rfl rfl) rfl
section
variable {P:Program} {N:Nat} {av bor:List Nat} {w0:World} {ty:TypeId}
theorem nY {st:St} {x:Operand} {t t2 e b':TypeId} [hs:TySl P t e 1 b'] [he:TyInt P e .u8] [h2:TyStr P t2] {b n:Nat} {ns:List Int} (hx:ev st.env x=some (.slice (some ⟨b,0,none⟩) n n)) (hm:cel b e (u8s ns)∈st.loc) (hn:ns.length=n) (hn2:n≤maxLen) :
  Sy.Yields P N av bor w0 st (.convert t t2 x) ty (.string (ofInts ns)):=Sy.Yields.mk fun A w ok d pos af g=>by
 have hh:w.heap[b]?=some (.cells (u8s ns).toArray e (0,0)):=(ok.gam.here _ hm).now
 have ho:ORow w e 1 (.slice (some ⟨b,0,none⟩) n n) n (u8s ns):=j7 hh (by simp [u8s,hn]) hn2
 have hl:(u8s ns).length=n:=by have:=ho.1;omega
 rcases ho.2 with ⟨h,_⟩|⟨g,cap,cur,fz,hv,hg,hnc,hcm,hcs,htake,hfz⟩
 · cases h
 · cases hv
   have hlc:=run_loadCells_list (P:=P) w ⟨b,0,none⟩ (u8s ns) (fun j u hj=>by
    have hadd:(⟨b,0,none⟩:Addr).add j=⟨b,j,none⟩:=by unfold Addr.add;split<;>simp_all
    rw [hadd,cell_of_row w b j cur e fz hg]
    rw [←htake,List.getElem?_take] at hj
    split at hj
    · simpa using hj
    · cases hj)
   rw [hl] at hlc
   have h3:=run_bytesToString (P:=P) w ⟨b,0,none⟩ n n ns hlc
   have h4:=run_convert_bytes_string (P:=P) w t t2 e (some ⟨b,0,none⟩) n n (cN hs.out).1 he.out h2.out
   rw [h3] at h4
   simp [execOp,ok.eval hx,h4,ofInts]
end
section
variable {P:Program} {N:Nat} {av bor:List Nat} {w0:World} {st:St} {ty:TypeId} {x y z:Operand} {t t2:TypeId}
theorem zY {e size b':Nat} [hI:TySl P t e size b'] {s:SlV} {kk kk':IntKind} {i j:Int} (hx:ev st.env x=some s.v) (hy:ev st.env y=some (.int kk i)) (hz:ev st.env z=some (.int kk' j)) (h0:0≤i) (h1:i≤j) (h2:j≤(s.c:Int)) :
  Sy.Yields P N av bor w0 st (.slice t x (some y) (some z) none) ty (.slice (s.from size i.toNat).p (j.toNat-i.toNat) (s.c-i.toNat)):=Sy.Yields.mk fun A w ok d pos af g=>by
 obtain ⟨p,m,c⟩:=s
 obtain ⟨hu,inf,hi,hs,hb⟩:=cN hI.out
 have hsz:=Sy.run_sizeOf (P:=P) (w:=w) (t:=e) (n:=size) (by simp [hi,hs])
 have hx':ev st.env x=some (.slice p m c):=hx
 have h2':j≤(c:Int):=h2
 have hj:0≤j:=by omega
 obtain ⟨j,rfl⟩:=Int.eq_ofNat_of_zero_le hj
 have h2'':j≤c:=by omega
 simp [execOp,ok.eval hx',ok.eval hy,ok.eval hz,Instr.sliceAt,run_underlying hu,Instr.slice,Instr.sliceBounds,run_sliceBound,h0,h1,h2',h2'',hsz,SlV.from]
end
section
variable {P:Program} {N:Nat} {av bor:List Nat} {w0:World} {st:St} {ty:TypeId} {x:Operand} {t:TypeId}
theorem de {e m i c:Nat} [h:TyOne P t] {A:Option Addr} {vs:List Value} {u:Value} (hx:ev st.env x=some (elP A i)) (hm:orow e 1 (.slice A m c) m vs∈st.loc) (hn:m=vs.length) (hi:vs[i]?=some u) :
  Sy.Yields P N av bor w0 st (.load t x) ty u:=Sy.Yields.mk fun B w ok d pos af g=>by
 have e1:(vs.map fun v=>[v]).flatten=vs:=by
  clear hm hn hi
  induction vs with
  | nil=>rfl
  | cons v vs ih=>rw [Qt,List.flatten_cons,ih];rfl
 have ho:=(ok.gam.here _ hm).now
 have hr:RowsD w 1 ⟨A,m,c⟩ (vs.map fun v=>[v]):=cg (e:=e) (by rw [e1];exact ho) (by rw [Z3];exact hn) fun r hr=>by
  obtain ⟨v,_,rfl⟩:=List.mem_map.1 hr
  rfl
 obtain ⟨h1,hp,hc⟩:=RowsD.row hr i [u] (by rw [List.getElem?_map,hi];rfl)
 have hc0:=hc 0 u rfl
 rw [Nat.mul_one,Qk] at hc0
 obtain ⟨a,rfl⟩:=Option.isSome_iff_exists.1 hp
 simp [execOp,ok.eval hx,elP,Instr.loadAt,Instr.sureAddr,loadVar,(cH h.out w).1,hc0.2 a rfl]
end
section
variable {P:Program} {N:Nat} {av bor:List Nat} {w0:World} {ops:Array Oper} {rest:List Oper} {kk:St→Prop} {E:Env} {loc:List Res} {X:World→Prop} {x y:Operand} {t t2:TypeId}
variable {n:Nat} {ty:TypeId} {pos:String} {af:Array Edge} {g:Option (Nat×Bool)} {bb want:Bool}
theorem xX {k:IntKind} {a b:Int} [hI:TyInt P t k] (h:Sw P N av bor w0 ops rest ⟨(n,.bool false)::E,loc,X⟩ kk) (hx:ev E x=some (.int k a):=by rfl) (hy:ev E y=some (.int k b):=by rfl) (hab:¬ a<b) (hg:gdB ops E g=some (bb,want):=by rfl) (hbb:bb=want:=by exact aE) (hd:Nat.blt n N=true:=by rfl) :
  Sw P N av bor w0 ops (⟨some n,.binOp .lss t x y t2,ty,pos,af,g⟩::rest) ⟨E,loc,X⟩ kk:=bj (hx:=hx) (hy:=hy) (hg:=hg) (hbb:=hbb) (hd:=hd) (h:=by
   have e:∀ u,u=Value.bool false→Sw P N av bor w0 ops rest ⟨(n,u)::E,loc,X⟩ kk:=fun u hu=>hu▸h
   exact e _ (by simp [hab]))
theorem xW {k:IntKind} {a b:Int} [hI:TyInt P t k] (h:Sw P N av bor w0 ops rest ⟨(n,.bool true)::E,loc,X⟩ kk) (hx:ev E x=some (.int k a):=by rfl) (hy:ev E y=some (.int k b):=by rfl) (hab:a<b:=by (first|decide|omega)) (hg:gdB ops E g=some (bb,want):=by rfl) (hbb:bb=want:=by exact aE) (hd:Nat.blt n N=true:=by rfl) :
  Sw P N av bor w0 ops (⟨some n,.binOp .lss t x y t2,ty,pos,af,g⟩::rest) ⟨E,loc,X⟩ kk:=bj (hx:=hx) (hy:=hy) (hg:=hg) (hbb:=hbb) (hd:=hd) (h:=by
   have e:∀ u,u=Value.bool true→Sw P N av bor w0 ops rest ⟨(n,u)::E,loc,X⟩ kk:=fun u hu=>hu▸h
   exact e _ (by simp [hab]))
end
theorem gI:∀ (l:List Int) (r:ByteArray),(l.foldl (fun r n=>r.push (UInt8.ofNat n.toNat)) r)=r++ofInts l
 | [],r=>by simp [ofInts]
 | b::l,r=>by
  have e:ofInts (b::l)=ofInts [b]++ofInts l:=by
   conv=>lhs;rw [ofInts,List.foldl_cons,gI l]
   rfl
  rw [List.foldl_cons,gI l,e,←ZV]
  congr 1
  simp [ofInts,ByteArray.ext_iff]
theorem qx (a:Int) (l:List Int):ofInts [a]++ofInts l=ofInts (a::l):=by
 conv=>rhs;rw [ofInts,List.foldl_cons,gI]
 rfl
set_option maxRecDepth 4000 in
theorem refNumD:∀ (f:Nat) (n:Int),0≤n→n<128 ^ f→f≤9→Pu Tryz.prog 178 #[.int .i64 n] (fun _=>True) (.string (ofInts (numD (f+1) n)))
 | f,n,h0,h1,hf=>by
  have hb:(128:Int) ^ f≤9223372036854775808:=by
   have h4:(128:Nat) ^ f≤128 ^ 9:=Nat.pow_le_pow_right ae hf
   have h5:((128 ^ f:Nat):Int)≤((128 ^ 9:Nat):Int):=by exact_mod_cast h4
   have h6:((128 ^ 9:Nat):Int)=9223372036854775808:=by decide
   have h7:((128 ^ f:Nat):Int)=(128:Int) ^ f:=by simp
   omega
  refine ay (args:=[_]) _ Tryz.func178 rfl Tryz.ntmps178 rfl fun av bor w0=>?_
  by_cases hs:128≤n
  · have hf0:f≠0:=fun e=>by rw [e] at h1;simp at h1;omega
    obtain ⟨g,rfl⟩:∃ g,f=g+1:=⟨f-1,by omega⟩
    have ih:=refNumD g (n.tdiv 128) (by rw [Int.tdiv_eq_ediv_of_nonneg h0];omega) (by
     rw [Int.tdiv_eq_ediv_of_nonneg h0]
     rw [Int.pow_succ] at h1
     omega) ae
    rw [qz hs,←qx]
    have hlw:IntKind.u8.wrap (128+n.tmod 128)=lowD n:=rfl
    have ht1:=Int.tmod_lt_of_pos n (b:=128) ae
    have ht2:=Int.tmod_nonneg 128 h0
    have hq:IntKind.i64.wrap (n.tdiv 128)=n.tdiv 128:=IntWalk.i64_in _ (by rw [Int.tdiv_eq_ediv_of_nonneg h0];omega)
    have hsz:=eV [lowD n]
    have hsz2:=lY (g+1) (n.tdiv 128)
    have hsz3:=eV (numD (g+1) (n.tdiv 128))
    simp only [ZY,Qi,Ql] at hsz
    repeat' (first|refine xX (hab:=by omega) ?_|apply ab|apply Qu|apply Qv|refine aj ?_|refine ad ?_|refine Qz ?_|apply Qx|fail)
    (apply bI;kernel_rfl)
    all_goals refine aa 0 ?_<;>(refine aa 1 (hy:=by (apply mZ;rfl;rfl;decide;rfl)) ?_)<;>refine aa 2 ?_<;>refine aa 3 ?_<;>refine aa 6 ?_<;>(refine aa 7 (hy:=by (apply kL;rfl;rfl;decide;exact hq)) ?_)<;>(refine bw 4 8 (h:=?_) (h':=?_);(focus (((refine bX (vs:=[.int .u8 (lowD n)]) fun _=>?_);apply ab;refine ai ?_);all_goals ((refine bw 5 8 (h:=?_) (h':=?_);(focus (((refine am (nY (ns:=[lowD n]) rfl aJ rfl (by decide)) rfl aE rfl ?_);apply ab;refine ai ?_);all_goals ((refine ag 8 ?_;(refine ao (hc:=ih) (hX:=fun _ _=>trivial) ?_);apply ab;refine ai ?_);all_goals (refine aa 9 (hy:=by (apply bF;rfl;rfl;omega)) ?_);all_goals (refine aa 10 ?_);all_goals (refine aw ?_))));rotate_right;(focus (((refine ao (hc:=ih) (hX:=fun _ _=>trivial) ?_);apply ab;refine ai ?_);all_goals ((refine ag 5 ?_;(refine am (nY (ns:=[lowD n]) rfl aJ rfl (by decide)) rfl aE rfl ?_);apply ab;refine ai ?_);all_goals (refine aa 9 (hy:=by (apply bF;rfl;rfl;omega)) ?_);all_goals (refine aa 10 ?_);all_goals (refine aw ?_))))))));rotate_right;(focus (((refine ao (hc:=ih) (hX:=fun _ _=>trivial) ?_);apply ab;refine ai ?_);all_goals ((refine ag 4 ?_;(refine bX (vs:=[.int .u8 (lowD n)]) fun _=>?_);apply ab;refine ai ?_);all_goals (refine ag 5 ?_;(refine am (nY (ns:=[lowD n]) rfl aJ rfl (by decide)) rfl aE rfl ?_);apply ab;refine ai ?_);all_goals (refine aa 9 (hy:=by (apply bF;rfl;rfl;omega)) ?_);all_goals (refine aa 10 ?_);all_goals (refine aw ?_)))))
    all_goals
     apply ar
     exact ak (ap rfl rfl) rfl
  · rw [lX hs]
    repeat' (first|refine xX (hab:=by omega) ?_|refine xW (hab:=by omega) ?_|apply ab|apply Qu|apply Qv|refine aj ?_|refine ad ?_|refine bX fun _=>?_|refine Qy ?_|refine Qz ?_|apply Qx|apply ar|refine dS (h:=?_)|(refine am (nY (ns:=[IntKind.u8.wrap n]) rfl aJ rfl (by decide)) rfl aE rfl ?_)|fail)
    exact ak (ap rfl rfl) rfl
theorem bD (n:Int) (hn:n<9223372036854775808):Pu Tryz.prog 178 #[.int .i64 n] (fun _=>True) (.string (numV n)):=by
 by_cases h0:0≤n
 · have h:=refNumD 9 n h0 (by rw [show (128:Int) ^ 9=9223372036854775808 from by decide];exact hn) (Qp _)
   rw [numV,Zn (by omega)]
   exact h
 · rw [numV,ZA (by omega)]
   refine ay (args:=[_]) _ Tryz.func178 rfl Tryz.ntmps178 rfl fun av bor w0=>?_
   repeat' (first|refine xW (hab:=by omega) ?_|apply ab|apply Qu|apply Qv|refine aj ?_|refine ad ?_|refine Qy ?_|apply ar|fail)
   exact ak (ap rfl rfl) rfl
theorem bY (s:ByteArray) (hs:s.size≤1099511627776):Pu Tryz.prog 175 #[.string s] (fun _=>True) (.string (textV s)):=by
 refine ay (args:=[_]) _ Tryz.func175 rfl Tryz.ntmps175 rfl fun av bor w0=>?_
 have:=aR s.size
 repeat' (first|apply ab|apply Qu|apply Qv|refine aj ?_|refine ad ?_|refine bU ?_|apply ar|refine ao (hc:=bD _ ae) ?_|(refine lF ?_)|fail)
 exact ak (ap rfl rfl) rfl
theorem lR (s:SlV) (l:List ByteArray) (hs:(listV l).size≤1099511627776):Pu Tryz.prog 215 #[s.v] (fun w=>Strs w s l) (.string (listV l)):=by
 refine ay (args:=[_]) _ Tryz.func215 rfl Tryz.ntmps215 rfl fun av bor w0=>?_
 refine bK (p:=s.n=l.length∧s.n≤maxLen∧(0<l.length→s.p.isSome=true)) (fun w h=>⟨h.len_,Qq (RowsD.cap h) (RowsD.max h),h.some_⟩) fun ⟨hl,hm,hp⟩=>?_
 simp only [maxLen] at hm
 have hn10:=aR s.n
 have hsz:(numV l.length).size+(cats (l.map textV)).size≤1099511627776:=by rw [←Zl];exact hs
 have h0:numV l.length++cats ((l.map textV).take 0)=numV s.n:=by simp [cats,hl]
 repeat' (first|apply ab|apply Qu|apply Qv|refine aj ?_|refine ad ?_|refine aW ?_|apply Qw|refine ao (hc:=bD _ ae) ?_|fail)
 refine aT (ι:=Kth l.length) (fun i=>⟨[(0,s.v),(3,.string (numV l.length++cats ((l.map textV).take i.k))),(4,.int .i64 (i.k:Nat))],[],fun w=>Strs w s l⟩) (fun i=>l.length-i.k) ⟨0,Nat.zero_le _⟩ (ax ⟨rfl,by rw [h0];rfl,rfl,trivial⟩ (aG _) fun _ h=>h) fun i=>?_
 obtain ⟨k,hk⟩:=i
 simp only
 repeat' (first|apply ab|apply Qu|apply Qv|refine aj ?_|refine ad ?_|refine bj ?_|refine aW ?_|apply Qx|apply Qw|apply ar|apply aS|(refine aF (ht:=?_) (hf:=?_);all_goals (intro hx_;first|have:=aO hx_|have:=aQ hx_)))
 · have hlt:k<l.length:=by omega
   have hp':=hp ae
   have hsucc:=fq (l.map textV) (k:=k) (by rw [Z3];exact hlt)
   have hg:(l.map textV).getD k .empty=textV (l.getD k .empty):=by
    rw [ZL,List.getElem?_map,ZL,Zm hlt];rfl
   have hle:=eR (l.map textV) (k+1)
   rw [hsucc,Zl,hg] at hle
   have hte:(textV (l.getD k .empty)).size=(numV (l.getD k .empty).size).size+(l.getD k .empty).size:=by rw [textV,Zl]
   have hca:(numV l.length++cats ((l.map textV).take k)).size=(numV l.length).size+(cats ((l.map textV).take k)).size:=Zl
   repeat' (first|apply ab|apply Qv|refine aj ?_|refine ad ?_|refine be (h:=?_)|(refine bz (q:=k) ?_)|(refine eH (hF:=fun w h=>Strs.get h hlt) ?_)|refine ao (hc:=bY _ ae) ?_|(refine lF ?_)|fail)
   exact ⟨(⟨k+1,hlt⟩:Kth l.length),(by show l.length-(k+1)<l.length-k;omega),ax ⟨rfl,by rw [hsucc,hg,←ZV];rfl,rfl,trivial⟩ (aG _) fun _ h=>h⟩
 · have hkE:k=l.length:=by omega
   subst hkE
   exact ak (ap rfl rfl) (by rw [listV,List.take_of_length_le (by rw [Z3];exact Qp _)])
def u32n (l:List Nat):List Value:=l.map fun (n:Nat)=>.int .u32 (n:Int)
def U32s (w:World) (s:SlV) (l:List Nat):Prop:=RowsD w 1 s (l.map fun (n:Nat)=>[.int .u32 (n:Int)])
def U8s (w:World) (s:SlV) (l:List Nat):Prop:=RowsD w 1 s (l.map fun (n:Nat)=>[.int .u8 (n:Int)])
theorem pE (l:List Nat):(u32n l).length=l.length:=by simp [u32n]
theorem pF {l:List Nat} {i:Nat} (h:i<l.length):(u32n l)[i]?=some (.int .u32 ((l.getD i 0:Nat):Int)):=by simp [u32n,h]
theorem iJ {w:World} {s:SlV} {l:List Nat} {f:Nat→Value} (h:RowsD w 1 s (l.map fun n=>[f n])) {i:Nat} (hi:i<l.length):CellAt w s.p i (f (l.getD i 0)):=by
 obtain ⟨_,_,hc⟩:=RowsD.row h i [f (l.getD i 0)] (by rw [List.getElem?_map,Zm hi,ZL,Zm hi];rfl)
 have:=hc 0 _ rfl
 rwa [Nat.mul_one,Qk] at this
theorem gZ {w:World} {s:SlV} {l:List Nat} {f:Nat→Value} (h:RowsD w 1 s (l.map fun n=>[f n])):s.n=l.length:=by have:=RowsD.len h;simpa using this
theorem fR {w:World} {s:SlV} {l:List Nat} {f:Nat→Value} (h:RowsD w 1 s (l.map fun n=>[f n])) (h0:0<l.length):s.p.isSome=true:=(RowsD.row h 0 [f l[0]] (by rw [List.getElem?_map,Zm h0];rfl)).2.1
theorem U32s.of_row {w:World} {e n c:Nat} {A:Option Addr} {l:List Nat} (h:ORow w e 1 (.slice A n c) n (u32n l)) (hn:n=l.length):U32s w ⟨A,n,c⟩ l:=by
 have e1:(l.map fun (n:Nat)=>[(.int .u32 (n:Int):Value)]).flatten=u32n l:=by
  clear h hn
  induction l with
  | nil=>rfl
  | cons a l ih=>rw [Qt,List.flatten_cons,ih];rfl
 rw [←e1] at h
 exact cg h (by rw [Z3,hn]) fun r hr=>by
  obtain ⟨n,_,rfl⟩:=List.mem_map.1 hr
  rfl
theorem jr {n:Nat} (h:n<4294967296):IntKind.u32.wrap (n:Int)=(n:Int):=by rw [wrap32,Z0 h]
section
variable {P:Program} {N:Nat} {av bor:List Nat} {w0:World} {st:St} {ty:TypeId} {x y:Operand} {t t2:TypeId} {a b:Nat}
theorem rm (hx:ev st.env x=some (.int .u32 (a:Int))) (hy:ev st.env y=some (.int .u32 (b:Int))) (hc:a*b<4294967296):Sy.Yields P N av bor w0 st (.binOp .mul t x y t2) ty (.int .u32 ((a*b:Nat):Int)) :=
 pw hx hy (by rw [←Int.natCast_mul];exact jr hc)
theorem kP (hx:ev st.env x=some (.int .i64 (a:Int))) (hy:ev st.env y=some (.int .i64 (b:Int))) (hc:a*b<9223372036854775808):Sy.Yields P N av bor w0 st (.binOp .mul t x y t2) ty (.int .i64 ((a*b:Nat):Int)) :=
 pw hx hy (by rw [←Int.natCast_mul];exact IntWalk.i64_in _ ae)
theorem rp (hx:ev st.env x=some (.int .u32 (a:Int))) (hy:ev st.env y=some (.int .u32 (b:Int))) (hc:a+b<4294967296):Sy.Yields P N av bor w0 st (.binOp .add t x y t2) ty (.int .u32 ((a+b:Nat):Int)) :=
 m8 hx hy (by rw [←Int.natCast_add];exact jr hc)
theorem eF (hx:ev st.env x=some (.int .u32 (a:Int))) (hy:ev st.env y=some (.int .u32 (b:Int))):Sy.Yields P N av bor w0 st (.binOp .add t x y t2) ty (.int .u32 (((a+b)%4294967296:Nat):Int)) :=
 m8 hx hy (by rw [←Int.natCast_add,wrap32])
theorem gx (hx:ev st.env x=some (.int .u32 (a:Int))) (hy:ev st.env y=some (.int .u32 (b:Int))) (ha:a<4294967296) (hb:b<4294967296):Sy.Yields P N av bor w0 st (.binOp .xor t x y t2) ty (.int .u32 ((a ^^^ b:Nat):Int)) :=
 (IsN.xor (x:=(a:Int)) (y:=(b:Int)) ⟨rfl,ha⟩ ⟨rfl,hb⟩).1▸sS hx hy
theorem kS (hx:ev st.env x=some (.int .u32 (a:Int))) (hy:ev st.env y=some (.int .u32 (b:Int))) (ha:a<4294967296) (hb:b<4294967296):Sy.Yields P N av bor w0 st (.binOp .and t x y t2) ty (.int .u32 ((a &&& b:Nat):Int)) :=
 (IsN.and (x:=(a:Int)) (y:=(b:Int)) ⟨rfl,ha⟩ ⟨rfl,hb⟩).1▸pA hx hy
theorem rk {k':IntKind} {c:Int} {p:Nat} (hx:ev st.env x=some (.int .u32 (a:Int))) (hy:ev st.env y=some (.int k' c)) (hc:0≤c) (ha:a<4294967296) (hp:(2:Int) ^ (min c.toNat 32)=(p:Int)):Sy.Yields P N av bor w0 st (.binOp .shr t x y t2) ty (.int .u32 ((a/p:Nat):Int)) :=
 (IsN.shr (x:=(a:Int)) ⟨rfl,ha⟩ p hp).1▸sU hx hy hc
theorem CI (hx:ev st.env x=some (.int .u32 (a:Int))) (ha:a<4294967296):Sy.Yields P N av bor w0 st (.unOp .xor t x) ty (.int .u32 ((4294967295 ^^^ a:Nat):Int)):=by
 have hm:IsN (if IntKind.u32.signed then -1 else IntKind.u32.max) 4294967295:=⟨by kernel_rfl,by decide⟩
 exact (hm.xor (y:=(a:Int)) ⟨rfl,ha⟩).1▸rf hx
end
theorem Ag {w:World} {s:SlV} {l:List Nat} (h:U32s w s l):Src Tryz.prog w 1 s.v s.n (u32n l):=by
 have e1:(l.map fun (n:Nat)=>[(.int .u32 (n:Int):Value)]).flatten=u32n l:=by
  clear h
  induction l with
  | nil=>rfl
  | cons a l ih=>rw [Qt,List.flatten_cons,ih];rfl
 have h1:=gB (P:=Tryz.prog) (s:=s) h fun cs hcs=>by
  obtain ⟨n,_,rfl⟩:=List.mem_map.1 hcs
  rfl
 rwa [e1] at h1
theorem xa (l:List Nat) {i v:Nat} (h:i<l.length):(u32n l).take (i*1)++[.int .u32 (v:Int)]++(u32n l).drop (i*1+1)=u32n (l.set i v):=by
 rw [Nat.mul_one,u32n,u32n,List.map_set,List.set_eq_take_append_cons_drop,Qf (by rw [Z3];exact h)]
 simp
theorem CU {m n:Nat} (hm:m<4294967296) (h0:0<n) (hn:n<32):bitsV .or .u32 (shrV .u32 (m:Int) (n:Int)) (shlV .u32 (m:Int) (32-(n:Int)))=((rot (2 ^ (32-n)) (2 ^ n) m:Nat):Int):=by
 have hw:32-(n:Int)=((32-n:Nat):Int):=by omega
 rw [hw]
 have h1:IsN (m:Int) m:=⟨rfl,hm⟩
 have h2:=(h1.shr (c:=(n:Int)) (2 ^ n) (by rw [Qr,Nat.min_eq_left (by omega)];simp)).or (h1.shl (c:=((32-n:Nat):Int)) (2 ^ (32-n)) (by rw [Qr,Nat.min_eq_left (by omega)];simp))
 rw [h2.1,rot,Nat.or_comm]
theorem fJ {m n:Nat} (hm:m<4294967296) (h0:0<n) (hn:n<32):rot (2 ^ (32-n)) (2 ^ n) m<4294967296:=by
 have h1:IsN (m:Int) m:=⟨rfl,hm⟩
 have h2:=(h1.shl (c:=((32-n:Nat):Int)) (2 ^ (32-n)) (by rw [Qr,Nat.min_eq_left (by omega)];simp)).or (h1.shr (c:=(n:Int)) (2 ^ n) (by rw [Qr,Nat.min_eq_left (by omega)];simp))
 exact h2.2
theorem dA (m n:Nat) (hm:m<4294967296) (h0:0<n) (hn:n<32):Pu Tryz.prog 219 #[.int .u32 (m:Int),.int .i64 (n:Int)] (fun _=>True) (.int .u32 ((rot (2 ^ (32-n)) (2 ^ n) m:Nat):Int)):=by
 refine ay (args:=[_,_]) _ Tryz.func219 rfl Tryz.ntmps219 rfl fun av bor w0=>?_
 rw [←CU hm h0 hn]
 repeat' (first|apply ab|apply Qu|apply Qv|refine ad ?_|fail)
 (apply bI;kernel_rfl)
 all_goals refine aa 0 ?_<;>refine aa 1 ?_<;>refine aa 2 ?_<;>refine aa 3 ?_<;>refine aa 4 ?_<;>refine aa 5 ?_<;>refine aa 6 ?_<;>refine aa 7 ?_<;>refine aa 8 ?_<;>(refine aw ?_)
 repeat' (first|apply ar|fail)
 all_goals exact ak (ap rfl rfl) rfl
theorem wQ {a b c d:Nat} (ha:a<256) (hb:b<256) (hc:c<256) (hd:d<256):wdN a b c d=a*16777216+b*65536+c*256+d:=by
 rw [wdN,Z0 (show a*16777216<4294967296 by omega),Z0 (show b*65536<4294967296 by omega),Z0 (show c*256<4294967296 by omega)]
 have h1:a*16777216 ||| b*65536=a*16777216+b*65536:=by
  have:=Nat.two_pow_add_eq_or_of_lt (i:=24) (b:=b*65536) ae a
  rw [show a*16777216=2 ^ 24*a from by omega]
  exact this.symm
 have h2:(a*16777216+b*65536) ||| c*256=a*16777216+b*65536+c*256:=by
  have:=Nat.two_pow_add_eq_or_of_lt (i:=16) (b:=c*256) ae (a*256+b)
  rw [show a*16777216+b*65536=2 ^ 16*(a*256+b) from by omega]
  exact this.symm
 have h3:(a*16777216+b*65536+c*256) ||| d=a*16777216+b*65536+c*256+d:=by
  have:=Nat.two_pow_add_eq_or_of_lt (i:=8) (b:=d) ae (a*65536+b*256+c)
  rw [show a*16777216+b*65536+c*256=2 ^ 8*(a*65536+b*256+c) from by omega]
  exact this.symm
 rw [h1,h2,h3]
def row1 (l:List Nat) (k:Nat):List Nat:=(List.range k).map (fW l)
def row2 (l:List Nat) (k:Nat):List Nat:=(List.range (16+k)).map (sN (fW l) k)
theorem vF (l:List Nat) (k:Nat):row1 l (k+1)=row1 l k++[fW l k]:=by rw [row1,row1,List.range_succ,Qn];rfl
theorem vD (l:List Nat):row2 l 0=row1 l 16:=rfl
theorem pV (l:List Nat) {k t:Nat} (h:t<16+k):(row2 l k).getD t 0=sN (fW l) k t:=by
 rw [row2,ZL,List.getElem?_map,List.getElem?_range h]
 rfl
theorem vE (l:List Nat) (k:Nat):row2 l (k+1)=row2 l k++[nextW (sN (fW l) k k) (sN (fW l) k (k+1)) (sN (fW l) k (k+9)) (sN (fW l) k (k+14))]:=by
 rw [row2,row2,show 16+(k+1)=(16+k)+1 from by omega,List.range_succ,Qn,Qt,List.map_nil,rJ]
 congr 1
 refine List.map_congr_left fun t ht=>?_
 exact oA _ (by rw [List.mem_range] at ht;omega)
theorem iK (l:List Nat) (k:Nat):(row2 l k).length=16+k:=by simp [row2]
theorem DQ {l:List Nat} (h:∀ x∈l,x<256) (t:Nat):fW l t<4294967296:=by
 have g:=fun i=>fE h i
 rw [fW,wQ (g _) (g _) (g _) (g _)]
 have g0:=g (4*t)
 have g1:=g (4*t+1)
 have g2:=g (4*t+2)
 have g3:=g (4*t+3)
 omega
theorem Cl (f:Nat→Nat) (h:∀ t,f t<4294967296):∀ k t,sN f k t<4294967296
 | 0,t=>h t
 | k+1,t=>by
  rw [sN]
  split
  · exact Nat.mod_lt _ ae
  · exact Cl f h k t
structure RowU (n:Nat) where
 k:Nat
 hk:k≤n
 A:Option Addr
 c:Nat
set_option maxRecDepth 20000 in
set_option maxHeartbeats 4000000 in
theorem qk (s:SlV) (l:List Nat) (hl:l.length=64) (hb:∀ x∈l,x<256):Mk Tryz.prog 217 #[s.v] (fun w=>U8s w s l) (fun u X'=>∃ s':SlV,u=s'.v∧∀ w,X' w→U32s w s' (row2 l 48)):=by
 refine cf (args:=[_]) _ Tryz.func217 rfl Tryz.ntmps217 rfl fun av bor w0=>?_
 refine bK (p:=s.n=64∧s.p.isSome=true) (fun w h=>⟨by rw [gZ (f:=fun n=>.int .u8 (n:Int)) h,hl],fR (f:=fun n=>.int .u8 (n:Int)) h ae⟩) fun ⟨hsn,hsp⟩=>?_
 have hg:∀ i,l.getD i 0<256:=fun i=>fE hb i
 repeat' (first|apply ab|apply Qu|apply Qv|refine ad ?_|apply Qw|fail)
 refine cY 128 1 ?_
 refine aT (ι:=RowU 16) (fun i=>⟨[(0,s.v),(3,.slice i.A i.k i.c),(4,.int .i64 (i.k:Nat))],[orow 128 1 (.slice i.A i.k i.c) i.k (u32n (row1 l i.k))],fun w=>U8s w s l⟩) (fun i=>16-i.k) ⟨0,by omega,none,0⟩ (ax ⟨rfl,rfl,rfl,trivial⟩ (.cons_cons _ (ZR _)) fun _ h=>h) fun i=>?_
 obtain ⟨k,hk,A,c⟩:=i
 simp only
 repeat' (first|apply ab|apply Qu|apply Qv|refine aj ?_|refine ad ?_|refine bj ?_|apply Qx|apply Qw|apply aS|(refine aF (ht:=?_) (hf:=?_);all_goals (intro hx_;first|have:=aO hx_|have:=aQ hx_)))
 · have hlt:k<16:=by omega
   have g0:=hg (4*k)
   have g1:=hg (4*k+1)
   have g2:=hg (4*k+2)
   have g3:=hg (4*k+3)
   have hfw:fW l k=l.getD (4*k) 0*16777216+l.getD (4*k+1) 0*65536+l.getD (4*k+2) 0*256+l.getD (4*k+3) 0:=wQ g0 g1 g2 g3
   obtain ⟨b0,e0⟩:∃ b,b=l.getD (4*k) 0:=⟨_,rfl⟩
   obtain ⟨b1,e1⟩:∃ b,b=l.getD (4*k+1) 0:=⟨_,rfl⟩
   obtain ⟨b2,e2⟩:∃ b,b=l.getD (4*k+2) 0:=⟨_,rfl⟩
   obtain ⟨b3,e3⟩:∃ b,b=l.getD (4*k+3) 0:=⟨_,rfl⟩
   rw [←e0] at g0 hfw
   rw [←e1] at g1 hfw
   rw [←e2] at g2 hfw
   rw [←e3] at g3 hfw
   have hget:∀ w,U8s w s l→∀ i,i<64→CellAt w s.p i (.int .u8 ((l.getD i 0:Nat):Int)):=fun w h i hi=>iJ (f:=fun n=>.int .u8 (n:Int)) h ae
   (refine aU [] (fun w=>U8s w s l) al ?_)
   all_goals refine aa 0 ?_<;>refine aa 1 ?_<;>refine aa 2 ?_<;>(refine aa 3 (hy:=by (apply kP (a:=4) (b:=k);rfl;rfl;omega)) ?_)<;>(refine aa 4 (hy:=by (apply aN (q:=4*k);rfl;rfl;omega;omega;assumption;omega)) ?_)<;>(refine aa 5 (hy:=by (apply dT (q:=4*k) (u:=.int .u8 (b0:Int));rfl;exact fun w h=>e0▸hget w h (4*k) ae)) ?_)<;>(refine aa 6 (hy:=by (apply jW;rfl;exact jr ae)) ?_)<;>(refine aa 7 (hy:=by (apply rm (b:=16777216);rfl;rfl;omega)) ?_)<;>refine aa 8 ?_<;>refine aa 9 ?_<;>(refine aa 10 (hy:=by (apply kP (a:=4) (b:=k);rfl;rfl;omega)) ?_)<;>refine aa 11 ?_<;>(refine aa 12 (hy:=by (apply aN (q:=4*k+1);rfl;rfl;omega;omega;assumption;omega)) ?_)<;>(refine aa 13 (hy:=by (apply dT (q:=4*k+1) (u:=.int .u8 (b1:Int));rfl;exact fun w h=>e1▸hget w h (4*k+1) ae)) ?_)<;>(refine aa 14 (hy:=by (apply jW;rfl;exact jr ae)) ?_)<;>(refine aa 15 (hy:=by (apply rm (b:=65536);rfl;rfl;omega)) ?_)<;>(refine aa 16 (hy:=by (apply rp;rfl;rfl;omega)) ?_)<;>refine aa 17 ?_<;>refine aa 18 ?_<;>(refine aa 19 (hy:=by (apply kP (a:=4) (b:=k);rfl;rfl;omega)) ?_)<;>refine aa 20 ?_<;>(refine aa 21 (hy:=by (apply aN (q:=4*k+2);rfl;rfl;omega;omega;assumption;omega)) ?_)<;>(refine aa 22 (hy:=by (apply dT (q:=4*k+2) (u:=.int .u8 (b2:Int));rfl;exact fun w h=>e2▸hget w h (4*k+2) ae)) ?_)<;>(refine aa 23 (hy:=by (apply jW;rfl;exact jr ae)) ?_)<;>(refine aa 24 (hy:=by (apply rm (b:=256);rfl;rfl;omega)) ?_)<;>(refine aa 25 (hy:=by (apply rp;rfl;rfl;omega)) ?_)<;>refine aa 26 ?_<;>refine aa 27 ?_<;>(refine aa 28 (hy:=by (apply kP (a:=4) (b:=k);rfl;rfl;omega)) ?_)<;>refine aa 29 ?_<;>(refine aa 30 (hy:=by (apply aN (q:=4*k+3);rfl;rfl;omega;omega;assumption;omega)) ?_)<;>(refine aa 31 (hy:=by (apply dT (q:=4*k+3) (u:=.int .u8 (b3:Int));rfl;exact fun w h=>e3▸hget w h (4*k+3) ae)) ?_)<;>(refine aa 32 (hy:=by (apply jW;rfl;exact jr ae)) ?_)<;>(refine aa 33 (hy:=by (apply rp;rfl;rfl;omega)) ?_)<;>(refine ag 34 ?_;(refine bX (vs:=[.int .u32 ((b0*16777216+b1*65536+b2*256+b3:Nat):Int)]) fun _=>?_);apply ab;refine ai ?_)<;>(refine ag 35 ?_;(refine aV (size:=1) (news:=u32n [b0*16777216+b1*65536+b2*256+b3]) (q:=1) rfl rfl rfl rfl (fun _=>At.there _ (At.here _)) (fun w G=>bo G aJ rfl rfl 1) ae (by simp only [maxLen];omega) rfl ?_ rfl ?_;(with_reducible rfl);intro A2 c2);apply ab;refine ai ?_)<;>refine aa 36 ?_<;>(refine aw ?_)
   have hrow:=vF l k
   rw [hfw] at hrow
   repeat' (first|apply ab|apply Qv|refine aj ?_|refine ad ?_|refine be (h:=?_)|fail)
   exact ⟨(⟨k+1,hlt,A2,c2⟩:RowU 16),(by show 16-(k+1)<16-k;omega),ax ⟨rfl,rfl,rfl,trivial⟩ (by rw [hrow,u32n,Qn];exact .cons _ (aG _)) fun _ h=>h⟩
 · obtain rfl:k=16:=by omega
   rw [←vD]
   refine aT (ι:=RowU 48) (fun i=>⟨[(3,.slice i.A (16+i.k) i.c),(5,.int .i64 ((16+i.k:Nat):Int))],[orow 128 1 (.slice i.A (16+i.k) i.c) (16+i.k) (u32n (row2 l i.k))],fun w=>True⟩) (fun i=>48-i.k) ⟨0,by omega,A,c⟩ (ax ⟨rfl,rfl,trivial⟩ (aG _) fun _ h=>trivial) fun i=>?_
   obtain ⟨k,hk,A,c⟩:=i
   simp only
   refine cS aJ (fun w h=>cI h ae) fun hAs=>?_
   repeat' (first|apply ab|apply Qu|apply Qv|refine aj ?_|refine ad ?_|refine bj ?_|refine cL (h:=?_)|apply Qx|apply Qw|apply ar|apply aS|(refine aF (ht:=?_) (hf:=?_);all_goals (intro hx_;first|have:=aO hx_|have:=aQ hx_)))
   · have hlt:k<48:=by omega
     have hm:∀ t,sN (fW l) k t<4294967296:=Cl _ (DQ hb) k
     have hA:∀ t,t<16+k→(u32n (row2 l k))[t]?=some (.int .u32 ((sN (fW l) k t:Nat):Int)):=fun t h=>by rw [pF (by rw [iK];exact h),pV l h]
     have hn:16+k=(u32n (row2 l k)).length:=by rw [pE,iK]
     have hg0:=hA k ae
     have hg1:=hA (k+1) ae
     have hg9:=hA (k+9) ae
     have hg14:=hA (k+14) ae
     have hnx:nextW (sN (fW l) k k) (sN (fW l) k (k+1)) (sN (fW l) k (k+9)) (sN (fW l) k (k+14))=(((sN (fW l) k k+s0N (sN (fW l) k (k+1)))%4294967296+sN (fW l) k (k+9))%4294967296+s1N (sN (fW l) k (k+14)))%4294967296:=rfl
     have hrow:=vE l k
     rw [hnx] at hrow
     have m1:=hm (k+1)
     have m14:=hm (k+14)
     obtain ⟨x0,e0⟩:∃ x,x=sN (fW l) k k:=⟨_,rfl⟩
     obtain ⟨x1,e1⟩:∃ x,x=sN (fW l) k (k+1):=⟨_,rfl⟩
     obtain ⟨x9,e9⟩:∃ x,x=sN (fW l) k (k+9):=⟨_,rfl⟩
     obtain ⟨x14,e14⟩:∃ x,x=sN (fW l) k (k+14):=⟨_,rfl⟩
     rw [←e0] at hg0 hrow
     rw [←e1] at hg1 m1 hrow
     rw [←e9] at hg9 hrow
     rw [←e14] at hg14 m14 hrow
     clear hA hm hnx
     have t7:=dA x1 7 m1 ae ae
     have t18:=dA x1 18 m1 ae ae
     have t17:=dA x14 17 m14 ae ae
     have t19:=dA x14 19 m14 ae ae
     have l7:=fJ (n:=7) m1 ae ae
     have l18:=fJ (n:=18) m1 ae ae
     have l17:=fJ (n:=17) m14 ae ae
     have l19:=fJ (n:=19) m14 ae ae
     have hs0:s0N x1=(rot (2 ^ (32-7)) (2 ^ 7) x1 ^^^ rot (2 ^ (32-18)) (2 ^ 18) x1) ^^^ (x1/8):=rfl
     have hs1:s1N x14=(rot (2 ^ (32-17)) (2 ^ 17) x14 ^^^ rot (2 ^ (32-19)) (2 ^ 19) x14) ^^^ (x14/1024):=rfl
     rw [hs0,hs1] at hrow
     clear hs0 hs1
     generalize rot (2 ^ (32-7)) (2 ^ 7) x1=r7 at *
     generalize rot (2 ^ (32-18)) (2 ^ 18) x1=r18 at *
     generalize rot (2 ^ (32-17)) (2 ^ 17) x14=r17 at *
     generalize rot (2 ^ (32-19)) (2 ^ 19) x14=r19 at *
     have lx:=Nat.xor_lt_two_pow (n:=32) l7 l18
     have ly:=Nat.xor_lt_two_pow (n:=32) l17 l19
     have d3:x1/8<4294967296:=by omega
     have d10:x14/1024<4294967296:=by omega
     repeat' (first|refine am (gx rfl rfl (by assumption) (by assumption)) rfl aE rfl ?_|refine am (rk (p:=8) rfl rfl (by decide) (by assumption) (by decide)) rfl aE rfl ?_|refine am (rk (p:=1024) rfl rfl (by decide) (by assumption) (by decide)) rfl aE rfl ?_|apply ab|apply Qu|apply Qv|refine aj ?_|refine ad ?_|refine cL (h:=?_)|(refine bz (q:=k+1) ?_)|(refine bz (q:=k+14) ?_)|(refine am (de rfl aJ hn hg1) rfl aE rfl ?_)|(refine am (de rfl aJ hn hg14) rfl aE rfl ?_)|(refine ao (hc:=t7) (hX:=fun _ _=>trivial) ?_)|(refine ao (hc:=t18) (hX:=fun _ _=>trivial) ?_)|(refine ao (hc:=t17) (hX:=fun _ _=>trivial) ?_)|(refine ao (hc:=t19) (hX:=fun _ _=>trivial) ?_)|fail)
     obtain ⟨v,hv⟩:∃ v,v=((((x0+(r7 ^^^ r18 ^^^ x1/8))%4294967296+x9)%4294967296+(r17 ^^^ r19 ^^^ x14/1024))%4294967296):=⟨_,rfl⟩
     rw [←hv] at hrow
     (refine aU [] (fun w=>True) al ?_)
     all_goals refine aa 0 ?_<;>refine aa 1 ?_<;>refine aa 2 ?_<;>refine aa 3 ?_<;>(refine aa 4 (hy:=by (apply aN (q:=k);rfl;rfl;omega;omega;assumption;omega)) ?_)<;>refine aa 6 ?_<;>refine aa 8 ?_<;>refine aa 9 ?_<;>refine aa 10 ?_<;>(refine aa 11 (hy:=by (apply aN (q:=k+9);rfl;rfl;omega;omega;assumption;omega)) ?_)<;>refine aa 14 ?_<;>(refine bw 5 12 (h:=?_) (h':=?_);(focus (((refine am (de rfl aJ hn hg0) rfl aE rfl ?_);apply ab;refine ai ?_);all_goals ((refine aa 7 (hy:=by (apply eF;rfl;rfl)) ?_);all_goals (refine ag 12 ?_;(refine am (de rfl aJ hn hg9) rfl aE rfl ?_);apply ab;refine ai ?_);all_goals (refine aa 13 (hy:=by (apply eF;rfl;rfl)) ?_);all_goals (refine aa 15 (hy:=by (apply eF;rfl;rfl)) ?_);all_goals (refine ag 16 ?_;(rw [←hv];refine bX (vs:=[.int .u32 (v:Int)]) fun _=>?_);apply ab;refine ai ?_);all_goals (refine ag 17 ?_;(refine aV (size:=1) (news:=u32n [v]) (q:=1) rfl rfl rfl rfl (fun _=>At.there _ (At.here _)) (fun w G=>bo G aJ rfl rfl 1) ae (by simp only [maxLen];omega) rfl ?_ rfl ?_;(with_reducible rfl);intro A2 c2);apply ab;refine ai ?_);all_goals (refine aa 18 ?_);all_goals (refine aw ?_))));rotate_right;(focus (((refine am (de rfl aJ hn hg9) rfl aE rfl ?_);apply ab;refine ai ?_);all_goals ((refine ag 5 ?_;(refine am (de rfl aJ hn hg0) rfl aE rfl ?_);apply ab;refine ai ?_);all_goals (refine aa 7 (hy:=by (apply eF;rfl;rfl)) ?_);all_goals (refine aa 13 (hy:=by (apply eF;rfl;rfl)) ?_);all_goals (refine aa 15 (hy:=by (apply eF;rfl;rfl)) ?_);all_goals (refine ag 16 ?_;(rw [←hv];refine bX (vs:=[.int .u32 (v:Int)]) fun _=>?_);apply ab;refine ai ?_);all_goals (refine ag 17 ?_;(refine aV (size:=1) (news:=u32n [v]) (q:=1) rfl rfl rfl rfl (fun _=>At.there _ (At.here _)) (fun w G=>bo G aJ rfl rfl 1) ae (by simp only [maxLen];omega) rfl ?_ rfl ?_;(with_reducible rfl);intro A2 c2);apply ab;refine ai ?_);all_goals (refine aa 18 ?_);all_goals (refine aw ?_)))))
     all_goals
      repeat' (first|apply ab|apply Qv|refine aj ?_|refine ad ?_|refine be (h:=?_)|fail)
      exact ⟨(⟨k+1,hlt,A2,c2⟩:RowU 48),(by show 48-(k+1)<48-k;omega),ax ⟨rfl,rfl,trivial⟩ (by rw [hrow,u32n,Qn];exact .cons _ (aG _)) fun _ h=>h⟩
   · obtain rfl:k=48:=by omega
     exact ak (ap rfl rfl) ⟨⟨A,64,c⟩,rfl,fun w h=>U32s.of_row (h.2 (orow 128 1 (.slice A (16+48) c) (16+48) (u32n (row2 l 48))) aJ) (by rw [iK])⟩
def S8.l (s:S8):List Nat:=[s.a,s.b,s.c,s.d,s.e,s.f,s.g,s.h]
structure S8.Lt (s:S8):Prop where
 a:s.a<4294967296
 b:s.b<4294967296
 c:s.c<4294967296
 d:s.d<4294967296
 e:s.e<4294967296
 f:s.f<4294967296
 g:s.g<4294967296
 h:s.h<4294967296
theorem pW (s:S8) (k w:Nat):roundN s k w=⟨(t1N s.h s.e s.f s.g k w+t2N s.a s.b s.c)%4294967296,s.a,s.b,s.c,(s.d+t1N s.h s.e s.f s.g k w)%4294967296,s.e,s.f,s.g⟩:=by
 obtain ⟨a,b,c,d,e,f,g,h⟩:=s
 simp only [roundN,ms]
theorem S8.Lt.round {s:S8} (h:s.Lt) (k w:Nat):(roundN s k w).Lt:=by
 rw [pW]
 exact ⟨Nat.mod_lt _ ae,h.a,h.b,h.c,Nat.mod_lt _ ae,h.e,h.f,h.g⟩
def rndN (f:Nat→Nat) (s:S8):Nat→S8
 | 0=>s
 | i+1=>roundN (rndN f s i) (kN.getD i 0) (sN f 48 i)
theorem yt (f:Nat→Nat) {s:S8} (h:s.Lt):∀ i,(rndN f s i).Lt
 | 0=>h
 | i+1=>(yt f h i).round _ _
theorem AU (f:Nat→Nat) {i:Nat} (h:i<64):sN f 48 i=sN f i i:=by
 by_cases hi:i≤48
 · have:=iF f (k:=i) (t:=i) (48-i) ae
   rw [show i+(48-i)=48 from by omega] at this
   exact this
 · have:=iF f (k:=48) (t:=i) (i-48) ae
   rw [show 48+(i-48)=i from by omega] at this
   exact this.symm
theorem pX (f:Nat→Nat) (s:S8):∀ i,i≤64→(kN.take i).foldl stepN (s,winN f 0)=(rndN f s i,winN f i)
 | 0,_=>rfl
 | i+1,h=>by
  have hl:kN.length=64:=by kernel_rfl
  have e:kN.take (i+1)=kN.take i++[kN.getD i 0]:=by
   rw [List.take_add_one,ZL,Zm (by omega)]
   rfl
  rw [e,List.foldl_append,pX f s i ae,List.foldl_cons,List.foldl_nil,pM,m9,rndN,AU f (by omega)]
  have hw:(winN f i).w0=sN f i i:=by unfold winN;rfl
  rw [hw]
theorem rL (f:Nat→Nat) (s:S8):roundsN kN s (winN f 0)=rndN f s 64:=by
 have hl:kN.length=64:=by kernel_rfl
 have h:=pX f s 64 (Qp _)
 rw [List.take_of_length_le (by omega)] at h
 rw [roundsN,h]
theorem DP (s:S8) (w:W16):(mixN s w).l=[(s.a+(roundsN kN s w).a)%4294967296,(s.b+(roundsN kN s w).b)%4294967296,(s.c+(roundsN kN s w).c)%4294967296,(s.d+(roundsN kN s w).d)%4294967296,(s.e+(roundsN kN s w).e)%4294967296,(s.f+(roundsN kN s w).f)%4294967296,(s.g+(roundsN kN s w).g)%4294967296,(s.h+(roundsN kN s w).h)%4294967296]:=by
 rw [mixN]
 generalize roundsN kN s w=t
 obtain ⟨a,b,c,d,e,f,g,h⟩:=s
 obtain ⟨a',b',c',d',e',f',g',h'⟩:=t
 simp only [addN,ms,S8.l]
theorem Dj (s:S8) (w:W16):(mixN s w).Lt:=by
 rw [mixN]
 generalize roundsN kN s w=t
 obtain ⟨a,b,c,d,e,f,g,h⟩:=s
 obtain ⟨a',b',c',d',e',f',g',h'⟩:=t
 simp only [addN,ms]
 exact ⟨Nat.mod_lt _ ae,Nat.mod_lt _ ae,Nat.mod_lt _ ae,Nat.mod_lt _ ae,Nat.mod_lt _ ae,Nat.mod_lt _ ae,Nat.mod_lt _ ae,Nat.mod_lt _ ae⟩
theorem Dm:iniN.Lt:=⟨by decide,by decide,by decide,by decide,by decide,by decide,by decide,by decide⟩
set_option maxRecDepth 8000 in
theorem oG:Mk Tryz.prog 182 #[] (fun _=>True) (fun u X'=>∃ s':SlV,u=s'.v∧∀ w,X' w→U32s w s' iniN.l):=by
 refine cf (args:=[]) _ Tryz.func182 rfl Tryz.ntmps182 rfl fun av bor w0=>?_
 repeat' (first|(refine bX (vs:=u32n iniN.l) fun b=>?_;refine oq 1 8 rfl (by decide) ?_)|apply ab|apply Qu|apply Qv|refine ad ?_|apply ar|fail)
 exact ak (ap rfl rfl) ⟨⟨some ⟨b,0,none⟩,8,8⟩,rfl,fun w h=>U32s.of_row (h.2 _ aJ) rfl⟩
set_option maxRecDepth 20000 in
theorem rW:Mk Tryz.prog 218 #[] (fun _=>True) (fun u X'=>∃ s':SlV,u=s'.v∧∀ w,X' w→U32s w s' kN):=by
 refine cf (args:=[]) _ Tryz.func218 rfl Tryz.ntmps218 rfl fun av bor w0=>?_
 repeat' (first|(refine bX (vs:=u32n kN) fun b=>?_;refine oq 1 64 rfl (by decide) ?_)|apply ab|apply Qu|apply Qv|refine ad ?_|apply ar|fail)
 exact ak (ap rfl rfl) ⟨⟨some ⟨b,0,none⟩,64,64⟩,rfl,fun w h=>U32s.of_row (h.2 _ aJ) al⟩
end Go.Proofs.YtcdilibijnboeaaGreatDoor
namespace Go.Proofs.YtcdilibijnboeaaGreatDoor
open Go Go.Proofs Sy
section
variable {P:Program} {N:Nat} {av bor:List Nat} {w0:World} {st:St} {ty:TypeId} {x y:Operand} {t t2:TypeId} {k:IntKind}
end
end Go.Proofs.YtcdilibijnboeaaGreatDoor
namespace Go.Proofs.YtcdilibijnboeaaGreatDoor
open Go Go.Proofs Sy
section
variable {P:Program} {N:Nat} {av bor:List Nat} {w0:World} {ops:Array Oper} {rest:List Oper} {kk:St→Prop} {E:Env} {loc:List Res} {X:World→Prop} {x y:Operand} {t t2:TypeId}
variable {n:Nat} {ty:TypeId} {pos:String} {af:Array Edge} {g:Option (Nat×Bool)} {bb want:Bool}
end
structure PostTo (P Q:List PostD):Prop where
 to:Q.map (fun p=>(p.to,p.toL,p.pos))=P.map fun p=>(p.to,p.toL,p.pos)
end Go.Proofs.YtcdilibijnboeaaGreatDoor

namespace Go.Proofs.YtcdilibijnboeaaGreatDoor
open Go Go.Proofs Sy
section
variable {P:Program} {N:Nat} {av bor:List Nat} {w0:World} {E:Env} {loc:List Res} {X:World→Prop} {K:Exit→St→Prop} {c:Code}
end
theorem PostTo.len {P Q:List PostD} (h:PostTo P Q):Q.length=P.length:=by have:=congrArg List.length h.to;simpa using this
theorem PostTo.trans {P Q R:List PostD} (h:PostTo P Q) (k:PostTo Q R):PostTo P R:=⟨k.to.trans h.to⟩
theorem PostTo.pos {P Q:List PostD} (h:PostTo P Q) (j:Nat):posP Q j=posP P j:=by
 have e:∀ L:List PostD,posP L j=(L.map fun p=>(p.to,p.toL,p.pos)).findIdx? fun t=>t.2.2==j:=fun L=>by rw [posP,List.findIdx?_map];rfl
 rw [e,e,h.to]
theorem PostTo.mem {P Q:List PostD} (h:PostTo P Q) {p:PostD} (hp:p∈Q):∃ q∈P,q.to=p.to∧q.toL=p.toL:=by
 have h1:(p.to,p.toL,p.pos)∈Q.map fun p=>(p.to,p.toL,p.pos):=List.mem_map_of_mem (f:=fun p:PostD=>(p.to,p.toL,p.pos)) hp
 rw [h.to] at h1
 obtain ⟨q,hq,e⟩:=List.mem_map.1 h1
 simp only [Prod.mk.injEq] at e
 exact ⟨q,hq,e.1,e.2.1⟩
structure OfI (c:ChainD) (P:List PostD) where
 k:Nat
 hk:k≤c.actsL.length
 Q:List PostD
 hQ:Q.map PostD.can=ofP c k
 hT:PostTo P Q
end Go.Proofs.YtcdilibijnboeaaGreatDoor
namespace Go.Proofs.YtcdilibijnboeaaGreatDoor
open Go Go.Proofs Sy
def isPost (id:ByteArray) (p:PostD):Bool:=seqB p.id id
structure FinI (l:List ChainD) (id:ByteArray) where
 k:Nat
 hk:k≤l.length
 no:∀ i x,i<k→l[i]?=some x→∀ q∈postsV x,isPost id q=false
structure FinJ (P:List PostD) (id:ByteArray) where
 j:Nat
 hj:j≤P.length
 no:∀ i q,i<j→P[i]?=some q→isPost id q=false
end Go.Proofs.YtcdilibijnboeaaGreatDoor

namespace Go.Proofs.YtcdilibijnboeaaGreatDoor
open Go Go.Proofs Sy
def gOk (a:ActD) (sc:Int) (g:ByteArray) (nx:Nat):Bool:=decide (a.kind=16)&&decide (a.scope=sc)&&seqB a.group g&&decide (a.epoch=(nx:Int))
def grantF (l:List ActD) (sc:Int) (g:ByteArray):Nat→Nat×Nat
 | 0=>(0,0)
 | i+1=>bif gOk (l.getD i ActD.zero) sc g (grantF l sc g i).2 then (i,(grantF l sc g i).2+1) else grantF l sc g i
def grantV (l:List ActD) (n sc:Int) (g:ByteArray):Nat×Nat:=grantF l sc g (limN n l.length)
def epochO (l:List ActD) (n sc:Int) (g:ByteArray):Option ActD:=bif decide ((0:Int)<((grantV l n sc g).2:Nat)) then l[(grantV l n sc g).1]? else none
theorem zH {e n:Nat} {v:Value} {ss:List ByteArray}:Ct Tryz.prog 47 #[v] [orow e 1 v n (ss.map encB)] (fun _=>True) fun u R _=>∃ A c,u=.slice A (compB ss).length c∧R=[orow e 1 u (compB ss).length ((compB ss).map encB)]:=by
 have h:=compS_c.ct (e:=e) (n:=n) (v:=v) (ss:=ss.map bl)
 rw [qE ss]
 refine h.mono fun u R X' ⟨A,c,h1,h2⟩=>⟨A,c,?_,?_⟩
 · rw [h1];simp [compB]
 · rw [h2,io,compB];simp
def circF (l:List ActD) (g:ByteArray):Nat→Option ActD
 | 0=>none
 | i+1=>bif decide ((l.getD i ActD.zero).kind=15)&&seqB (l.getD i ActD.zero).group g then some (l.getD i ActD.zero) else circF l g i
def listOf (c:ChainD) (n sc:Int) (g:ByteArray) (toL:List ByteArray):List ByteArray :=
 bif decide (sc=1) then sortB (tieV c.actsL n).a else bif decide (sc=2) then ((circF c.actsL g (limN n c.actsL.length)).map (·.toL)).getD [] else bif decide (sc=3) then toL else []
def keepM (c:ChainD) (bs:List ByteArray) (x:ByteArray):Bool:=!seqB x c.id&&!hasS bs x
def membersV (c:ChainD) (n sc:Int) (g:ByteArray) (toL:List ByteArray):List ByteArray:=compB (sortB ((listOf c n sc g toL).filter (keepM c (sortB (tieV c.actsL n).b))))
structure FilS (m:Nat) where
 k:Nat
 hk:k≤m
 A:Option Addr
 c:Nat
end Go.Proofs.YtcdilibijnboeaaGreatDoor



namespace Go.Proofs.YtcdilibijnboeaaGreatDoor
open Go Go.Proofs Sy
def wellA (c:ChainD) (i:Int) (a:ActD):Bool:=(postK a.kind||decide (a.kind=14))&&(decide (a.scope=1)||decide (a.scope=2)||decide (a.scope=3))&&(match epochO c.actsL i a.scope a.group with
 | some e=>decide (e.epoch=a.epoch)&&eqL e.toL (membersV c i a.scope a.group a.toL)
 | none=>false)
def wellV (c:ChainD) (i:Int):Bool:=decide (0≤i)&&(match c.actsL[i.toNat]? with
 | some a=>wellA c i a
 | none=>false)
structure Agree (n:Nat) (l l':List ActD):Prop where
 at_:∀ k,k<n→l[k]?=l'[k]?
 left:n≤l.length
 right:n≤l'.length
theorem Agree.getD {n:Nat} {l l':List ActD} (h:Agree n l l') {k:Nat} (hk:k<n):l.getD k ActD.zero=l'.getD k ActD.zero:=by
 rw [ZL,ZL,h.at_ k hk]
theorem Agree.symm {n:Nat} {l l':List ActD} (h:Agree n l l'):Agree n l' l:=⟨fun k hk=>(h.at_ k hk).symm,h.right,h.left⟩
def rtextV (c:ChainD) (i:Int):Bool:=decide (0≤i)&&(match c.actsL[i.toNat]? with
 | some a=>postK a.kind||decide (a.kind=14)
 | none=>false)
structure ReadF (c:ChainD) (i:Int) (a:ActD) (l:List ByteArray):Prop where
 asc:Asc l
 own:c.id∈l
 mem:∀ x∈l,x≠c.id→x∈membersV c i a.scope a.group a.toL
 len:l.length=1+(bif wellV c i then (membersV c i a.scope a.group a.toL).length else 0)
structure ChOk (c:ChainD):Prop where
 acts:ActsOk c.actsL
 len:c.actsL.length≤1000000
 to:∀ x∈c.actsL,x.to.n≤1000000
structure HisI (m:Nat) where
 k:Nat
 hk:k≤m
 A:Option Addr
 c:Nat
structure OwnP (c:ChainD) (p:PostD):Prop where
 author:p.author=c.id
 text:rtextV c (p.pos:Int)=true
 ed:∀ e∈p.edL,rtextV c e=true
section
variable {P:Program} {N:Nat} {av bor:List Nat} {w0:World} {E:Env} {loc:List Res} {X:World→Prop}
end
def accL (vs hs:List Nat):Nat→List Nat
 | 0=>vs
 | i+1=>(accL vs hs i).set i (((accL vs hs i).getD i 0+hs.getD i 0)%4294967296)
theorem rc (vs hs:List Nat):∀ i,(accL vs hs i).length=vs.length
 | 0=>rfl
 | i+1=>by rw [accL,List.length_set,rc vs hs i]
structure RowA (n:Nat) where
 k:Nat
 hk:k≤n
 A:Option Addr
 c:Nat
set_option maxRecDepth 20000 in
set_option maxHeartbeats 8000000 in
theorem rP (sh sb:SlV) (h:S8) (hh:h.Lt) (l:List Nat) (hl:l.length=64) (hb:∀ x∈l,x<256):Mk Tryz.prog 183 #[sh.v,sb.v] (fun w=>U32s w sh h.l∧U8s w sb l) (fun u X'=>∃ s':SlV,u=s'.v∧∀ w,X' w→U32s w s' (mixN h (winN (fW l) 0)).l):=by
 refine cf (args:=[_,_]) _ Tryz.func183 rfl Tryz.ntmps183 rfl fun av bor w0=>?_
 have hwo:=qk sb l hl hb
 refine bK (p:=sh.n=8∧sh.p.isSome=true) (fun w h1=>⟨by rw [gZ (f:=fun n=>.int .u32 (n:Int)) h1.1];rfl,fR (f:=fun n=>.int .u32 (n:Int)) h1.1 (by rw [show h.l.length=8 from rfl];omega)⟩) fun ⟨hsn,hsp⟩=>?_
 have hkl:kN.length=64:=by kernel_rfl
 have hwl:(row2 l 48).length=64:=iK l 48
 repeat' (first|refine ou fun _=>?_|apply ab|apply Qu|apply Qv|refine aj ?_|refine ad ?_|apply Qw|(refine cM (hc:=hwo) (hX:=fun w h=>h.2) fun v1 X1 h1=>?_;obtain ⟨sw,rfl,hW⟩:=h1)|(refine cM (hc:=rW) (hX:=fun _ _=>trivial) fun v2 X2 h2=>?_;obtain ⟨sk,rfl,hK⟩:=h2)|(refine aV (size:=1) (news:=u32n h.l) (q:=sh.n) rfl rfl rfl rfl (fun _=>At.here _) (fun w G=>Ag G.keep.now.1.1.1) ae (by simp only [maxLen];omega) rfl ?_ rfl ?_;(with_reducible rfl);intro A0 c0)|fail)
 rw [hsn]
 refine bK (p:=(sw.n=64∧sw.p.isSome=true)∧(sk.n=64∧sk.p.isSome=true)) (fun w h1=>⟨⟨by rw [gZ (f:=fun n=>.int .u32 (n:Int)) (hW w h1.1.2),hwl],fR (f:=fun n=>.int .u32 (n:Int)) (hW w h1.1.2) ae⟩,⟨by rw [gZ (f:=fun n=>.int .u32 (n:Int)) (hK w h1.2),hkl],fR (f:=fun n=>.int .u32 (n:Int)) (hK w h1.2) ae⟩⟩) fun ⟨⟨hwn,hwp⟩,⟨hkn,hkp⟩⟩=>?_
 refine aT (ι:=RowA 64) (fun i=>⟨[(0,sh.v),(5,sw.v),(6,sk.v),(7,.slice i.A 8 i.c),(8,.int .i64 (i.k:Nat))],[orow 128 1 (.slice i.A 8 i.c) 8 (u32n (rndN (fW l) h i.k).l)],fun w=>(U32s w sh h.l∧U32s w sw (row2 l 48))∧U32s w sk kN⟩) (fun i=>64-i.k) ⟨0,by omega,A0,c0⟩ (ax ⟨rfl,rfl,rfl,rfl,rfl,trivial⟩ (aG _) fun w h1=>⟨⟨h1.1.1.1,hW w h1.1.2⟩,hK w h1.2⟩) fun i=>?_
 obtain ⟨k,hk,A,c⟩:=i
 simp only
 refine cS aJ (fun w h=>cI h ae) fun hAs=>?_
 repeat' (first|apply ab|apply Qu|apply Qv|refine aj ?_|refine ad ?_|refine bj ?_|apply Qx|apply Qw|apply aS|(refine aF (ht:=?_) (hf:=?_);all_goals (intro hx_;first|have:=aO hx_|have:=aQ hx_)))
 · have hlt:k<64:=by omega
   have hLt:=yt (fW l) hh k
   obtain ⟨kk,hkk⟩:∃ x,x=kN.getD k 0:=⟨_,rfl⟩
   obtain ⟨ww,hww⟩:∃ x,x=sN (fW l) 48 k:=⟨_,rfl⟩
   have hgk:∀ w,(U32s w sh h.l∧U32s w sw (row2 l 48))∧U32s w sk kN→CellAt w sk.p k (.int .u32 (kk:Int)):=fun w h1=>hkk▸iJ (f:=fun n=>.int .u32 (n:Int)) h1.2 ae
   have hgw:∀ w,(U32s w sh h.l∧U32s w sw (row2 l 48))∧U32s w sk kN→CellAt w sw.p k (.int .u32 (ww:Int)):=fun w h1=>by
    have h2:=iJ (f:=fun n=>.int .u32 (n:Int)) h1.1.2 (i:=k) ae
    rw [pV l ae,←hww] at h2
    exact h2
   have hnext:rndN (fW l) h (k+1)=roundN (rndN (fW l) h k) kk ww:=by rw [rndN,hkk,hww]
   rw [pW] at hnext
   generalize rndN (fW l) h k=S at *
   obtain ⟨a,b,d,e,f,g,p,q⟩:=S
   obtain ⟨ha,hbb,hd,he,hf,hg,hp,hq⟩:=hLt
   simp only at ha hbb hd he hf hg hp hq hnext
   simp only [S8.l]
   have hn:8=(u32n [a,b,d,e,f,g,p,q]).length:=rfl
   have hg0:(u32n [a,b,d,e,f,g,p,q])[0]?=some (.int .u32 (a:Int)):=rfl
   have hg1:(u32n [a,b,d,e,f,g,p,q])[1]?=some (.int .u32 (b:Int)):=rfl
   have hg2:(u32n [a,b,d,e,f,g,p,q])[2]?=some (.int .u32 (d:Int)):=rfl
   have hg3:(u32n [a,b,d,e,f,g,p,q])[3]?=some (.int .u32 (e:Int)):=rfl
   have hg4:(u32n [a,b,d,e,f,g,p,q])[4]?=some (.int .u32 (f:Int)):=rfl
   have hg5:(u32n [a,b,d,e,f,g,p,q])[5]?=some (.int .u32 (g:Int)):=rfl
   have hg6:(u32n [a,b,d,e,f,g,p,q])[6]?=some (.int .u32 (p:Int)):=rfl
   have hg7:(u32n [a,b,d,e,f,g,p,q])[7]?=some (.int .u32 (q:Int)):=rfl
   have t6:=dA f 6 hf ae ae
   have t11:=dA f 11 hf ae ae
   have t25:=dA f 25 hf ae ae
   have t2:=dA a 2 ha ae ae
   have t13:=dA a 13 ha ae ae
   have t22:=dA a 22 ha ae ae
   have l6:=fJ (n:=6) hf ae ae
   have l11:=fJ (n:=11) hf ae ae
   have l25:=fJ (n:=25) hf ae ae
   have l2:=fJ (n:=2) ha ae ae
   have l13:=fJ (n:=13) ha ae ae
   have l22:=fJ (n:=22) ha ae ae
   have e1:t1N q f g p kk ww=((((q+((rot (2 ^ (32-6)) (2 ^ 6) f ^^^ rot (2 ^ (32-11)) (2 ^ 11) f) ^^^ rot (2 ^ (32-25)) (2 ^ 25) f))%4294967296+((f &&& g) ^^^ ((4294967295 ^^^ f) &&& p)))%4294967296+kk)%4294967296+ww)%4294967296:=rfl
   have e2:t2N a b d=(((rot (2 ^ (32-2)) (2 ^ 2) a ^^^ rot (2 ^ (32-13)) (2 ^ 13) a) ^^^ rot (2 ^ (32-22)) (2 ^ 22) a)+(((a &&& b) ^^^ (a &&& d)) ^^^ (b &&& d)))%4294967296:=rfl
   rw [e1,e2] at hnext
   clear e1 e2
   generalize rot (2 ^ (32-6)) (2 ^ 6) f=r6 at *
   generalize rot (2 ^ (32-11)) (2 ^ 11) f=r11 at *
   generalize rot (2 ^ (32-25)) (2 ^ 25) f=r25 at *
   generalize rot (2 ^ (32-2)) (2 ^ 2) a=r2 at *
   generalize rot (2 ^ (32-13)) (2 ^ 13) a=r13 at *
   generalize rot (2 ^ (32-22)) (2 ^ 22) a=r22 at *
   have x1:=Nat.xor_lt_two_pow (n:=32) l6 l11
   have x3:=Nat.xor_lt_two_pow (n:=32) l2 l13
   have x5:f &&& g<4294967296:=Nat.lt_of_le_of_lt Nat.and_le_left hf
   have x6:4294967295 ^^^ f<4294967296:=Nat.xor_lt_two_pow (n:=32) (by decide) hf
   have x7:(4294967295 ^^^ f) &&& p<4294967296:=Nat.lt_of_le_of_lt Nat.and_le_left x6
   have x8:a &&& b<4294967296:=Nat.lt_of_le_of_lt Nat.and_le_left ha
   have x9:a &&& d<4294967296:=Nat.lt_of_le_of_lt Nat.and_le_left ha
   have x10:b &&& d<4294967296:=Nat.lt_of_le_of_lt Nat.and_le_left hbb
   have x11:(a &&& b) ^^^ (a &&& d)<4294967296:=Nat.xor_lt_two_pow (n:=32) x8 x9
   (refine aU [orow 128 1 (.slice A 8 c) 8 (u32n [a,b,d,e,f,g,p,q])] (fun w=>(U32s w sh h.l∧U32s w sw (row2 l 48))∧U32s w sk kN) al ?_)
   all_goals refine aa 0 ?_<;>(refine aa 1 (hy:=by (apply aN (q:=4);rfl;rfl;omega;omega;assumption;omega)) ?_)<;>(refine aa 2 (hy:=by (apply de;rfl;exact aJ;exact hn;exact hg4)) ?_)<;>refine aa 4 ?_<;>(refine aa 5 (hy:=by (apply aN (q:=4);rfl;rfl;omega;omega;assumption;omega)) ?_)<;>(refine aa 6 (hy:=by (apply de;rfl;exact aJ;exact hn;exact hg4)) ?_)<;>refine aa 9 ?_<;>(refine aa 10 (hy:=by (apply aN (q:=4);rfl;rfl;omega;omega;assumption;omega)) ?_)<;>(refine aa 11 (hy:=by (apply de;rfl;exact aJ;exact hn;exact hg4)) ?_)<;>(refine ag 3 ?_;(refine ao (hc:=t6) (hX:=fun _ _=>trivial) ?_);apply ab;refine ai ?_)<;>(refine ag 7 ?_;(refine ao (hc:=t11) (hX:=fun _ _=>trivial) ?_);apply ab;refine ai ?_)<;>(refine aa 8 (hy:=by (apply gx;rfl;rfl;assumption;assumption)) ?_)<;>(refine ag 12 ?_;(refine ao (hc:=t25) (hX:=fun _ _=>trivial) ?_);apply ab;refine ai ?_)<;>(refine aa 13 (hy:=by (apply gx;rfl;rfl;assumption;assumption)) ?_)<;>refine aa 14 ?_<;>(refine aw ?_)
   apply Qu
   (refine aU [orow 128 1 (.slice A 8 c) 8 (u32n [a,b,d,e,f,g,p,q])] (fun w=>(U32s w sh h.l∧U32s w sw (row2 l 48))∧U32s w sk kN) al ?_)
   all_goals refine aa 0 ?_<;>(refine aa 1 (hy:=by (apply aN (q:=7);rfl;rfl;omega;omega;assumption;omega)) ?_)<;>(refine aa 2 (hy:=by (apply de;rfl;exact aJ;exact hn;exact hg7)) ?_)<;>refine aa 3 ?_<;>(refine aa 4 (hy:=by (apply eF;rfl;rfl)) ?_)<;>refine aa 5 ?_<;>(refine aa 6 (hy:=by (apply aN (q:=4);rfl;rfl;omega;omega;assumption;omega)) ?_)<;>(refine aa 7 (hy:=by (apply de;rfl;exact aJ;exact hn;exact hg4)) ?_)<;>refine aa 8 ?_<;>(refine aa 9 (hy:=by (apply aN (q:=5);rfl;rfl;omega;omega;assumption;omega)) ?_)<;>(refine aa 10 (hy:=by (apply de;rfl;exact aJ;exact hn;exact hg5)) ?_)<;>(refine aa 11 (hy:=by (apply kS;rfl;rfl;assumption;assumption)) ?_)<;>refine aa 12 ?_<;>(refine aa 13 (hy:=by (apply aN (q:=4);rfl;rfl;omega;omega;assumption;omega)) ?_)<;>(refine aa 14 (hy:=by (apply de;rfl;exact aJ;exact hn;exact hg4)) ?_)<;>(refine aa 15 (hy:=by (apply CI;rfl;assumption)) ?_)<;>refine aa 16 ?_<;>(refine aa 17 (hy:=by (apply aN (q:=6);rfl;rfl;omega;omega;assumption;omega)) ?_)<;>(refine aa 18 (hy:=by (apply de;rfl;exact aJ;exact hn;exact hg6)) ?_)<;>(refine aa 19 (hy:=by (apply kS;rfl;rfl;assumption;assumption)) ?_)<;>(refine aa 20 (hy:=by (apply gx;rfl;rfl;assumption;assumption)) ?_)<;>(refine aa 21 (hy:=by (apply eF;rfl;rfl)) ?_)<;>refine aa 22 ?_<;>refine aa 23 ?_<;>(refine aa 24 (hy:=by (apply aN (q:=k);rfl;rfl;omega;omega;assumption;omega)) ?_)<;>(refine aa 25 (hy:=by (apply dT (q:=k) (u:=.int .u32 (kk:Int));rfl;exact hgk)) ?_)<;>(refine aa 26 (hy:=by (apply eF;rfl;rfl)) ?_)<;>refine aa 27 ?_<;>refine aa 28 ?_<;>(refine aa 29 (hy:=by (apply aN (q:=k);rfl;rfl;omega;omega;assumption;omega)) ?_)<;>(refine aa 30 (hy:=by (apply dT (q:=k) (u:=.int .u32 (ww:Int));rfl;exact hgw)) ?_)<;>(refine aa 31 (hy:=by (apply eF;rfl;rfl)) ?_)<;>refine aa 32 ?_<;>(refine aw ?_)
   apply Qu
   (refine aU [orow 128 1 (.slice A 8 c) 8 (u32n [a,b,d,e,f,g,p,q])] (fun w=>(U32s w sh h.l∧U32s w sw (row2 l 48))∧U32s w sk kN) al ?_)
   all_goals refine aa 0 ?_<;>(refine aa 1 (hy:=by (apply aN (q:=0);rfl;rfl;omega;omega;assumption;omega)) ?_)<;>(refine aa 2 (hy:=by (apply de;rfl;exact aJ;exact hn;exact hg0)) ?_)<;>refine aa 4 ?_<;>(refine aa 5 (hy:=by (apply aN (q:=0);rfl;rfl;omega;omega;assumption;omega)) ?_)<;>(refine aa 6 (hy:=by (apply de;rfl;exact aJ;exact hn;exact hg0)) ?_)<;>refine aa 9 ?_<;>(refine aa 10 (hy:=by (apply aN (q:=0);rfl;rfl;omega;omega;assumption;omega)) ?_)<;>(refine aa 11 (hy:=by (apply de;rfl;exact aJ;exact hn;exact hg0)) ?_)<;>(refine ag 3 ?_;(refine ao (hc:=t2) (hX:=fun _ _=>trivial) ?_);apply ab;refine ai ?_)<;>(refine ag 7 ?_;(refine ao (hc:=t13) (hX:=fun _ _=>trivial) ?_);apply ab;refine ai ?_)<;>(refine aa 8 (hy:=by (apply gx;rfl;rfl;assumption;assumption)) ?_)<;>(refine ag 12 ?_;(refine ao (hc:=t22) (hX:=fun _ _=>trivial) ?_);apply ab;refine ai ?_)<;>(refine aa 13 (hy:=by (apply gx;rfl;rfl;assumption;assumption)) ?_)<;>refine aa 14 ?_<;>(refine aw ?_)
   apply Qu
   (refine aU [orow 128 1 (.slice A 8 c) 8 (u32n [a,b,d,e,f,g,p,q])] (fun w=>(U32s w sh h.l∧U32s w sw (row2 l 48))∧U32s w sk kN) al ?_)
   all_goals refine aa 0 ?_<;>refine aa 1 ?_<;>(refine aa 2 (hy:=by (apply aN (q:=0);rfl;rfl;omega;omega;assumption;omega)) ?_)<;>(refine aa 3 (hy:=by (apply de;rfl;exact aJ;exact hn;exact hg0)) ?_)<;>refine aa 4 ?_<;>(refine aa 5 (hy:=by (apply aN (q:=1);rfl;rfl;omega;omega;assumption;omega)) ?_)<;>(refine aa 6 (hy:=by (apply de;rfl;exact aJ;exact hn;exact hg1)) ?_)<;>(refine aa 7 (hy:=by (apply kS;rfl;rfl;assumption;assumption)) ?_)<;>refine aa 8 ?_<;>(refine aa 9 (hy:=by (apply aN (q:=0);rfl;rfl;omega;omega;assumption;omega)) ?_)<;>(refine aa 10 (hy:=by (apply de;rfl;exact aJ;exact hn;exact hg0)) ?_)<;>refine aa 11 ?_<;>(refine aa 12 (hy:=by (apply aN (q:=2);rfl;rfl;omega;omega;assumption;omega)) ?_)<;>(refine aa 13 (hy:=by (apply de;rfl;exact aJ;exact hn;exact hg2)) ?_)<;>(refine aa 14 (hy:=by (apply kS;rfl;rfl;assumption;assumption)) ?_)<;>(refine aa 15 (hy:=by (apply gx;rfl;rfl;assumption;assumption)) ?_)<;>refine aa 16 ?_<;>(refine aa 17 (hy:=by (apply aN (q:=1);rfl;rfl;omega;omega;assumption;omega)) ?_)<;>(refine aa 18 (hy:=by (apply de;rfl;exact aJ;exact hn;exact hg1)) ?_)<;>refine aa 19 ?_<;>(refine aa 20 (hy:=by (apply aN (q:=2);rfl;rfl;omega;omega;assumption;omega)) ?_)<;>(refine aa 21 (hy:=by (apply de;rfl;exact aJ;exact hn;exact hg2)) ?_)<;>(refine aa 22 (hy:=by (apply kS;rfl;rfl;assumption;assumption)) ?_)<;>(refine aa 23 (hy:=by (apply gx;rfl;rfl;assumption;assumption)) ?_)<;>(refine aa 24 (hy:=by (apply eF;rfl;rfl)) ?_)<;>refine aa 25 ?_<;>(refine aw ?_)
   obtain ⟨one,h1⟩:∃ x,x=((((q+((r6 ^^^ r11) ^^^ r25))%4294967296+((f &&& g) ^^^ ((4294967295 ^^^ f) &&& p)))%4294967296+kk)%4294967296+ww)%4294967296:=⟨_,rfl⟩
   obtain ⟨two,h2⟩:∃ x,x=(((r2 ^^^ r13) ^^^ r22)+(((a &&& b) ^^^ (a &&& d)) ^^^ (b &&& d)))%4294967296:=⟨_,rfl⟩
   rw [←h1,←h2] at hnext
   rw [←h1,←h2]
   (refine aU [orow 128 1 (.slice A 8 c) 8 (u32n [a,b,d,e,f,g,p,q])] (fun w=>(U32s w sh h.l∧U32s w sw (row2 l 48))∧U32s w sk kN) al ?_)
   all_goals refine aa 0 ?_<;>refine aa 1 ?_<;>(refine aa 2 (hy:=by (apply eF;rfl;rfl)) ?_)<;>refine aa 3 ?_<;>(refine aa 4 (hy:=by (apply aN (q:=0);rfl;rfl;omega;omega;assumption;omega)) ?_)<;>(refine aa 5 (hy:=by (apply de;rfl;exact aJ;exact hn;exact hg0)) ?_)<;>refine aa 6 ?_<;>(refine aa 7 (hy:=by (apply aN (q:=1);rfl;rfl;omega;omega;assumption;omega)) ?_)<;>(refine aa 8 (hy:=by (apply de;rfl;exact aJ;exact hn;exact hg1)) ?_)<;>refine aa 9 ?_<;>(refine aa 10 (hy:=by (apply aN (q:=2);rfl;rfl;omega;omega;assumption;omega)) ?_)<;>(refine aa 11 (hy:=by (apply de;rfl;exact aJ;exact hn;exact hg2)) ?_)<;>refine aa 12 ?_<;>(refine aa 13 (hy:=by (apply aN (q:=3);rfl;rfl;omega;omega;assumption;omega)) ?_)<;>(refine aa 14 (hy:=by (apply de;rfl;exact aJ;exact hn;exact hg3)) ?_)<;>refine aa 15 ?_<;>(refine aa 16 (hy:=by (apply eF;rfl;rfl)) ?_)<;>refine aa 17 ?_<;>(refine aa 18 (hy:=by (apply aN (q:=4);rfl;rfl;omega;omega;assumption;omega)) ?_)<;>(refine aa 19 (hy:=by (apply de;rfl;exact aJ;exact hn;exact hg4)) ?_)<;>refine aa 20 ?_<;>(refine aa 21 (hy:=by (apply aN (q:=5);rfl;rfl;omega;omega;assumption;omega)) ?_)<;>(refine aa 22 (hy:=by (apply de;rfl;exact aJ;exact hn;exact hg5)) ?_)<;>refine aa 23 ?_<;>(refine aa 24 (hy:=by (apply aN (q:=6);rfl;rfl;omega;omega;assumption;omega)) ?_)<;>(refine aa 25 (hy:=by (apply de;rfl;exact aJ;exact hn;exact hg6)) ?_)<;>(refine ag 26 ?_;(refine bX (vs:=u32n [(one+two)%4294967296,a,b,d,(e+one)%4294967296,f,g,p]) fun bb=>?_;refine oq 1 8 rfl (by decide) ?_);apply ab;refine ai ?_)<;>refine aa 27 ?_<;>(refine aw ?_)
   repeat' (first|apply ab|apply Qv|refine aj ?_|refine ad ?_|refine be (h:=?_)|fail)
   exact ⟨(⟨k+1,hlt,some ⟨bb,0,none⟩,8⟩:RowA 64),(by show 64-(k+1)<64-k;omega),ax ⟨rfl,rfl,rfl,rfl,rfl,trivial⟩ (by rw [hnext];exact .cons_cons _ (ZR _)) fun _ h=>h⟩
 · obtain rfl:k=64:=by omega
   have hmix:=DP h (winN (fW l) 0)
   rw [rL] at hmix
   generalize rndN (fW l) h 64=S at *
   refine aT (ι:=RowA 8) (fun i=>⟨[(0,sh.v),(7,.slice A 8 c),(13,.int .i64 (i.k:Nat))],[orow 128 1 (.slice A 8 c) 8 (u32n (accL S.l h.l i.k))],fun w=>U32s w sh h.l⟩) (fun i=>8-i.k) ⟨0,by omega,A,c⟩ (ax ⟨rfl,rfl,rfl,trivial⟩ (aG _) fun _ h=>h.1.1) fun i=>?_
   obtain ⟨k,hk,_,_⟩:=i
   simp only
   have hlen:(accL S.l h.l k).length=8:=rc _ _ k
   repeat' (first|apply ab|apply Qu|apply Qv|refine aj ?_|refine ad ?_|refine bj ?_|apply Qx|apply Qw|apply ar|apply aS|(refine aF (ht:=?_) (hf:=?_);all_goals (intro hx_;first|have:=aO hx_|have:=aQ hx_)))
   · have hlt:k<8:=by omega
     have hn:8=(u32n (accL S.l h.l k)).length:=by rw [pE,hlen]
     obtain ⟨v,hv⟩:∃ v,v=(accL S.l h.l k).getD k 0:=⟨_,rfl⟩
     obtain ⟨u,hu⟩:∃ u,u=h.l.getD k 0:=⟨_,rfl⟩
     have hg:(u32n (accL S.l h.l k))[k]?=some (.int .u32 (v:Int)):=by rw [pF ae,hv]
     have hget:∀ w,U32s w sh h.l→CellAt w sh.p k (.int .u32 (u:Int)):=fun w h1=>hu▸iJ (f:=fun n=>.int .u32 (n:Int)) h1 (by rw [show h.l.length=8 from rfl];exact hlt)
     have hacc:accL S.l h.l (k+1)=(accL S.l h.l k).set k ((v+u)%4294967296):=by rw [accL,hv,hu]
     have hset:=xa (accL S.l h.l k) (i:=k) (v:=(v+u)%4294967296) ae
     rw [←hacc] at hset
     (refine aU [] (fun w=>U32s w sh h.l) al ?_)
     all_goals refine aa 0 ?_<;>refine aa 1 ?_<;>refine aa 2 ?_<;>refine aa 3 ?_<;>(refine aa 4 (hy:=by (apply aN (q:=k);rfl;rfl;omega;omega;assumption;omega)) ?_)<;>refine aa 6 ?_<;>refine aa 7 ?_<;>(refine aa 8 (hy:=by (apply aN (q:=k);rfl;rfl;omega;omega;assumption;omega)) ?_)<;>(refine aa 9 (hy:=by (apply dT (q:=k) (u:=.int .u32 (u:Int));rfl;exact hget)) ?_)<;>(refine ag 5 ?_;(refine am (de rfl aJ hn hg) rfl aE rfl ?_);apply ab;refine ai ?_)<;>(refine aa 10 (hy:=by (apply eF;rfl;rfl)) ?_)<;>(refine aa 11 (hy:=by (apply aN (q:=k);rfl;rfl;omega;omega;assumption;omega)) ?_)<;>(refine ag 12 ?_;(refine oo (A:=A) (m:=8) (c:=c) (e:=128) (size:=1) (i:=k) (xs:=u32n (accL S.l h.l k)) (xs':=u32n (accL S.l h.l (k+1))) (vs:=[.int .u32 (((v+u)%4294967296:Nat):Int)]) (v:=.int .u32 (((v+u)%4294967296:Nat):Int)) al (by rw [Nat.mul_one];rfl) rfl rfl rfl rfl hlt hset (At.here _) rfl aE rfl ?_);apply ab;refine ai ?_)<;>(refine aw ?_)
     repeat' (first|apply ab|apply Qv|refine aj ?_|refine ad ?_|refine be (h:=?_)|fail)
     exact ⟨(⟨k+1,hlt,A,c⟩:RowA 8),(by show 8-(k+1)<8-k;omega),ax ⟨rfl,rfl,rfl,trivial⟩ (aG _) fun _ h=>h⟩
   · obtain rfl:k=8:=by omega
     have he:accL S.l h.l 8=(mixN h (winN (fW l) 0)).l:=by
      rw [hmix]
      obtain ⟨a,b,d,e,f,g,p,q⟩:=S
      obtain ⟨a',b',d',e',f',g',p',q'⟩:=h
      simp only [accL,S8.l,List.set_cons_zero,List.set_cons_succ,List.getD_cons_zero,List.getD_cons_succ,List.cons.injEq,and_true,Qj]
     rw [he]
     exact ak (ap rfl rfl) ⟨⟨A,8,c⟩,rfl,fun w h1=>U32s.of_row (h1.2 (orow 128 1 (.slice A 8 c) 8 (u32n (mixN h (winN (fW l) 0)).l)) aJ) rfl⟩
theorem CT (l:List Nat):u8s (l.map fun (n:Nat)=>(n:Int))=l.map fun (n:Nat)=>(.int .u8 (n:Int):Value):=by simp [u8s]
theorem U8s.of_row {w:World} {e n c:Nat} {A:Option Addr} {l:List Nat} (h:ORow w e 1 (.slice A n c) n (u8s (l.map fun (n:Nat)=>(n:Int)))) (hn:n=l.length):U8s w ⟨A,n,c⟩ l:=by
 have e1:(l.map fun (n:Nat)=>[(.int .u8 (n:Int):Value)]).flatten=u8s (l.map fun (n:Nat)=>(n:Int)):=by
  rw [CT]
  clear h hn
  induction l with
  | nil=>rfl
  | cons a l ih=>rw [Qt,List.flatten_cons,ih];rfl
 rw [←e1] at h
 exact cg h (by rw [Z3,hn]) fun r hr=>by
  obtain ⟨n,_,rfl⟩:=List.mem_map.1 hr
  rfl
theorem U8s.part {w:World} {s:SlV} {l:List Nat} (h:U8s w s l) {i n:Nat} (hi:i+n≤l.length):U8s w ⟨(s.from 1 i).p,n,s.c-i⟩ ((l.drop i).take n):=by
 have h1:=RowsD.drop h (n:=i) (by rw [Z3];omega)
 rw [←List.map_drop] at h1
 have h2:=RowsD.take h1 (n:=n) (by rw [Z3,List.length_drop];omega)
 rw [←List.map_take] at h2
 exact h2
def padI (s:ByteArray):List Int:=endL s++List.replicate (padN (s.size+1)) 0++sizeB s.size 8
theorem Bl (s:ByteArray) (hs:s.size<2305843009213693952):padI s=(padL (nl s)).map fun (n:Nat)=>(n:Int):=by
 rw [padI,endL,jS,padL,dD,pP s.size hs]
 simp
theorem Df (l:List Nat) (h:∀ x∈l,x<256):∀ x∈padL l,x<256:=fun x hx=>by
 rw [padL] at hx
 rcases List.mem_append.1 hx with hx|hx
 · exact h x hx
 · rcases List.mem_cons.1 hx with rfl|hx
   · omega
   · rcases List.mem_append.1 hx with hx|hx
     · rw [(List.mem_replicate.1 hx).2];omega
     · rw [sizeN] at hx
       simp only [Z8,List.not_mem_nil,or_false] at hx
       rcases hx with rfl|rfl|rfl|rfl|rfl|rfl|rfl|rfl<;>exact Nat.mod_lt _ ae
theorem tO (l:List Nat):(padL l).length=l.length+1+padN (l.length+1)+8:=by
 rw [padL]
 simp [sizeN]
 omega
theorem r3 (l:List Nat):(padL l).length%64=0:=by
 rw [tO,padN]
 omega
section
variable {P:Program} {N:Nat} {av bor:List Nat} {w0:World} {st:St} {ty:TypeId} {x y z:Operand} {t t2:TypeId} {a b:Nat}
theorem wO (hx:ev st.env x=some (.int .i64 (a:Int))) (hy:ev st.env y=some (.int .i64 (b:Int))) (hc:a+b<9223372036854775808):Sy.Yields P N av bor w0 st (.binOp .add t x y t2) ty (.int .i64 ((a+b:Nat):Int)) :=
 m8 hx hy (by rw [←Int.natCast_add];exact IntWalk.i64_in _ ae)
theorem CD {e size b':Nat} [hI:TySl P t e size b'] {s:SlV} {i n:Nat} (hx:ev st.env x=some s.v) (hy:ev st.env y=some (.int .i64 (i:Int))) (hz:ev st.env z=some (.int .i64 ((i+n:Nat):Int))) (h2:i+n≤s.c) :
  Sy.Yields P N av bor w0 st (.slice t x (some y) (some z) none) ty (⟨(s.from size i).p,n,s.c-i⟩:SlV).v:=by
 have h:=zY (P:=P) (N:=N) (av:=av) (bor:=bor) (w0:=w0) (st:=st) (ty:=ty) (t:=t) (size:=size) hx hy hz ae ae ae
 have e1:((i:Nat):Int).toNat=i:=rfl
 have e2:((i+n:Nat):Int).toNat-i=n:=by omega
 rw [e1,e2] at h
 exact h
end
def outB (S:S8) (i:Nat):Nat:=(S.l.getD (i/4) 0/2 ^ (24-8*(i%4)))%256
theorem B5 (S:S8):digN S=(List.range 32).map (outB S):=by
 obtain ⟨a,b,c,d,e,f,g,h⟩:=S
 simp [digN,d4N,outB,S8.l,List.range,List.range.loop]
structure ShaI (L:List Nat) (m:Nat) where
 k:Nat
 hk:k≤m
 s:SlV
 S:S8
 lt:S.Lt
 run:runN (m-k) S (L.drop (64*k))=runN m iniN L
set_option maxRecDepth 20000 in
set_option maxHeartbeats 8000000 in
theorem nu (s:ByteArray) (hs:s.size≤1099511627776):Pu Tryz.prog 109 #[.string s] (fun _=>True) (.string (shaV s)):=by
 refine ay (args:=[_]) _ Tryz.func109 rfl Tryz.ntmps109 rfl fun av bor w0=>?_
 repeat' (first|apply ab|apply Qu|apply Qv|refine aj ?_|refine ad ?_|refine bX fun _=>?_|(refine ry fun A c=>?_))
 refine aV (size:=1) (z:=.int .u8 0) (news:=u8s [128]) (q:=1) rfl rfl rfl rfl (fun _=>At.there _ (At.here _)) (fun w G=>bo G aJ rfl rfl 1) ?_ ?_ rfl ?_ rfl ?_
 · omega
 · simp only [maxLen];omega
 · rfl
 intro A1 c1
 repeat' (first|apply ab|apply Qu|refine ad ?_|apply Qw|fail)
 have hel:=mv s
 refine aT (ι:=EndS (padN (s.size+1))) (fun i=>⟨[(0,.string s),(3,.slice i.A (s.size+1+i.k) i.c)],[orow 5 1 (.slice i.A (s.size+1+i.k) i.c) (s.size+1+i.k) (u8s (endL s++List.replicate i.k 0))],fun _=>True⟩) (fun i=>padN (s.size+1)-i.k) ⟨0,Nat.zero_le _,A1,c1⟩ (ax ⟨rfl,rfl,trivial⟩ ?_ fun _ h=>h) fun i=>?_
 · refine List.Sublist.cons _ ?_
   rw [←cv]
   simp only [List.replicate_zero,Z9]
   exact aG _
 have hik:=i.hk
 have hp:padN (s.size+1)<64:=Nat.mod_lt _ ae
 have hp2:padN (s.size+1)=(120-(s.size+1)%64)%64:=rfl
 have htm:Int.tmod ((s.size+1+i.k:Nat):Int) 64=(((s.size+1+i.k)%64:Nat):Int):=Int.ofNat_tmod _ _
 repeat' (first|apply Qu|apply Qv|refine aj ?_|refine aW ?_|fail)
 refine fa (hc:=htm) ?_
 repeat' (first|apply ab|apply Qu|apply Qv|refine aj ?_|refine ad ?_|refine df ?_|refine bU ?_|refine bX fun _=>?_|apply Qx|apply Qw|apply aS|refine dK (h:=?_)|refine dS (h:=?_)|(refine aF (ht:=?_) (hf:=?_);all_goals (intro hx_;skip)))
 · have hlt:i.k<padN (s.size+1):=by
    have h1:¬ (((s.size+1+i.k)%64:Nat):Int)=56:=by simpa using hx_
    omega
   refine aV (size:=1) (z:=.int .u8 0) (news:=u8s [0]) (q:=1) rfl rfl rfl rfl (fun _=>At.there _ (At.here _)) (fun w G=>bo G aJ rfl rfl 1) ?_ ?_ rfl ?_ rfl ?_
   · omega
   · simp only [maxLen];omega
   · rfl
   intro A2 c2
   repeat' (first|apply ab|refine ad ?_|fail)
   refine ⟨(⟨i.k+1,hlt,A2,c2⟩:EndS (padN (s.size+1))),(by show padN (s.size+1)-(i.k+1)<padN (s.size+1)-i.k;omega),ax ⟨rfl,rfl,trivial⟩ ?_ fun _ h=>h⟩
   refine List.Sublist.cons _ ?_
   rw [←cv]
   simp only [List.replicate_succ',ZZ]
   exact aG _
 have hk:i.k=padN (s.size+1):=by
  have h1:(((s.size+1+i.k)%64:Nat):Int)=56:=by simpa using hx_
  omega
 have hl1:(endL s++List.replicate (padN (s.size+1)) 0:List Int).length=s.size+1+padN (s.size+1):=by simp [hel]
 rw [hk]
 have hpad:=Bl s ae
 have hplen:(padL (nl s)).length=s.size+1+padN (s.size+1)+8:=by rw [tO,dD]
 rw [padI] at hpad
 have h8:IntKind.u64.wrap (8*IntKind.u64.wrap (s.size:Int))=IntKind.u64.wrap (IntKind.u64.wrap (s.size:Int)*8):=by rw [Int.mul_comm]
 rw [h8]
 generalize hL:(endL s++List.replicate (padN (s.size+1)) 0:List Int)=L0 at *
 refine aT (ι:=EndS 8) (fun j=>⟨[(3,.slice j.A (s.size+1+padN (s.size+1)+j.k) j.c),(4,.int .u64 (IntKind.u64.wrap (IntKind.u64.wrap (s.size:Int)*8))),(5,.int .i64 (56-8*(j.k:Int)))],[orow 5 1 (.slice j.A (s.size+1+padN (s.size+1)+j.k) j.c) (s.size+1+padN (s.size+1)+j.k) (u8s (L0++sizeB s.size j.k))],fun _=>True⟩) (fun j=>8-j.k) ⟨0,Nat.zero_le _,i.A,i.c⟩ (ax ⟨rfl,rfl,rfl,trivial⟩ ?_ fun _ h=>h) fun j=>?_
 · have e:sizeB (s.size:Int) 0=[]:=rfl
   simp only [e,Z9]
   exact aG _
 have hjk:=j.hk
 repeat' (first|apply ab|apply Qu|apply Qv|refine aj ?_|refine da ?_|refine bX fun _=>?_|apply Qx|apply Qw|apply aS|refine eO (h:=?_)|refine dS (h:=?_)|(refine aF (ht:=?_) (hf:=?_);all_goals (intro hx_;first|have:=aO hx_|have:=aQ hx_)))
 · have hlt:j.k<8:=by omega
   refine aV (size:=1) (z:=.int .u8 0) (news:=u8s [IntKind.u8.wrap (shrV .u64 (IntKind.u64.wrap (IntKind.u64.wrap (s.size:Int)*8)) (56-8*(j.k:Int)))]) (q:=1) rfl rfl rfl rfl (fun _=>At.there _ (At.here _)) (fun w G=>bo G aJ rfl rfl 1) ?_ ?_ rfl ?_ rfl ?_
   · omega
   · simp only [maxLen];omega
   · rfl
   intro A2 c2
   repeat' (first|apply ab|apply Qv|refine aj ?_|refine ad ?_|refine cL (h:=?_)|fail)
   refine ⟨(⟨j.k+1,hlt,A2,c2⟩:EndS 8),(by show 8-(j.k+1)<8-j.k;omega),ax ⟨rfl,rfl,?_,trivial⟩ ?_ fun _ h=>h⟩
   · show some (Value.int .i64 (56-8*(j.k:Int)-8))=some (Value.int .i64 (56-8*((j.k+1:Nat):Int)))
     congr 2
     omega
   refine List.Sublist.cons _ ?_
   rw [←cv]
   have e:sizeB (s.size:Int) (j.k+1)=sizeB s.size j.k++[IntKind.u8.wrap (shrV .u64 (IntKind.u64.wrap (IntKind.u64.wrap (s.size:Int)*8)) (56-8*(j.k:Int)))]:=by simp [sizeB,List.range_succ]
   simp only [e,ZZ]
   exact aG _
 have hj8:j.k=8:=by omega
 rw [hj8,hpad]
 obtain ⟨sp,hsp⟩:∃ sp:SlV,sp=⟨j.A,s.size+1+padN (s.size+1)+8,j.c⟩:=⟨_,rfl⟩
 have hLt:=Df (nl s) (iV s)
 have hLm:=r3 (nl s)
 have hsha:=CZ s ae
 rw [shaL] at hsha
 obtain ⟨L,hLL⟩:∃ L,L=padL (nl s):=⟨_,rfl⟩
 rw [←hLL] at hplen hLt hLm hsha
 obtain ⟨m,hm⟩:∃ m,m=L.length/64:=⟨_,rfl⟩
 rw [←hm] at hsha
 have hL64:L.length=64*m:=by omega
 refine cu ?_
 repeat' (first|apply ab|apply Qu|apply Qv|refine ad ?_|apply Qw|(refine cM (hc:=oG) (hX:=fun _ _=>trivial) fun v1 X1 h1=>?_;obtain ⟨sh0,rfl,hw0⟩:=h1)|fail)
 have hspD:∀ w,(True∧(orow 5 1 (.slice j.A (s.size+1+padN (s.size+1)+8) j.c) (s.size+1+padN (s.size+1)+8) (u8s ((padL (nl s)).map fun (n:Nat)=>(n:Int)))).F w)→U8s w sp L:=fun w h=>by
  rw [hsp,hLL]
  exact U8s.of_row h.2 (by rw [←hLL];exact hplen.symm)
 have hp0:0<L.length:=by omega
 refine bK (p:=sp.c≥L.length∧sp.p.isSome=true) (fun w h=>⟨by
  have h1:=RowsD.cap (hspD w h.1)
  have h2:=gZ (f:=fun n=>.int .u8 (n:Int)) (hspD w h.1)
  omega,fR (f:=fun n=>.int .u8 (n:Int)) (hspD w h.1) hp0⟩) fun ⟨hsc,hspp⟩=>?_
 have hspn:sp.n=L.length:=by rw [hsp,hplen]
 have hspv:sp.v=.slice j.A (s.size+1+padN (s.size+1)+8) j.c:=by rw [hsp];rfl
 refine aT (ι:=ShaI L m) (fun i=>⟨[(3,sp.v),(6,i.s.v),(7,.int .i64 ((64*i.k:Nat):Int))],[],fun w=>U8s w sp L∧U32s w i.s i.S.l⟩) (fun i=>m-i.k) ⟨0,Nat.zero_le _,sh0,iniN,Dm,by rw [Nat.mul_zero,List.drop_zero,Nat.sub_zero]⟩ (ax ⟨by rw [hspv];rfl,rfl,rfl,trivial⟩ (aG _) fun w h=>⟨hspD w h.1,hw0 w h.2⟩) fun i=>?_
 obtain ⟨k,hk2,sh,S,hSl,hrun⟩:=i
 simp only
 repeat' (first|refine am (wO (b:=64) rfl rfl ae) rfl aE rfl ?_|apply ab|apply Qu|apply Qv|refine aj ?_|refine ad ?_|refine bj ?_|refine aW ?_|apply Qx|apply Qw|apply aS|(refine aF (ht:=?_) (hf:=?_);all_goals (intro hx_;first|have:=aO hx_|have:=aQ hx_)))
 · have hlt:k<m:=by omega
   have hdl:(L.drop (64*k)).length=64*(m-k):=by rw [List.length_drop];omega
   have hpl:((L.drop (64*k)).take 64).length=64:=by rw [List.length_take];omega
   have hpb:∀ x∈(L.drop (64*k)).take 64,x<256:=fun x hx=>hLt x (List.mem_of_mem_drop (List.mem_of_mem_take hx))
   have hne:=rP sh ⟨(sp.from 1 (64*k)).p,64,sp.c-64*k⟩ S hSl _ hpl hpb
   have hcg:winN (fW ((L.drop (64*k)).take 64)) 0=winN (fW (L.drop (64*k))) 0:=kV fun t ht=>ui t ht
   rw [hcg] at hne
   have hrun2:runN (m-(k+1)) (mixN S (winN (fW (L.drop (64*k))) 0)) (L.drop (64*(k+1)))=runN m iniN L:=by
    have e1:m-k=(m-(k+1))+1:=by omega
    rw [e1,fQ ae,List.drop_drop] at hrun
    rw [show 64*(k+1)=64*k+64 from by omega]
    exact hrun
   repeat' (first|refine am (wO (b:=64) rfl rfl ae) rfl aE rfl ?_|apply ab|apply Qv|refine aj ?_|refine ad ?_|(refine am (CD (size:=1) rfl rfl rfl ae) rfl aE rfl ?_)|(refine cM (hc:=hne) (hX:=fun w h=>⟨h.2,U8s.part h.1 ae⟩) fun v2 X2 h2=>?_;obtain ⟨s2,rfl,hw2⟩:=h2)|fail)
   exact ⟨(⟨k+1,hlt,s2,_,Dj _ _,hrun2⟩:ShaI L m),(by show m-(k+1)<m-k;omega),ax ⟨rfl,rfl,rfl,trivial⟩ (aG _) fun w h=>⟨h.1.1,hw2 w h.2⟩⟩
 · obtain rfl:k=m:=by omega
   rw [Nat.sub_self] at hrun
   have hS:S=runN k iniN L:=hrun
   rw [←hS,B5] at hsha
   refine bK (p:=sh.n=8∧sh.p.isSome=true) (fun w h1=>⟨by rw [gZ (f:=fun n=>.int .u32 (n:Int)) h1.2];rfl,fR (f:=fun n=>.int .u32 (n:Int)) h1.2 (by rw [show S.l.length=8 from rfl];omega)⟩) fun ⟨hsn,hshp⟩=>?_
   refine cY 5 1 ?_
   refine aT (ι:=RowA 32) (fun i=>⟨[(6,sh.v),(8,.slice i.A i.k i.c),(9,.int .i64 (i.k:Nat))],[orow 5 1 (.slice i.A i.k i.c) i.k (u8s (((List.range i.k).map (outB S)).map fun (n:Nat)=>(n:Int)))],fun w=>U32s w sh S.l⟩) (fun i=>32-i.k) ⟨0,by omega,none,0⟩ (ax ⟨rfl,rfl,rfl,trivial⟩ (.cons_cons _ (ZR _)) fun _ h=>h.2) fun i=>?_
   obtain ⟨k2,hk3,A3,c3⟩:=i
   simp only
   clear hspD hrun hLt hLm hplen
   repeat' (first|apply ab|apply Qu|apply Qv|refine aj ?_|refine bj ?_|apply Qx|apply Qw|apply aS|(refine aF (ht:=?_) (hf:=?_);all_goals (intro hx_;first|have:=aO hx_|have:=aQ hx_)))
   · have hlt:k2<32:=by omega
     obtain ⟨q,hq⟩:∃ q,q=k2/4:=⟨_,rfl⟩
     obtain ⟨r,hr⟩:∃ r,r=k2%4:=⟨_,rfl⟩
     have h1:IntKind.i64.wrap ((k2:Int).tdiv 4)=(q:Int):=by
      rw [show (k2:Int).tdiv 4=((k2/4:Nat):Int) from Int.ofNat_tdiv _ _,←hq]
      exact IntWalk.i64_in _ ae
     have h2:(k2:Int).tmod 4=(r:Int):=by rw [show (k2:Int).tmod 4=((k2%4:Nat):Int) from Int.ofNat_tmod _ _,←hr]
     obtain ⟨u,hu⟩:∃ u,u=24-8*r:=⟨_,rfl⟩
     have h3:IntKind.i64.wrap (24-((8*r:Nat):Int))=(u:Int):=by
      rw [show 24-((8*r:Nat):Int)=(u:Int) from by omega]
      exact IntWalk.i64_in _ ae
     obtain ⟨x,hx⟩:∃ x,x=S.l.getD q 0:=⟨_,rfl⟩
     have hx2:x<4294967296:=by
      obtain ⟨a,b,c,d,e,f,g,h⟩:=S
      obtain ⟨ha,hb,hc,hd,he,hf,hg,hh⟩:=hSl
      simp only at ha hb hc hd he hf hg hh
      have:q<8:=by omega
      rw [hx]
      have hq8:q=0∨q=1∨q=2∨q=3∨q=4∨q=5∨q=6∨q=7:=by omega
      rcases hq8 with h|h|h|h|h|h|h|h<;>rw [h]<;>assumption
     have hg:∀ w,U32s w sh S.l→CellAt w sh.p q (.int .u32 (x:Int)):=fun w h=>hx▸iJ (f:=fun n=>.int .u32 (n:Int)) h (by rw [show S.l.length=8 from rfl];omega)
     have hpw:(2:Int) ^ (min ((u:Int)).toNat 32)=((2 ^ u:Nat):Int):=by
      rw [Qr,Nat.min_eq_left (by omega)]
      simp
     have h8w:IntKind.u8.wrap ((x/2 ^ u:Nat):Int)=((outB S k2:Nat):Int):=by rw [wrap8,outB,←hq,←hr,←hu,←hx]
     have hrow:(List.range (k2+1)).map (outB S)=(List.range k2).map (outB S)++[outB S k2]:=by rw [List.range_succ,Qn];rfl
     have hou:outB S k2<256:=Nat.mod_lt _ ae
     generalize outB S k2=ob at *
     repeat' (first|refine am (kL (c:=(q:Int)) rfl rfl (by decide) h1) rfl aE rfl ?_|refine am (mZ (c:=(r:Int)) rfl rfl (by decide) h2) rfl aE rfl ?_|refine am (kP (a:=8) (b:=r) rfl rfl ae) rfl aE rfl ?_|refine am (mY (c:=(u:Int)) rfl rfl h3) rfl aE rfl ?_|refine am (rk (p:=2 ^ u) rfl rfl ae hx2 hpw) rfl aE rfl ?_|refine am (jW rfl h8w) rfl aE rfl ?_|apply ab|apply Qv|refine aj ?_|refine ad ?_|refine be (h:=?_)|refine bX fun _=>?_|(refine bz (q:=q) ?_)|(refine eH (q:=q) (u:=.int .u32 (x:Int)) (hF:=hg) ?_)|(refine aV (size:=1) (z:=.int .u8 0) (news:=u8s [(ob:Int)]) (q:=1) rfl rfl rfl rfl (fun _=>At.there _ (At.here _)) (fun w G=>bo G aJ rfl rfl 1) ae (by simp only [maxLen];omega) rfl ?_ rfl ?_;(with_reducible rfl);intro A4 c4)|fail)
     exact ⟨(⟨k2+1,hlt,A4,c4⟩:RowA 32),(by show 32-(k2+1)<32-k2;omega),ax ⟨rfl,rfl,rfl,trivial⟩ (by rw [hrow,Qn,cv];exact .cons _ (aG _)) fun _ h=>h⟩
   · obtain rfl:k2=32:=by omega
     rw [←hsha]
     refine eI (hm:=aJ) ?_
     repeat' (first|apply ab|refine ad ?_|apply ar|fail)
     refine ak (ap rfl rfl) ?_
     rw [←jS,cP]
theorem zn (s:ByteArray) {i:Nat} (h:i<s.size):(((s.get! i).toNat:Nat):Int)=byteAt s i:=by
 have hs:i<s.data.size:=h
 rw [byteAt,ZL,Array.getElem?_toList,Array.getElem?_eq_getElem hs]
 show (((s.data[i]!).toNat:Nat):Int)=_
 rw [getElem!_pos s.data i hs]
 rfl
theorem B7 {s:ByteArray} {i:Nat} (h:(s.get! i).toNat<128):Utf8.decode s i=((s.get! i).toNat,1):=by
 unfold Utf8.decode
 simp only [Qk,h,Qd]
theorem zz {s:ByteArray} {i:Nat} (h:¬ (s.get! i).toNat<128):128≤(Utf8.decode s i).1:=by
 unfold Utf8.decode
 simp only [Qk,h,Qe]
 repeat' split
 all_goals first
  | (simp only [Utf8.runeError];omega)
  | (simp_all;done)
  | (simp only [ge_iff_le] at *;omega)
  | (simp only [ge_iff_le,ZM,ZT] at *;omega)
theorem jY {bad:Nat→Int→Bool} {s:ByteArray} (hb:∀ q c,128≤c→bad q c=true):∀ f q,s.size≤f+q→runes bad s f q=(List.range' q (s.size-q)).all fun k=>!bad k (byteAt s k)
 | 0,q,h=>by
  rw [runes,show s.size-q=0 from by omega]
  rfl
 | f+1,q,h=>by
  rw [runes]
  by_cases hq:q<s.size
  · rw [ZA hq,ZC]
    have e:s.size-q=(s.size-(q+1))+1:=by omega
    rw [e,List.range'_succ,List.all_cons]
    have hg:=zn s hq
    by_cases hl:(s.get! q).toNat<128
    · rw [B7 hl]
      simp only
      rw [hg]
      cases hbq:bad q (byteAt s q) with
      | true=>rfl
      | false =>
       rw [ZB,jY hb f (q+1) (by omega)]
       rfl
    · have h1:=hb q _ (show (128:Int)≤((Utf8.decode s q).1:Int) by have:=zz hl;omega)
      have h2:=hb q (byteAt s q) (by rw [←hg];omega)
      rw [h1,h2]
      rfl
  · rw [Zn hq,show s.size-q=0 from by omega]
    rfl
theorem np {bad:Nat→Int→Bool} {s:ByteArray} (hb:∀ q c,128≤c→bad q c=true):runes bad s s.size 0=allB s.size fun k=>bad k (byteAt s k):=by
 rw [jY hb s.size 0 ae,allB,List.range_eq_range']
 rfl
def inChr (c l h:Int):Bool:=decide (l≤c)&&decide (c≤h)
theorem iP (c l h:Int):Pu Tryz.prog 237 #[.int .u8 c,.int .u8 l,.int .u8 h] (fun _=>True) (.bool (inChr c l h)):=by
 refine ay (args:=[_,_,_]) _ Tryz.func237 rfl Tryz.ntmps237 rfl fun av bor w0=>?_
 repeat' (first|apply ab|apply Qu|apply Qv|refine aj ?_|refine ad ?_|refine aB ?_|refine aC ?_|refine cB ?_|refine da ?_|refine aL ?_|apply ar|((fail_if_success (refine aZ ?_));refine aP (ht:=?_) (hf:=?_);all_goals (intro hx_;first|have:=aO hx_|have:=aQ hx_))|fail)
 (all_goals (apply ak;apply ap;rfl;rfl));all_goals (simp only [inChr, *,ZQ,ZO,ZC,ZB,ZE,ZD,ZH,ZG,ZK,ZI,ZP,ZJ,ZN,ZF];done)
def badIdR (s:ByteArray) (k:Nat):Bool:=!inChr (byteAt s k) 48 57&&!inChr (byteAt s k) 97 102
theorem zP (s:ByteArray) (k:Nat):badId k (byteAt s k)=badIdR s k:=by
 simp only [badId,badIdR,dig,inChr]
 congr 1
 rw [Bool.not_and,←decide_not,←decide_not]
 congr 1<;>exact decide_eq_decide.2 ae
theorem BD (s:ByteArray):isId s=(allB s.size (badIdR s)&&decide ((s.size:Int)=16)):=by
 rw [isId,np (fun q c h=>by simp only [badId,dig];simp;omega),Bool.and_comm]
 congr 2
 exact funext fun k=>zP s k
theorem fU (s:ByteArray) (hs:s.size≤maxLen):Pu Tryz.prog 207 #[.string s] (fun _=>True) (.bool (isId s)):=by
 refine ay (args:=[_]) _ Tryz.func207 rfl Tryz.ntmps207 rfl fun av bor w0=>?_
 simp only [maxLen] at hs
 rw [BD]
 repeat' (first|apply ab|apply Qu|apply Qv|refine ad ?_|apply Qw|fail)
 refine aT (ι:=Upto s.size (badIdR s)) (fun i=>⟨[(0,.string s),(3,.int .i64 (i.k:Nat))],[],fun w=>True⟩) (fun i=>s.size-i.k) (Upto.zero _ _) (ax ⟨rfl,rfl,trivial⟩ (aG _) fun _ h=>h) fun i=>?_
 have hik:=i.hk
 have e1:((i.k:Nat):Int).toNat=i.k:=rfl
 have hc1:=iP (byteAt s i.k) 48 57
 have hc2:=iP (byteAt s i.k) 97 102
 repeat' (first|apply ab|apply Qu|apply Qv|refine aj ?_|refine ad ?_|refine aB ?_|refine aC ?_|refine bu ?_|refine bM ?_|refine bj ?_|refine bU ?_|refine be (h:=?_)|refine aL ?_|refine Qz ?_|apply Qx|apply Qw|apply ar|apply aS|refine iz ?_|(refine ao (hc:=hc1) ?_)|(refine ao (hc:=hc2) ?_)|((fail_if_success (refine aZ ?_));refine aP (ht:=?_) (hf:=?_);all_goals (intro hx_;skip))|(refine aF (ht:=?_) (hf:=?_);all_goals (intro hx_;first|have:=aO hx_|have:=aQ hx_|skip)))
 all_goals first
  | (refine ak (ap rfl rfl) ?_;rw [dE (k:=i.k) ae (by simp only [badIdR, *,ZQ,ZO,ZC,ZB,ZE,ZD,ZH,ZG,ZK,ZI,ZP,ZJ,ZN,ZF]),ZG])
  | exact ⟨i.next ae (by simp only [badIdR, *,ZQ,ZO,ZC,ZB,ZE,ZD,ZH,ZG,ZK,ZI,ZP,ZJ,ZN,ZF]),(by show s.size-(i.k+1)<s.size-i.k;omega),ax ⟨rfl,rfl,trivial⟩ (aG _) fun _ h=>h⟩
  | (refine ak (ap rfl rfl) ?_;rw [i.all ae,ZD])
def badNameR (s:ByteArray) (k:Nat):Bool:=!inChr (byteAt s k) 97 122&&(decide ((k:Int)=0)||!inChr (byteAt s k) 48 57&&!decide (byteAt s k=95))
theorem vX (s:ByteArray):isName s=(allB s.size (badNameR s)&&(decide (1≤(s.size:Int))&&decide ((s.size:Int)≤24))):=by
 rw [isName,np (fun q c h=>by simp only [badName,dig];simp;omega),dL,Bool.and_comm]
 congr 1
 rw [←decide_not,←decide_not]
 congr 1<;>exact decide_eq_decide.2 ae
theorem ik (s:ByteArray) (hs:s.size≤maxLen):Pu Tryz.prog 239 #[.string s] (fun _=>True) (.bool (isName s)):=by
 refine ay (args:=[_]) _ Tryz.func239 rfl Tryz.ntmps239 rfl fun av bor w0=>?_
 simp only [maxLen] at hs
 rw [vX]
 repeat' (first|apply ab|apply Qu|apply Qv|refine ad ?_|apply Qw|fail)
 refine aT (ι:=Upto s.size (badNameR s)) (fun i=>⟨[(0,.string s),(3,.int .i64 (i.k:Nat))],[],fun w=>True⟩) (fun i=>s.size-i.k) (Upto.zero _ _) (ax ⟨rfl,rfl,trivial⟩ (aG _) fun _ h=>h) fun i=>?_
 have hik:=i.hk
 have e1:((i.k:Nat):Int).toNat=i.k:=rfl
 have hc1:=iP (byteAt s i.k) 97 122
 have hc2:=iP (byteAt s i.k) 48 57
 by_cases hlt:i.k<s.size
 · repeat' (first|apply ab|apply Qu|apply Qv|refine aj ?_|refine ad ?_|refine aB ?_|refine aC ?_|refine bu ?_|refine bM ?_|refine df ?_|refine bj ?_|refine cB ?_|refine da ?_|refine bU ?_|refine be (h:=?_)|refine aL ?_|refine bC ?_|refine eU ?_|refine Qy ?_|refine Qz ?_|apply Qx|apply Qw|apply ar|apply aS|refine iz ?_|(refine ao (hc:=hc1) ?_)|(refine ao (hc:=hc2) ?_)|((fail_if_success (refine aZ ?_));refine aP (ht:=?_) (hf:=?_);all_goals (intro hx_;first|have:=aO hx_|have:=aQ hx_|skip))|(refine aF (ht:=?_) (hf:=?_);all_goals (intro hx_;first|have:=aO hx_|have:=aQ hx_|skip)))
   all_goals simp only [Qr] at *
   all_goals first
    | (exfalso;omega)
    | (refine ak (ap rfl rfl) ?_;rw [dE (k:=i.k) ae (by simp only [badNameR, *,ZQ,ZO,ZC,ZB,ZE,ZD,ZH,ZG,ZK,ZI,ZP,ZJ,ZN,ZF]),ZG])
    | exact ⟨i.next ae (by simp only [badNameR, *,ZQ,ZO,ZC,ZB,ZE,ZD,ZH,ZG,ZK,ZI,ZP,ZJ,ZN,ZF]),(by show s.size-(i.k+1)<s.size-i.k;omega),ax ⟨rfl,rfl,trivial⟩ (aG _) fun _ h=>h⟩
    | skip
 · rw [i.all hlt,ZD]
   repeat' (first|apply ab|apply Qu|apply Qv|refine aj ?_|refine ad ?_|refine aB ?_|refine aC ?_|refine bj ?_|refine cB ?_|refine da ?_|refine bU ?_|refine aL ?_|apply Qx|apply Qw|apply ar|apply aS|refine iz ?_|((fail_if_success (refine aZ ?_));refine aP (ht:=?_) (hf:=?_);all_goals (intro hx_;first|have:=aO hx_|have:=aQ hx_))|(refine aF (ht:=?_) (hf:=?_);all_goals (intro hx_;first|have:=aO hx_|have:=aQ hx_)))
   all_goals first
    | (exfalso;omega)
    | (refine ak (ap rfl rfl) ?_;simp only [*,ZQ,ZO,ZC,ZB,ZE,ZD,ZH,ZG,ZK,ZI,ZP,ZJ,ZN,ZF];done)
end Go.Proofs.YtcdilibijnboeaaGreatDoor
