/- Joined by program out of: Ze Bc Ua Ub Uc Ud Pd Pf Pb Pg Nq Nt Ph Rx Ci Ks Rl Ro Me We Fs Rp Rb Hp Nu Ue Uf Ug Uh Ui. -/
import Derived.Test.YtoefdofbekihdaaGreatDoorV7
set_option linter.unusedVariables false
set_option linter.unusedSimpArgs false
set_option maxHeartbeats 16000000
namespace Go.Proofs.YtoefdofbekihdaaGreatDoor
open Go Go.Proofs Sy
def rightK2 (i:ItemD):Bool:=bif decide (i.kind=0) then rightB i.act else bif decide (i.kind=1) then claimR i.claim else bif decide (i.kind=2) then ballotR i.ballot else bif decide (i.kind=3) then decR i.dec else false
def restI (i:ItemD):ItemD:=bif decide (i.kind=0) then ⟨0,ActD.zero,i.claim,i.ballot,i.dec⟩ else bif decide (i.kind=1) then ⟨0,i.act,ClaimD.zero,i.ballot,i.dec⟩ else bif decide (i.kind=2) then ⟨0,i.act,i.claim,BallotD.zero,i.dec⟩ else bif decide (i.kind=3) then ⟨0,i.act,i.claim,i.ballot,DecD.zero⟩ else ⟨0,i.act,i.claim,i.ballot,i.dec⟩
def rightIt (i:ItemD):Bool:=rightK2 i&&sameIZ (restI i)
set_option maxRecDepth 20000 in
set_option maxHeartbeats 16000000 in
theorem dF (i:ItemD):Pu Tryz.prog 63 #[i.v] (fun w=>i.at_ w) (.bool (rightIt i)):=by
 refine ak (args:=[_]) _ Tryz.func63 rfl Tryz.ntmps63 rfl fun av bor w0=>?_
 by_cases h0:i.kind=0
 · have hri:=dQ i.act
   have hsa:=ff ⟨0,ActD.zero,i.claim,i.ballot,i.dec⟩
   have e:rightIt i=(rightB i.act&&sameIZ ⟨0,ActD.zero,i.claim,i.ballot,i.dec⟩):=by simp [rightIt,rightK2,restI,h0]
   rw [e]
   generalize rightB i.act=rb at *
   generalize sameIZ ⟨0,ActD.zero,i.claim,i.ballot,i.dec⟩=sb at *
   repeat' (first|refine aE (hab:=by omega) ?_|refine aD (hab:=by omega) ?_|(refine ab (hc:=hri) (hX:=fun w h=>h.1) ?_)|(refine ab (hc:=hsa) (hX:=fun _ _=>trivial) ?_)|refine gs ?_|refine gs1 fun _=>?_|(refine aC (cs:=ActD.zero.cells) (hf:=by rfl) ?_)|(refine dB (⟨0,ActD.zero,i.claim,i.ballot,i.dec⟩:ItemD).cells (h:=?_))|(refine aw (vs:=i.act.cells) (hv:=rfl) ?_)|(refine aC (cs:=ItemD.zero.cells) (hf:=by rfl) ?_)|(refine gp ?_ ?_<;>intro hx_ this)|fail)
   all_goals first
    | exact ad (ag rfl rfl) rfl
    | (refine ad (ag rfl rfl) ?_;simp_all;done)
 by_cases h1:i.kind=1
 · have hri:=nr i.claim
   have hsa:=ff ⟨0,i.act,ClaimD.zero,i.ballot,i.dec⟩
   have e:rightIt i=(claimR i.claim&&sameIZ ⟨0,i.act,ClaimD.zero,i.ballot,i.dec⟩):=by simp [rightIt,rightK2,restI,h0,h1]
   rw [e]
   generalize claimR i.claim=rb at *
   generalize sameIZ ⟨0,i.act,ClaimD.zero,i.ballot,i.dec⟩=sb at *
   repeat' (first|refine aE (hab:=by omega) ?_|refine aD (hab:=by omega) ?_|(refine ab (hc:=hri) (hX:=fun _ _=>trivial) ?_)|(refine ab (hc:=hsa) (hX:=fun _ _=>trivial) ?_)|refine gs ?_|refine gs1 fun _=>?_|(refine aC (cs:=ClaimD.zero.cells) (hf:=by rfl) ?_)|(refine dB (⟨0,i.act,ClaimD.zero,i.ballot,i.dec⟩:ItemD).cells (h:=?_))|(refine aw (vs:=i.claim.cells) (hv:=rfl) ?_)|(refine aC (cs:=ItemD.zero.cells) (hf:=by rfl) ?_)|(refine gp ?_ ?_<;>intro hx_ this)|fail)
   all_goals first
    | exact ad (ag rfl rfl) rfl
    | (refine ad (ag rfl rfl) ?_;simp_all;done)
 by_cases h2:i.kind=2
 · have hri:=mr i.ballot
   have hsa:=ff ⟨0,i.act,i.claim,BallotD.zero,i.dec⟩
   have e:rightIt i=(ballotR i.ballot&&sameIZ ⟨0,i.act,i.claim,BallotD.zero,i.dec⟩):=by simp [rightIt,rightK2,restI,h0,h1,h2]
   rw [e]
   generalize ballotR i.ballot=rb at *
   generalize sameIZ ⟨0,i.act,i.claim,BallotD.zero,i.dec⟩=sb at *
   repeat' (first|refine aE (hab:=by omega) ?_|refine aD (hab:=by omega) ?_|(refine ab (hc:=hri) (hX:=fun _ _=>trivial) ?_)|(refine ab (hc:=hsa) (hX:=fun _ _=>trivial) ?_)|refine gs ?_|refine gs1 fun _=>?_|(refine aC (cs:=BallotD.zero.cells) (hf:=by rfl) ?_)|(refine dB (⟨0,i.act,i.claim,BallotD.zero,i.dec⟩:ItemD).cells (h:=?_))|(refine aw (vs:=i.ballot.cells) (hv:=rfl) ?_)|(refine aC (cs:=ItemD.zero.cells) (hf:=by rfl) ?_)|(refine gp ?_ ?_<;>intro hx_ this)|fail)
   all_goals first
    | exact ad (ag rfl rfl) rfl
    | (refine ad (ag rfl rfl) ?_;simp_all;done)
 by_cases h3:i.kind=3
 · have hri:=jP i.dec
   have hsa:=ff ⟨0,i.act,i.claim,i.ballot,DecD.zero⟩
   have e:rightIt i=(decR i.dec&&sameIZ ⟨0,i.act,i.claim,i.ballot,DecD.zero⟩):=by simp [rightIt,rightK2,restI,h0,h1,h2,h3]
   rw [e]
   generalize decR i.dec=rb at *
   generalize sameIZ ⟨0,i.act,i.claim,i.ballot,DecD.zero⟩=sb at *
   repeat' (first|refine aE (hab:=by omega) ?_|refine aD (hab:=by omega) ?_|(refine ab (hc:=hri) (hX:=fun w h=>h.2) ?_)|(refine ab (hc:=hsa) (hX:=fun _ _=>trivial) ?_)|refine gs ?_|refine gs1 fun _=>?_|(refine aC (cs:=DecD.zero.cells) (hf:=by rfl) ?_)|(refine dB (⟨0,i.act,i.claim,i.ballot,DecD.zero⟩:ItemD).cells (h:=?_))|(refine aw (vs:=i.dec.cells) (hv:=rfl) ?_)|(refine aC (cs:=ItemD.zero.cells) (hf:=by rfl) ?_)|(refine gp ?_ ?_<;>intro hx_ this)|fail)
   all_goals first
    | exact ad (ag rfl rfl) rfl
    | (refine ad (ag rfl rfl) ?_;simp_all;done)
 have e:rightIt i=false:=by simp [rightIt,rightK2,h0,h1,h2,h3]
 rw [e]
 repeat' (first|refine aD (hab:=by omega) ?_|refine gs ?_|refine gs1 fun _=>?_|(refine gp ?_ ?_<;>intro hx_ this)|fail)
 all_goals exact ad (ag rfl rfl) rfl
def formCells (nm:ByteArray) (f:Nat) (e s:Int):List Value:=[.string nm,.func (.func f) #[] #[],.int .i64 e,.int .i64 s]
theorem gH {N:Nat} {av bor:List Nat} {w0:World} {st:St} {ty:TypeId} {x:Operand} {nm:ByteArray} {f:Nat} {e s:Int} (hx:ev st.env x=some (.agg (formCells nm f e s).toArray)):Sy.Yields Tryz.prog N av bor w0 st (.field 142 x 2) ty (.agg #[.int .i64 e,.int .i64 s]):=Sy.Yields.mk fun A w ok d pos af g=>by
 have hp:(part 48 (formCells nm f e s).toArray 2).run Tryz.prog w=.ok (.agg #[.int .i64 e,.int .i64 s]) w:=by rw [gQ];rfl
 simp only [formCells] at hx hp
 simp [execOp,ok.eval hx,Instr.field,run_underlying Tryz.underlying142,asAgg,hp]
def nameC:ByteArray:=⟨#[99,108,97,105,109]⟩
theorem mR (it:ItemD) (h:it.kind=1):Pu Tryz.prog 71 #[it.v] (fun _=>True) (.agg (formCells nameC 139 it.claim.e it.claim.s).toArray):=by
 refine ak (args:=[_]) _ Tryz.func71 rfl Tryz.ntmps71 rfl fun av bor w0=>?_
 repeat' (first|refine aE (hab:=by omega) ?_|refine aD (hab:=by omega) ?_|refine gs ?_|refine gs1 fun _=>?_|(refine aw (vs:=[.int .i64 it.claim.e,.int .i64 it.claim.s]) (hv:=rfl) ?_)|(refine aC (cs:=formCells nameC 139 it.claim.e it.claim.s) (hf:=by rfl) ?_)|(refine gp ?_ ?_<;>intro hx_ this)|fail)
 all_goals exact ad (cG rfl rfl aP (by rfl)) rfl
def msgC (x:ClaimD):ByteArray:=textsV [nameC]++coreCl x
set_option maxHeartbeats 8000000 in
theorem C9 (it:ItemD) (h:it.kind=1) (hl:it.claim.Lt) (hz:(msgC it.claim).size≤1099511627776):Pu Tryz.prog 186 #[it.v] (fun _=>True) (.string (msgC it.claim)):=by
 refine ak (args:=[_]) _ Tryz.func186 rfl Tryz.ntmps186 rfl fun av bor w0=>?_
 have hfo:=mR it h
 rw [msgC] at hz ⊢
 rw [Zl] at hz
 have hS:(⟨#[]⟩:ByteArray)++textsV [nameC]=textsV [nameC]:=ByteArray.empty_append
 have hts:(⟨#[]⟩:ByteArray).size+(textsV [nameC]).size≤1099511627776:=by
  rw [←Zl,hS]
  omega
 repeat' (first|(refine ab (hc:=hfo) (hX:=fun _ _=>trivial) ?_)|refine gs ?_|refine gs1 fun _=>?_|(refine gp ?_ ?_<;>intro hx_ this)|fail)
 rename_i bi bf bb bs
 refine bo ?_
 refine fN 5 1 ?_
 refine cZ (l:=bld bb none 0 ⟨#[]⟩++[cel bf 142 (formCells nameC 139 it.claim.e it.claim.s),cel bi 63 it.cells]) (List.Perm.swap _ _ _) ?_
 refine bY (pre:=bld bb none 0 ⟨#[]⟩) (fr:=[cel bf 142 (formCells nameC 139 it.claim.e it.claim.s),cel bi 63 it.cells]) (hc:=eS bb none 0 ⟨#[]⟩ ⟨some ⟨bs,0,none⟩,1,1⟩ [nameC] hts) (hX:=fun w h=>aN (xs:=[[encB nameC]]) h.2 rfl (by decide) (by simp)) (h:=?_)
 rintro v R X' ⟨A1,c1,rfl,rfl⟩
 refine cu (X':=(fun _=>True)) (fun w h=>trivial) ?_
 rw [hS]
 generalize textsV [nameC]=p0 at *
 unfold bld
 repeat' (first|refine gs ?_|refine gs1 fun _=>?_|fail)
 refine bY (pre:=bld bb A1 c1 p0) (fr:=[cel bf 142 (formCells nameC 139 it.claim.e it.claim.s),cel bi 63 it.cells]) (hc:=oF bb A1 c1 p0 it hl hz) (hX:=fun _ _=>trivial) (h:=?_)
 rintro v R X' ⟨A2,c2,rfl,rfl⟩
 unfold bld
 repeat' (first|refine gs ?_|refine gs1 fun _=>?_|fail)
 refine eD (hm:=ZS _ ar) ?_
 repeat' (first|refine gs ?_|refine gs1 fun _=>?_|(refine gp ?_ ?_<;>intro hx_ this)|fail)
 all_goals
  apply ad;apply ag;rfl;rfl
  simp only [cB]
def sgnC (p:Int) (x:ClaimD):Bool:=verN p (msgC x) x.e x.s
theorem pb (p:Int) (it:ItemD) (h:it.kind=1) (hl:it.claim.Lt) (hz:(msgC it.claim).size≤1000000000000):Pu Tryz.prog 124 #[.int .i64 p,it.v] (fun w=>it.at_ w∧Glob w) (.bool (sgnC p it.claim)):=by
 refine ak (args:=[_,_]) _ Tryz.func124 rfl Tryz.ntmps124 rfl fun av bor w0=>?_
 have hms:=C9 it h hl aa
 have hfo:=mR it h
 have hve:=g9 p (msgC it.claim) it.claim.e it.claim.s hz
 rw [sgnC]
 generalize verN p (msgC it.claim) it.claim.e it.claim.s=V at *
 repeat' (first|refine gs ?_|refine gs1 fun _=>?_|(refine gp ?_ ?_<;>intro hx_ this)|fail)
 rename_i b3
 (refine aq ⟨[0,1,3],[(2,⟨[],[(4,⟨[5],[(6,⟨[7],[]⟩)]⟩)]⟩)]⟩ [cel b3 63 it.cells] (fun w=>it.at_ w∧Glob w) (h:=?_))
 all_goals repeat' (first|(refine ab (hc:=hms) (hX:=fun w h=>trivial) ?_)|(refine ab (hc:=hfo) (hX:=fun _ _=>trivial) ?_)|(refine ab (hc:=hve) (hX:=fun w h=>h.2) ?_)|refine gd ?_|refine ax (hy:=by first|(apply gH;rfl)) ?_|refine az ?_ (h':=?_)|exact aA|refine gs1 fun _=>?_|(refine gq ?_ ?_<;>intro hx_ this)|fail)
 all_goals
  repeat' (first|refine gs ?_|refine gs1 fun _=>?_|(refine gp ?_ ?_<;>intro hx_ this)|fail)
  exact ad (ag rfl rfl) rfl
def nameB:ByteArray:=⟨#[98,97,108,108,111,116]⟩
theorem mS (it:ItemD) (h:it.kind=2):Pu Tryz.prog 71 #[it.v] (fun _=>True) (.agg (formCells nameB 140 it.ballot.e it.ballot.s).toArray):=by
 refine ak (args:=[_]) _ Tryz.func71 rfl Tryz.ntmps71 rfl fun av bor w0=>?_
 repeat' (first|refine aE (hab:=by omega) ?_|refine aD (hab:=by omega) ?_|refine gs ?_|refine gs1 fun _=>?_|(refine aw (vs:=[.int .i64 it.ballot.e,.int .i64 it.ballot.s]) (hv:=rfl) ?_)|(refine aC (cs:=formCells nameB 140 it.ballot.e it.ballot.s) (hf:=by rfl) ?_)|(refine gp ?_ ?_<;>intro hx_ this)|fail)
 all_goals exact ad (cG rfl rfl aP (by rfl)) rfl
def msgB (x:BallotD):ByteArray:=textsV [nameB]++coreBa x
set_option maxHeartbeats 8000000 in
theorem Da (it:ItemD) (h:it.kind=2) (hl:it.ballot.Lt) (hz:(msgB it.ballot).size≤1099511627776):Pu Tryz.prog 186 #[it.v] (fun _=>True) (.string (msgB it.ballot)):=by
 refine ak (args:=[_]) _ Tryz.func186 rfl Tryz.ntmps186 rfl fun av bor w0=>?_
 have hfo:=mS it h
 rw [msgB] at hz ⊢
 rw [Zl] at hz
 have hS:(⟨#[]⟩:ByteArray)++textsV [nameB]=textsV [nameB]:=ByteArray.empty_append
 have hts:(⟨#[]⟩:ByteArray).size+(textsV [nameB]).size≤1099511627776:=by
  rw [←Zl,hS]
  omega
 repeat' (first|(refine ab (hc:=hfo) (hX:=fun _ _=>trivial) ?_)|refine gs ?_|refine gs1 fun _=>?_|(refine gp ?_ ?_<;>intro hx_ this)|fail)
 rename_i bi bf bb bs
 refine bo ?_
 refine fN 5 1 ?_
 refine cZ (l:=bld bb none 0 ⟨#[]⟩++[cel bf 142 (formCells nameB 140 it.ballot.e it.ballot.s),cel bi 63 it.cells]) (List.Perm.swap _ _ _) ?_
 refine bY (pre:=bld bb none 0 ⟨#[]⟩) (fr:=[cel bf 142 (formCells nameB 140 it.ballot.e it.ballot.s),cel bi 63 it.cells]) (hc:=eS bb none 0 ⟨#[]⟩ ⟨some ⟨bs,0,none⟩,1,1⟩ [nameB] hts) (hX:=fun w h=>aN (xs:=[[encB nameB]]) h.2 rfl (by decide) (by simp)) (h:=?_)
 rintro v R X' ⟨A1,c1,rfl,rfl⟩
 refine cu (X':=(fun _=>True)) (fun w h=>trivial) ?_
 rw [hS]
 generalize textsV [nameB]=p0 at *
 unfold bld
 repeat' (first|refine gs ?_|refine gs1 fun _=>?_|fail)
 refine bY (pre:=bld bb A1 c1 p0) (fr:=[cel bf 142 (formCells nameB 140 it.ballot.e it.ballot.s),cel bi 63 it.cells]) (hc:=ng bb A1 c1 p0 it hl hz) (hX:=fun _ _=>trivial) (h:=?_)
 rintro v R X' ⟨A2,c2,rfl,rfl⟩
 unfold bld
 repeat' (first|refine gs ?_|refine gs1 fun _=>?_|fail)
 refine eD (hm:=ZS _ ar) ?_
 repeat' (first|refine gs ?_|refine gs1 fun _=>?_|(refine gp ?_ ?_<;>intro hx_ this)|fail)
 all_goals
  apply ad;apply ag;rfl;rfl
  simp only [cB]
def sgnB (p:Int) (x:BallotD):Bool:=verN p (msgB x) x.e x.s
theorem pc (p:Int) (it:ItemD) (h:it.kind=2) (hl:it.ballot.Lt) (hz:(msgB it.ballot).size≤1000000000000):Pu Tryz.prog 124 #[.int .i64 p,it.v] (fun w=>it.at_ w∧Glob w) (.bool (sgnB p it.ballot)):=by
 refine ak (args:=[_,_]) _ Tryz.func124 rfl Tryz.ntmps124 rfl fun av bor w0=>?_
 have hms:=Da it h hl aa
 have hfo:=mS it h
 have hve:=g9 p (msgB it.ballot) it.ballot.e it.ballot.s hz
 rw [sgnB]
 generalize verN p (msgB it.ballot) it.ballot.e it.ballot.s=V at *
 repeat' (first|refine gs ?_|refine gs1 fun _=>?_|(refine gp ?_ ?_<;>intro hx_ this)|fail)
 rename_i b3
 (refine aq ⟨[0,1,3],[(2,⟨[],[(4,⟨[5],[(6,⟨[7],[]⟩)]⟩)]⟩)]⟩ [cel b3 63 it.cells] (fun w=>it.at_ w∧Glob w) (h:=?_))
 all_goals repeat' (first|(refine ab (hc:=hms) (hX:=fun w h=>trivial) ?_)|(refine ab (hc:=hfo) (hX:=fun _ _=>trivial) ?_)|(refine ab (hc:=hve) (hX:=fun w h=>h.2) ?_)|refine gd ?_|refine ax (hy:=by first|(apply gH;rfl)) ?_|refine az ?_ (h':=?_)|exact aA|refine gs1 fun _=>?_|(refine gq ?_ ?_<;>intro hx_ this)|fail)
 all_goals
  repeat' (first|refine gs ?_|refine gs1 fun _=>?_|(refine gp ?_ ?_<;>intro hx_ this)|fail)
  exact ad (ag rfl rfl) rfl
def nameD:ByteArray:=⟨#[100,101,99,105,115,105,111,110]⟩
theorem mQ (it:ItemD) (h:it.kind=3):Pu Tryz.prog 71 #[it.v] (fun _=>True) (.agg (formCells nameD 141 it.dec.e it.dec.s).toArray):=by
 refine ak (args:=[_]) _ Tryz.func71 rfl Tryz.ntmps71 rfl fun av bor w0=>?_
 repeat' (first|refine aE (hab:=by omega) ?_|refine aD (hab:=by omega) ?_|refine gs ?_|refine gs1 fun _=>?_|(refine aw (vs:=[.int .i64 it.dec.e,.int .i64 it.dec.s]) (hv:=rfl) ?_)|(refine aC (cs:=formCells nameD 141 it.dec.e it.dec.s) (hf:=by rfl) ?_)|(refine gp ?_ ?_<;>intro hx_ this)|fail)
 all_goals exact ad (cG rfl rfl aP (by rfl)) rfl
def msgD (x:DecD):ByteArray:=textsV [nameD]++coreDe x
set_option maxHeartbeats 8000000 in
theorem C8 (it:ItemD) (h:it.kind=3) (hl:it.dec.Lt) (hz:(msgD it.dec).size≤1099511627776):Pu Tryz.prog 186 #[it.v] (fun w=>it.at_ w) (.string (msgD it.dec)):=by
 refine ak (args:=[_]) _ Tryz.func186 rfl Tryz.ntmps186 rfl fun av bor w0=>?_
 have hfo:=mQ it h
 rw [msgD] at hz ⊢
 rw [Zl] at hz
 have hS:(⟨#[]⟩:ByteArray)++textsV [nameD]=textsV [nameD]:=ByteArray.empty_append
 have hts:(⟨#[]⟩:ByteArray).size+(textsV [nameD]).size≤1099511627776:=by
  rw [←Zl,hS]
  omega
 repeat' (first|(refine ab (hc:=hfo) (hX:=fun _ _=>trivial) ?_)|refine gs ?_|refine gs1 fun _=>?_|(refine gp ?_ ?_<;>intro hx_ this)|fail)
 rename_i bi bf bb bs
 refine bo ?_
 refine fN 5 1 ?_
 refine cZ (l:=bld bb none 0 ⟨#[]⟩++[cel bf 142 (formCells nameD 141 it.dec.e it.dec.s),cel bi 63 it.cells]) (List.Perm.swap _ _ _) ?_
 refine bY (pre:=bld bb none 0 ⟨#[]⟩) (fr:=[cel bf 142 (formCells nameD 141 it.dec.e it.dec.s),cel bi 63 it.cells]) (hc:=eS bb none 0 ⟨#[]⟩ ⟨some ⟨bs,0,none⟩,1,1⟩ [nameD] hts) (hX:=fun w h=>aN (xs:=[[encB nameD]]) h.2 rfl (by decide) (by simp)) (h:=?_)
 rintro v R X' ⟨A1,c1,rfl,rfl⟩
 refine cu (X':=(fun w=>it.at_ w)) (fun w h=>h.1.1) ?_
 rw [hS]
 generalize textsV [nameD]=p0 at *
 unfold bld
 repeat' (first|refine gs ?_|refine gs1 fun _=>?_|fail)
 refine bY (pre:=bld bb A1 c1 p0) (fr:=[cel bf 142 (formCells nameD 141 it.dec.e it.dec.s),cel bi 63 it.cells]) (hc:=jx bb A1 c1 p0 it hl hz) (hX:=fun w h=>h) (h:=?_)
 rintro v R X' ⟨A2,c2,rfl,rfl⟩
 unfold bld
 repeat' (first|refine gs ?_|refine gs1 fun _=>?_|fail)
 refine eD (hm:=ZS _ ar) ?_
 repeat' (first|refine gs ?_|refine gs1 fun _=>?_|(refine gp ?_ ?_<;>intro hx_ this)|fail)
 all_goals
  apply ad;apply ag;rfl;rfl
  simp only [cB]
def sgnD (p:Int) (x:DecD):Bool:=verN p (msgD x) x.e x.s
theorem pa (p:Int) (it:ItemD) (h:it.kind=3) (hl:it.dec.Lt) (hz:(msgD it.dec).size≤1000000000000):Pu Tryz.prog 124 #[.int .i64 p,it.v] (fun w=>it.at_ w∧Glob w) (.bool (sgnD p it.dec)):=by
 refine ak (args:=[_,_]) _ Tryz.func124 rfl Tryz.ntmps124 rfl fun av bor w0=>?_
 have hms:=C8 it h hl aa
 have hfo:=mQ it h
 have hve:=g9 p (msgD it.dec) it.dec.e it.dec.s hz
 rw [sgnD]
 generalize verN p (msgD it.dec) it.dec.e it.dec.s=V at *
 repeat' (first|refine gs ?_|refine gs1 fun _=>?_|(refine gp ?_ ?_<;>intro hx_ this)|fail)
 rename_i b3
 (refine aq ⟨[0,1,3],[(2,⟨[],[(4,⟨[5],[(6,⟨[7],[]⟩)]⟩)]⟩)]⟩ [cel b3 63 it.cells] (fun w=>it.at_ w∧Glob w) (h:=?_))
 all_goals repeat' (first|(refine ab (hc:=hms) (hX:=fun w h=>h.1) ?_)|(refine ab (hc:=hfo) (hX:=fun _ _=>trivial) ?_)|(refine ab (hc:=hve) (hX:=fun w h=>h.2) ?_)|refine gd ?_|refine ax (hy:=by first|(apply gH;rfl)) ?_|refine az ?_ (h':=?_)|exact aA|refine gs1 fun _=>?_|(refine gq ?_ ?_<;>intro hx_ this)|fail)
 all_goals
  repeat' (first|refine gs ?_|refine gs1 fun _=>?_|(refine gp ?_ ?_<;>intro hx_ this)|fail)
  exact ad (ag rfl rfl) rfl
section
variable {P:Program} {N:Nat} {av bor:List Nat} {w0:World} {ty:TypeId}
theorem yn {st:St} {x:Operand} {t t2 e b':TypeId} [hs:TySl P t e 1 b'] [he:TyInt P e .u8] [h2:TyStr P t2] {b n:Nat} {ns:List Int} (hx:ev st.env x=some (.slice (some ⟨b,0,none⟩) n n)) (hm:cel b e (u8s ns)∈st.loc) (hn:ns.length=n) (hn2:n≤maxLen) :
  Sy.Yields P N av bor w0 st (.convert t t2 x) ty (.string (ofInts ns)):=Sy.Yields.mk fun A w ok d pos af g=>by
 have hh:w.heap[b]?=some (.cells (u8s ns).toArray e (0,0)):=(ok.gam.here _ hm).now
 have ho:ORow w e 1 (.slice (some ⟨b,0,none⟩) n n) n (u8s ns):=kx hh (by simp [u8s,hn]) hn2
 have hl:(u8s ns).length=n:=by have:=ho.1;omega
 rcases ho.2 with ⟨h,_⟩|⟨g,cap,cur,fz,hv,hg,hnc,hcm,hcs,htake,hfz⟩
 · cases h
 · cases hv
   have hlc:=run_loadCells_list (P:=P) w ⟨b,0,none⟩ (u8s ns) (fun j u hj=>by
    have hadd:(⟨b,0,none⟩:Addr).add j=⟨b,j,none⟩:=by unfold Addr.add;split<;>simp_all
    rw [hadd,cell_of_row w b j cur e fz hg]
    rw [←htake,List.getElem?_take] at hj
    split at hj
    · simpa using hj
    · cases hj)
   rw [hl] at hlc
   have h3:=run_bytesToString (P:=P) w ⟨b,0,none⟩ n n ns hlc
   have h4:=run_convert_bytes_string (P:=P) w t t2 e (some ⟨b,0,none⟩) n n (cH hs.out).1 he.out h2.out
   rw [h3] at h4
   simp [execOp,ok.eval hx,h4,ofInts]
end
section
variable {P:Program} {N:Nat} {av bor:List Nat} {w0:World} {st:St} {ty:TypeId} {x y z:Operand} {t t2:TypeId}
theorem BS {e size b':Nat} [hI:TySl P t e size b'] {s:SlV} {kk kk':IntKind} {i j:Int} (hx:ev st.env x=some s.v) (hy:ev st.env y=some (.int kk i)) (hz:ev st.env z=some (.int kk' j)) (h0:0≤i) (h1:i≤j) (h2:j≤(s.c:Int)) :
  Sy.Yields P N av bor w0 st (.slice t x (some y) (some z) none) ty (.slice (s.from size i.toNat).p (j.toNat-i.toNat) (s.c-i.toNat)):=Sy.Yields.mk fun A w ok d pos af g=>by
 obtain ⟨p,m,c⟩:=s
 obtain ⟨hu,inf,hi,hs,hb⟩:=cH hI.out
 have hsz:=Sy.run_sizeOf (P:=P) (w:=w) (t:=e) (n:=size) (by simp [hi,hs])
 have hx':ev st.env x=some (.slice p m c):=hx
 have h2':j≤(c:Int):=h2
 have hj:0≤j:=by omega
 obtain ⟨j,rfl⟩:=Int.eq_ofNat_of_zero_le hj
 have h2'':j≤c:=by omega
 simp [execOp,ok.eval hx',ok.eval hy,ok.eval hz,Instr.sliceAt,run_underlying hu,Instr.slice,Instr.sliceBounds,run_sliceBound,h0,h1,h2',h2'',hsz,SlV.from]
end
section
variable {P:Program} {N:Nat} {av bor:List Nat} {w0:World} {st:St} {ty:TypeId} {x:Operand} {t:TypeId}
theorem dX {e m i c:Nat} [h:TyOne P t] {A:Option Addr} {vs:List Value} {u:Value} (hx:ev st.env x=some (elP A i)) (hm:orow e 1 (.slice A m c) m vs∈st.loc) (hn:m=vs.length) (hi:vs[i]?=some u) :
  Sy.Yields P N av bor w0 st (.load t x) ty u:=Sy.Yields.mk fun B w ok d pos af g=>by
 have e1:(vs.map fun v=>[v]).flatten=vs:=by
  clear hm hn hi
  induction vs with
  | nil=>rfl
  | cons v vs ih=>rw [Qv,List.flatten_cons,ih];rfl
 have ho:=(ok.gam.here _ hm).now
 have hr:RowsD w 1 ⟨A,m,c⟩ (vs.map fun v=>[v]):=bt (e:=e) (by rw [e1];exact ho) (by rw [Z3];exact hn) fun r hr=>by
  obtain ⟨v,_,rfl⟩:=List.mem_map.1 hr
  rfl
 obtain ⟨h1,hp,hc⟩:=RowsD.row hr i [u] (by rw [List.getElem?_map,hi];rfl)
 have hc0:=hc 0 u rfl
 rw [Nat.mul_one,Qk] at hc0
 obtain ⟨a,rfl⟩:=Option.isSome_iff_exists.1 hp
 simp [execOp,ok.eval hx,elP,Instr.loadAt,Instr.sureAddr,loadVar,(cd h.out w).1,hc0.2 a rfl]
end
section
variable {P:Program} {N:Nat} {av bor:List Nat} {w0:World} {ops:Array Oper} {rest:List Oper} {kk:St→Prop} {E:Env} {loc:List Res} {X:World→Prop} {x y:Operand} {t t2:TypeId}
variable {n:Nat} {ty:TypeId} {pos:String} {af:Array Edge} {g:Option (Nat×Bool)} {bb want:Bool}
theorem sQ {k:IntKind} {a b:Int} [hI:TyInt P t k] (h:Sw P N av bor w0 ops rest ⟨(n,.bool false)::E,loc,X⟩ kk) (hx:ev E x=some (.int k a):=by rfl) (hy:ev E y=some (.int k b):=by rfl) (hab:¬ a<b) (hg:gdB ops E g=some (bb,want):=by rfl) (hbb:bb=want:=by exact am) (hd:Nat.blt n N=true:=by rfl) :
  Sw P N av bor w0 ops (⟨some n,.binOp .lss t x y t2,ty,pos,af,g⟩::rest) ⟨E,loc,X⟩ kk:=bV (hx:=hx) (hy:=hy) (hg:=hg) (hbb:=hbb) (hd:=hd) (h:=by
   have e:∀ u,u=Value.bool false→Sw P N av bor w0 ops rest ⟨(n,u)::E,loc,X⟩ kk:=fun u hu=>hu▸h
   exact e _ (by simp [hab]))
theorem zA {k:IntKind} {a b:Int} [hI:TyInt P t k] (h:Sw P N av bor w0 ops rest ⟨(n,.bool true)::E,loc,X⟩ kk) (hx:ev E x=some (.int k a):=by rfl) (hy:ev E y=some (.int k b):=by rfl) (hab:a<b:=by (first|decide|omega)) (hg:gdB ops E g=some (bb,want):=by rfl) (hbb:bb=want:=by exact am) (hd:Nat.blt n N=true:=by rfl) :
  Sw P N av bor w0 ops (⟨some n,.binOp .lss t x y t2,ty,pos,af,g⟩::rest) ⟨E,loc,X⟩ kk:=bV (hx:=hx) (hy:=hy) (hg:=hg) (hbb:=hbb) (hd:=hd) (h:=by
   have e:∀ u,u=Value.bool true→Sw P N av bor w0 ops rest ⟨(n,u)::E,loc,X⟩ kk:=fun u hu=>hu▸h
   exact e _ (by simp [hab]))
end
theorem gR:∀ (l:List Int) (r:ByteArray),(l.foldl (fun r n=>r.push (UInt8.ofNat n.toNat)) r)=r++ofInts l
 | [],r=>by simp [ofInts]
 | b::l,r=>by
  have e:ofInts (b::l)=ofInts [b]++ofInts l:=by
   conv=>lhs;rw [ofInts,List.foldl_cons,gR l]
   rfl
  rw [List.foldl_cons,gR l,e,←ZV]
  congr 1
  simp [ofInts,ByteArray.ext_iff]
theorem rs (a:Int) (l:List Int):ofInts [a]++ofInts l=ofInts (a::l):=by
 conv=>rhs;rw [ofInts,List.foldl_cons,gR]
 rfl
set_option maxRecDepth 4000 in
theorem refNumD:∀ (f:Nat) (n:Int),0≤n→n<128 ^ f→f≤9→Pu Tryz.prog 88 #[.int .i64 n] (fun _=>True) (.string (ofInts (numD (f+1) n)))
 | f,n,h0,h1,hf=>by
  have hb:(128:Int) ^ f≤9223372036854775808:=by
   have h4:(128:Nat) ^ f≤128 ^ 9:=Nat.pow_le_pow_right aa hf
   have h5:((128 ^ f:Nat):Int)≤((128 ^ 9:Nat):Int):=by exact_mod_cast h4
   have h6:((128 ^ 9:Nat):Int)=9223372036854775808:=by decide
   have h7:((128 ^ f:Nat):Int)=(128:Int) ^ f:=by simp
   omega
  refine ak (args:=[_]) _ Tryz.func88 rfl Tryz.ntmps88 rfl fun av bor w0=>?_
  by_cases hs:128≤n
  · have hf0:f≠0:=fun e=>by rw [e] at h1;simp at h1;omega
    obtain ⟨g,rfl⟩:∃ g,f=g+1:=⟨f-1,by omega⟩
    have ih:=refNumD g (n.tdiv 128) (by rw [Int.tdiv_eq_ediv_of_nonneg h0];omega) (by
     rw [Int.tdiv_eq_ediv_of_nonneg h0]
     rw [Int.pow_succ] at h1
     omega) aa
    rw [rt hs,←rs]
    have hlw:IntKind.u8.wrap (128+n.tmod 128)=lowD n:=rfl
    have ht1:=Int.tmod_lt_of_pos n (b:=128) aa
    have ht2:=Int.tmod_nonneg 128 h0
    have hq:IntKind.i64.wrap (n.tdiv 128)=n.tdiv 128:=IntWalk.i64_in _ (by rw [Int.tdiv_eq_ediv_of_nonneg h0];omega)
    have hsz:=eU [lowD n]
    have hsz2:=mB (g+1) (n.tdiv 128)
    have hsz3:=eU (numD (g+1) (n.tdiv 128))
    simp only [ZY,Qi,Ql] at hsz
    repeat' (first|refine sQ (hab:=by omega) ?_|refine gs ?_|refine gs1 fun _=>?_|(refine gp ?_ ?_<;>intro hx_ this)|fail)
    (refine aS ⟨[0,1,2,3,6,7],[(4,⟨[],[(5,⟨[],[(8,⟨[9,10],[]⟩)]⟩),(8,⟨[],[(5,⟨[9,10],[]⟩)]⟩)]⟩),(8,⟨[],[(4,⟨[],[(5,⟨[9,10],[]⟩)]⟩)]⟩)]⟩ (h:=?_))
    all_goals repeat' (first|(refine ab (hc:=ih) (hX:=fun _ _=>trivial) ?_)|refine gd ?_|refine ax (hy:=by first|(apply nF;rfl;rfl;decide;rfl)|(apply nH;rfl;exact hlw)|(apply lj;rfl;rfl;decide;exact hq)|(apply dq;rfl;rfl;omega)) ?_|refine az ?_ (h':=?_)|exact aA|(refine ai (yn (ns:=[lowD n]) rfl ar rfl (by decide)) rfl am rfl ?_)|(refine dt (vs:=[.int .u8 (lowD n)]) fun _=>?_)|refine gs1 fun _=>?_|(refine gq ?_ ?_<;>intro hx_ this)|fail)
    all_goals
     apply cw_ret
     exact ad (ag rfl rfl) rfl
  · rw [mA hs]
    repeat' (first|refine sQ (hab:=by omega) ?_|refine zA (hab:=by omega) ?_|refine gs ?_|refine gs1 fun _=>?_|(refine ai (yn (ns:=[IntKind.u8.wrap n]) rfl ar rfl (by decide)) rfl am rfl ?_)|(refine gp ?_ ?_<;>intro hx_ this)|fail)
    exact ad (ag rfl rfl) rfl
theorem cj (n:Int) (hn:n<9223372036854775808):Pu Tryz.prog 88 #[.int .i64 n] (fun _=>True) (.string (numV n)):=by
 by_cases h0:0≤n
 · have h:=refNumD 9 n h0 (by rw [show (128:Int) ^ 9=9223372036854775808 from by decide];exact hn) (Qq _)
   rw [numV,Zn (by omega)]
   exact h
 · rw [numV,ZA (by omega)]
   refine ak (args:=[_]) _ Tryz.func88 rfl Tryz.ntmps88 rfl fun av bor w0=>?_
   repeat' (first|refine zA (hab:=by omega) ?_|refine gs ?_|refine gs1 fun _=>?_|(refine gp ?_ ?_<;>intro hx_ this)|fail)
   exact ad (ag rfl rfl) rfl
theorem cW (s:ByteArray) (hs:s.size≤1099511627776):Pu Tryz.prog 85 #[.string s] (fun _=>True) (.string (textV s)):=by
 refine ak (args:=[_]) _ Tryz.func85 rfl Tryz.ntmps85 rfl fun av bor w0=>?_
 have:=ao s.size
 repeat' (first|refine ab (hc:=cj _ aa) ?_|refine gs ?_|(refine mc ?_)|(refine gp ?_ ?_<;>intro hx_ this)|fail)
 exact ad (ag rfl rfl) rfl
theorem ms (s:SlV) (l:List ByteArray) (hs:(listV l).size≤1099511627776):Pu Tryz.prog 153 #[s.v] (fun w=>Strs w s l) (.string (listV l)):=by
 refine ak (args:=[_]) _ Tryz.func153 rfl Tryz.ntmps153 rfl fun av bor w0=>?_
 refine aJ (p:=s.n=l.length∧s.n≤maxLen∧(0<l.length→s.p.isSome=true)) (fun w h=>⟨h.len_,Qr (RowsD.cap h) (RowsD.max h),h.some_⟩) fun ⟨hl,hm,hp⟩=>?_
 simp only [maxLen] at hm
 have hn10:=ao s.n
 have hsz:(numV l.length).size+(cats (l.map textV)).size≤1099511627776:=by rw [←Zl];exact hs
 have h0:numV l.length++cats ((l.map textV).take 0)=numV s.n:=by simp [cats,hl]
 repeat' (first|refine ab (hc:=cj _ aa) ?_|refine gs ?_|(refine gp ?_ ?_<;>intro hx_ this)|fail)
 refine ap (ι:=Kth l.length) (fun i=>⟨[(0,s.v),(3,.string (numV l.length++cats ((l.map textV).take i.k))),(4,.int .i64 (i.k:Nat))],[],fun w=>Strs w s l⟩) (fun i=>l.length-i.k) ⟨0,Nat.zero_le _⟩ (aj ⟨rfl,by rw [h0];rfl,rfl,trivial⟩ (al _) fun _ h=>h) fun i=>?_
 obtain ⟨k,hk⟩:=i
 simp only
 repeat' (first|refine gs ?_|(refine gp ?_ ?_<;>intro hx_ this)|fail)
 · have hlt:k<l.length:=by omega
   have hp':=hp aa
   have hsucc:=fu (l.map textV) (k:=k) (by rw [Z3];exact hlt)
   have hg:(l.map textV).getD k .empty=textV (l.getD k .empty):=by
    rw [ZL,List.getElem?_map,ZL,Zm hlt];rfl
   have hle:=eP (l.map textV) (k+1)
   rw [hsucc,Zl,hg] at hle
   have hte:(textV (l.getD k .empty)).size=(numV (l.getD k .empty).size).size+(l.getD k .empty).size:=by rw [textV,Zl]
   have hca:(numV l.length++cats ((l.map textV).take k)).size=(numV l.length).size+(cats ((l.map textV).take k)).size:=Zl
   repeat' (first|refine ab (hc:=cW _ aa) ?_|refine gs ?_|(refine aH (q:=k) ?_)|(refine dr (hF:=fun w h=>Strs.get h hlt) ?_)|(refine mc ?_)|(refine gp ?_ ?_<;>intro hx_ this)|fail)
   exact ⟨(⟨k+1,hlt⟩:Kth l.length),(by show l.length-(k+1)<l.length-k;omega),aj ⟨rfl,by rw [hsucc,hg,←ZV];rfl,rfl,trivial⟩ (al _) fun _ h=>h⟩
 · have hkE:k=l.length:=by omega
   subst hkE
   exact ad (ag rfl rfl) (by rw [listV,List.take_of_length_le (by rw [Z3];exact Qq _)])
def u32n (l:List Nat):List Value:=l.map fun (n:Nat)=>.int .u32 (n:Int)
def U32s (w:World) (s:SlV) (l:List Nat):Prop:=RowsD w 1 s (l.map fun (n:Nat)=>[.int .u32 (n:Int)])
def U8s (w:World) (s:SlV) (l:List Nat):Prop:=RowsD w 1 s (l.map fun (n:Nat)=>[.int .u8 (n:Int)])
theorem qr (l:List Nat):(u32n l).length=l.length:=by simp [u32n]
theorem qs {l:List Nat} {i:Nat} (h:i<l.length):(u32n l)[i]?=some (.int .u32 ((l.getD i 0:Nat):Int)):=by simp [u32n,h]
theorem iU {w:World} {s:SlV} {l:List Nat} {f:Nat→Value} (h:RowsD w 1 s (l.map fun n=>[f n])) {i:Nat} (hi:i<l.length):CellAt w s.p i (f (l.getD i 0)):=by
 obtain ⟨_,_,hc⟩:=RowsD.row h i [f (l.getD i 0)] (by rw [List.getElem?_map,Zm hi,ZL,Zm hi];rfl)
 have:=hc 0 _ rfl
 rwa [Nat.mul_one,Qk] at this
theorem ij {w:World} {s:SlV} {l:List Nat} {f:Nat→Value} (h:RowsD w 1 s (l.map fun n=>[f n])):s.n=l.length:=by have:=RowsD.len h;simpa using this
theorem fS {w:World} {s:SlV} {l:List Nat} {f:Nat→Value} (h:RowsD w 1 s (l.map fun n=>[f n])) (h0:0<l.length):s.p.isSome=true:=(RowsD.row h 0 [f l[0]] (by rw [List.getElem?_map,Zm h0];rfl)).2.1
theorem U32s.of_row {w:World} {e n c:Nat} {A:Option Addr} {l:List Nat} (h:ORow w e 1 (.slice A n c) n (u32n l)) (hn:n=l.length):U32s w ⟨A,n,c⟩ l:=by
 have e1:(l.map fun (n:Nat)=>[(.int .u32 (n:Int):Value)]).flatten=u32n l:=by
  clear h hn
  induction l with
  | nil=>rfl
  | cons a l ih=>rw [Qv,List.flatten_cons,ih];rfl
 rw [←e1] at h
 exact bt h (by rw [Z3,hn]) fun r hr=>by
  obtain ⟨n,_,rfl⟩:=List.mem_map.1 hr
  rfl
theorem sJ {n:Nat} (h:n<4294967296):IntKind.u32.wrap (n:Int)=(n:Int):=by rw [wrap32,Z0 h]
section
variable {P:Program} {N:Nat} {av bor:List Nat} {w0:World} {st:St} {ty:TypeId} {x y:Operand} {t t2:TypeId} {a b:Nat}
theorem sE (hx:ev st.env x=some (.int .u32 (a:Int))) (hy:ev st.env y=some (.int .u32 (b:Int))) (hc:a*b<4294967296):Sy.Yields P N av bor w0 st (.binOp .mul t x y t2) ty (.int .u32 ((a*b:Nat):Int)) :=
 qj hx hy (by rw [←Int.natCast_mul];exact sJ hc)
theorem ye (hx:ev st.env x=some (.int .i64 (a:Int))) (hy:ev st.env y=some (.int .i64 (b:Int))) (hc:a*b<9223372036854775808):Sy.Yields P N av bor w0 st (.binOp .mul t x y t2) ty (.int .i64 ((a*b:Nat):Int)) :=
 qj hx hy (by rw [←Int.natCast_mul];exact IntWalk.i64_in _ aa)
theorem EA (hx:ev st.env x=some (.int .u32 (a:Int))) (hy:ev st.env y=some (.int .u32 (b:Int))) (hc:a+b<4294967296):Sy.Yields P N av bor w0 st (.binOp .add t x y t2) ty (.int .u32 ((a+b:Nat):Int)) :=
 nJ hx hy (by rw [←Int.natCast_add];exact sJ hc)
theorem lq (hx:ev st.env x=some (.int .u32 (a:Int))) (hy:ev st.env y=some (.int .u32 (b:Int))):Sy.Yields P N av bor w0 st (.binOp .add t x y t2) ty (.int .u32 (((a+b)%4294967296:Nat):Int)) :=
 nJ hx hy (by rw [←Int.natCast_add,wrap32])
theorem li (hx:ev st.env x=some (.int .u32 (a:Int))) (hy:ev st.env y=some (.int .u32 (b:Int))) (ha:a<4294967296) (hb:b<4294967296):Sy.Yields P N av bor w0 st (.binOp .xor t x y t2) ty (.int .u32 ((a ^^^ b:Nat):Int)) :=
 (IsN.xor (x:=(a:Int)) (y:=(b:Int)) ⟨rfl,ha⟩ ⟨rfl,hb⟩).1▸up hx hy
theorem yo (hx:ev st.env x=some (.int .u32 (a:Int))) (hy:ev st.env y=some (.int .u32 (b:Int))) (ha:a<4294967296) (hb:b<4294967296):Sy.Yields P N av bor w0 st (.binOp .and t x y t2) ty (.int .u32 ((a &&& b:Nat):Int)) :=
 (IsN.and (x:=(a:Int)) (y:=(b:Int)) ⟨rfl,ha⟩ ⟨rfl,hb⟩).1▸ql hx hy
theorem sC {k':IntKind} {c:Int} {p:Nat} (hx:ev st.env x=some (.int .u32 (a:Int))) (hy:ev st.env y=some (.int k' c)) (hc:0≤c) (ha:a<4294967296) (hp:(2:Int) ^ (min c.toNat 32)=(p:Int)):Sy.Yields P N av bor w0 st (.binOp .shr t x y t2) ty (.int .u32 ((a/p:Nat):Int)) :=
 (IsN.shr (x:=(a:Int)) ⟨rfl,ha⟩ p hp).1▸qi hx hy hc
theorem Et (hx:ev st.env x=some (.int .u32 (a:Int))) (ha:a<4294967296):Sy.Yields P N av bor w0 st (.unOp .xor t x) ty (.int .u32 ((4294967295 ^^^ a:Nat):Int)):=by
 have hm:IsN (if IntKind.u32.signed then -1 else IntKind.u32.max) 4294967295:=⟨by kernel_rfl,by decide⟩
 exact (hm.xor (y:=(a:Int)) ⟨rfl,ha⟩).1▸sy hx
end
theorem B2 {w:World} {s:SlV} {l:List Nat} (h:U32s w s l):Src Tryz.prog w 1 s.v s.n (u32n l):=by
 have e1:(l.map fun (n:Nat)=>[(.int .u32 (n:Int):Value)]).flatten=u32n l:=by
  clear h
  induction l with
  | nil=>rfl
  | cons a l ih=>rw [Qv,List.flatten_cons,ih];rfl
 have h1:=fP (P:=Tryz.prog) (s:=s) h fun cs hcs=>by
  obtain ⟨n,_,rfl⟩:=List.mem_map.1 hcs
  rfl
 rwa [e1] at h1
theorem yB (l:List Nat) {i v:Nat} (h:i<l.length):(u32n l).take (i*1)++[.int .u32 (v:Int)]++(u32n l).drop (i*1+1)=u32n (l.set i v):=by
 rw [Nat.mul_one,u32n,u32n,List.map_set,List.set_eq_take_append_cons_drop,Qf (by rw [Z3];exact h)]
 simp
theorem EH {m n:Nat} (hm:m<4294967296) (h0:0<n) (hn:n<32):bitsV .or .u32 (shrV .u32 (m:Int) (n:Int)) (shlV .u32 (m:Int) (32-(n:Int)))=((rot (2 ^ (32-n)) (2 ^ n) m:Nat):Int):=by
 have hw:32-(n:Int)=((32-n:Nat):Int):=by omega
 rw [hw]
 have h1:IsN (m:Int) m:=⟨rfl,hm⟩
 have h2:=(h1.shr (c:=(n:Int)) (2 ^ n) (by rw [Qt,Nat.min_eq_left (by omega)];simp)).or (h1.shl (c:=((32-n:Nat):Int)) (2 ^ (32-n)) (by rw [Qt,Nat.min_eq_left (by omega)];simp))
 rw [h2.1,rot,Nat.or_comm]
theorem fH {m n:Nat} (hm:m<4294967296) (h0:0<n) (hn:n<32):rot (2 ^ (32-n)) (2 ^ n) m<4294967296:=by
 have h1:IsN (m:Int) m:=⟨rfl,hm⟩
 have h2:=(h1.shl (c:=((32-n:Nat):Int)) (2 ^ (32-n)) (by rw [Qt,Nat.min_eq_left (by omega)];simp)).or (h1.shr (c:=(n:Int)) (2 ^ n) (by rw [Qt,Nat.min_eq_left (by omega)];simp))
 exact h2.2
theorem dm (m n:Nat) (hm:m<4294967296) (h0:0<n) (hn:n<32):Pu Tryz.prog 157 #[.int .u32 (m:Int),.int .i64 (n:Int)] (fun _=>True) (.int .u32 ((rot (2 ^ (32-n)) (2 ^ n) m:Nat):Int)):=by
 refine ak (args:=[_,_]) _ Tryz.func157 rfl Tryz.ntmps157 rfl fun av bor w0=>?_
 rw [←EH hm h0 hn]
 repeat' (first|refine gs ?_|(refine gp ?_ ?_<;>intro hx_ this)|fail)
 (refine aS ⟨[0,1,2,3,4,5,6,7,8],[]⟩ (h:=?_))
 all_goals repeat' (first|refine gd ?_|refine ax (hy:=by first|(apply uq;rfl;rfl;omega)|(apply qi;rfl;rfl;omega)) ?_|refine az ?_ (h':=?_)|exact aA|(refine gq ?_ ?_<;>intro hx_ this)|fail)
 repeat' (first|refine gs ?_|(refine gp ?_ ?_<;>intro hx_ this)|fail)
 all_goals exact ad (ag rfl rfl) rfl
theorem yt {a b c d:Nat} (ha:a<256) (hb:b<256) (hc:c<256) (hd:d<256):wdN a b c d=a*16777216+b*65536+c*256+d:=by
 rw [wdN,Z0 (show a*16777216<4294967296 by omega),Z0 (show b*65536<4294967296 by omega),Z0 (show c*256<4294967296 by omega)]
 have h1:a*16777216 ||| b*65536=a*16777216+b*65536:=by
  have:=Nat.two_pow_add_eq_or_of_lt (i:=24) (b:=b*65536) aa a
  rw [show a*16777216=2 ^ 24*a from by omega]
  exact this.symm
 have h2:(a*16777216+b*65536) ||| c*256=a*16777216+b*65536+c*256:=by
  have:=Nat.two_pow_add_eq_or_of_lt (i:=16) (b:=c*256) aa (a*256+b)
  rw [show a*16777216+b*65536=2 ^ 16*(a*256+b) from by omega]
  exact this.symm
 have h3:(a*16777216+b*65536+c*256) ||| d=a*16777216+b*65536+c*256+d:=by
  have:=Nat.two_pow_add_eq_or_of_lt (i:=8) (b:=d) aa (a*65536+b*256+c)
  rw [show a*16777216+b*65536+c*256=2 ^ 8*(a*65536+b*256+c) from by omega]
  exact this.symm
 rw [h1,h2,h3]
def row1 (l:List Nat) (k:Nat):List Nat:=(List.range k).map (fW l)
def row2 (l:List Nat) (k:Nat):List Nat:=(List.range (16+k)).map (sN (fW l) k)
theorem wV (l:List Nat) (k:Nat):row1 l (k+1)=row1 l k++[fW l k]:=by rw [row1,row1,List.range_succ,Qn];rfl
theorem wT (l:List Nat):row2 l 0=row1 l 16:=rfl
theorem qJ (l:List Nat) {k t:Nat} (h:t<16+k):(row2 l k).getD t 0=sN (fW l) k t:=by
 rw [row2,ZL,List.getElem?_map,List.getElem?_range h]
 rfl
theorem wU (l:List Nat) (k:Nat):row2 l (k+1)=row2 l k++[nextW (sN (fW l) k k) (sN (fW l) k (k+1)) (sN (fW l) k (k+9)) (sN (fW l) k (k+14))]:=by
 rw [row2,row2,show 16+(k+1)=(16+k)+1 from by omega,List.range_succ,Qn,Qv,List.map_nil,tb]
 congr 1
 refine List.map_congr_left fun t ht=>?_
 exact pf _ (by rw [List.mem_range] at ht;omega)
theorem iV (l:List Nat) (k:Nat):(row2 l k).length=16+k:=by simp [row2]
theorem FI {l:List Nat} (h:∀ x∈l,x<256) (t:Nat):fW l t<4294967296:=by
 have g:=fun i=>fD h i
 rw [fW,yt (g _) (g _) (g _) (g _)]
 have g0:=g (4*t)
 have g1:=g (4*t+1)
 have g2:=g (4*t+2)
 have g3:=g (4*t+3)
 omega
theorem D7 (f:Nat→Nat) (h:∀ t,f t<4294967296):∀ k t,sN f k t<4294967296
 | 0,t=>h t
 | k+1,t=>by
  rw [sN]
  split
  · exact Nat.mod_lt _ aa
  · exact D7 f h k t
structure RowU (n:Nat) where
 k:Nat
 hk:k≤n
 A:Option Addr
 c:Nat
set_option maxRecDepth 20000 in
set_option maxHeartbeats 4000000 in
theorem rf (s:SlV) (l:List Nat) (hl:l.length=64) (hb:∀ x∈l,x<256):Mk Tryz.prog 155 #[s.v] (fun w=>U8s w s l) (fun u X'=>∃ s':SlV,u=s'.v∧∀ w,X' w→U32s w s' (row2 l 48)):=by
 refine bE (args:=[_]) _ Tryz.func155 rfl Tryz.ntmps155 rfl fun av bor w0=>?_
 refine aJ (p:=s.n=64∧s.p.isSome=true) (fun w h=>⟨by rw [ij (f:=fun n=>.int .u8 (n:Int)) h,hl],fS (f:=fun n=>.int .u8 (n:Int)) h aa⟩) fun ⟨hsn,hsp⟩=>?_
 have hg:∀ i,l.getD i 0<256:=fun i=>fD hb i
 repeat' (first|refine gs ?_|refine gs1 fun _=>?_|fail)
 refine cL 145 1 ?_
 refine ap (ι:=RowU 16) (fun i=>⟨[(0,s.v),(3,.slice i.A i.k i.c),(4,.int .i64 (i.k:Nat))],[orow 145 1 (.slice i.A i.k i.c) i.k (u32n (row1 l i.k))],fun w=>U8s w s l⟩) (fun i=>16-i.k) ⟨0,by omega,none,0⟩ (aj ⟨rfl,rfl,rfl,trivial⟩ (.cons_cons _ (ZR _)) fun _ h=>h) fun i=>?_
 obtain ⟨k,hk,A,c⟩:=i
 simp only
 repeat' (first|refine gs ?_|refine gs1 fun _=>?_|(refine gp ?_ ?_<;>intro hx_ this)|fail)
 · have hlt:k<16:=by omega
   have g0:=hg (4*k)
   have g1:=hg (4*k+1)
   have g2:=hg (4*k+2)
   have g3:=hg (4*k+3)
   have hfw:fW l k=l.getD (4*k) 0*16777216+l.getD (4*k+1) 0*65536+l.getD (4*k+2) 0*256+l.getD (4*k+3) 0:=yt g0 g1 g2 g3
   obtain ⟨b0,e0⟩:∃ b,b=l.getD (4*k) 0:=⟨_,rfl⟩
   obtain ⟨b1,e1⟩:∃ b,b=l.getD (4*k+1) 0:=⟨_,rfl⟩
   obtain ⟨b2,e2⟩:∃ b,b=l.getD (4*k+2) 0:=⟨_,rfl⟩
   obtain ⟨b3,e3⟩:∃ b,b=l.getD (4*k+3) 0:=⟨_,rfl⟩
   rw [←e0] at g0 hfw
   rw [←e1] at g1 hfw
   rw [←e2] at g2 hfw
   rw [←e3] at g3 hfw
   have hget:∀ w,U8s w s l→∀ i,i<64→CellAt w s.p i (.int .u8 ((l.getD i 0:Nat):Int)):=fun w h i hi=>iU (f:=fun n=>.int .u8 (n:Int)) h aa
   (refine aq ⟨[0,1,2,3,4,5,6,7,8,9,10,11,12,13,14,15,16,17,18,19,20,21,22,23,24,25,26,27,28,29,30,31,32,33],[(34,⟨[],[(35,⟨[36],[]⟩)]⟩)]⟩ [] (fun w=>U8s w s l) (h:=?_))
   all_goals repeat' (first|refine ax (hy:=by first|(apply EA;rfl;rfl;omega)|(apply nH;rfl;exact sJ aa)) ?_|refine gd ?_|refine ax (hy:=by first|(apply ye (a:=4) (b:=k);rfl;rfl;omega)|(apply sE (b:=16777216);rfl;rfl;omega)|(apply sE (b:=65536);rfl;rfl;omega)|(apply sE (b:=256);rfl;rfl;omega)|(apply aB (q:=4*k);rfl;rfl;omega;omega;assumption;omega)|(apply aB (q:=4*k+1);rfl;rfl;omega;omega;assumption;omega)|(apply aB (q:=4*k+2);rfl;rfl;omega;omega;assumption;omega)|(apply aB (q:=4*k+3);rfl;rfl;omega;omega;assumption;omega)|(apply eI (q:=4*k) (u:=.int .u8 (b0:Int));rfl;exact fun w h=>e0▸hget w h (4*k) aa)|(apply eI (q:=4*k+1) (u:=.int .u8 (b1:Int));rfl;exact fun w h=>e1▸hget w h (4*k+1) aa)|(apply eI (q:=4*k+2) (u:=.int .u8 (b2:Int));rfl;exact fun w h=>e2▸hget w h (4*k+2) aa)|(apply eI (q:=4*k+3) (u:=.int .u8 (b3:Int));rfl;exact fun w h=>e3▸hget w h (4*k+3) aa)) ?_|refine az ?_ (h':=?_)|exact aA|refine dt (vs:=[.int .u32 ((b0*16777216+b1*65536+b2*256+b3:Nat):Int)]) fun _=>?_|(refine iA ?_;refine aF (size:=1) (news:=u32n [b0*16777216+b1*65536+b2*256+b3]) (q:=1) rfl rfl rfl rfl (fun _=>At.there _ (At.here _)) (fun w G=>bJ G ar rfl rfl 1) aa (by simp only [maxLen];omega) rfl ?_ rfl ?_;(first|with_reducible rfl|with_reducible assumption|with_reducible exact ZI|with_reducible exact ZK);intro A2 c2)|refine gs1 fun _=>?_|(refine gq ?_ ?_<;>intro hx_ this)|fail)
   have hrow:=wV l k
   rw [hfw] at hrow
   repeat' (first|refine gs ?_|refine gs1 fun _=>?_|(refine gp ?_ ?_<;>intro hx_ this)|fail)
   exact ⟨(⟨k+1,hlt,A2,c2⟩:RowU 16),(by show 16-(k+1)<16-k;omega),aj ⟨rfl,rfl,rfl,trivial⟩ (by rw [hrow,u32n,Qn];exact .cons _ (al _)) fun _ h=>h⟩
 · obtain rfl:k=16:=by omega
   rw [←wT]
   refine ap (ι:=RowU 48) (fun i=>⟨[(3,.slice i.A (16+i.k) i.c),(5,.int .i64 ((16+i.k:Nat):Int))],[orow 145 1 (.slice i.A (16+i.k) i.c) (16+i.k) (u32n (row2 l i.k))],fun w=>True⟩) (fun i=>48-i.k) ⟨0,by omega,A,c⟩ (aj ⟨rfl,rfl,trivial⟩ (al _) fun _ h=>trivial) fun i=>?_
   obtain ⟨k,hk,A,c⟩:=i
   simp only
   refine cI ar (fun w h=>ck h aa) fun hAs=>?_
   repeat' (first|refine gs ?_|refine gs1 fun _=>?_|(refine gp ?_ ?_<;>intro hx_ this)|fail)
   · have hlt:k<48:=by omega
     have hm:∀ t,sN (fW l) k t<4294967296:=D7 _ (FI hb) k
     have hA:∀ t,t<16+k→(u32n (row2 l k))[t]?=some (.int .u32 ((sN (fW l) k t:Nat):Int)):=fun t h=>by rw [qs (by rw [iV];exact h),qJ l h]
     have hn:16+k=(u32n (row2 l k)).length:=by rw [qr,iV]
     have hg0:=hA k aa
     have hg1:=hA (k+1) aa
     have hg9:=hA (k+9) aa
     have hg14:=hA (k+14) aa
     have hnx:nextW (sN (fW l) k k) (sN (fW l) k (k+1)) (sN (fW l) k (k+9)) (sN (fW l) k (k+14))=(((sN (fW l) k k+s0N (sN (fW l) k (k+1)))%4294967296+sN (fW l) k (k+9))%4294967296+s1N (sN (fW l) k (k+14)))%4294967296:=rfl
     have hrow:=wU l k
     rw [hnx] at hrow
     have m1:=hm (k+1)
     have m14:=hm (k+14)
     obtain ⟨x0,e0⟩:∃ x,x=sN (fW l) k k:=⟨_,rfl⟩
     obtain ⟨x1,e1⟩:∃ x,x=sN (fW l) k (k+1):=⟨_,rfl⟩
     obtain ⟨x9,e9⟩:∃ x,x=sN (fW l) k (k+9):=⟨_,rfl⟩
     obtain ⟨x14,e14⟩:∃ x,x=sN (fW l) k (k+14):=⟨_,rfl⟩
     rw [←e0] at hg0 hrow
     rw [←e1] at hg1 m1 hrow
     rw [←e9] at hg9 hrow
     rw [←e14] at hg14 m14 hrow
     clear hA hm hnx
     have t7:=dm x1 7 m1 aa aa
     have t18:=dm x1 18 m1 aa aa
     have t17:=dm x14 17 m14 aa aa
     have t19:=dm x14 19 m14 aa aa
     have l7:=fH (n:=7) m1 aa aa
     have l18:=fH (n:=18) m1 aa aa
     have l17:=fH (n:=17) m14 aa aa
     have l19:=fH (n:=19) m14 aa aa
     have hs0:s0N x1=(rot (2 ^ (32-7)) (2 ^ 7) x1 ^^^ rot (2 ^ (32-18)) (2 ^ 18) x1) ^^^ (x1/8):=rfl
     have hs1:s1N x14=(rot (2 ^ (32-17)) (2 ^ 17) x14 ^^^ rot (2 ^ (32-19)) (2 ^ 19) x14) ^^^ (x14/1024):=rfl
     rw [hs0,hs1] at hrow
     clear hs0 hs1
     generalize rot (2 ^ (32-7)) (2 ^ 7) x1=r7 at *
     generalize rot (2 ^ (32-18)) (2 ^ 18) x1=r18 at *
     generalize rot (2 ^ (32-17)) (2 ^ 17) x14=r17 at *
     generalize rot (2 ^ (32-19)) (2 ^ 19) x14=r19 at *
     have lx:=Nat.xor_lt_two_pow (n:=32) l7 l18
     have ly:=Nat.xor_lt_two_pow (n:=32) l17 l19
     have d3:x1/8<4294967296:=by omega
     have d10:x14/1024<4294967296:=by omega
     repeat' (first|refine ai (li rfl rfl (by assumption) (by assumption)) rfl am rfl ?_|refine ai (sC (p:=8) rfl rfl (by decide) (by assumption) (by decide)) rfl am rfl ?_|refine ai (sC (p:=1024) rfl rfl (by decide) (by assumption) (by decide)) rfl am rfl ?_|(refine ab (hc:=t7) (hX:=fun _ _=>trivial) ?_)|(refine ab (hc:=t18) (hX:=fun _ _=>trivial) ?_)|(refine ab (hc:=t17) (hX:=fun _ _=>trivial) ?_)|(refine ab (hc:=t19) (hX:=fun _ _=>trivial) ?_)|refine gs ?_|refine gs1 fun _=>?_|(refine aH (q:=k+1) ?_)|(refine aH (q:=k+14) ?_)|(refine ai (dX rfl ar hn hg1) rfl am rfl ?_)|(refine ai (dX rfl ar hn hg14) rfl am rfl ?_)|(refine gp ?_ ?_<;>intro hx_ this)|fail)
     obtain ⟨v,hv⟩:∃ v,v=((((x0+(r7 ^^^ r18 ^^^ x1/8))%4294967296+x9)%4294967296+(r17 ^^^ r19 ^^^ x14/1024))%4294967296):=⟨_,rfl⟩
     rw [←hv] at hrow
     (refine aq ⟨[0,1,2,3,4,6,8,9,10,11,14],[(5,⟨[7],[(12,⟨[13,15],[(16,⟨[],[(17,⟨[18],[]⟩)]⟩)]⟩)]⟩),(12,⟨[],[(5,⟨[7,13,15],[(16,⟨[],[(17,⟨[18],[]⟩)]⟩)]⟩)]⟩)]⟩ [] (fun w=>True) (h:=?_))
     all_goals repeat' (first|refine ax (hy:=by first|(apply lq;rfl;rfl)) ?_|refine gd ?_|refine ax (hy:=by first|(apply aB (q:=k);rfl;rfl;omega;omega;assumption;omega)|(apply aB (q:=k+9);rfl;rfl;omega;omega;assumption;omega)) ?_|refine az ?_ (h':=?_)|exact aA|(refine ai (dX rfl ar hn hg0) rfl am rfl ?_)|(refine ai (dX rfl ar hn hg9) rfl am rfl ?_)|((rw [←hv];refine dt (vs:=[.int .u32 (v:Int)]) fun _=>?_))|(refine iA ?_;refine aF (size:=1) (news:=u32n [v]) (q:=1) rfl rfl rfl rfl (fun _=>At.there _ (At.here _)) (fun w G=>bJ G ar rfl rfl 1) aa (by simp only [maxLen];omega) rfl ?_ rfl ?_;(first|with_reducible rfl|with_reducible assumption|with_reducible exact ZI|with_reducible exact ZK);intro A2 c2)|refine gs1 fun _=>?_|(refine gq ?_ ?_<;>intro hx_ this)|fail)
     all_goals
      repeat' (first|refine gs ?_|refine gs1 fun _=>?_|(refine gp ?_ ?_<;>intro hx_ this)|fail)
      exact ⟨(⟨k+1,hlt,A2,c2⟩:RowU 48),(by show 48-(k+1)<48-k;omega),aj ⟨rfl,rfl,trivial⟩ (by rw [hrow,u32n,Qn];exact .cons _ (al _)) fun _ h=>h⟩
   · obtain rfl:k=48:=by omega
     exact ad (ag rfl rfl) ⟨⟨A,64,c⟩,rfl,fun w h=>U32s.of_row (h.2 (orow 145 1 (.slice A (16+48) c) (16+48) (u32n (row2 l 48))) ar) (by rw [iV])⟩
def S8.l (s:S8):List Nat:=[s.a,s.b,s.c,s.d,s.e,s.f,s.g,s.h]
structure S8.Lt (s:S8):Prop where
 a:s.a<4294967296
 b:s.b<4294967296
 c:s.c<4294967296
 d:s.d<4294967296
 e:s.e<4294967296
 f:s.f<4294967296
 g:s.g<4294967296
 h:s.h<4294967296
theorem qK (s:S8) (k w:Nat):roundN s k w=⟨(t1N s.h s.e s.f s.g k w+t2N s.a s.b s.c)%4294967296,s.a,s.b,s.c,(s.d+t1N s.h s.e s.f s.g k w)%4294967296,s.e,s.f,s.g⟩:=by
 obtain ⟨a,b,c,d,e,f,g,h⟩:=s
 simp only [roundN,mW]
theorem S8.Lt.round {s:S8} (h:s.Lt) (k w:Nat):(roundN s k w).Lt:=by
 rw [qK]
 exact ⟨Nat.mod_lt _ aa,h.a,h.b,h.c,Nat.mod_lt _ aa,h.e,h.f,h.g⟩
def rndN (f:Nat→Nat) (s:S8):Nat→S8
 | 0=>s
 | i+1=>roundN (rndN f s i) (kN.getD i 0) (sN f 48 i)
theorem zZ (f:Nat→Nat) {s:S8} (h:s.Lt):∀ i,(rndN f s i).Lt
 | 0=>h
 | i+1=>(zZ f h i).round _ _
theorem CH (f:Nat→Nat) {i:Nat} (h:i<64):sN f 48 i=sN f i i:=by
 by_cases hi:i≤48
 · have:=iR f (k:=i) (t:=i) (48-i) aa
   rw [show i+(48-i)=48 from by omega] at this
   exact this
 · have:=iR f (k:=48) (t:=i) (i-48) aa
   rw [show 48+(i-48)=i from by omega] at this
   exact this.symm
theorem qM (f:Nat→Nat) (s:S8):∀ i,i≤64→(kN.take i).foldl stepN (s,winN f 0)=(rndN f s i,winN f i)
 | 0,_=>rfl
 | i+1,h=>by
  have hl:kN.length=64:=by kernel_rfl
  have e:kN.take (i+1)=kN.take i++[kN.getD i 0]:=by
   rw [List.take_add_one,ZL,Zm (by omega)]
   rfl
  rw [e,List.foldl_append,qM f s i aa,List.foldl_cons,List.foldl_nil,qy,nK,rndN,CH f (by omega)]
  have hw:(winN f i).w0=sN f i i:=by unfold winN;rfl
  rw [hw]
theorem tc (f:Nat→Nat) (s:S8):roundsN kN s (winN f 0)=rndN f s 64:=by
 have hl:kN.length=64:=by kernel_rfl
 have h:=qM f s 64 (Qq _)
 rw [List.take_of_length_le (by omega)] at h
 rw [roundsN,h]
theorem FG (s:S8) (w:W16):(mixN s w).l=[(s.a+(roundsN kN s w).a)%4294967296,(s.b+(roundsN kN s w).b)%4294967296,(s.c+(roundsN kN s w).c)%4294967296,(s.d+(roundsN kN s w).d)%4294967296,(s.e+(roundsN kN s w).e)%4294967296,(s.f+(roundsN kN s w).f)%4294967296,(s.g+(roundsN kN s w).g)%4294967296,(s.h+(roundsN kN s w).h)%4294967296]:=by
 rw [mixN]
 generalize roundsN kN s w=t
 obtain ⟨a,b,c,d,e,f,g,h⟩:=s
 obtain ⟨a',b',c',d',e',f',g',h'⟩:=t
 simp only [addN,mW,S8.l]
theorem E5 (s:S8) (w:W16):(mixN s w).Lt:=by
 rw [mixN]
 generalize roundsN kN s w=t
 obtain ⟨a,b,c,d,e,f,g,h⟩:=s
 obtain ⟨a',b',c',d',e',f',g',h'⟩:=t
 simp only [addN,mW]
 exact ⟨Nat.mod_lt _ aa,Nat.mod_lt _ aa,Nat.mod_lt _ aa,Nat.mod_lt _ aa,Nat.mod_lt _ aa,Nat.mod_lt _ aa,Nat.mod_lt _ aa,Nat.mod_lt _ aa⟩
theorem Fd:iniN.Lt:=⟨by decide,by decide,by decide,by decide,by decide,by decide,by decide,by decide⟩
set_option maxRecDepth 8000 in
theorem pq:Mk Tryz.prog 92 #[] (fun _=>True) (fun u X'=>∃ s':SlV,u=s'.v∧∀ w,X' w→U32s w s' iniN.l):=by
 refine bE (args:=[]) _ Tryz.func92 rfl Tryz.ntmps92 rfl fun av bor w0=>?_
 repeat' (first|(refine dt (vs:=u32n iniN.l) fun b=>?_;refine o0 1 8 rfl (by decide) ?_)|refine gs ?_|refine gs1 fun _=>?_|(refine gp ?_ ?_<;>intro hx_ this)|fail)
 exact ad (ag rfl rfl) ⟨⟨some ⟨b,0,none⟩,8,8⟩,rfl,fun w h=>U32s.of_row (h.2 _ ar) rfl⟩
set_option maxRecDepth 20000 in
theorem tr:Mk Tryz.prog 156 #[] (fun _=>True) (fun u X'=>∃ s':SlV,u=s'.v∧∀ w,X' w→U32s w s' kN):=by
 refine bE (args:=[]) _ Tryz.func156 rfl Tryz.ntmps156 rfl fun av bor w0=>?_
 repeat' (first|(refine dt (vs:=u32n kN) fun b=>?_;refine o0 1 64 rfl (by decide) ?_)|refine gs ?_|refine gs1 fun _=>?_|(refine gp ?_ ?_<;>intro hx_ this)|fail)
 exact ad (ag rfl rfl) ⟨⟨some ⟨b,0,none⟩,64,64⟩,rfl,fun w h=>U32s.of_row (h.2 _ ar) ae⟩
end Go.Proofs.YtoefdofbekihdaaGreatDoor
set_option maxHeartbeats 16000000
namespace Go.Proofs.YtoefdofbekihdaaGreatDoor
open Go Go.Proofs Sy
section
variable {P:Program} {N:Nat} {av bor:List Nat} {w0:World} {st:St} {ty:TypeId} {x y:Operand} {t t2:TypeId} {k:IntKind}
end
end Go.Proofs.YtoefdofbekihdaaGreatDoor
set_option maxHeartbeats 16000000
namespace Go.Proofs.YtoefdofbekihdaaGreatDoor
open Go Go.Proofs Sy
section
variable {P:Program} {N:Nat} {av bor:List Nat} {w0:World} {ops:Array Oper} {rest:List Oper} {kk:St→Prop} {E:Env} {loc:List Res} {X:World→Prop} {x y:Operand} {t t2:TypeId}
variable {n:Nat} {ty:TypeId} {pos:String} {af:Array Edge} {g:Option (Nat×Bool)} {bb want:Bool}
end
structure PostTo (P Q:List PostD):Prop where
 to:Q.map (fun p=>(p.to,p.toL,p.pos))=P.map fun p=>(p.to,p.toL,p.pos)
end Go.Proofs.YtoefdofbekihdaaGreatDoor
set_option maxHeartbeats 16000000
set_option maxHeartbeats 16000000
namespace Go.Proofs.YtoefdofbekihdaaGreatDoor
open Go Go.Proofs Sy
section
variable {P:Program} {N:Nat} {av bor:List Nat} {w0:World} {E:Env} {loc:List Res} {X:World→Prop} {K:Exit→St→Prop} {c:Code}
end
theorem PostTo.len {P Q:List PostD} (h:PostTo P Q):Q.length=P.length:=by have:=congrArg List.length h.to;simpa using this
theorem PostTo.trans {P Q R:List PostD} (h:PostTo P Q) (k:PostTo Q R):PostTo P R:=⟨k.to.trans h.to⟩
theorem PostTo.pos {P Q:List PostD} (h:PostTo P Q) (j:Nat):posP Q j=posP P j:=by
 have e:∀ L:List PostD,posP L j=(L.map fun p=>(p.to,p.toL,p.pos)).findIdx? fun t=>t.2.2==j:=fun L=>by rw [posP,List.findIdx?_map];rfl
 rw [e,e,h.to]
theorem PostTo.mem {P Q:List PostD} (h:PostTo P Q) {p:PostD} (hp:p∈Q):∃ q∈P,q.to=p.to∧q.toL=p.toL:=by
 have h1:(p.to,p.toL,p.pos)∈Q.map fun p=>(p.to,p.toL,p.pos):=List.mem_map_of_mem (f:=fun p:PostD=>(p.to,p.toL,p.pos)) hp
 rw [h.to] at h1
 obtain ⟨q,hq,e⟩:=List.mem_map.1 h1
 simp only [Prod.mk.injEq] at e
 exact ⟨q,hq,e.1,e.2.1⟩
structure OfI (c:ChainD) (P:List PostD) where
 k:Nat
 hk:k≤c.actsL.length
 Q:List PostD
 hQ:Q.map PostD.can=ofP c k
 hT:PostTo P Q
end Go.Proofs.YtoefdofbekihdaaGreatDoor
set_option maxHeartbeats 16000000
namespace Go.Proofs.YtoefdofbekihdaaGreatDoor
open Go Go.Proofs Sy
def isPost (id:ByteArray) (p:PostD):Bool:=seqB p.id id
structure FinI (l:List ChainD) (id:ByteArray) where
 k:Nat
 hk:k≤l.length
 no:∀ i x,i<k→l[i]?=some x→∀ q∈postsV x,isPost id q=false
structure FinJ (P:List PostD) (id:ByteArray) where
 j:Nat
 hj:j≤P.length
 no:∀ i q,i<j→P[i]?=some q→isPost id q=false
end Go.Proofs.YtoefdofbekihdaaGreatDoor
set_option maxHeartbeats 16000000
set_option maxHeartbeats 16000000
namespace Go.Proofs.YtoefdofbekihdaaGreatDoor
open Go Go.Proofs Sy
def gOk (a:ActD) (sc:Int) (g:ByteArray) (nx:Nat):Bool:=decide (a.kind=16)&&decide (a.scope=sc)&&seqB a.group g&&decide (a.epoch=(nx:Int))
def grantF (l:List ActD) (sc:Int) (g:ByteArray):Nat→Nat×Nat
 | 0=>(0,0)
 | i+1=>bif gOk (l.getD i ActD.zero) sc g (grantF l sc g i).2 then (i,(grantF l sc g i).2+1) else grantF l sc g i
def grantV (l:List ActD) (n sc:Int) (g:ByteArray):Nat×Nat:=grantF l sc g (limN n l.length)
def epochO (l:List ActD) (n sc:Int) (g:ByteArray):Option ActD:=bif decide ((0:Int)<((grantV l n sc g).2:Nat)) then l[(grantV l n sc g).1]? else none
theorem Bv {e n:Nat} {v:Value} {ss:List ByteArray}:Ct Tryz.prog 27 #[v] [orow e 1 v n (ss.map encB)] (fun _=>True) fun u R _=>∃ A c,u=.slice A (compB ss).length c∧R=[orow e 1 u (compB ss).length ((compB ss).map encB)]:=by
 have h:=compS_c.ct (e:=e) (n:=n) (v:=v) (ss:=ss.map bl)
 rw [rJ ss]
 refine h.mono fun u R X' ⟨A,c,h1,h2⟩=>⟨A,c,?_,?_⟩
 · rw [h1];simp [compB]
 · rw [h2,iz,compB];simp
def circF (l:List ActD) (g:ByteArray):Nat→Option ActD
 | 0=>none
 | i+1=>bif decide ((l.getD i ActD.zero).kind=15)&&seqB (l.getD i ActD.zero).group g then some (l.getD i ActD.zero) else circF l g i
def listOf (c:ChainD) (n sc:Int) (g:ByteArray) (toL:List ByteArray):List ByteArray :=
 bif decide (sc=1) then sortB (tieV c.actsL n).a else bif decide (sc=2) then ((circF c.actsL g (limN n c.actsL.length)).map (·.toL)).getD [] else bif decide (sc=3) then toL else []
def keepM (c:ChainD) (bs:List ByteArray) (x:ByteArray):Bool:=!seqB x c.id&&!hasS bs x
def membersV (c:ChainD) (n sc:Int) (g:ByteArray) (toL:List ByteArray):List ByteArray:=compB (sortB ((listOf c n sc g toL).filter (keepM c (sortB (tieV c.actsL n).b))))
structure FilS (m:Nat) where
 k:Nat
 hk:k≤m
 A:Option Addr
 c:Nat
end Go.Proofs.YtoefdofbekihdaaGreatDoor
set_option maxHeartbeats 16000000
set_option maxHeartbeats 16000000
set_option maxHeartbeats 16000000
set_option maxHeartbeats 16000000
namespace Go.Proofs.YtoefdofbekihdaaGreatDoor
open Go Go.Proofs Sy
def wellA (c:ChainD) (i:Int) (a:ActD):Bool:=(postK a.kind||decide (a.kind=14))&&(decide (a.scope=1)||decide (a.scope=2)||decide (a.scope=3))&&(match epochO c.actsL i a.scope a.group with
 | some e=>decide (e.epoch=a.epoch)&&eqL e.toL (membersV c i a.scope a.group a.toL)
 | none=>false)
def wellV (c:ChainD) (i:Int):Bool:=decide (0≤i)&&(match c.actsL[i.toNat]? with
 | some a=>wellA c i a
 | none=>false)
structure Agree (n:Nat) (l l':List ActD):Prop where
 at_:∀ k,k<n→l[k]?=l'[k]?
 left:n≤l.length
 right:n≤l'.length
theorem Agree.getD {n:Nat} {l l':List ActD} (h:Agree n l l') {k:Nat} (hk:k<n):l.getD k ActD.zero=l'.getD k ActD.zero:=by
 rw [ZL,ZL,h.at_ k hk]
theorem Agree.symm {n:Nat} {l l':List ActD} (h:Agree n l l'):Agree n l' l:=⟨fun k hk=>(h.at_ k hk).symm,h.right,h.left⟩
def rtextV (c:ChainD) (i:Int):Bool:=decide (0≤i)&&(match c.actsL[i.toNat]? with
 | some a=>postK a.kind||decide (a.kind=14)
 | none=>false)
structure ReadF (c:ChainD) (i:Int) (a:ActD) (l:List ByteArray):Prop where
 asc:Asc l
 own:c.id∈l
 mem:∀ x∈l,x≠c.id→x∈membersV c i a.scope a.group a.toL
 len:l.length=1+(bif wellV c i then (membersV c i a.scope a.group a.toL).length else 0)
structure ChOk (c:ChainD):Prop where
 acts:ActsOk c.actsL
 len:c.actsL.length≤1000000
 to:∀ x∈c.actsL,x.to.n≤1000000
structure HisI (m:Nat) where
 k:Nat
 hk:k≤m
 A:Option Addr
 c:Nat
structure OwnP (c:ChainD) (p:PostD):Prop where
 author:p.author=c.id
 text:rtextV c (p.pos:Int)=true
 ed:∀ e∈p.edL,rtextV c e=true
section
variable {P:Program} {N:Nat} {av bor:List Nat} {w0:World} {E:Env} {loc:List Res} {X:World→Prop}
theorem Bs {K:Exit→St→Prop} {ι:Type} (M:ι→St) {x y z:Code} {st:St} (h1:Cw P N av bor w0 x st (thn (fun s=>Cw P N av bor w0 y s (thn (fun s=>∃ i,∀ a w,Ok N av bor w0 s a w→Ok N av bor w0 (M i) a w) K)) K)) (h2:∀ i,Cw P N av bor w0 z (M i) K) :
  Cw P N av bor w0 x st (thn (fun s=>Cw P N av bor w0 (.seq y z) s K) K):=k9 (fun e s h=>by
 cases e with
 | normal=>exact Qw (il M h h2)
 | _=>exact h) h1
theorem Br {K:Exit→St→Prop} {ι:Type} (M:ι→St) {x y y2 z:Code} {st:St} (h1:Cw P N av bor w0 x st (thn (fun s=>Cw P N av bor w0 y s (thn (fun s=>Cw P N av bor w0 y2 s (thn (fun s=>∃ i,∀ a w,Ok N av bor w0 s a w→Ok N av bor w0 (M i) a w) K)) K)) K)) (h2:∀ i,Cw P N av bor w0 z (M i) K) :
  Cw P N av bor w0 x st (thn (fun s=>Cw P N av bor w0 (.seq y (.seq y2 z)) s K) K):=k9 (fun e s h=>by
 cases e with
 | normal=>exact Qw (Bs M h h2)
 | _=>exact h) h1
end
def accL (vs hs:List Nat):Nat→List Nat
 | 0=>vs
 | i+1=>(accL vs hs i).set i (((accL vs hs i).getD i 0+hs.getD i 0)%4294967296)
theorem sx (vs hs:List Nat):∀ i,(accL vs hs i).length=vs.length
 | 0=>rfl
 | i+1=>by rw [accL,List.length_set,sx vs hs i]
structure RowA (n:Nat) where
 k:Nat
 hk:k≤n
 A:Option Addr
 c:Nat
set_option maxRecDepth 20000 in
set_option maxHeartbeats 8000000 in
theorem tf (sh sb:SlV) (h:S8) (hh:h.Lt) (l:List Nat) (hl:l.length=64) (hb:∀ x∈l,x<256):Mk Tryz.prog 93 #[sh.v,sb.v] (fun w=>U32s w sh h.l∧U8s w sb l) (fun u X'=>∃ s':SlV,u=s'.v∧∀ w,X' w→U32s w s' (mixN h (winN (fW l) 0)).l):=by
 refine bE (args:=[_,_]) _ Tryz.func93 rfl Tryz.ntmps93 rfl fun av bor w0=>?_
 have hwo:=rf sb l hl hb
 refine aJ (p:=sh.n=8∧sh.p.isSome=true) (fun w h1=>⟨by rw [ij (f:=fun n=>.int .u32 (n:Int)) h1.1];rfl,fS (f:=fun n=>.int .u32 (n:Int)) h1.1 (by rw [show h.l.length=8 from rfl];omega)⟩) fun ⟨hsn,hsp⟩=>?_
 have hkl:kN.length=64:=by kernel_rfl
 have hwl:(row2 l 48).length=64:=iV l 48
 repeat' (first|refine kZ fun _=>?_|(refine cA (hc:=hwo) (hX:=fun w h=>h.2) fun v1 X1 h1=>?_;obtain ⟨sw,rfl,hW⟩:=h1)|(refine cA (hc:=tr) (hX:=fun _ _=>trivial) fun v2 X2 h2=>?_;obtain ⟨sk,rfl,hK⟩:=h2)|(refine aF (size:=1) (news:=u32n h.l) (q:=sh.n) rfl rfl rfl rfl (fun _=>At.here _) (fun w G=>B2 G.keep.now.1.1.1) aa (by simp only [maxLen];omega) rfl ?_ rfl ?_;(first|with_reducible rfl|with_reducible assumption|with_reducible exact ZI|with_reducible exact ZK);intro A0 c0)|refine gs ?_|refine gs1 fun _=>?_|(refine gp ?_ ?_<;>intro hx_ this)|fail)
 rw [hsn]
 refine aJ (p:=(sw.n=64∧sw.p.isSome=true)∧(sk.n=64∧sk.p.isSome=true)) (fun w h1=>⟨⟨by rw [ij (f:=fun n=>.int .u32 (n:Int)) (hW w h1.1.2),hwl],fS (f:=fun n=>.int .u32 (n:Int)) (hW w h1.1.2) aa⟩,⟨by rw [ij (f:=fun n=>.int .u32 (n:Int)) (hK w h1.2),hkl],fS (f:=fun n=>.int .u32 (n:Int)) (hK w h1.2) aa⟩⟩) fun ⟨⟨hwn,hwp⟩,⟨hkn,hkp⟩⟩=>?_
 refine ap (ι:=RowA 64) (fun i=>⟨[(0,sh.v),(5,sw.v),(6,sk.v),(7,.slice i.A 8 i.c),(8,.int .i64 (i.k:Nat))],[orow 145 1 (.slice i.A 8 i.c) 8 (u32n (rndN (fW l) h i.k).l)],fun w=>(U32s w sh h.l∧U32s w sw (row2 l 48))∧U32s w sk kN⟩) (fun i=>64-i.k) ⟨0,by omega,A0,c0⟩ (aj ⟨rfl,rfl,rfl,rfl,rfl,trivial⟩ (al _) fun w h1=>⟨⟨h1.1.1.1,hW w h1.1.2⟩,hK w h1.2⟩) fun i=>?_
 obtain ⟨k,hk,A,c⟩:=i
 simp only
 refine cI ar (fun w h=>ck h aa) fun hAs=>?_
 repeat' (first|refine gs ?_|refine gs1 fun _=>?_|(refine gp ?_ ?_<;>intro hx_ this)|fail)
 · have hlt:k<64:=by omega
   have hLt:=zZ (fW l) hh k
   obtain ⟨kk,hkk⟩:∃ x,x=kN.getD k 0:=⟨_,rfl⟩
   obtain ⟨ww,hww⟩:∃ x,x=sN (fW l) 48 k:=⟨_,rfl⟩
   have hgk:∀ w,(U32s w sh h.l∧U32s w sw (row2 l 48))∧U32s w sk kN→CellAt w sk.p k (.int .u32 (kk:Int)):=fun w h1=>hkk▸iU (f:=fun n=>.int .u32 (n:Int)) h1.2 aa
   have hgw:∀ w,(U32s w sh h.l∧U32s w sw (row2 l 48))∧U32s w sk kN→CellAt w sw.p k (.int .u32 (ww:Int)):=fun w h1=>by
    have h2:=iU (f:=fun n=>.int .u32 (n:Int)) h1.1.2 (i:=k) aa
    rw [qJ l aa,←hww] at h2
    exact h2
   have hnext:rndN (fW l) h (k+1)=roundN (rndN (fW l) h k) kk ww:=by rw [rndN,hkk,hww]
   rw [qK] at hnext
   generalize rndN (fW l) h k=S at *
   obtain ⟨a,b,d,e,f,g,p,q⟩:=S
   obtain ⟨ha,hbb,hd,he,hf,hg,hp,hq⟩:=hLt
   simp only at ha hbb hd he hf hg hp hq hnext
   simp only [S8.l]
   have hn:8=(u32n [a,b,d,e,f,g,p,q]).length:=rfl
   have hg0:(u32n [a,b,d,e,f,g,p,q])[0]?=some (.int .u32 (a:Int)):=rfl
   have hg1:(u32n [a,b,d,e,f,g,p,q])[1]?=some (.int .u32 (b:Int)):=rfl
   have hg2:(u32n [a,b,d,e,f,g,p,q])[2]?=some (.int .u32 (d:Int)):=rfl
   have hg3:(u32n [a,b,d,e,f,g,p,q])[3]?=some (.int .u32 (e:Int)):=rfl
   have hg4:(u32n [a,b,d,e,f,g,p,q])[4]?=some (.int .u32 (f:Int)):=rfl
   have hg5:(u32n [a,b,d,e,f,g,p,q])[5]?=some (.int .u32 (g:Int)):=rfl
   have hg6:(u32n [a,b,d,e,f,g,p,q])[6]?=some (.int .u32 (p:Int)):=rfl
   have hg7:(u32n [a,b,d,e,f,g,p,q])[7]?=some (.int .u32 (q:Int)):=rfl
   have t6:=dm f 6 hf aa aa
   have t11:=dm f 11 hf aa aa
   have t25:=dm f 25 hf aa aa
   have t2:=dm a 2 ha aa aa
   have t13:=dm a 13 ha aa aa
   have t22:=dm a 22 ha aa aa
   have l6:=fH (n:=6) hf aa aa
   have l11:=fH (n:=11) hf aa aa
   have l25:=fH (n:=25) hf aa aa
   have l2:=fH (n:=2) ha aa aa
   have l13:=fH (n:=13) ha aa aa
   have l22:=fH (n:=22) ha aa aa
   have e1:t1N q f g p kk ww=((((q+((rot (2 ^ (32-6)) (2 ^ 6) f ^^^ rot (2 ^ (32-11)) (2 ^ 11) f) ^^^ rot (2 ^ (32-25)) (2 ^ 25) f))%4294967296+((f &&& g) ^^^ ((4294967295 ^^^ f) &&& p)))%4294967296+kk)%4294967296+ww)%4294967296:=rfl
   have e2:t2N a b d=(((rot (2 ^ (32-2)) (2 ^ 2) a ^^^ rot (2 ^ (32-13)) (2 ^ 13) a) ^^^ rot (2 ^ (32-22)) (2 ^ 22) a)+(((a &&& b) ^^^ (a &&& d)) ^^^ (b &&& d)))%4294967296:=rfl
   rw [e1,e2] at hnext
   clear e1 e2
   generalize rot (2 ^ (32-6)) (2 ^ 6) f=r6 at *
   generalize rot (2 ^ (32-11)) (2 ^ 11) f=r11 at *
   generalize rot (2 ^ (32-25)) (2 ^ 25) f=r25 at *
   generalize rot (2 ^ (32-2)) (2 ^ 2) a=r2 at *
   generalize rot (2 ^ (32-13)) (2 ^ 13) a=r13 at *
   generalize rot (2 ^ (32-22)) (2 ^ 22) a=r22 at *
   have x1:=Nat.xor_lt_two_pow (n:=32) l6 l11
   have x3:=Nat.xor_lt_two_pow (n:=32) l2 l13
   have x5:f &&& g<4294967296:=Nat.lt_of_le_of_lt Nat.and_le_left hf
   have x6:4294967295 ^^^ f<4294967296:=Nat.xor_lt_two_pow (n:=32) (by decide) hf
   have x7:(4294967295 ^^^ f) &&& p<4294967296:=Nat.lt_of_le_of_lt Nat.and_le_left x6
   have x8:a &&& b<4294967296:=Nat.lt_of_le_of_lt Nat.and_le_left ha
   have x9:a &&& d<4294967296:=Nat.lt_of_le_of_lt Nat.and_le_left ha
   have x10:b &&& d<4294967296:=Nat.lt_of_le_of_lt Nat.and_le_left hbb
   have x11:(a &&& b) ^^^ (a &&& d)<4294967296:=Nat.xor_lt_two_pow (n:=32) x8 x9
   (refine aq ⟨[0,1,2,4,5,6,9,10,11],[(3,⟨[],[(7,⟨[8],[(12,⟨[13,14],[]⟩)]⟩)]⟩)]⟩ [orow 145 1 (.slice A 8 c) 8 (u32n [a,b,d,e,f,g,p,q])] (fun w=>(U32s w sh h.l∧U32s w sw (row2 l 48))∧U32s w sk kN) (h:=?_))
   all_goals repeat' (first|refine ax (hy:=by first|(apply li;rfl;rfl;assumption;assumption)) ?_|(refine ab (hc:=t6) (hX:=fun _ _=>trivial) ?_)|(refine ab (hc:=t11) (hX:=fun _ _=>trivial) ?_)|(refine ab (hc:=t25) (hX:=fun _ _=>trivial) ?_)|refine gd ?_|refine ax (hy:=by first|(apply aB (q:=4);rfl;rfl;omega;omega;assumption;omega)|(apply dX;rfl;exact ar;exact hn;exact hg4)) ?_|refine az ?_ (h':=?_)|exact aA|refine gs1 fun _=>?_|(refine gq ?_ ?_<;>intro hx_ this)|fail)
   apply Qw
   (refine aq ⟨[0,1,2,3,4,5,6,7,8,9,10,11,12,13,14,15,16,17,18,19,20,21,22,23,24,25,26,27,28,29,30,31,32],[]⟩ [orow 145 1 (.slice A 8 c) 8 (u32n [a,b,d,e,f,g,p,q])] (fun w=>(U32s w sh h.l∧U32s w sw (row2 l 48))∧U32s w sk kN) (h:=?_))
   all_goals repeat' (first|refine ax (hy:=by first|(apply lq;rfl;rfl)|(apply li;rfl;rfl;assumption;assumption)|(apply yo;rfl;rfl;assumption;assumption)|(apply Et;rfl;assumption)) ?_|refine gd ?_|refine ax (hy:=by first|(apply aB (q:=4);rfl;rfl;omega;omega;assumption;omega)|(apply aB (q:=5);rfl;rfl;omega;omega;assumption;omega)|(apply aB (q:=6);rfl;rfl;omega;omega;assumption;omega)|(apply aB (q:=7);rfl;rfl;omega;omega;assumption;omega)|(apply aB (q:=k);rfl;rfl;omega;omega;assumption;omega)|(apply dX;rfl;exact ar;exact hn;exact hg4)|(apply dX;rfl;exact ar;exact hn;exact hg5)|(apply dX;rfl;exact ar;exact hn;exact hg6)|(apply dX;rfl;exact ar;exact hn;exact hg7)|(apply eI (q:=k) (u:=.int .u32 (kk:Int));rfl;exact hgk)|(apply eI (q:=k) (u:=.int .u32 (ww:Int));rfl;exact hgw)) ?_|refine az ?_ (h':=?_)|exact aA|refine gs1 fun _=>?_|(refine gq ?_ ?_<;>intro hx_ this)|fail)
   apply Qw
   (refine aq ⟨[0,1,2,4,5,6,9,10,11],[(3,⟨[],[(7,⟨[8],[(12,⟨[13,14],[]⟩)]⟩)]⟩)]⟩ [orow 145 1 (.slice A 8 c) 8 (u32n [a,b,d,e,f,g,p,q])] (fun w=>(U32s w sh h.l∧U32s w sw (row2 l 48))∧U32s w sk kN) (h:=?_))
   all_goals repeat' (first|refine ax (hy:=by first|(apply li;rfl;rfl;assumption;assumption)) ?_|(refine ab (hc:=t2) (hX:=fun _ _=>trivial) ?_)|(refine ab (hc:=t13) (hX:=fun _ _=>trivial) ?_)|(refine ab (hc:=t22) (hX:=fun _ _=>trivial) ?_)|refine gd ?_|refine ax (hy:=by first|(apply aB (q:=0);rfl;rfl;omega;omega;assumption;omega)|(apply dX;rfl;exact ar;exact hn;exact hg0)) ?_|refine az ?_ (h':=?_)|exact aA|refine gs1 fun _=>?_|(refine gq ?_ ?_<;>intro hx_ this)|fail)
   apply Qw
   (refine aq ⟨[0,1,2,3,4,5,6,7,8,9,10,11,12,13,14,15,16,17,18,19,20,21,22,23,24,25],[]⟩ [orow 145 1 (.slice A 8 c) 8 (u32n [a,b,d,e,f,g,p,q])] (fun w=>(U32s w sh h.l∧U32s w sw (row2 l 48))∧U32s w sk kN) (h:=?_))
   all_goals repeat' (first|refine ax (hy:=by first|(apply lq;rfl;rfl)|(apply li;rfl;rfl;assumption;assumption)|(apply yo;rfl;rfl;assumption;assumption)) ?_|refine gd ?_|refine ax (hy:=by first|(apply aB (q:=0);rfl;rfl;omega;omega;assumption;omega)|(apply aB (q:=1);rfl;rfl;omega;omega;assumption;omega)|(apply aB (q:=2);rfl;rfl;omega;omega;assumption;omega)|(apply dX;rfl;exact ar;exact hn;exact hg0)|(apply dX;rfl;exact ar;exact hn;exact hg1)|(apply dX;rfl;exact ar;exact hn;exact hg2)) ?_|refine az ?_ (h':=?_)|exact aA|refine gs1 fun _=>?_|(refine gq ?_ ?_<;>intro hx_ this)|fail)
   obtain ⟨one,h1⟩:∃ x,x=((((q+((r6 ^^^ r11) ^^^ r25))%4294967296+((f &&& g) ^^^ ((4294967295 ^^^ f) &&& p)))%4294967296+kk)%4294967296+ww)%4294967296:=⟨_,rfl⟩
   obtain ⟨two,h2⟩:∃ x,x=(((r2 ^^^ r13) ^^^ r22)+(((a &&& b) ^^^ (a &&& d)) ^^^ (b &&& d)))%4294967296:=⟨_,rfl⟩
   rw [←h1,←h2] at hnext
   rw [←h1,←h2]
   (refine aq ⟨[0,1,2,3,4,5,6,7,8,9,10,11,12,13,14,15,16,17,18,19,20,21,22,23,24,25],[(26,⟨[27],[]⟩)]⟩ [orow 145 1 (.slice A 8 c) 8 (u32n [a,b,d,e,f,g,p,q])] (fun w=>(U32s w sh h.l∧U32s w sw (row2 l 48))∧U32s w sk kN) (h:=?_))
   all_goals repeat' (first|refine ax (hy:=by first|(apply lq;rfl;rfl)) ?_|refine gd ?_|refine ax (hy:=by first|(apply aB (q:=0);rfl;rfl;omega;omega;assumption;omega)|(apply aB (q:=1);rfl;rfl;omega;omega;assumption;omega)|(apply aB (q:=2);rfl;rfl;omega;omega;assumption;omega)|(apply aB (q:=3);rfl;rfl;omega;omega;assumption;omega)|(apply aB (q:=4);rfl;rfl;omega;omega;assumption;omega)|(apply aB (q:=5);rfl;rfl;omega;omega;assumption;omega)|(apply aB (q:=6);rfl;rfl;omega;omega;assumption;omega)|(apply dX;rfl;exact ar;exact hn;exact hg0)|(apply dX;rfl;exact ar;exact hn;exact hg1)|(apply dX;rfl;exact ar;exact hn;exact hg2)|(apply dX;rfl;exact ar;exact hn;exact hg3)|(apply dX;rfl;exact ar;exact hn;exact hg4)|(apply dX;rfl;exact ar;exact hn;exact hg5)|(apply dX;rfl;exact ar;exact hn;exact hg6)) ?_|refine az ?_ (h':=?_)|exact aA|((refine dt (vs:=u32n [(one+two)%4294967296,a,b,d,(e+one)%4294967296,f,g,p]) fun bb=>?_;refine o0 1 8 rfl (by decide) ?_))|refine gs1 fun _=>?_|(refine gq ?_ ?_<;>intro hx_ this)|fail)
   repeat' (first|refine gs ?_|refine gs1 fun _=>?_|(refine gp ?_ ?_<;>intro hx_ this)|fail)
   exact ⟨(⟨k+1,hlt,some ⟨bb,0,none⟩,8⟩:RowA 64),(by show 64-(k+1)<64-k;omega),aj ⟨rfl,rfl,rfl,rfl,rfl,trivial⟩ (by rw [hnext];exact .cons_cons _ (ZR _)) fun _ h=>h⟩
 · obtain rfl:k=64:=by omega
   have hmix:=FG h (winN (fW l) 0)
   rw [tc] at hmix
   generalize rndN (fW l) h 64=S at *
   refine ap (ι:=RowA 8) (fun i=>⟨[(0,sh.v),(7,.slice A 8 c),(13,.int .i64 (i.k:Nat))],[orow 145 1 (.slice A 8 c) 8 (u32n (accL S.l h.l i.k))],fun w=>U32s w sh h.l⟩) (fun i=>8-i.k) ⟨0,by omega,A,c⟩ (aj ⟨rfl,rfl,rfl,trivial⟩ (al _) fun _ h=>h.1.1) fun i=>?_
   obtain ⟨k,hk,_,_⟩:=i
   simp only
   have hlen:(accL S.l h.l k).length=8:=sx _ _ k
   repeat' (first|refine gs ?_|refine gs1 fun _=>?_|(refine gp ?_ ?_<;>intro hx_ this)|fail)
   · have hlt:k<8:=by omega
     have hn:8=(u32n (accL S.l h.l k)).length:=by rw [qr,hlen]
     obtain ⟨v,hv⟩:∃ v,v=(accL S.l h.l k).getD k 0:=⟨_,rfl⟩
     obtain ⟨u,hu⟩:∃ u,u=h.l.getD k 0:=⟨_,rfl⟩
     have hg:(u32n (accL S.l h.l k))[k]?=some (.int .u32 (v:Int)):=by rw [qs aa,hv]
     have hget:∀ w,U32s w sh h.l→CellAt w sh.p k (.int .u32 (u:Int)):=fun w h1=>hu▸iU (f:=fun n=>.int .u32 (n:Int)) h1 (by rw [show h.l.length=8 from rfl];exact hlt)
     have hacc:accL S.l h.l (k+1)=(accL S.l h.l k).set k ((v+u)%4294967296):=by rw [accL,hv,hu]
     have hset:=yB (accL S.l h.l k) (i:=k) (v:=(v+u)%4294967296) aa
     rw [←hacc] at hset
     (refine aq ⟨[0,1,2,3,4,6,7,8,9],[(5,⟨[10,11],[(12,⟨[],[]⟩)]⟩)]⟩ [] (fun w=>U32s w sh h.l) (h:=?_))
     all_goals repeat' (first|refine ax (hy:=by first|(apply lq;rfl;rfl)) ?_|refine gd ?_|refine ax (hy:=by first|(apply aB (q:=k);rfl;rfl;omega;omega;assumption;omega)|(apply eI (q:=k) (u:=.int .u32 (u:Int));rfl;exact hget)) ?_|refine az ?_ (h':=?_)|exact aA|(refine ai (dX rfl ar hn hg) rfl am rfl ?_)|((refine oZ (A:=A) (m:=8) (c:=c) (e:=145) (size:=1) (i:=k) (xs:=u32n (accL S.l h.l k)) (xs':=u32n (accL S.l h.l (k+1))) (vs:=[.int .u32 (((v+u)%4294967296:Nat):Int)]) (v:=.int .u32 (((v+u)%4294967296:Nat):Int)) ae (by rw [Nat.mul_one];rfl) rfl rfl rfl rfl hlt hset (At.here _) rfl am rfl ?_))|refine gs1 fun _=>?_|(refine gq ?_ ?_<;>intro hx_ this)|fail)
     repeat' (first|refine gs ?_|refine gs1 fun _=>?_|(refine gp ?_ ?_<;>intro hx_ this)|fail)
     exact ⟨(⟨k+1,hlt,A,c⟩:RowA 8),(by show 8-(k+1)<8-k;omega),aj ⟨rfl,rfl,rfl,trivial⟩ (al _) fun _ h=>h⟩
   · obtain rfl:k=8:=by omega
     have he:accL S.l h.l 8=(mixN h (winN (fW l) 0)).l:=by
      rw [hmix]
      obtain ⟨a,b,d,e,f,g,p,q⟩:=S
      obtain ⟨a',b',d',e',f',g',p',q'⟩:=h
      simp only [accL,S8.l,List.set_cons_zero,List.set_cons_succ,List.getD_cons_zero,List.getD_cons_succ,List.cons.injEq,and_true,Qj]
     rw [he]
     exact ad (ag rfl rfl) ⟨⟨A,8,c⟩,rfl,fun w h1=>U32s.of_row (h1.2 (orow 145 1 (.slice A 8 c) 8 (u32n (mixN h (winN (fW l) 0)).l)) ar) rfl⟩
theorem EG (l:List Nat):u8s (l.map fun (n:Nat)=>(n:Int))=l.map fun (n:Nat)=>(.int .u8 (n:Int):Value):=by simp [u8s]
theorem U8s.of_row {w:World} {e n c:Nat} {A:Option Addr} {l:List Nat} (h:ORow w e 1 (.slice A n c) n (u8s (l.map fun (n:Nat)=>(n:Int)))) (hn:n=l.length):U8s w ⟨A,n,c⟩ l:=by
 have e1:(l.map fun (n:Nat)=>[(.int .u8 (n:Int):Value)]).flatten=u8s (l.map fun (n:Nat)=>(n:Int)):=by
  rw [EG]
  clear h hn
  induction l with
  | nil=>rfl
  | cons a l ih=>rw [Qv,List.flatten_cons,ih];rfl
 rw [←e1] at h
 exact bt h (by rw [Z3,hn]) fun r hr=>by
  obtain ⟨n,_,rfl⟩:=List.mem_map.1 hr
  rfl
theorem U8s.part {w:World} {s:SlV} {l:List Nat} (h:U8s w s l) {i n:Nat} (hi:i+n≤l.length):U8s w ⟨(s.from 1 i).p,n,s.c-i⟩ ((l.drop i).take n):=by
 have h1:=RowsD.drop h (n:=i) (by rw [Z3];omega)
 rw [←List.map_drop] at h1
 have h2:=RowsD.take h1 (n:=n) (by rw [Z3,List.length_drop];omega)
 rw [←List.map_take] at h2
 exact h2
def padI (s:ByteArray):List Int:=endL s++List.replicate (padN (s.size+1)) 0++sizeB s.size 8
theorem C1 (s:ByteArray) (hs:s.size<2305843009213693952):padI s=(padL (nl s)).map fun (n:Nat)=>(n:Int):=by
 rw [padI,endL,kc,padL,dp,qB s.size hs]
 simp
theorem E2 (l:List Nat) (h:∀ x∈l,x<256):∀ x∈padL l,x<256:=fun x hx=>by
 rw [padL] at hx
 rcases List.mem_append.1 hx with hx|hx
 · exact h x hx
 · rcases List.mem_cons.1 hx with rfl|hx
   · omega
   · rcases List.mem_append.1 hx with hx|hx
     · rw [(List.mem_replicate.1 hx).2];omega
     · rw [sizeN] at hx
       simp only [Z8,List.not_mem_nil,or_false] at hx
       rcases hx with rfl|rfl|rfl|rfl|rfl|rfl|rfl|rfl<;>exact Nat.mod_lt _ aa
theorem ve (l:List Nat):(padL l).length=l.length+1+padN (l.length+1)+8:=by
 rw [padL]
 simp [sizeN]
 omega
theorem tz (l:List Nat):(padL l).length%64=0:=by
 rw [ve,padN]
 omega
section
variable {P:Program} {N:Nat} {av bor:List Nat} {w0:World} {st:St} {ty:TypeId} {x y z:Operand} {t t2:TypeId} {a b:Nat}
theorem yp (hx:ev st.env x=some (.int .i64 (a:Int))) (hy:ev st.env y=some (.int .i64 (b:Int))) (hc:a+b<9223372036854775808):Sy.Yields P N av bor w0 st (.binOp .add t x y t2) ty (.int .i64 ((a+b:Nat):Int)) :=
 nJ hx hy (by rw [←Int.natCast_add];exact IntWalk.i64_in _ aa)
theorem Ep {e size b':Nat} [hI:TySl P t e size b'] {s:SlV} {i n:Nat} (hx:ev st.env x=some s.v) (hy:ev st.env y=some (.int .i64 (i:Int))) (hz:ev st.env z=some (.int .i64 ((i+n:Nat):Int))) (h2:i+n≤s.c) :
  Sy.Yields P N av bor w0 st (.slice t x (some y) (some z) none) ty (⟨(s.from size i).p,n,s.c-i⟩:SlV).v:=by
 have h:=BS (P:=P) (N:=N) (av:=av) (bor:=bor) (w0:=w0) (st:=st) (ty:=ty) (t:=t) (size:=size) hx hy hz aa aa aa
 have e1:((i:Nat):Int).toNat=i:=rfl
 have e2:((i+n:Nat):Int).toNat-i=n:=by omega
 rw [e1,e2] at h
 exact h
end
def outB (S:S8) (i:Nat):Nat:=(S.l.getD (i/4) 0/2 ^ (24-8*(i%4)))%256
theorem DO (S:S8):digN S=(List.range 32).map (outB S):=by
 obtain ⟨a,b,c,d,e,f,g,h⟩:=S
 simp [digN,d4N,outB,S8.l,List.range,List.range.loop]
structure ShaI (L:List Nat) (m:Nat) where
 k:Nat
 hk:k≤m
 s:SlV
 S:S8
 lt:S.Lt
 run:runN (m-k) S (L.drop (64*k))=runN m iniN L
set_option maxRecDepth 20000 in
set_option maxHeartbeats 8000000 in
theorem od (s:ByteArray) (hs:s.size≤1099511627776):Pu Tryz.prog 49 #[.string s] (fun _=>True) (.string (shaV s)):=by
 refine ak (args:=[_]) _ Tryz.func49 rfl Tryz.ntmps49 rfl fun av bor w0=>?_
 repeat' (first|refine gs ?_|refine gs1 fun _=>?_|(refine sS fun A c=>?_)|fail)
 refine aF (size:=1) (z:=.int .u8 0) (news:=u8s [128]) (q:=1) rfl rfl rfl rfl (fun _=>At.there _ (At.here _)) (fun w G=>bJ G ar rfl rfl 1) ?_ ?_ rfl ?_ rfl ?_
 · omega
 · simp only [maxLen];omega
 · rfl
 intro A1 c1
 repeat' (first|refine gs ?_|refine gs1 fun _=>?_|fail)
 have hel:=m0 s
 refine ap (ι:=EndS (padN (s.size+1))) (fun i=>⟨[(0,.string s),(3,.slice i.A (s.size+1+i.k) i.c)],[orow 5 1 (.slice i.A (s.size+1+i.k) i.c) (s.size+1+i.k) (u8s (endL s++List.replicate i.k 0))],fun _=>True⟩) (fun i=>padN (s.size+1)-i.k) ⟨0,Nat.zero_le _,A1,c1⟩ (aj ⟨rfl,rfl,trivial⟩ ?_ fun _ h=>h) fun i=>?_
 · refine List.Sublist.cons _ ?_
   rw [←bZ]
   simp only [List.replicate_zero,Z9]
   exact al _
 have hik:=i.hk
 have hp:padN (s.size+1)<64:=Nat.mod_lt _ aa
 have hp2:padN (s.size+1)=(120-(s.size+1)%64)%64:=rfl
 have htm:Int.tmod ((s.size+1+i.k:Nat):Int) 64=(((s.size+1+i.k)%64:Nat):Int):=Int.ofNat_tmod _ _
 repeat' (first|refine gs ?_|refine gs1 fun _=>?_|(refine gp ?_ ?_<;>intro hx_ this)|fail)
 refine eZ (hc:=htm) ?_
 repeat' (first|refine gs ?_|refine gs1 fun _=>?_|(refine gp ?_ ?_<;>intro hx_ this)|fail)
 · have hlt:i.k<padN (s.size+1):=by
    have h1:¬ (((s.size+1+i.k)%64:Nat):Int)=56:=by simpa using hx_
    omega
   refine aF (size:=1) (z:=.int .u8 0) (news:=u8s [0]) (q:=1) rfl rfl rfl rfl (fun _=>At.there _ (At.here _)) (fun w G=>bJ G ar rfl rfl 1) ?_ ?_ rfl ?_ rfl ?_
   · omega
   · simp only [maxLen];omega
   · rfl
   intro A2 c2
   repeat' (first|refine gs ?_|refine gs1 fun _=>?_|(refine gp ?_ ?_<;>intro hx_ this)|fail)
   refine ⟨(⟨i.k+1,hlt,A2,c2⟩:EndS (padN (s.size+1))),(by show padN (s.size+1)-(i.k+1)<padN (s.size+1)-i.k;omega),aj ⟨rfl,rfl,trivial⟩ ?_ fun _ h=>h⟩
   refine List.Sublist.cons _ ?_
   rw [←bZ]
   simp only [List.replicate_succ',ZZ]
   exact al _
 have hk:i.k=padN (s.size+1):=by
  have h1:(((s.size+1+i.k)%64:Nat):Int)=56:=by simpa using hx_
  omega
 have hl1:(endL s++List.replicate (padN (s.size+1)) 0:List Int).length=s.size+1+padN (s.size+1):=by simp [hel]
 rw [hk]
 have hpad:=C1 s aa
 have hplen:(padL (nl s)).length=s.size+1+padN (s.size+1)+8:=by rw [ve,dp]
 rw [padI] at hpad
 have h8:IntKind.u64.wrap (8*IntKind.u64.wrap (s.size:Int))=IntKind.u64.wrap (IntKind.u64.wrap (s.size:Int)*8):=by rw [Int.mul_comm]
 rw [h8]
 generalize hL:(endL s++List.replicate (padN (s.size+1)) 0:List Int)=L0 at *
 refine ap (ι:=EndS 8) (fun j=>⟨[(3,.slice j.A (s.size+1+padN (s.size+1)+j.k) j.c),(4,.int .u64 (IntKind.u64.wrap (IntKind.u64.wrap (s.size:Int)*8))),(5,.int .i64 (56-8*(j.k:Int)))],[orow 5 1 (.slice j.A (s.size+1+padN (s.size+1)+j.k) j.c) (s.size+1+padN (s.size+1)+j.k) (u8s (L0++sizeB s.size j.k))],fun _=>True⟩) (fun j=>8-j.k) ⟨0,Nat.zero_le _,i.A,i.c⟩ (aj ⟨rfl,rfl,rfl,trivial⟩ ?_ fun _ h=>h) fun j=>?_
 · have e:sizeB (s.size:Int) 0=[]:=rfl
   simp only [e,Z9]
   exact al _
 have hjk:=j.hk
 repeat' (first|refine gs ?_|refine gs1 fun _=>?_|(refine gp ?_ ?_<;>intro hx_ this)|fail)
 · have hlt:j.k<8:=by omega
   refine aF (size:=1) (z:=.int .u8 0) (news:=u8s [IntKind.u8.wrap (shrV .u64 (IntKind.u64.wrap (IntKind.u64.wrap (s.size:Int)*8)) (56-8*(j.k:Int)))]) (q:=1) rfl rfl rfl rfl (fun _=>At.there _ (At.here _)) (fun w G=>bJ G ar rfl rfl 1) ?_ ?_ rfl ?_ rfl ?_
   · omega
   · simp only [maxLen];omega
   · rfl
   intro A2 c2
   repeat' (first|refine gs ?_|refine gs1 fun _=>?_|(refine gp ?_ ?_<;>intro hx_ this)|fail)
   refine ⟨(⟨j.k+1,hlt,A2,c2⟩:EndS 8),(by show 8-(j.k+1)<8-j.k;omega),aj ⟨rfl,rfl,?_,trivial⟩ ?_ fun _ h=>h⟩
   · show some (Value.int .i64 (56-8*(j.k:Int)-8))=some (Value.int .i64 (56-8*((j.k+1:Nat):Int)))
     congr 2
     omega
   refine List.Sublist.cons _ ?_
   rw [←bZ]
   have e:sizeB (s.size:Int) (j.k+1)=sizeB s.size j.k++[IntKind.u8.wrap (shrV .u64 (IntKind.u64.wrap (IntKind.u64.wrap (s.size:Int)*8)) (56-8*(j.k:Int)))]:=by simp [sizeB,List.range_succ]
   simp only [e,ZZ]
   exact al _
 have hj8:j.k=8:=by omega
 rw [hj8,hpad]
 obtain ⟨sp,hsp⟩:∃ sp:SlV,sp=⟨j.A,s.size+1+padN (s.size+1)+8,j.c⟩:=⟨_,rfl⟩
 have hLt:=E2 (nl s) (jj s)
 have hLm:=tz (nl s)
 have hsha:=EN s aa
 rw [shaL] at hsha
 obtain ⟨L,hLL⟩:∃ L,L=padL (nl s):=⟨_,rfl⟩
 rw [←hLL] at hplen hLt hLm hsha
 obtain ⟨m,hm⟩:∃ m,m=L.length/64:=⟨_,rfl⟩
 rw [←hm] at hsha
 have hL64:L.length=64*m:=by omega
 refine bo ?_
 repeat' (first|(refine cA (hc:=pq) (hX:=fun _ _=>trivial) fun v1 X1 h1=>?_;obtain ⟨sh0,rfl,hw0⟩:=h1)|refine gs ?_|refine gs1 fun _=>?_|(refine gp ?_ ?_<;>intro hx_ this)|fail)
 have hspD:∀ w,(True∧(orow 5 1 (.slice j.A (s.size+1+padN (s.size+1)+8) j.c) (s.size+1+padN (s.size+1)+8) (u8s ((padL (nl s)).map fun (n:Nat)=>(n:Int)))).F w)→U8s w sp L:=fun w h=>by
  rw [hsp,hLL]
  exact U8s.of_row h.2 (by rw [←hLL];exact hplen.symm)
 have hp0:0<L.length:=by omega
 refine aJ (p:=sp.c≥L.length∧sp.p.isSome=true) (fun w h=>⟨by
  have h1:=RowsD.cap (hspD w h.1)
  have h2:=ij (f:=fun n=>.int .u8 (n:Int)) (hspD w h.1)
  omega,fS (f:=fun n=>.int .u8 (n:Int)) (hspD w h.1) hp0⟩) fun ⟨hsc,hspp⟩=>?_
 have hspn:sp.n=L.length:=by rw [hsp,hplen]
 have hspv:sp.v=.slice j.A (s.size+1+padN (s.size+1)+8) j.c:=by rw [hsp];rfl
 refine ap (ι:=ShaI L m) (fun i=>⟨[(3,sp.v),(6,i.s.v),(7,.int .i64 ((64*i.k:Nat):Int))],[],fun w=>U8s w sp L∧U32s w i.s i.S.l⟩) (fun i=>m-i.k) ⟨0,Nat.zero_le _,sh0,iniN,Fd,by rw [Nat.mul_zero,List.drop_zero,Nat.sub_zero]⟩ (aj ⟨by rw [hspv];rfl,rfl,rfl,trivial⟩ (al _) fun w h=>⟨hspD w h.1,hw0 w h.2⟩) fun i=>?_
 obtain ⟨k,hk2,sh,S,hSl,hrun⟩:=i
 simp only
 repeat' (first|refine ai (yp (b:=64) rfl rfl aa) rfl am rfl ?_|refine gs ?_|refine gs1 fun _=>?_|(refine gp ?_ ?_<;>intro hx_ this)|fail)
 · have hlt:k<m:=by omega
   have hdl:(L.drop (64*k)).length=64*(m-k):=by rw [List.length_drop];omega
   have hpl:((L.drop (64*k)).take 64).length=64:=by rw [List.length_take];omega
   have hpb:∀ x∈(L.drop (64*k)).take 64,x<256:=fun x hx=>hLt x (List.mem_of_mem_drop (List.mem_of_mem_take hx))
   have hne:=tf sh ⟨(sp.from 1 (64*k)).p,64,sp.c-64*k⟩ S hSl _ hpl hpb
   have hcg:winN (fW ((L.drop (64*k)).take 64)) 0=winN (fW (L.drop (64*k))) 0:=lu fun t ht=>vy t ht
   rw [hcg] at hne
   have hrun2:runN (m-(k+1)) (mixN S (winN (fW (L.drop (64*k))) 0)) (L.drop (64*(k+1)))=runN m iniN L:=by
    have e1:m-k=(m-(k+1))+1:=by omega
    rw [e1,fR aa,List.drop_drop] at hrun
    rw [show 64*(k+1)=64*k+64 from by omega]
    exact hrun
   repeat' (first|refine ai (yp (b:=64) rfl rfl aa) rfl am rfl ?_|(refine cA (hc:=hne) (hX:=fun w h=>⟨h.2,U8s.part h.1 aa⟩) fun v2 X2 h2=>?_;obtain ⟨s2,rfl,hw2⟩:=h2)|refine gs ?_|refine gs1 fun _=>?_|(refine ai (Ep (size:=1) rfl rfl rfl aa) rfl am rfl ?_)|(refine gp ?_ ?_<;>intro hx_ this)|fail)
   exact ⟨(⟨k+1,hlt,s2,_,E5 _ _,hrun2⟩:ShaI L m),(by show m-(k+1)<m-k;omega),aj ⟨rfl,rfl,rfl,trivial⟩ (al _) fun w h=>⟨h.1.1,hw2 w h.2⟩⟩
 · obtain rfl:k=m:=by omega
   rw [Nat.sub_self] at hrun
   have hS:S=runN k iniN L:=hrun
   rw [←hS,DO] at hsha
   refine aJ (p:=sh.n=8∧sh.p.isSome=true) (fun w h1=>⟨by rw [ij (f:=fun n=>.int .u32 (n:Int)) h1.2];rfl,fS (f:=fun n=>.int .u32 (n:Int)) h1.2 (by rw [show S.l.length=8 from rfl];omega)⟩) fun ⟨hsn,hshp⟩=>?_
   refine cL 5 1 ?_
   refine ap (ι:=RowA 32) (fun i=>⟨[(6,sh.v),(8,.slice i.A i.k i.c),(9,.int .i64 (i.k:Nat))],[orow 5 1 (.slice i.A i.k i.c) i.k (u8s (((List.range i.k).map (outB S)).map fun (n:Nat)=>(n:Int)))],fun w=>U32s w sh S.l⟩) (fun i=>32-i.k) ⟨0,by omega,none,0⟩ (aj ⟨rfl,rfl,rfl,trivial⟩ (.cons_cons _ (ZR _)) fun _ h=>h.2) fun i=>?_
   obtain ⟨k2,hk3,A3,c3⟩:=i
   simp only
   clear hspD hrun hLt hLm hplen
   repeat' (first|refine gs ?_|refine gs1 fun _=>?_|(refine gp ?_ ?_<;>intro hx_ this)|fail)
   · have hlt:k2<32:=by omega
     obtain ⟨q,hq⟩:∃ q,q=k2/4:=⟨_,rfl⟩
     obtain ⟨r,hr⟩:∃ r,r=k2%4:=⟨_,rfl⟩
     have h1:IntKind.i64.wrap ((k2:Int).tdiv 4)=(q:Int):=by
      rw [show (k2:Int).tdiv 4=((k2/4:Nat):Int) from Int.ofNat_tdiv _ _,←hq]
      exact IntWalk.i64_in _ aa
     have h2:(k2:Int).tmod 4=(r:Int):=by rw [show (k2:Int).tmod 4=((k2%4:Nat):Int) from Int.ofNat_tmod _ _,←hr]
     obtain ⟨u,hu⟩:∃ u,u=24-8*r:=⟨_,rfl⟩
     have h3:IntKind.i64.wrap (24-((8*r:Nat):Int))=(u:Int):=by
      rw [show 24-((8*r:Nat):Int)=(u:Int) from by omega]
      exact IntWalk.i64_in _ aa
     obtain ⟨x,hx⟩:∃ x,x=S.l.getD q 0:=⟨_,rfl⟩
     have hx2:x<4294967296:=by
      obtain ⟨a,b,c,d,e,f,g,h⟩:=S
      obtain ⟨ha,hb,hc,hd,he,hf,hg,hh⟩:=hSl
      simp only at ha hb hc hd he hf hg hh
      have:q<8:=by omega
      rw [hx]
      have hq8:q=0∨q=1∨q=2∨q=3∨q=4∨q=5∨q=6∨q=7:=by omega
      rcases hq8 with h|h|h|h|h|h|h|h<;>rw [h]<;>assumption
     have hg:∀ w,U32s w sh S.l→CellAt w sh.p q (.int .u32 (x:Int)):=fun w h=>hx▸iU (f:=fun n=>.int .u32 (n:Int)) h (by rw [show S.l.length=8 from rfl];omega)
     have hpw:(2:Int) ^ (min ((u:Int)).toNat 32)=((2 ^ u:Nat):Int):=by
      rw [Qt,Nat.min_eq_left (by omega)]
      simp
     have h8w:IntKind.u8.wrap ((x/2 ^ u:Nat):Int)=((outB S k2:Nat):Int):=by rw [wrap8,outB,←hq,←hr,←hu,←hx]
     have hrow:(List.range (k2+1)).map (outB S)=(List.range k2).map (outB S)++[outB S k2]:=by rw [List.range_succ,Qn];rfl
     have hou:outB S k2<256:=Nat.mod_lt _ aa
     generalize outB S k2=ob at *
     repeat' (first|refine ai (lj (c:=(q:Int)) rfl rfl (by decide) h1) rfl am rfl ?_|refine ai (nF (c:=(r:Int)) rfl rfl (by decide) h2) rfl am rfl ?_|refine ai (ye (a:=8) (b:=r) rfl rfl aa) rfl am rfl ?_|refine ai (nE (c:=(u:Int)) rfl rfl h3) rfl am rfl ?_|refine ai (sC (p:=2 ^ u) rfl rfl aa hx2 hpw) rfl am rfl ?_|refine ai (nH rfl h8w) rfl am rfl ?_|(refine aF (size:=1) (z:=.int .u8 0) (news:=u8s [(ob:Int)]) (q:=1) rfl rfl rfl rfl (fun _=>At.there _ (At.here _)) (fun w G=>bJ G ar rfl rfl 1) aa (by simp only [maxLen];omega) rfl ?_ rfl ?_;(first|with_reducible rfl|with_reducible assumption|with_reducible exact ZI|with_reducible exact ZK);intro A4 c4)|refine gs ?_|refine gs1 fun _=>?_|(refine aH (q:=q) ?_)|(refine dr (q:=q) (u:=.int .u32 (x:Int)) (hF:=hg) ?_)|(refine gp ?_ ?_<;>intro hx_ this)|fail)
     exact ⟨(⟨k2+1,hlt,A4,c4⟩:RowA 32),(by show 32-(k2+1)<32-k2;omega),aj ⟨rfl,rfl,rfl,trivial⟩ (by rw [hrow,Qn,bZ];exact .cons _ (al _)) fun _ h=>h⟩
   · obtain rfl:k2=32:=by omega
     rw [←hsha]
     refine eD (hm:=ar) ?_
     repeat' (first|refine gs ?_|refine gs1 fun _=>?_|(refine gp ?_ ?_<;>intro hx_ this)|fail)
     refine ad (ag rfl rfl) ?_
     rw [←kc,cB]
theorem A7 (s:ByteArray) {i:Nat} (h:i<s.size):(((s.get! i).toNat:Nat):Int)=byteAt s i:=by
 have hs:i<s.data.size:=h
 rw [byteAt,ZL,Array.getElem?_toList,Array.getElem?_eq_getElem hs]
 show (((s.data[i]!).toNat:Nat):Int)=_
 rw [getElem!_pos s.data i hs]
 rfl
theorem DQ {s:ByteArray} {i:Nat} (h:(s.get! i).toNat<128):Utf8.decode s i=((s.get! i).toNat,1):=by
 unfold Utf8.decode
 simp only [Qk,h,Qd]
theorem Bo {s:ByteArray} {i:Nat} (h:¬ (s.get! i).toNat<128):128≤(Utf8.decode s i).1:=by
 unfold Utf8.decode
 simp only [Qk,h,Qe]
 repeat' split
 all_goals first
  | (simp only [Utf8.runeError];omega)
  | (simp_all;done)
  | (simp only [ge_iff_le] at *;omega)
  | (simp only [ge_iff_le,ZM,ZT] at *;omega)
theorem kn {bad:Nat→Int→Bool} {s:ByteArray} (hb:∀ q c,128≤c→bad q c=true):∀ f q,s.size≤f+q→runes bad s f q=(List.range' q (s.size-q)).all fun k=>!bad k (byteAt s k)
 | 0,q,h=>by
  rw [runes,show s.size-q=0 from by omega]
  rfl
 | f+1,q,h=>by
  rw [runes]
  by_cases hq:q<s.size
  · rw [ZA hq,ZC]
    have e:s.size-q=(s.size-(q+1))+1:=by omega
    rw [e,List.range'_succ,List.all_cons]
    have hg:=A7 s hq
    by_cases hl:(s.get! q).toNat<128
    · rw [DQ hl]
      simp only
      rw [hg]
      cases hbq:bad q (byteAt s q) with
      | true=>rfl
      | false =>
       rw [ZB,kn hb f (q+1) (by omega)]
       rfl
    · have h1:=hb q _ (show (128:Int)≤((Utf8.decode s q).1:Int) by have:=Bo hl;omega)
      have h2:=hb q (byteAt s q) (by rw [←hg];omega)
      rw [h1,h2]
      rfl
  · rw [Zn hq,show s.size-q=0 from by omega]
    rfl
theorem nY {bad:Nat→Int→Bool} {s:ByteArray} (hb:∀ q c,128≤c→bad q c=true):runes bad s s.size 0=allB s.size fun k=>bad k (byteAt s k):=by
 rw [kn hb s.size 0 aa,allB,List.range_eq_range']
 rfl
def inChr (c l h:Int):Bool:=decide (l≤c)&&decide (c≤h)
theorem ja (c l h:Int):Pu Tryz.prog 214 #[.int .u8 c,.int .u8 l,.int .u8 h] (fun _=>True) (.bool (inChr c l h)):=by
 refine ak (args:=[_,_,_]) _ Tryz.func214 rfl Tryz.ntmps214 rfl fun av bor w0=>?_
 repeat' (first|refine gs ?_|(refine gp ?_ ?_<;>intro hx_ this)|fail)
 (all_goals (apply ad;apply ag;rfl;rfl));all_goals first|rfl|(simp only [inChr, *,ZQ,ZO,ZC,ZB,ZE,ZD,ZH,ZG,ZK,ZI,ZP,ZJ,ZN,ZF];done)|(simp_all [inChr];done)
def badIdR (s:ByteArray) (k:Nat):Bool:=!inChr (byteAt s k) 48 57&&!inChr (byteAt s k) 97 102
theorem BB (s:ByteArray) (k:Nat):badId k (byteAt s k)=badIdR s k:=by
 simp only [badId,badIdR,dig,inChr]
 congr 1
 rw [Bool.not_and,←decide_not,←decide_not]
 congr 1<;>exact decide_eq_decide.2 aa
theorem Di (s:ByteArray):isId s=(allB s.size (badIdR s)&&decide ((s.size:Int)=16)):=by
 rw [isId,nY (fun q c h=>by simp only [badId,dig];simp;omega),Bool.and_comm]
 congr 2
 exact funext fun k=>BB s k
theorem fV (s:ByteArray) (hs:s.size≤maxLen):Pu Tryz.prog 145 #[.string s] (fun _=>True) (.bool (isId s)):=by
 refine ak (args:=[_]) _ Tryz.func145 rfl Tryz.ntmps145 rfl fun av bor w0=>?_
 simp only [maxLen] at hs
 rw [Di]
 repeat' (first|refine gs ?_|fail)
 refine ap (ι:=Upto s.size (badIdR s)) (fun i=>⟨[(0,.string s),(3,.int .i64 (i.k:Nat))],[],fun w=>True⟩) (fun i=>s.size-i.k) (Upto.zero _ _) (aj ⟨rfl,rfl,trivial⟩ (al _) fun _ h=>h) fun i=>?_
 have hik:=i.hk
 have e1:((i.k:Nat):Int).toNat=i.k:=rfl
 have hc1:=ja (byteAt s i.k) 48 57
 have hc2:=ja (byteAt s i.k) 97 102
 repeat' (first|(refine ab (hc:=hc1) ?_)|(refine ab (hc:=hc2) ?_)|refine gs ?_|(refine gp ?_ ?_<;>intro hx_ this)|fail)
 all_goals first
  | (refine ad (ag rfl rfl) ?_;rw [cM (k:=i.k) aa (by simp only [badIdR, *,ZQ,ZO,ZC,ZB,ZE,ZD,ZH,ZG,ZK,ZI,ZP,ZJ,ZN,ZF]),ZG])
  | exact ⟨i.next aa (by simp only [badIdR, *,ZQ,ZO,ZC,ZB,ZE,ZD,ZH,ZG,ZK,ZI,ZP,ZJ,ZN,ZF]),(by show s.size-(i.k+1)<s.size-i.k;omega),aj ⟨rfl,rfl,trivial⟩ (al _) fun _ h=>h⟩
  | (refine ad (ag rfl rfl) ?_;rw [i.all aa,ZD])
def badNameR (s:ByteArray) (k:Nat):Bool:=!inChr (byteAt s k) 97 122&&(decide ((k:Int)=0)||!inChr (byteAt s k) 48 57&&!decide (byteAt s k=95))
theorem xr (s:ByteArray):isName s=(allB s.size (badNameR s)&&(decide (1≤(s.size:Int))&&decide ((s.size:Int)≤24))):=by
 rw [isName,nY (fun q c h=>by simp only [badName,dig];simp;omega),dz,Bool.and_comm]
 congr 1
 rw [←decide_not,←decide_not]
 congr 1<;>exact decide_eq_decide.2 aa
theorem iw (s:ByteArray) (hs:s.size≤maxLen):Pu Tryz.prog 216 #[.string s] (fun _=>True) (.bool (isName s)):=by
 refine ak (args:=[_]) _ Tryz.func216 rfl Tryz.ntmps216 rfl fun av bor w0=>?_
 simp only [maxLen] at hs
 rw [xr]
 repeat' (first|refine gs ?_|fail)
 refine ap (ι:=Upto s.size (badNameR s)) (fun i=>⟨[(0,.string s),(3,.int .i64 (i.k:Nat))],[],fun w=>True⟩) (fun i=>s.size-i.k) (Upto.zero _ _) (aj ⟨rfl,rfl,trivial⟩ (al _) fun _ h=>h) fun i=>?_
 have hik:=i.hk
 have e1:((i.k:Nat):Int).toNat=i.k:=rfl
 have hc1:=ja (byteAt s i.k) 97 122
 have hc2:=ja (byteAt s i.k) 48 57
 by_cases hlt:i.k<s.size
 · repeat' (first|(refine ab (hc:=hc1) ?_)|(refine ab (hc:=hc2) ?_)|refine gs ?_|(refine gp ?_ ?_<;>intro hx_ this)|fail)
   all_goals simp only [Qt] at *
   all_goals first
    | (exfalso;omega)
    | (refine ad (ag rfl rfl) ?_;rw [cM (k:=i.k) aa (by simp only [badNameR, *,ZQ,ZO,ZC,ZB,ZE,ZD,ZH,ZG,ZK,ZI,ZP,ZJ,ZN,ZF]),ZG])
    | exact ⟨i.next aa (by simp only [badNameR, *,ZQ,ZO,ZC,ZB,ZE,ZD,ZH,ZG,ZK,ZI,ZP,ZJ,ZN,ZF]),(by show s.size-(i.k+1)<s.size-i.k;omega),aj ⟨rfl,rfl,trivial⟩ (al _) fun _ h=>h⟩
    | skip
 · rw [i.all hlt,ZD]
   repeat' (first|refine gs ?_|(refine gp ?_ ?_<;>intro hx_ this)|fail)
   all_goals first
    | (exfalso;omega)
    | (refine ad (ag rfl rfl) ?_;simp only [*,ZQ,ZO,ZC,ZB,ZE,ZD,ZH,ZG,ZK,ZI,ZP,ZJ,ZN,ZF];done)
structure ActD.Str (a:ActD):Prop where
 author:a.author.size≤maxLen
 target:a.target.size≤maxLen
 group:a.group.size≤maxLen
 text:a.text.size≤maxLen
 to:∀ x∈a.toL,x.size≤maxLen
def badIdsR (l:List ByteArray) (k:Nat):Bool:=!isId (l.getD k .empty)||decide (0<(k:Int))&&!Op.bytesLess (l.getD (k-1) .empty).toList (l.getD k .empty).toList
theorem CD (a b:ByteArray):(Op.bytesLess a.toList b.toList||seqB a b)=!Op.bytesLess b.toList a.toList:=by
 show (ltB a b||seqB a b)=!ltB b a
 cases h:ltB a b with
 | true=>rw [fZ h];rfl
 | false =>
  cases k:ltB b a with
  | true =>
   have:a≠b:=fun e=>AJ k e.symm
   rw [seqB_ne.2 this]
   rfl
  | false =>
   rw [jY h k,cV]
   rfl
theorem AQ (l:List ByteArray):isIds l=(allB l.length (badIdsR l)&&decide ((l.length:Int)≤64)):=by
 rw [isIds,Bool.and_comm]
 congr 1
 · refine congrArg (allB l.length) (funext fun k=>?_)
   rw [badIds,badIdsR,CD]
 · rw [←decide_not]
   exact decide_eq_decide.2 aa
set_option maxHeartbeats 4000000 in
theorem jT (s:SlV) (l:List ByteArray) (hz:∀ x∈l,x.size≤maxLen):Pu Tryz.prog 149 #[s.v] (fun w=>Strs w s l) (.bool (isIds l)):=by
 refine ak (args:=[_]) _ Tryz.func149 rfl Tryz.ntmps149 rfl fun av bor w0=>?_
 refine aJ (p:=s.n=l.length∧s.n≤maxLen∧(0<l.length→s.p.isSome=true)) (fun w h=>⟨h.len_,Qr (RowsD.cap h) (RowsD.max h),h.some_⟩) fun ⟨hl,hm,hp⟩=>?_
 simp only [maxLen] at hm
 rw [AQ]
 repeat' (first|refine gs ?_|fail)
 refine ap (ι:=Upto l.length (badIdsR l)) (fun i=>⟨[(0,s.v),(3,.int .i64 (i.k:Nat))],[],fun w=>Strs w s l⟩) (fun i=>l.length-i.k) (Upto.zero _ _) (aj ⟨rfl,rfl,trivial⟩ (al _) fun _ h=>h) fun i=>?_
 have hik:=i.hk
 by_cases hlt:i.k<l.length
 · have hp':=hp aa
   have hid:=fV (l.getD i.k .empty) (hz _ (by rw [ZL,Zm hlt];exact Qh hlt))
   repeat' (first|refine gs ?_|(refine gp ?_ ?_<;>intro hx_ this)|fail)
   · (refine aS ⟨[0,1,2,3],[(4,⟨[5,6,7,8,9,10,11,12,13,14,15,16,17,18,19,20,21],[]⟩)]⟩ (h:=?_))
     all_goals repeat' (first|(refine ab (hc:=hid) (hX:=fun _ _=>trivial) ?_)|refine gd ?_|refine ax (hy:=by first|(apply aB (q:=i.k);rfl;rfl;omega;omega;assumption;omega)|(apply aB (q:=i.k-1);rfl;rfl;omega;omega;assumption;omega)|(apply eI (q:=i.k);rfl;exact fun w h=>Strs.get h hlt)|(apply eI (q:=i.k-1);rfl;exact fun w h=>Strs.get h (by omega:i.k-1<l.length))|(apply sD;rfl;rfl)) ?_|refine az ?_ (h':=?_)|exact aA|(refine gq ?_ ?_<;>intro hx_ this)|fail)
     all_goals
      repeat' (first|refine gs ?_|(refine gp ?_ ?_<;>intro hx_ this)|fail)
      all_goals first
       | (refine ad (ag rfl rfl) ?_;rw [cM hlt (by simp only [badIdsR, *,ZQ,ZO,ZC,ZB,ZE,ZD,ZH,ZG,ZK,ZI,ZP,ZJ,ZN,ZF]),ZG])
       | exact ⟨i.next hlt (by simp only [badIdsR, *,ZQ,ZO,ZC,ZB,ZE,ZD,ZH,ZG,ZK,ZI,ZP,ZJ,ZN,ZF]),(by show l.length-(i.k+1)<l.length-i.k;omega),aj ⟨rfl,rfl,trivial⟩ (al _) fun _ h=>h⟩
   · exfalso;omega
 · rw [i.all hlt,ZD]
   repeat' (first|refine gs ?_|(refine gp ?_ ?_<;>intro hx_ this)|fail)
   all_goals first
    | (exfalso;omega)
    | (refine ad (ag rfl rfl) ?_;rw [hl];done)
theorem fd (n:Int):Pu Tryz.prog 215 #[.int .i64 n] (fun _=>True) (.bool (isPublicB n)):=by
 refine ak (args:=[_]) _ Tryz.func215 rfl Tryz.ntmps215 rfl fun av bor w0=>?_
 have e:isPublicB n=(decide (1≤n)&&decide (n<2305843009213693951)):=by
  rw [isPublicB,withinB]
  congr 1
  exact decide_eq_decide.2 aa
 rw [e]
 clear e
 repeat' (first|refine gs ?_|(refine gp ?_ ?_<;>intro hx_ this)|fail)
 (all_goals (apply ad;apply ag;rfl;rfl));all_goals first|rfl|(simp only [ZA, *,ZQ,ZO,ZC,ZB,ZE,ZD,ZH,ZG,ZK,ZI,ZP,ZJ,ZN,ZF];done)|(simp_all [ZA];done)
theorem kv (b:BoxD):Pu Tryz.prog 254 #[b.v] (fun _=>True) (.bool (isSealedB b)):=by
 refine ak (args:=[_]) _ Tryz.func254 rfl Tryz.ntmps254 rfl fun av bor w0=>?_
 repeat' (first|refine gs ?_|refine gs1 fun _=>?_|(refine gp ?_ ?_<;>intro hx_ this)|fail)
 (all_goals (apply ad;apply ag;rfl;rfl));all_goals first|rfl|(simp only [isSealedB,isShortB, *,ZQ,ZO,ZC,ZB,ZE,ZD,ZH,ZG,ZK,ZI,ZP,ZJ,ZN,ZF];done)|(simp_all [isSealedB,isShortB];done)
theorem ku (b:BoxD):Pu Tryz.prog 253 #[b.v] (fun _=>True) (.bool (boxEq b BoxD.zero)):=by
 refine ak (args:=[_]) _ Tryz.func253 rfl Tryz.ntmps253 rfl fun av bor w0=>?_
 repeat' (first|refine gs ?_|refine gs1 fun _=>?_|(refine gp ?_ ?_<;>intro hx_ this)|fail)
 (all_goals (apply ad;apply ag;rfl;rfl));all_goals first|rfl|(simp only [boxEq,BoxD.zero, *,ZQ,ZO,ZC,ZB,ZE,ZD,ZH,ZG,ZK,ZI,ZP,ZJ,ZN,ZF];done)|(simp_all [boxEq,BoxD.zero];done)
def groupR (a:ActD):Bool:=bif decide (a.scope=2) then isName a.group else seqB a.group ⟨#[]⟩
theorem kr (a:ActD) (hs:a.Str):Pu Tryz.prog 219 #[a.v] (fun _=>True) (.bool (groupR a)):=by
 refine ak (args:=[_]) _ Tryz.func219 rfl Tryz.ntmps219 rfl fun av bor w0=>?_
 have hn:=iw a.group hs.group
 repeat' (first|(refine ab (hc:=hn) (hX:=fun _ _=>trivial) ?_)|refine gs ?_|refine gs1 fun _=>?_|(refine gp ?_ ?_<;>intro hx_ this)|fail)
 (all_goals (apply ad;apply ag;rfl;rfl));all_goals first|rfl|(simp only [groupR, *,ZQ,ZO,ZC,ZB,ZE,ZD,ZH,ZG,ZK,ZI,ZP,ZJ,ZN,ZF];done)|(simp_all [groupR];done)
def zeroR (a:ActD):Bool:=seqB a.object ⟨#[]⟩&&seqB a.target ⟨#[]⟩&&decide (a.scope=0)&&seqB a.group ⟨#[]⟩&&decide ((a.to.n:Int)=0)&&seqB a.text ⟨#[]⟩&&boxEq a.body BoxD.zero&&decide (a.epoch=0)&&decide ((a.wraps.n:Int)=0)&&decide (a.n=0)&&decide (a.m=0)
theorem bc (a:ActD):Pu Tryz.prog 221 #[a.v] (fun _=>True) (.bool (zeroR a)):=by
 refine ak (args:=[_]) _ Tryz.func221 rfl Tryz.ntmps221 rfl fun av bor w0=>?_
 have hn:=ku a.body
 repeat' (first|(refine ab (hc:=hn) (hX:=fun _ _=>trivial) ?_)|refine gs ?_|refine gs1 fun _=>?_|(refine aw ?_)|(refine gp ?_ ?_<;>intro hx_ this)|fail)
 (all_goals (apply ad;apply ag;rfl;rfl));all_goals first|rfl|(simp only [zeroR, *,ZQ,ZO,ZC,ZB,ZE,ZD,ZH,ZG,ZK,ZI,ZP,ZJ,ZN,ZF];done)|(simp_all [zeroR];done)
theorem nv (a:ActD):Pu Tryz.prog 220 #[a.v] (ActD.at_ · a) (.bool (wrappedB a)):=by
 refine ak (args:=[_]) _ Tryz.func220 rfl Tryz.ntmps220 rfl fun av bor w0=>?_
 refine aJ (p:=a.wraps.n=a.wrapsL.length∧a.wraps.n≤maxLen∧(0<a.wrapsL.length→a.wraps.p.isSome=true)) (fun w h=>⟨h.2.len_,Qr (RowsD.cap h.2) (RowsD.max h.2),h.2.some_⟩) fun ⟨hl,hm,hp⟩=>?_
 simp only [maxLen] at hm
 repeat' (first|refine gs ?_|refine gs1 fun _=>?_|(refine gp ?_ ?_<;>intro hx_ this)|fail)
 rename_i b
 refine ap (ι:=Upto a.wrapsL.length (badW a.wrapsL)) (fun i=>⟨[(1,.pointer (some ⟨b,0,none⟩)),(3,.int .i64 i.k)],[cel b 50 a.cells],(ActD.at_ · a)⟩) (fun i=>a.wrapsL.length-i.k) (Upto.zero _ _) (aj ⟨rfl,rfl,trivial⟩ (al _) fun _ h=>h) fun i=>?_
 have hik:=i.hk
 repeat' (first|refine gs ?_|refine gs1 fun _=>?_|(refine gp ?_ ?_<;>intro hx_ this)|fail)
 · have hlt:i.k<a.wrapsL.length:=by omega
   have hp':=hp aa
   obtain ⟨x,hx⟩:∃ x,a.wrapsL[i.k]?=some x:=⟨_,Zm hlt⟩
   have hc1:=fd x.to
   have hc2:=fd x.eph
   have hc3:=kv x.box
   repeat' (first|(refine ab (hc:=hc1) (hX:=fun _ _=>trivial) ?_)|(refine ab (hc:=hc2) (hX:=fun _ _=>trivial) ?_)|(refine ab (hc:=hc3) (hX:=fun _ _=>trivial) ?_)|refine gs ?_|refine gs1 fun _=>?_|(refine aH (q:=i.k*5) ?_)|(refine bP (cs:=x.cells) (hF:=fun w h=>Wraps.get h.2 hx) ?_)|(refine aw ?_)|(refine gp ?_ ?_<;>intro hx_ this)|fail)
   all_goals first
    | (refine ad (ag rfl rfl) ?_;rw [wrappedB,cM hlt (by simp only [jD hx, *,ZQ,ZO,ZC,ZB,ZE,ZD,ZH,ZG,ZK,ZI,ZP,ZJ,ZN,ZF]),ZG])
    | exact ⟨i.next hlt (by simp only [jD hx, *,ZQ,ZO,ZC,ZB,ZE,ZD,ZH,ZG,ZK,ZI,ZP,ZJ,ZN,ZF]),(by show a.wrapsL.length-(i.k+1)<a.wrapsL.length-i.k;omega),aj ⟨rfl,rfl,trivial⟩ (List.Sublist.cons _ (al _)) fun _ h=>h⟩
 · refine ad (ag rfl rfl) ?_
   rw [wrappedB,i.all aa,ZD]
def sealR (a:ActD):Bool:=decide (0≤a.epoch)&&decide (a.epoch≤1073741824)&&seqB a.text ⟨#[]⟩&&isSealedB a.body
def audR (a:ActD):Bool:=bif !isIds a.toL then false else bif !groupR a then false else bif decide (a.scope=0) then decide (a.epoch=0)&&decide ((a.text.size:Int)≤500)&&boxEq a.body BoxD.zero
 else bif decide (a.scope=3) then sealR a else bif decide (a.scope=1)||decide (a.scope=2) then sealR a&&decide ((a.to.n:Int)=0) else false
theorem Fx (a:ActD):audR a=audienceB a:=by
 have hw:withinB a.epoch 0 1073741824=(decide (0≤a.epoch)&&decide (a.epoch≤1073741824)):=rfl
 have hz:decide (0<(a.to.n:Int))=!decide ((a.to.n:Int)=0):=by rw [←decide_not];exact decide_eq_decide.2 aa
 have hsh:isShortB a.text=decide ((a.text.size:Int)≤500):=rfl
 rw [audR,audienceB,groupR,sealedScopeB,hw,hz,hsh,sealR]
 cases isIds a.toL
 · rfl
 simp only [ZK,ZB]
 by_cases h0:a.scope=0
 · rw [h0]
   simp only [show decide ((0:Int)=2)=false from rfl,show decide ((0:Int)=0)=true from rfl,ZB,ZC]
   cases seqB a.group ⟨#[]⟩<;>simp [Bool.and_assoc]
 by_cases h3:a.scope=3
 · rw [h3]
   simp only [show decide ((3:Int)=2)=false from rfl,show decide ((3:Int)=0)=false from rfl,show decide ((3:Int)=3)=true from rfl,show decide ((3:Int)=1)=false from rfl,ZB,ZC,ZK,ZH]
   cases seqB a.group ⟨#[]⟩<;>simp [Bool.and_assoc]
 by_cases h1:a.scope=1
 · rw [h1]
   simp only [show decide ((1:Int)=2)=false from rfl,show decide ((1:Int)=0)=false from rfl,show decide ((1:Int)=3)=false from rfl,show decide ((1:Int)=1)=true from rfl,ZB,ZC,ZI,ZE,ZJ]
   cases seqB a.group ⟨#[]⟩<;>cases decide ((a.to.n:Int)=0)<;>simp [Bool.and_assoc]
 by_cases h2:a.scope=2
 · rw [h2]
   simp only [show decide ((2:Int)=2)=true from rfl,show decide ((2:Int)=0)=false from rfl,show decide ((2:Int)=3)=false from rfl,show decide ((2:Int)=1)=false from rfl,ZB,ZC,ZI,ZE,ZF]
   cases isName a.group<;>cases decide ((a.to.n:Int)=0)<;>simp [Bool.and_assoc]
 rw [Zn h0,Zn h1,Zn h2,Zn h3]
 cases seqB a.group ⟨#[]⟩<;>cases decide ((a.to.n:Int)=0)<;>rfl
set_option maxHeartbeats 2000000 in
theorem mu (a:ActD) (hs:a.Str):Pu Tryz.prog 217 #[a.v] (ActD.at_ · a) (.bool (audienceB a)):=by
 refine ak (args:=[_]) _ Tryz.func217 rfl Tryz.ntmps217 rfl fun av bor w0=>?_
 rw [←Fx]
 have hi:=jT a.to a.toL hs.to
 have hg:=kr a hs
 have hb:=kv a.body
 have he:=ku a.body
 repeat' (first|(refine ab (hc:=hi) (hX:=fun w h=>h.1) ?_)|(refine ab (hc:=hg) (hX:=fun _ _=>trivial) ?_)|(refine ab (hc:=hb) (hX:=fun _ _=>trivial) ?_)|(refine ab (hc:=he) (hX:=fun _ _=>trivial) ?_)|refine gs ?_|refine gs1 fun _=>?_|(refine aw ?_)|(refine gp ?_ ?_<;>intro hx_ this)|fail)
 all_goals refine ad (ag rfl rfl) ?_
 all_goals first
  | rfl
  | (simp_all [audR,sealR];done)
  | (simp_all [audR,sealR];intros;omega)
def bareA (a:ActD):ActD:={ a with scope:=0,group:=⟨#[]⟩,to:=⟨none,0,0⟩,text:=⟨#[]⟩,body:=BoxD.zero,epoch:=0,toL:=[] }
theorem tq (a:ActD):Pu Tryz.prog 218 #[a.v] (fun _=>True) (bareA a).v:=by
 refine ak (args:=[_]) _ Tryz.func218 rfl Tryz.ntmps218 rfl fun av bor w0=>?_
 repeat' (first|refine jK ?_|refine gs ?_|refine gs1 fun _=>?_|(refine dB ({ a with scope:=0,group:=⟨#[]⟩,to:=⟨none,0,0⟩,text:=⟨#[]⟩,body:=BoxD.zero }:ActD).cells (h:=?_))|(refine gp ?_ ?_<;>intro hx_ this)|fail)
 exact ad (cG (cs:=(bareA a).cells) rfl rfl ar (by rfl)) rfl
end Go.Proofs.YtoefdofbekihdaaGreatDoor
