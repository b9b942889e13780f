/- Joined. -/
import Derived.Test.YtgffbiobmamobaaGreatDoorI0
import Derived.Test.YtgffbiobmamobaaGreatDoorI1
import Derived.Test.YtgffbiobmamobaaGreatDoorI11
import Derived.Test.YtgffbiobmamobaaGreatDoorI12
import Derived.Test.YtgffbiobmamobaaGreatDoorI9
set_option linter.unusedVariables false
set_option linter.unusedSimpArgs false
set_option maxHeartbeats 16000000
namespace Go.Proofs.YtgffbiobmamobaaGreatDoor
open Go Go.Proofs Sy
def rightK2 (i:Xb):Bool:=bif decide (i.kind=0) then rightB i.act else bif decide (i.kind=1) then claimR i.claim else bif decide (i.kind=2) then ballotR i.ballot else bif decide (i.kind=3) then decR i.dec else false
def restI (i:Xb):Xb:=bif decide (i.kind=0) then ⟨0,Xc.zero,i.claim,i.ballot,i.dec⟩ else bif decide (i.kind=1) then ⟨0,i.act,Xm.zero,i.ballot,i.dec⟩ else bif decide (i.kind=2) then ⟨0,i.act,i.claim,Xj.zero,i.dec⟩ else bif decide (i.kind=3) then ⟨0,i.act,i.claim,i.ballot,Xf.zero⟩ else ⟨0,i.act,i.claim,i.ballot,i.dec⟩
def rightIt (i:Xb):Bool:=rightK2 i&&sameIZ (restI i)
set_option maxRecDepth 20000 in
theorem cL (i:Xb):Pu Tryz.prog 27 #[i.v] (fun w=>i.at_ w) (.bool (rightIt i)):=by
 refine aq Tryz.func27 Tryz.ntmps27 fun av bor w0=>?_
 by_cases h0:i.kind=0
 · have hri:=dN i.act
   have hsa:=eF ⟨0,Xc.zero,i.claim,i.ballot,i.dec⟩
   have e:rightIt i=(rightB i.act&&sameIZ ⟨0,Xc.zero,i.claim,i.ballot,i.dec⟩):=by simp [rightIt,rightK2,restI,h0]
   rw [e]
   generalize rightB i.act=rb at *
   generalize sameIZ ⟨0,Xc.zero,i.claim,i.ballot,i.dec⟩=sb at *
   repeat' (first|refine cq ?_|refine bK ?_|(refine ag (hc:=hri) ?_)|(refine ag (hc:=hsa) ?_)|refine gs ?_|refine gs1 fun _=>?_|(refine aL (cs:=Xc.zero.cells) (hf:=by rfl) ?_)|(refine aZ (⟨0,Xc.zero,i.claim,i.ballot,i.dec⟩:Xb).cells (h:=?_))|(refine aE (vs:=i.act.cells) (hv:=rfl) ?_)|(refine aL (cs:=Xb.zero.cells) (hf:=by rfl) ?_)|(refine gp ?_ ?_<;>intro hx_ this)|fail)
   all_goals first
    | exact ae (aj rfl rfl) rfl
    | (refine ae (aj rfl rfl) ?_;simp_all;done)
 by_cases h1:i.kind=1
 · have hri:=lC i.claim
   have hsa:=eF ⟨0,i.act,Xm.zero,i.ballot,i.dec⟩
   have e:rightIt i=(claimR i.claim&&sameIZ ⟨0,i.act,Xm.zero,i.ballot,i.dec⟩):=by simp [rightIt,rightK2,restI,h0,h1]
   rw [e]
   generalize claimR i.claim=rb at *
   generalize sameIZ ⟨0,i.act,Xm.zero,i.ballot,i.dec⟩=sb at *
   repeat' (first|refine cq ?_|refine bK ?_|(refine ag (hc:=hri) ?_)|(refine ag (hc:=hsa) ?_)|refine gs ?_|refine gs1 fun _=>?_|(refine aL (cs:=Xm.zero.cells) (hf:=by rfl) ?_)|(refine aZ (⟨0,i.act,Xm.zero,i.ballot,i.dec⟩:Xb).cells (h:=?_))|(refine aE (vs:=i.claim.cells) (hv:=rfl) ?_)|(refine aL (cs:=Xb.zero.cells) (hf:=by rfl) ?_)|(refine gp ?_ ?_<;>intro hx_ this)|fail)
   all_goals first
    | exact ae (aj rfl rfl) rfl
    | (refine ae (aj rfl rfl) ?_;simp_all;done)
 by_cases h2:i.kind=2
 · have hri:=kE i.ballot
   have hsa:=eF ⟨0,i.act,i.claim,Xj.zero,i.dec⟩
   have e:rightIt i=(ballotR i.ballot&&sameIZ ⟨0,i.act,i.claim,Xj.zero,i.dec⟩):=by simp [rightIt,rightK2,restI,h0,h1,h2]
   rw [e]
   generalize ballotR i.ballot=rb at *
   generalize sameIZ ⟨0,i.act,i.claim,Xj.zero,i.dec⟩=sb at *
   repeat' (first|refine cq ?_|refine bK ?_|(refine ag (hc:=hri) ?_)|(refine ag (hc:=hsa) ?_)|refine gs ?_|refine gs1 fun _=>?_|(refine aL (cs:=Xj.zero.cells) (hf:=by rfl) ?_)|(refine aZ (⟨0,i.act,i.claim,Xj.zero,i.dec⟩:Xb).cells (h:=?_))|(refine aE (vs:=i.ballot.cells) (hv:=rfl) ?_)|(refine aL (cs:=Xb.zero.cells) (hf:=by rfl) ?_)|(refine gp ?_ ?_<;>intro hx_ this)|fail)
   all_goals first
    | exact ae (aj rfl rfl) rfl
    | (refine ae (aj rfl rfl) ?_;simp_all;done)
 by_cases h3:i.kind=3
 · have hri:=iW i.dec
   have hsa:=eF ⟨0,i.act,i.claim,i.ballot,Xf.zero⟩
   have e:rightIt i=(decR i.dec&&sameIZ ⟨0,i.act,i.claim,i.ballot,Xf.zero⟩):=by simp [rightIt,rightK2,restI,h0,h1,h2,h3]
   rw [e]
   generalize decR i.dec=rb at *
   generalize sameIZ ⟨0,i.act,i.claim,i.ballot,Xf.zero⟩=sb at *
   repeat' (first|refine cq ?_|refine bK ?_|(refine ag (hc:=hri) ?_)|(refine ag (hc:=hsa) ?_)|refine gs ?_|refine gs1 fun _=>?_|(refine aL (cs:=Xf.zero.cells) (hf:=by rfl) ?_)|(refine aZ (⟨0,i.act,i.claim,i.ballot,Xf.zero⟩:Xb).cells (h:=?_))|(refine aE (vs:=i.dec.cells) (hv:=rfl) ?_)|(refine aL (cs:=Xb.zero.cells) (hf:=by rfl) ?_)|(refine gp ?_ ?_<;>intro hx_ this)|fail)
   all_goals first
    | exact ae (aj rfl rfl) rfl
    | (refine ae (aj rfl rfl) ?_;simp_all;done)
 have e:rightIt i=false:=by simp [rightIt,rightK2,h0,h1,h2,h3]
 rw [e]
 repeat' (first|refine bK ?_|refine gs ?_|refine gs1 fun _=>?_|(refine gp ?_ ?_<;>intro hx_ this)|fail)
 all_goals exact ae (aj rfl rfl) rfl
def formCells (nm:ByteArray) (f:Nat) (e s:Int):List Value:=[.string nm,.func (.func f) #[] #[],.int .i64 e,.int .i64 s]
theorem jo {N:Nat} {av bor:List Nat} {w0:World} {st:St} {ty:TypeId} {x:Operand} {nm:ByteArray} {f:Nat} {e s:Int} (hx:ev st.env x=some (.agg (formCells nm f e s).toArray)):Sy.Yields Tryz.prog N av bor w0 st (.field 169 x 2) ty (.agg #[.int .i64 e,.int .i64 s]):=Sy.Yields.mk fun A w ok d pos af g=>by
 have hp:(part 40 (formCells nm f e s).toArray 2).run Tryz.prog w=.ok (.agg #[.int .i64 e,.int .i64 s]) w:=by rw [gu];rfl
 simp only [formCells] at hx hp
 simp [execOp,ok.eval hx,Instr.field,run_underlying Tryz.underlying169,asAgg,hp]
def nameC:ByteArray:=⟨#[99,108,97,105,109]⟩
theorem wK (it:Xb) (h:it.kind=1):Pu Tryz.prog 91 #[it.v] (fun _=>True) (.agg (formCells nameC 127 it.claim.e it.claim.s).toArray):=by
 refine aq Tryz.func91 Tryz.ntmps91 fun av bor w0=>?_
 repeat' (first|refine cq ?_|refine bK ?_|refine gs ?_|refine gs1 fun _=>?_|(refine aE (vs:=[.int .i64 it.claim.e,.int .i64 it.claim.s]) (hv:=rfl) ?_)|(refine aL (cs:=formCells nameC 127 it.claim.e it.claim.s) (hf:=by rfl) ?_)|(refine gp ?_ ?_<;>intro hx_ this)|fail)
 all_goals exact ae (aI rfl rfl aC (by rfl)) rfl
def nameB:ByteArray:=⟨#[98,97,108,108,111,116]⟩
theorem kX (it:Xb) (h:it.kind=2):Pu Tryz.prog 91 #[it.v] (fun _=>True) (.agg (formCells nameB 128 it.ballot.e it.ballot.s).toArray):=by
 refine aq Tryz.func91 Tryz.ntmps91 fun av bor w0=>?_
 repeat' (first|refine cq ?_|refine bK ?_|refine gs ?_|refine gs1 fun _=>?_|(refine aE (vs:=[.int .i64 it.ballot.e,.int .i64 it.ballot.s]) (hv:=rfl) ?_)|(refine aL (cs:=formCells nameB 128 it.ballot.e it.ballot.s) (hf:=by rfl) ?_)|(refine gp ?_ ?_<;>intro hx_ this)|fail)
 all_goals exact ae (aI rfl rfl aC (by rfl)) rfl
def msgB (x:Xj):ByteArray:=textsV [nameB]++coreBa x
theorem yS (it:Xb) (h:it.kind=2) (hl:it.ballot.Lt) (hz:(msgB it.ballot).size≤1099511627776):Pu Tryz.prog 88 #[it.v] (fun _=>True) (.string (msgB it.ballot)):=by
 refine aq Tryz.func88 Tryz.ntmps88 fun av bor w0=>?_
 have hfo:=kX it h
 rw [msgB] at hz ⊢
 rw [ByteArray.size_append] at hz
 have hS:(⟨#[]⟩:ByteArray)++textsV [nameB]=textsV [nameB]:=ByteArray.empty_append
 have hts:(⟨#[]⟩:ByteArray).size+(textsV [nameB]).size≤1099511627776:=by
  rw [←ByteArray.size_append,hS]
  omega
 repeat' (first|(refine ag (hc:=hfo) ?_)|refine gs ?_|refine gs1 fun _=>?_|(refine gp ?_ ?_<;>intro hx_ this)|fail)
 rename_i bi bf bb bs
 refine bO ?_
 refine gF 5 1 ?_
 refine cI (l:=bld bb none 0 ⟨#[]⟩++[cel bf 169 (formCells nameB 128 it.ballot.e it.ballot.s),cel bi 78 it.cells]) (List.Perm.swap _ _ _) ?_
 refine ci (pre:=bld bb none 0 ⟨#[]⟩) (fr:=[cel bf 169 (formCells nameB 128 it.ballot.e it.ballot.s),cel bi 78 it.cells]) (hc:=eS bb none 0 ⟨#[]⟩ ⟨some ⟨bs,0,none⟩,1,1⟩ [nameB] hts) (hX:=fun w h=>aU (xs:=[[encB nameB]]) h.2 rfl (by decide) (by simp)) (h:=?_)
 rintro v R X' ⟨A1,c1,rfl,rfl⟩
 refine cN (X':=(fun _=>True)) (fun w h=>trivial) ?_
 rw [hS]
 generalize textsV [nameB]=p0 at *
 unfold bld
 repeat' (first|refine gs ?_|refine gs1 fun _=>?_|fail)
 refine ci (pre:=bld bb A1 c1 p0) (fr:=[cel bf 169 (formCells nameB 128 it.ballot.e it.ballot.s),cel bi 78 it.cells]) (hc:=lv bb A1 c1 p0 it hl hz) (hX:=fun _ _=>trivial) (h:=?_)
 rintro v R X' ⟨A2,c2,rfl,rfl⟩
 unfold bld
 repeat' (first|refine gs ?_|refine gs1 fun _=>?_|fail)
 refine ew (hm:=List.mem_cons_of_mem _ ay) ?_
 repeat' (first|refine gs ?_|refine gs1 fun _=>?_|(refine gp ?_ ?_<;>intro hx_ this)|fail)
 all_goals
  apply ae;apply aj;rfl;rfl
  simp only [cC]
def sgnB (p:Int) (x:Xj):Bool:=verN p (msgB x) x.e x.s
theorem mR (p:Int) (it:Xb) (h:it.kind=2) (hl:it.ballot.Lt) (hz:(msgB it.ballot).size≤1000000000000):Pu Tryz.prog 61 #[.int .i64 p,it.v] (fun w=>it.at_ w∧Xg w) (.bool (sgnB p it.ballot)):=by
 refine aq Tryz.func61 Tryz.ntmps61 fun av bor w0=>?_
 have hms:=yS it h hl ac
 have hfo:=kX it h
 have hve:=lK p (msgB it.ballot) it.ballot.e it.ballot.s hz
 rw [sgnB]
 generalize verN p (msgB it.ballot) it.ballot.e it.ballot.s=V at *
 repeat' (first|refine gs ?_|refine gs1 fun _=>?_|(refine gp ?_ ?_<;>intro hx_ this)|fail)
 rename_i b3
 (refine ao ⟨[0,1,3],[(2,⟨[],[(4,⟨[5],[(6,⟨[7],[]⟩)]⟩)]⟩)]⟩ [cel b3 78 it.cells] (fun w=>it.at_ w∧Xg w) (h:=?_))
 all_goals repeat' (first|(refine ag (hc:=hms) (hX:=fun w h=>trivial) ?_)|(refine ag (hc:=hfo) ?_)|(refine ag (hc:=hve) ?_)|refine gd ?_|refine aJ (hy:=by first|(apply jo;rfl)) ?_|refine aF ?_ (h':=?_)|exact aG|refine gs1 fun _=>?_|(refine gq ?_ ?_<;>intro hx_ this)|fail)
 all_goals
  repeat' (first|refine gs ?_|refine gs1 fun _=>?_|(refine gp ?_ ?_<;>intro hx_ this)|fail)
  exact ae (aj rfl rfl) rfl
def nameD:ByteArray:=⟨#[100,101,99,105,115,105,111,110]⟩
theorem kW (it:Xb) (h:it.kind=3):Pu Tryz.prog 91 #[it.v] (fun _=>True) (.agg (formCells nameD 129 it.dec.e it.dec.s).toArray):=by
 refine aq Tryz.func91 Tryz.ntmps91 fun av bor w0=>?_
 repeat' (first|refine cq ?_|refine bK ?_|refine gs ?_|refine gs1 fun _=>?_|(refine aE (vs:=[.int .i64 it.dec.e,.int .i64 it.dec.s]) (hv:=rfl) ?_)|(refine aL (cs:=formCells nameD 129 it.dec.e it.dec.s) (hf:=by rfl) ?_)|(refine gp ?_ ?_<;>intro hx_ this)|fail)
 all_goals exact ae (aI rfl rfl aC (by rfl)) rfl
def msgD (x:Xf):ByteArray:=textsV [nameD]++coreDe x
theorem rL (it:Xb) (h:it.kind=3) (hl:it.dec.Lt) (hz:(msgD it.dec).size≤1099511627776):Pu Tryz.prog 88 #[it.v] (fun w=>it.at_ w) (.string (msgD it.dec)):=by
 refine aq Tryz.func88 Tryz.ntmps88 fun av bor w0=>?_
 have hfo:=kW it h
 rw [msgD] at hz ⊢
 rw [ByteArray.size_append] at hz
 have hS:(⟨#[]⟩:ByteArray)++textsV [nameD]=textsV [nameD]:=ByteArray.empty_append
 have hts:(⟨#[]⟩:ByteArray).size+(textsV [nameD]).size≤1099511627776:=by
  rw [←ByteArray.size_append,hS]
  omega
 repeat' (first|(refine ag (hc:=hfo) ?_)|refine gs ?_|refine gs1 fun _=>?_|(refine gp ?_ ?_<;>intro hx_ this)|fail)
 rename_i bi bf bb bs
 refine bO ?_
 refine gF 5 1 ?_
 refine cI (l:=bld bb none 0 ⟨#[]⟩++[cel bf 169 (formCells nameD 129 it.dec.e it.dec.s),cel bi 78 it.cells]) (List.Perm.swap _ _ _) ?_
 refine ci (pre:=bld bb none 0 ⟨#[]⟩) (fr:=[cel bf 169 (formCells nameD 129 it.dec.e it.dec.s),cel bi 78 it.cells]) (hc:=eS bb none 0 ⟨#[]⟩ ⟨some ⟨bs,0,none⟩,1,1⟩ [nameD] hts) (hX:=fun w h=>aU (xs:=[[encB nameD]]) h.2 rfl (by decide) (by simp)) (h:=?_)
 rintro v R X' ⟨A1,c1,rfl,rfl⟩
 refine cN (X':=(fun w=>it.at_ w)) (fun w h=>h.1.1) ?_
 rw [hS]
 generalize textsV [nameD]=p0 at *
 unfold bld
 repeat' (first|refine gs ?_|refine gs1 fun _=>?_|fail)
 refine ci (pre:=bld bb A1 c1 p0) (fr:=[cel bf 169 (formCells nameD 129 it.dec.e it.dec.s),cel bi 78 it.cells]) (hc:=iF bb A1 c1 p0 it hl hz) (hX:=fun w h=>h) (h:=?_)
 rintro v R X' ⟨A2,c2,rfl,rfl⟩
 unfold bld
 repeat' (first|refine gs ?_|refine gs1 fun _=>?_|fail)
 refine ew (hm:=List.mem_cons_of_mem _ ay) ?_
 repeat' (first|refine gs ?_|refine gs1 fun _=>?_|(refine gp ?_ ?_<;>intro hx_ this)|fail)
 all_goals
  apply ae;apply aj;rfl;rfl
  simp only [cC]
def sgnD (p:Int) (x:Xf):Bool:=verN p (msgD x) x.e x.s
theorem mQ (p:Int) (it:Xb) (h:it.kind=3) (hl:it.dec.Lt) (hz:(msgD it.dec).size≤1000000000000):Pu Tryz.prog 61 #[.int .i64 p,it.v] (fun w=>it.at_ w∧Xg w) (.bool (sgnD p it.dec)):=by
 refine aq Tryz.func61 Tryz.ntmps61 fun av bor w0=>?_
 have hms:=rL it h hl ac
 have hfo:=kW it h
 have hve:=lK p (msgD it.dec) it.dec.e it.dec.s hz
 rw [sgnD]
 generalize verN p (msgD it.dec) it.dec.e it.dec.s=V at *
 repeat' (first|refine gs ?_|refine gs1 fun _=>?_|(refine gp ?_ ?_<;>intro hx_ this)|fail)
 rename_i b3
 (refine ao ⟨[0,1,3],[(2,⟨[],[(4,⟨[5],[(6,⟨[7],[]⟩)]⟩)]⟩)]⟩ [cel b3 78 it.cells] (fun w=>it.at_ w∧Xg w) (h:=?_))
 all_goals repeat' (first|(refine ag (hc:=hms) ?_)|(refine ag (hc:=hfo) ?_)|(refine ag (hc:=hve) ?_)|refine gd ?_|refine aJ (hy:=by first|(apply jo;rfl)) ?_|refine aF ?_ (h':=?_)|exact aG|refine gs1 fun _=>?_|(refine gq ?_ ?_<;>intro hx_ this)|fail)
 all_goals
  repeat' (first|refine gs ?_|refine gs1 fun _=>?_|(refine gp ?_ ?_<;>intro hx_ this)|fail)
  exact ae (aj rfl rfl) rfl
end Go.Proofs.YtgffbiobmamobaaGreatDoor
