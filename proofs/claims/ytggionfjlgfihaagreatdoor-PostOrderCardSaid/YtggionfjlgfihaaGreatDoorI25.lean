/- Joined. -/
import Derived.Test.YtggionfjlgfihaaGreatDoorI0
import Derived.Test.YtggionfjlgfihaaGreatDoorI1
import Derived.Test.YtggionfjlgfihaaGreatDoorI23
import Derived.Test.YtggionfjlgfihaaGreatDoorI24
import Derived.Test.YtggionfjlgfihaaGreatDoorI14
set_option linter.unusedVariables false
set_option linter.unusedSimpArgs false
set_option maxHeartbeats 16000000
namespace Go.Proofs.YtggionfjlgfihaaGreatDoor
open Go Go.Proofs Sy
def rightK2 (i:Xb):Bool:=bif decide (i.kind=0) then rightB i.act else bif decide (i.kind=1) then claimR i.claim else bif decide (i.kind=2) then ballotR i.ballot else bif decide (i.kind=3) then decR i.dec else false
def restI (i:Xb):Xb:=bif decide (i.kind=0) then ⟨0,Xa.zero,i.claim,i.ballot,i.dec⟩ else bif decide (i.kind=1) then ⟨0,i.act,Xg.zero,i.ballot,i.dec⟩ else bif decide (i.kind=2) then ⟨0,i.act,i.claim,Xi.zero,i.dec⟩ else bif decide (i.kind=3) then ⟨0,i.act,i.claim,i.ballot,Xr.zero⟩ else ⟨0,i.act,i.claim,i.ballot,i.dec⟩
def rightIt (i:Xb):Bool:=rightK2 i&&sameIZ (restI i)
set_option maxRecDepth 20000 in
theorem cW (i:Xb):Pu Tryz.prog 23 #[i.v] (fun w=>i.at_ w) (.bool (rightIt i)):=by
 refine ar Tryz.func23 Tryz.ntmps23 fun av bor w0=>?_
 by_cases h0:i.kind=0
 · have hri:=cM i.act
   have hsa:=eC ⟨0,Xa.zero,i.claim,i.ballot,i.dec⟩
   have e:rightIt i=(rightB i.act&&sameIZ ⟨0,Xa.zero,i.claim,i.ballot,i.dec⟩):=by simp [rightIt,rightK2,restI,h0]
   rw [e]
   generalize rightB i.act=rb at *
   generalize sameIZ ⟨0,Xa.zero,i.claim,i.ballot,i.dec⟩=sb at *
   repeat' (first|refine bp ?_|refine bo ?_|(refine ag (hc:=hri) ?_)|(refine ag (hc:=hsa) ?_)|refine gs ?_|refine gs1 fun _=>?_|(refine aM (cs:=Xa.zero.cells) (hf:=by rfl) ?_)|(refine di (⟨0,Xa.zero,i.claim,i.ballot,i.dec⟩:Xb).cells (h:=?_))|(refine aB (vs:=i.act.cells) (hv:=rfl) ?_)|(refine aM (cs:=Xb.zero.cells) (hf:=by rfl) ?_)|(refine gp ?_ ?_<;>intro hx_ this)|fail)
   all_goals first
    | exact ab (ai rfl rfl) rfl
    | (refine ab (ai rfl rfl) ?_;simp_all;done)
 by_cases h1:i.kind=1
 · have hri:=lZ i.claim
   have hsa:=eC ⟨0,i.act,Xg.zero,i.ballot,i.dec⟩
   have e:rightIt i=(claimR i.claim&&sameIZ ⟨0,i.act,Xg.zero,i.ballot,i.dec⟩):=by simp [rightIt,rightK2,restI,h0,h1]
   rw [e]
   generalize claimR i.claim=rb at *
   generalize sameIZ ⟨0,i.act,Xg.zero,i.ballot,i.dec⟩=sb at *
   repeat' (first|refine bp ?_|refine bo ?_|(refine ag (hc:=hri) ?_)|(refine ag (hc:=hsa) ?_)|refine gs ?_|refine gs1 fun _=>?_|(refine aM (cs:=Xg.zero.cells) (hf:=by rfl) ?_)|(refine di (⟨0,i.act,Xg.zero,i.ballot,i.dec⟩:Xb).cells (h:=?_))|(refine aB (vs:=i.claim.cells) (hv:=rfl) ?_)|(refine aM (cs:=Xb.zero.cells) (hf:=by rfl) ?_)|(refine gp ?_ ?_<;>intro hx_ this)|fail)
   all_goals first
    | exact ab (ai rfl rfl) rfl
    | (refine ab (ai rfl rfl) ?_;simp_all;done)
 by_cases h2:i.kind=2
 · have hri:=kU i.ballot
   have hsa:=eC ⟨0,i.act,i.claim,Xi.zero,i.dec⟩
   have e:rightIt i=(ballotR i.ballot&&sameIZ ⟨0,i.act,i.claim,Xi.zero,i.dec⟩):=by simp [rightIt,rightK2,restI,h0,h1,h2]
   rw [e]
   generalize ballotR i.ballot=rb at *
   generalize sameIZ ⟨0,i.act,i.claim,Xi.zero,i.dec⟩=sb at *
   repeat' (first|refine bp ?_|refine bo ?_|(refine ag (hc:=hri) ?_)|(refine ag (hc:=hsa) ?_)|refine gs ?_|refine gs1 fun _=>?_|(refine aM (cs:=Xi.zero.cells) (hf:=by rfl) ?_)|(refine di (⟨0,i.act,i.claim,Xi.zero,i.dec⟩:Xb).cells (h:=?_))|(refine aB (vs:=i.ballot.cells) (hv:=rfl) ?_)|(refine aM (cs:=Xb.zero.cells) (hf:=by rfl) ?_)|(refine gp ?_ ?_<;>intro hx_ this)|fail)
   all_goals first
    | exact ab (ai rfl rfl) rfl
    | (refine ab (ai rfl rfl) ?_;simp_all;done)
 by_cases h3:i.kind=3
 · have hri:=jg i.dec
   have hsa:=eC ⟨0,i.act,i.claim,i.ballot,Xr.zero⟩
   have e:rightIt i=(decR i.dec&&sameIZ ⟨0,i.act,i.claim,i.ballot,Xr.zero⟩):=by simp [rightIt,rightK2,restI,h0,h1,h2,h3]
   rw [e]
   generalize decR i.dec=rb at *
   generalize sameIZ ⟨0,i.act,i.claim,i.ballot,Xr.zero⟩=sb at *
   repeat' (first|refine bp ?_|refine bo ?_|(refine ag (hc:=hri) ?_)|(refine ag (hc:=hsa) ?_)|refine gs ?_|refine gs1 fun _=>?_|(refine aM (cs:=Xr.zero.cells) (hf:=by rfl) ?_)|(refine di (⟨0,i.act,i.claim,i.ballot,Xr.zero⟩:Xb).cells (h:=?_))|(refine aB (vs:=i.dec.cells) (hv:=rfl) ?_)|(refine aM (cs:=Xb.zero.cells) (hf:=by rfl) ?_)|(refine gp ?_ ?_<;>intro hx_ this)|fail)
   all_goals first
    | exact ab (ai rfl rfl) rfl
    | (refine ab (ai rfl rfl) ?_;simp_all;done)
 have e:rightIt i=false:=by simp [rightIt,rightK2,h0,h1,h2,h3]
 rw [e]
 repeat' (first|refine bo ?_|refine gs ?_|refine gs1 fun _=>?_|(refine gp ?_ ?_<;>intro hx_ this)|fail)
 all_goals exact ab (ai rfl rfl) rfl
def formCells (nm:ByteArray) (f:Nat) (e s:Int):List Value:=[.string nm,.func (.func f) #[] #[],.int .i64 e,.int .i64 s]
theorem fY {N:Nat} {av bor:List Nat} {w0:World} {st:St} {ty:TypeId} {x:Operand} {nm:ByteArray} {f:Nat} {e s:Int} (hx:ev st.env x=some (.agg (formCells nm f e s).toArray)):Sy.Yields Tryz.prog N av bor w0 st (.field 176 x 2) ty (.agg #[.int .i64 e,.int .i64 s]):=Sy.Yields.mk fun A w ok d pos af g=>by
 have hp:(part 35 (formCells nm f e s).toArray 2).run Tryz.prog w=.ok (.agg #[.int .i64 e,.int .i64 s]) w:=by rw [gu];rfl
 simp only [formCells] at hx hp
 simp [execOp,ok.eval hx,Instr.field,run_underlying Tryz.underlying176,asAgg,hp]
def nameC:ByteArray:=⟨#[99,108,97,105,109]⟩
theorem lw (it:Xb) (h:it.kind=1):Pu Tryz.prog 107 #[it.v] (fun _=>True) (.agg (formCells nameC 172 it.claim.e it.claim.s).toArray):=by
 refine ar Tryz.func107 Tryz.ntmps107 fun av bor w0=>?_
 repeat' (first|refine bp ?_|refine bo ?_|refine gs ?_|refine gs1 fun _=>?_|(refine aB (vs:=[.int .i64 it.claim.e,.int .i64 it.claim.s]) (hv:=rfl) ?_)|(refine aM (cs:=formCells nameC 172 it.claim.e it.claim.s) (hf:=by rfl) ?_)|(refine gp ?_ ?_<;>intro hx_ this)|fail)
 all_goals exact ab (bx rfl rfl aL (by rfl)) rfl
def msgC (x:Xg):ByteArray:=textsV [nameC]++coreCl x
theorem zl (it:Xb) (h:it.kind=1) (hl:it.claim.Lt) (hz:(msgC it.claim).size≤1099511627776):Pu Tryz.prog 117 #[it.v] (fun _=>True) (.string (msgC it.claim)):=by
 refine ar Tryz.func117 Tryz.ntmps117 fun av bor w0=>?_
 have hfo:=lw it h
 rw [msgC] at hz ⊢
 rw [ByteArray.size_append] at hz
 have hS:(⟨#[]⟩:ByteArray)++textsV [nameC]=textsV [nameC]:=ByteArray.empty_append
 have hts:(⟨#[]⟩:ByteArray).size+(textsV [nameC]).size≤1099511627776:=by
  rw [←ByteArray.size_append,hS]
  omega
 repeat' (first|(refine ag (hc:=hfo) ?_)|refine gs ?_|refine gs1 fun _=>?_|(refine gp ?_ ?_<;>intro hx_ this)|fail)
 rename_i bi bf bb bs
 refine aW ?_
 refine ff 5 1 ?_
 refine bX (l:=bld bb none 0 ⟨#[]⟩++[cel bf 176 (formCells nameC 172 it.claim.e it.claim.s),cel bi 45 it.cells]) (List.Perm.swap _ _ _) ?_
 refine aZ (pre:=bld bb none 0 ⟨#[]⟩) (fr:=[cel bf 176 (formCells nameC 172 it.claim.e it.claim.s),cel bi 45 it.cells]) (hc:=ej bb none 0 ⟨#[]⟩ ⟨some ⟨bs,0,none⟩,1,1⟩ [nameC] hts) (hX:=fun w h=>aR (xs:=[[encB nameC]]) h.2 rfl (by decide) (by simp)) (h:=?_)
 rintro v R X' ⟨A1,c1,rfl,rfl⟩
 refine bS (X':=(fun _=>True)) (fun w h=>trivial) ?_
 rw [hS]
 generalize textsV [nameC]=p0 at *
 unfold bld
 repeat' (first|refine gs ?_|refine gs1 fun _=>?_|fail)
 refine aZ (pre:=bld bb A1 c1 p0) (fr:=[cel bf 176 (formCells nameC 172 it.claim.e it.claim.s),cel bi 45 it.cells]) (hc:=mW bb A1 c1 p0 it hl hz) (hX:=fun _ _=>trivial) (h:=?_)
 rintro v R X' ⟨A2,c2,rfl,rfl⟩
 unfold bld
 repeat' (first|refine gs ?_|refine gs1 fun _=>?_|fail)
 refine dR (hm:=List.mem_cons_of_mem _ ap) ?_
 repeat' (first|refine gs ?_|refine gs1 fun _=>?_|(refine gp ?_ ?_<;>intro hx_ this)|fail)
 all_goals
  apply ab;apply ai;rfl;rfl
  simp only [bM]
def sgnC (p:Int) (x:Xg):Bool:=verN p (msgC x) x.e x.s
theorem nD (p:Int) (it:Xb) (h:it.kind=1) (hl:it.claim.Lt) (hz:(msgC it.claim).size≤1000000000000):Pu Tryz.prog 61 #[.int .i64 p,it.v] (fun w=>it.at_ w∧Xf w) (.bool (sgnC p it.claim)):=by
 refine ar Tryz.func61 Tryz.ntmps61 fun av bor w0=>?_
 have hms:=zl it h hl aa
 have hfo:=lw it h
 have hve:=gJ p (msgC it.claim) it.claim.e it.claim.s hz
 rw [sgnC]
 generalize verN p (msgC it.claim) it.claim.e it.claim.s=V at *
 repeat' (first|refine gs ?_|refine gs1 fun _=>?_|(refine gp ?_ ?_<;>intro hx_ this)|fail)
 rename_i b3
 (refine ao ⟨[0,1,3],[(2,⟨[],[(4,⟨[5],[(6,⟨[7],[]⟩)]⟩)]⟩)]⟩ [cel b3 45 it.cells] (fun w=>it.at_ w∧Xf w) (h:=?_))
 all_goals repeat' (first|(refine ag (hc:=hms) (hX:=fun w h=>trivial) ?_)|(refine ag (hc:=hfo) ?_)|(refine ag (hc:=hve) ?_)|refine gd ?_|refine ax (hy:=by first|(apply fY;rfl)) ?_|refine ay ?_ (h':=?_)|exact az|refine gs1 fun _=>?_|(refine gq ?_ ?_<;>intro hx_ this)|fail)
 all_goals
  repeat' (first|refine gs ?_|refine gs1 fun _=>?_|(refine gp ?_ ?_<;>intro hx_ this)|fail)
  exact ab (ai rfl rfl) rfl
def nameB:ByteArray:=⟨#[98,97,108,108,111,116]⟩
theorem lx (it:Xb) (h:it.kind=2):Pu Tryz.prog 107 #[it.v] (fun _=>True) (.agg (formCells nameB 173 it.ballot.e it.ballot.s).toArray):=by
 refine ar Tryz.func107 Tryz.ntmps107 fun av bor w0=>?_
 repeat' (first|refine bp ?_|refine bo ?_|refine gs ?_|refine gs1 fun _=>?_|(refine aB (vs:=[.int .i64 it.ballot.e,.int .i64 it.ballot.s]) (hv:=rfl) ?_)|(refine aM (cs:=formCells nameB 173 it.ballot.e it.ballot.s) (hf:=by rfl) ?_)|(refine gp ?_ ?_<;>intro hx_ this)|fail)
 all_goals exact ab (bx rfl rfl aL (by rfl)) rfl
def msgB (x:Xi):ByteArray:=textsV [nameB]++coreBa x
theorem zm (it:Xb) (h:it.kind=2) (hl:it.ballot.Lt) (hz:(msgB it.ballot).size≤1099511627776):Pu Tryz.prog 117 #[it.v] (fun _=>True) (.string (msgB it.ballot)):=by
 refine ar Tryz.func117 Tryz.ntmps117 fun av bor w0=>?_
 have hfo:=lx it h
 rw [msgB] at hz ⊢
 rw [ByteArray.size_append] at hz
 have hS:(⟨#[]⟩:ByteArray)++textsV [nameB]=textsV [nameB]:=ByteArray.empty_append
 have hts:(⟨#[]⟩:ByteArray).size+(textsV [nameB]).size≤1099511627776:=by
  rw [←ByteArray.size_append,hS]
  omega
 repeat' (first|(refine ag (hc:=hfo) ?_)|refine gs ?_|refine gs1 fun _=>?_|(refine gp ?_ ?_<;>intro hx_ this)|fail)
 rename_i bi bf bb bs
 refine aW ?_
 refine ff 5 1 ?_
 refine bX (l:=bld bb none 0 ⟨#[]⟩++[cel bf 176 (formCells nameB 173 it.ballot.e it.ballot.s),cel bi 45 it.cells]) (List.Perm.swap _ _ _) ?_
 refine aZ (pre:=bld bb none 0 ⟨#[]⟩) (fr:=[cel bf 176 (formCells nameB 173 it.ballot.e it.ballot.s),cel bi 45 it.cells]) (hc:=ej bb none 0 ⟨#[]⟩ ⟨some ⟨bs,0,none⟩,1,1⟩ [nameB] hts) (hX:=fun w h=>aR (xs:=[[encB nameB]]) h.2 rfl (by decide) (by simp)) (h:=?_)
 rintro v R X' ⟨A1,c1,rfl,rfl⟩
 refine bS (X':=(fun _=>True)) (fun w h=>trivial) ?_
 rw [hS]
 generalize textsV [nameB]=p0 at *
 unfold bld
 repeat' (first|refine gs ?_|refine gs1 fun _=>?_|fail)
 refine aZ (pre:=bld bb A1 c1 p0) (fr:=[cel bf 176 (formCells nameB 173 it.ballot.e it.ballot.s),cel bi 45 it.cells]) (hc:=lQ bb A1 c1 p0 it hl hz) (hX:=fun _ _=>trivial) (h:=?_)
 rintro v R X' ⟨A2,c2,rfl,rfl⟩
 unfold bld
 repeat' (first|refine gs ?_|refine gs1 fun _=>?_|fail)
 refine dR (hm:=List.mem_cons_of_mem _ ap) ?_
 repeat' (first|refine gs ?_|refine gs1 fun _=>?_|(refine gp ?_ ?_<;>intro hx_ this)|fail)
 all_goals
  apply ab;apply ai;rfl;rfl
  simp only [bM]
def sgnB (p:Int) (x:Xi):Bool:=verN p (msgB x) x.e x.s
theorem nE (p:Int) (it:Xb) (h:it.kind=2) (hl:it.ballot.Lt) (hz:(msgB it.ballot).size≤1000000000000):Pu Tryz.prog 61 #[.int .i64 p,it.v] (fun w=>it.at_ w∧Xf w) (.bool (sgnB p it.ballot)):=by
 refine ar Tryz.func61 Tryz.ntmps61 fun av bor w0=>?_
 have hms:=zm it h hl aa
 have hfo:=lx it h
 have hve:=gJ p (msgB it.ballot) it.ballot.e it.ballot.s hz
 rw [sgnB]
 generalize verN p (msgB it.ballot) it.ballot.e it.ballot.s=V at *
 repeat' (first|refine gs ?_|refine gs1 fun _=>?_|(refine gp ?_ ?_<;>intro hx_ this)|fail)
 rename_i b3
 (refine ao ⟨[0,1,3],[(2,⟨[],[(4,⟨[5],[(6,⟨[7],[]⟩)]⟩)]⟩)]⟩ [cel b3 45 it.cells] (fun w=>it.at_ w∧Xf w) (h:=?_))
 all_goals repeat' (first|(refine ag (hc:=hms) (hX:=fun w h=>trivial) ?_)|(refine ag (hc:=hfo) ?_)|(refine ag (hc:=hve) ?_)|refine gd ?_|refine ax (hy:=by first|(apply fY;rfl)) ?_|refine ay ?_ (h':=?_)|exact az|refine gs1 fun _=>?_|(refine gq ?_ ?_<;>intro hx_ this)|fail)
 all_goals
  repeat' (first|refine gs ?_|refine gs1 fun _=>?_|(refine gp ?_ ?_<;>intro hx_ this)|fail)
  exact ab (ai rfl rfl) rfl
def nameD:ByteArray:=⟨#[100,101,99,105,115,105,111,110]⟩
theorem lv (it:Xb) (h:it.kind=3):Pu Tryz.prog 107 #[it.v] (fun _=>True) (.agg (formCells nameD 174 it.dec.e it.dec.s).toArray):=by
 refine ar Tryz.func107 Tryz.ntmps107 fun av bor w0=>?_
 repeat' (first|refine bp ?_|refine bo ?_|refine gs ?_|refine gs1 fun _=>?_|(refine aB (vs:=[.int .i64 it.dec.e,.int .i64 it.dec.s]) (hv:=rfl) ?_)|(refine aM (cs:=formCells nameD 174 it.dec.e it.dec.s) (hf:=by rfl) ?_)|(refine gp ?_ ?_<;>intro hx_ this)|fail)
 all_goals exact ab (bx rfl rfl aL (by rfl)) rfl
def msgD (x:Xr):ByteArray:=textsV [nameD]++coreDe x
theorem zk (it:Xb) (h:it.kind=3) (hl:it.dec.Lt) (hz:(msgD it.dec).size≤1099511627776):Pu Tryz.prog 117 #[it.v] (fun w=>it.at_ w) (.string (msgD it.dec)):=by
 refine ar Tryz.func117 Tryz.ntmps117 fun av bor w0=>?_
 have hfo:=lv it h
 rw [msgD] at hz ⊢
 rw [ByteArray.size_append] at hz
 have hS:(⟨#[]⟩:ByteArray)++textsV [nameD]=textsV [nameD]:=ByteArray.empty_append
 have hts:(⟨#[]⟩:ByteArray).size+(textsV [nameD]).size≤1099511627776:=by
  rw [←ByteArray.size_append,hS]
  omega
 repeat' (first|(refine ag (hc:=hfo) ?_)|refine gs ?_|refine gs1 fun _=>?_|(refine gp ?_ ?_<;>intro hx_ this)|fail)
 rename_i bi bf bb bs
 refine aW ?_
 refine ff 5 1 ?_
 refine bX (l:=bld bb none 0 ⟨#[]⟩++[cel bf 176 (formCells nameD 174 it.dec.e it.dec.s),cel bi 45 it.cells]) (List.Perm.swap _ _ _) ?_
 refine aZ (pre:=bld bb none 0 ⟨#[]⟩) (fr:=[cel bf 176 (formCells nameD 174 it.dec.e it.dec.s),cel bi 45 it.cells]) (hc:=ej bb none 0 ⟨#[]⟩ ⟨some ⟨bs,0,none⟩,1,1⟩ [nameD] hts) (hX:=fun w h=>aR (xs:=[[encB nameD]]) h.2 rfl (by decide) (by simp)) (h:=?_)
 rintro v R X' ⟨A1,c1,rfl,rfl⟩
 refine bS (X':=(fun w=>it.at_ w)) (fun w h=>h.1.1) ?_
 rw [hS]
 generalize textsV [nameD]=p0 at *
 unfold bld
 repeat' (first|refine gs ?_|refine gs1 fun _=>?_|fail)
 refine aZ (pre:=bld bb A1 c1 p0) (fr:=[cel bf 176 (formCells nameD 174 it.dec.e it.dec.s),cel bi 45 it.cells]) (hc:=iS bb A1 c1 p0 it hl hz) (hX:=fun w h=>h) (h:=?_)
 rintro v R X' ⟨A2,c2,rfl,rfl⟩
 unfold bld
 repeat' (first|refine gs ?_|refine gs1 fun _=>?_|fail)
 refine dR (hm:=List.mem_cons_of_mem _ ap) ?_
 repeat' (first|refine gs ?_|refine gs1 fun _=>?_|(refine gp ?_ ?_<;>intro hx_ this)|fail)
 all_goals
  apply ab;apply ai;rfl;rfl
  simp only [bM]
def sgnD (p:Int) (x:Xr):Bool:=verN p (msgD x) x.e x.s
theorem nC (p:Int) (it:Xb) (h:it.kind=3) (hl:it.dec.Lt) (hz:(msgD it.dec).size≤1000000000000):Pu Tryz.prog 61 #[.int .i64 p,it.v] (fun w=>it.at_ w∧Xf w) (.bool (sgnD p it.dec)):=by
 refine ar Tryz.func61 Tryz.ntmps61 fun av bor w0=>?_
 have hms:=zk it h hl aa
 have hfo:=lv it h
 have hve:=gJ p (msgD it.dec) it.dec.e it.dec.s hz
 rw [sgnD]
 generalize verN p (msgD it.dec) it.dec.e it.dec.s=V at *
 repeat' (first|refine gs ?_|refine gs1 fun _=>?_|(refine gp ?_ ?_<;>intro hx_ this)|fail)
 rename_i b3
 (refine ao ⟨[0,1,3],[(2,⟨[],[(4,⟨[5],[(6,⟨[7],[]⟩)]⟩)]⟩)]⟩ [cel b3 45 it.cells] (fun w=>it.at_ w∧Xf w) (h:=?_))
 all_goals repeat' (first|(refine ag (hc:=hms) ?_)|(refine ag (hc:=hfo) ?_)|(refine ag (hc:=hve) ?_)|refine gd ?_|refine ax (hy:=by first|(apply fY;rfl)) ?_|refine ay ?_ (h':=?_)|exact az|refine gs1 fun _=>?_|(refine gq ?_ ?_<;>intro hx_ this)|fail)
 all_goals
  repeat' (first|refine gs ?_|refine gs1 fun _=>?_|(refine gp ?_ ?_<;>intro hx_ this)|fail)
  exact ab (ai rfl rfl) rfl
end Go.Proofs.YtggionfjlgfihaaGreatDoor
