/- Joined. -/
import Derived.Test.YtgffbiobmamobaaGreatDoorI0
import Derived.Test.YtgffbiobmamobaaGreatDoorI1
import Derived.Test.YtgffbiobmamobaaGreatDoorI2
import Derived.Test.YtgffbiobmamobaaGreatDoorI18
import Derived.Test.YtgffbiobmamobaaGreatDoorI20
import Derived.Test.YtgffbiobmamobaaGreatDoorI8
import Derived.Test.YtgffbiobmamobaaGreatDoorI14
import Derived.Test.YtgffbiobmamobaaGreatDoorI9
set_option linter.unusedVariables false
set_option linter.unusedSimpArgs false
set_option maxHeartbeats 16000000
namespace Go.Proofs.YtgffbiobmamobaaGreatDoor
open Go Go.Proofs Sy
theorem jG {c:Xm} (hs:c.Sm):(coreCl c).size≤3000000:=by
 have h1:=hs.actor
 have h2:=hs.prev
 have s1:=aB c.actor
 have s2:=aB c.prev
 have n1:=ar c.base
 have n2:=ar c.gen
 have n3:=ar c.home
 have n4:=ar c.pub
 have n5:=ar c.time
 simp only [coreCl,fi,fN,fT,gK,ByteArray.append_empty,ByteArray.size_append]
 omega
theorem gB {c:Xj} (hs:c.Sm):(coreBa c).size≤3000000:=by
 have h1:=hs.actor
 have h2:=hs.claim
 have s1:=aB c.actor
 have s2:=aB c.claim
 have n1:=ar c.server
 have n2:=ar c.gen
 have n3:=ar c.time
 simp only [coreBa,fi,fN,fT,gK,ByteArray.append_empty,ByteArray.size_append]
 omega
theorem co {c:Xf} (hs:c.Sm):(coreDe c).size≤5000000:=by
 have h1:=hs.actor
 have h2:=hs.object
 have h3:=hs.text
 have h4:=hs.to
 have s1:=aB c.actor
 have s2:=aB c.object
 have s3:=aB c.text
 have n1:=ar c.server
 have n2:=ar c.number
 have n3:=ar c.kind
 have n4:=ar c.n
 have n5:=ar c.from_
 have n6:=ar c.until_
 simp only [coreDe,fi,fN,fT,gK,ByteArray.append_empty,ByteArray.size_append]
 omega
theorem dC {nm p:ByteArray} (h:nm.size≤20) (hp:p.size≤5000000):(textsV [nm]++p).size≤6000000:=by
 have s1:=aB nm
 simp only [fi,fN,ByteArray.append_empty,ByteArray.size_append]
 omega
theorem d7 (e s:Int):(numsV [e,s]).size≤20:=by
 have n1:=ar e
 have n2:=ar s
 simp only [fT,gK,ByteArray.append_empty,ByteArray.size_append]
 omega
def bodyIt (i:Xb):ByteArray:=bif decide (i.kind=0) then actBytes i.act else bif decide (i.kind=1) then coreCl i.claim++numsV [i.claim.e,i.claim.s] else bif decide (i.kind=2) then coreBa i.ballot++numsV [i.ballot.e,i.ballot.s] else coreDe i.dec++numsV [i.dec.e,i.dec.s]
def bytesIt (i:Xb):ByteArray:=bif rightIt i then numV i.kind++bodyIt i else ⟨#[]⟩
def digIt (i:Xb):ByteArray:=bif seqB (bytesIt i) ⟨#[]⟩ then ⟨#[]⟩ else shaV (bytesIt i)
theorem du {i:Xb} (h:rightIt i=true):i.kind=0∧rightB i.act=true∨i.kind=1∧claimR i.claim=true∨i.kind=2∧ballotR i.ballot=true∨i.kind=3∧decR i.dec=true:=by
 rw [rightIt,Bool.and_eq_true] at h
 have h:=h.1
 rw [rightK2] at h
 by_cases h0:i.kind=0
 · rw [decide_eq_true h0] at h;exact .inl ⟨h0,h⟩
 by_cases h1:i.kind=1
 · rw [decide_eq_false h0,decide_eq_true h1] at h;exact .inr (.inl ⟨h1,h⟩)
 by_cases h2:i.kind=2
 · rw [decide_eq_false h0,decide_eq_false h1,decide_eq_true h2] at h;exact .inr (.inr (.inl ⟨h2,h⟩))
 by_cases h3:i.kind=3
 · rw [decide_eq_false h0,decide_eq_false h1,decide_eq_false h2,decide_eq_true h3] at h;exact .inr (.inr (.inr ⟨h3,h⟩))
 rw [decide_eq_false h0,decide_eq_false h1,decide_eq_false h2,decide_eq_false h3] at h
 cases h
theorem og {i:Xb} (h:i.kind=0) (hr:rightIt i=true):rightB i.act=true:=by
 rcases du hr with h1|h1|h1|h1
 · exact h1.2
 all_goals (rw [h] at h1;exact absurd h1.1 (by decide))
theorem jI {i:Xb} (hr:i.act.Rng) (hn:i.dec.to.n=i.dec.toL.length) (h:rightIt i=true):(bodyIt i).size≤300000000025:=by
 rw [bodyIt]
 rcases du h with ⟨h0,h1⟩|⟨h0,h1⟩|⟨h0,h1⟩|⟨h0,h1⟩
 · have:=fB hr
   rw [h0]
   show (actBytes i.act).size≤_
   omega
 · have:=jG (ms h1).2
   have:=d7 i.claim.e i.claim.s
   rw [h0]
   show (coreCl i.claim++numsV [i.claim.e,i.claim.s]).size≤_
   rw [ByteArray.size_append]
   omega
 · have:=gB (ib h1).2
   have:=d7 i.ballot.e i.ballot.s
   rw [h0]
   show (coreBa i.ballot++numsV [i.ballot.e,i.ballot.s]).size≤_
   rw [ByteArray.size_append]
   omega
 · have:=co (nA hn h1).2
   have:=d7 i.dec.e i.dec.s
   rw [h0]
   show (coreDe i.dec++numsV [i.dec.e,i.dec.s]).size≤_
   rw [ByteArray.size_append]
   omega
theorem nF {i:Xb} (hr:i.act.Rng) (hn:i.dec.to.n=i.dec.toL.length):(bytesIt i).size≤300000000040:=by
 rw [bytesIt]
 cases h:rightIt i with
 | false=>rw [cond_false];simp [ByteArray.size]
 | true =>
  have:=jI hr hn h
  have:=ar i.kind
  rw [cond_true,ByteArray.size_append]
  omega
set_option maxRecDepth 20000 in
theorem lE (i:Xb) (hr:i.act.Rng) (hdn:i.dec.to.n=i.dec.toL.length):Pu Tryz.prog 52 #[i.v] (fun w=>i.at_ w) (.string (bytesIt i)):=by
 have hri:=cL i
 have hbs:=@jI i hr hdn
 rw [bytesIt]
 cases hrB:rightIt i with
 | false =>
  rw [hrB] at hri
  refine aq Tryz.func52 Tryz.ntmps52 fun av bor w0=>?_
  repeat' (first|(refine ag (hc:=hri) ?_)|refine gs ?_|refine gs1 fun _=>?_|(refine gp ?_ ?_<;>intro hx_ this)|fail)
  all_goals exact ae (aj rfl rfl) rfl
 | true =>
 rw [hrB] at hri
 have hk:=du hrB
 replace hbs:=hbs hrB
 have hkl:i.kind<9223372036854775808:=by rcases hk with h|h|h|h<;>omega
 refine aq Tryz.func52 Tryz.ntmps52 fun av bor w0=>?_
 repeat' (first|(refine ag (hc:=hri) ?_)|refine gs ?_|refine gs1 fun _=>?_|(refine gp ?_ ?_<;>intro hx_ this)|fail)
 rename_i bi bb bs
 have hS:(⟨#[]⟩:ByteArray)++numsV [i.kind]=numV i.kind:=by
  show ByteArray.empty++(numV i.kind++ByteArray.empty)=numV i.kind
  rw [ByteArray.append_empty,ByteArray.empty_append]
 have hnk:=ar i.kind
 have hns:(⟨#[]⟩:ByteArray).size+(numsV [i.kind]).size≤1099511627776:=by
  rw [←ByteArray.size_append,hS]
  omega
 refine bO ?_
 refine gF 5 1 ?_
 refine cI (l:=bld bb none 0 ⟨#[]⟩++[cel bi 78 i.cells]) (List.Perm.swap _ _ _) ?_
 refine ci (pre:=bld bb none 0 ⟨#[]⟩) (fr:=[cel bi 78 i.cells]) (hc:=dF bb none 0 ⟨#[]⟩ ⟨some ⟨bs,0,none⟩,1,1⟩ [i.kind] (by simpa using hkl) hns) (hX:=fun w h=>aU (xs:=[[.int .i64 i.kind]]) h.2 rfl (by decide) (by simp)) (h:=?_)
 rintro v R X' ⟨A1,c1,rfl,rfl⟩
 refine cN (X':=fun w=>i.at_ w) (fun w h=>h.1.1) ?_
 rw [hS]
 generalize hs1:numV i.kind=s1 at *
 rw [bodyIt] at hbs ⊢
 rcases hk with ⟨h0,h1⟩|⟨h0,h1⟩|⟨h0,h1⟩|⟨h0,h1⟩
 · rw [decide_eq_true h0,cond_true] at hbs ⊢
   have hab:=jL i.act (dW hr) ⟨hr.ints.2.2.2.2.2.2.2.1,hr.ints.2.2.2.2.2.2.2.2⟩
   generalize actBytes i.act=body at *
   unfold bld
   repeat' (first|refine cq (hab:=h0) ?_|refine gs ?_|refine gs1 fun _=>?_|(refine gp ?_ ?_<;>intro hx_ this)|fail)
   simp only [List.cons_append,List.nil_append]
   (refine ao ⟨[0,2,3],[(1,⟨[],[(4,⟨[],[(5,⟨[6],[(7,⟨[],[]⟩)]⟩)]⟩)]⟩),(4,⟨[],[(1,⟨[],[(5,⟨[6],[(7,⟨[],[]⟩)]⟩)]⟩)]⟩)]⟩ [cel bi 78 i.cells] (fun w=>i.at_ w) (h:=?_))
   all_goals repeat' (first|(refine ag (hc:=hab) ?_)|refine gdz ?_|refine aJ (hsub:=by exact aP) (hy:=by first|(apply jP (vs:=i.act.cells);rfl;exact .head _;rfl;rfl)) ?_|refine aF ?_ (h':=?_)|exact aG|(refine fI ?_;refine aH (size:=1) (z:=.int .u8 0) rfl rfl rfl rfl (fun _=>At.there _ (At.here _)) (fun w G=>gH ac) ac (by simp only [maxLen];omega) rfl ?_ rfl ?_;(first|with_reducible rfl|with_reducible assumption|with_reducible exact Bool.not_false|with_reducible exact Bool.not_true);intro A2 c2)|refine gs1 fun _=>?_|(refine gq ?_ ?_<;>intro hx_ this)|fail)
   all_goals
    repeat' (first|refine gs ?_|refine gs1 fun _=>?_|(refine gp ?_ ?_<;>intro hx_ this)|fail)
    rw [←bV,←da]
    refine ew (hm:=List.mem_cons_of_mem _ ay) ?_
    repeat' (first|refine gs ?_|refine gs1 fun _=>?_|(refine gp ?_ ?_<;>intro hx_ this)|fail)
    apply ae;apply aj;rfl;rfl
    simp only [cC,cond_true]
 · rw [decide_eq_false (show ¬ i.kind=0 by omega),cond_false,decide_eq_true h0,cond_true] at hbs ⊢
   obtain ⟨hl,hsm⟩:=ms h1
   have hfo:=wK i h0
   have hcs:=jG hsm
   have hn2:=d7 i.claim.e i.claim.s
   have hc1:=fun (A:Option Addr) (c:Nat)=>uE bb A c s1 i hl ac
   have hc2:=fun (A:Option Addr) (c:Nat) (p:ByteArray) (hp:p.size≤6000000) (sl:Xi)=>dF bb A c p sl [i.claim.e,i.claim.s] (by simp;exact ⟨hl.e,hl.s⟩) ac
   generalize coreCl i.claim=core at *
   generalize numsV [i.claim.e,i.claim.s]=sg at *
   unfold bld
   repeat' (first|refine bK ?_|(refine ag (hc:=hfo) ?_)|refine gs ?_|refine gs1 fun _=>?_|(refine gp ?_ ?_<;>intro hx_ this)|fail)
   rename_i bf
   refine cI (l:=bld bb A1 c1 s1++[cel bf 169 (formCells nameC 127 i.claim.e i.claim.s),cel bi 78 i.cells]) (show List.Perm ([_]++[_,_]++[_]) ([_,_]++[_]++[_]) from List.perm_append_comm.append_right _) ?_
   refine ci (pre:=bld bb A1 c1 s1) (fr:=[cel bf 169 (formCells nameC 127 i.claim.e i.claim.s),cel bi 78 i.cells]) (hc:=hc1 A1 c1) (hX:=fun _ _=>trivial) (h:=?_)
   rintro v R X' ⟨A2,c2,rfl,rfl⟩
   refine cN (X':=fun w=>i.at_ w) (fun w h=>h.1) ?_
   unfold bld
   repeat' (first|refine gs ?_|refine gs1 fun _=>?_|fail)
   rename_i bs2
   refine bO ?_
   refine ci (pre:=bld bb A2 c2 (s1++core)) (fr:=[cel bf 169 (formCells nameC 127 i.claim.e i.claim.s),cel bi 78 i.cells]) (hc:=hc2 A2 c2 (s1++core) (by rw [ByteArray.size_append];omega) ⟨some ⟨bs2,0,none⟩,2,2⟩) (hX:=fun w h=>aU (xs:=[[.int .i64 i.claim.e],[.int .i64 i.claim.s]]) h.2 rfl (by decide) (by simp)) (h:=?_)
   rintro v R X' ⟨A3,c3,rfl,rfl⟩
   unfold bld
   repeat' (first|refine gs ?_|refine gs1 fun _=>?_|fail)
   refine ew (hm:=List.mem_cons_of_mem _ ay) ?_
   repeat' (first|refine gs ?_|refine gs1 fun _=>?_|(refine gp ?_ ?_<;>intro hx_ this)|fail)
   all_goals
    apply ae;apply aj;rfl;rfl
    simp only [cC,cond_true,ByteArray.append_assoc]
 · rw [decide_eq_false (show ¬ i.kind=0 by omega),cond_false,decide_eq_false (show ¬ i.kind=1 by omega),cond_false,decide_eq_true h0,cond_true] at hbs ⊢
   obtain ⟨hl,hsm⟩:=ib h1
   have hfo:=kX i h0
   have hcs:=gB hsm
   have hn2:=d7 i.ballot.e i.ballot.s
   have hc1:=fun (A:Option Addr) (c:Nat)=>lv bb A c s1 i hl ac
   have hc2:=fun (A:Option Addr) (c:Nat) (p:ByteArray) (hp:p.size≤6000000) (sl:Xi)=>dF bb A c p sl [i.ballot.e,i.ballot.s] (by simp;exact ⟨hl.e,hl.s⟩) ac
   generalize coreBa i.ballot=core at *
   generalize numsV [i.ballot.e,i.ballot.s]=sg at *
   unfold bld
   repeat' (first|refine bK ?_|(refine ag (hc:=hfo) ?_)|refine gs ?_|refine gs1 fun _=>?_|(refine gp ?_ ?_<;>intro hx_ this)|fail)
   rename_i bf
   refine cI (l:=bld bb A1 c1 s1++[cel bf 169 (formCells nameB 128 i.ballot.e i.ballot.s),cel bi 78 i.cells]) (show List.Perm ([_]++[_,_]++[_]) ([_,_]++[_]++[_]) from List.perm_append_comm.append_right _) ?_
   refine ci (pre:=bld bb A1 c1 s1) (fr:=[cel bf 169 (formCells nameB 128 i.ballot.e i.ballot.s),cel bi 78 i.cells]) (hc:=hc1 A1 c1) (hX:=fun _ _=>trivial) (h:=?_)
   rintro v R X' ⟨A2,c2,rfl,rfl⟩
   refine cN (X':=fun w=>i.at_ w) (fun w h=>h.1) ?_
   unfold bld
   repeat' (first|refine gs ?_|refine gs1 fun _=>?_|fail)
   rename_i bs2
   refine bO ?_
   refine ci (pre:=bld bb A2 c2 (s1++core)) (fr:=[cel bf 169 (formCells nameB 128 i.ballot.e i.ballot.s),cel bi 78 i.cells]) (hc:=hc2 A2 c2 (s1++core) (by rw [ByteArray.size_append];omega) ⟨some ⟨bs2,0,none⟩,2,2⟩) (hX:=fun w h=>aU (xs:=[[.int .i64 i.ballot.e],[.int .i64 i.ballot.s]]) h.2 rfl (by decide) (by simp)) (h:=?_)
   rintro v R X' ⟨A3,c3,rfl,rfl⟩
   unfold bld
   repeat' (first|refine gs ?_|refine gs1 fun _=>?_|fail)
   refine ew (hm:=List.mem_cons_of_mem _ ay) ?_
   repeat' (first|refine gs ?_|refine gs1 fun _=>?_|(refine gp ?_ ?_<;>intro hx_ this)|fail)
   all_goals
    apply ae;apply aj;rfl;rfl
    simp only [cC,cond_true,ByteArray.append_assoc]
 · rw [decide_eq_false (show ¬ i.kind=0 by omega),cond_false,decide_eq_false (show ¬ i.kind=1 by omega),cond_false,decide_eq_false (show ¬ i.kind=2 by omega),cond_false] at hbs ⊢
   obtain ⟨hl,hsm⟩:=nA hdn h1
   have hfo:=kW i h0
   have hcs:=co hsm
   have hn2:=d7 i.dec.e i.dec.s
   have hc1:=fun (A:Option Addr) (c:Nat)=>iF bb A c s1 i hl ac
   have hc2:=fun (A:Option Addr) (c:Nat) (p:ByteArray) (hp:p.size≤6000000) (sl:Xi)=>dF bb A c p sl [i.dec.e,i.dec.s] (by simp;exact ⟨hl.e,hl.s⟩) ac
   generalize coreDe i.dec=core at *
   generalize numsV [i.dec.e,i.dec.s]=sg at *
   unfold bld
   repeat' (first|refine bK ?_|(refine ag (hc:=hfo) ?_)|refine gs ?_|refine gs1 fun _=>?_|(refine gp ?_ ?_<;>intro hx_ this)|fail)
   rename_i bf
   refine cI (l:=bld bb A1 c1 s1++[cel bf 169 (formCells nameD 129 i.dec.e i.dec.s),cel bi 78 i.cells]) (show List.Perm ([_]++[_,_]++[_]) ([_,_]++[_]++[_]) from List.perm_append_comm.append_right _) ?_
   refine ci (pre:=bld bb A1 c1 s1) (fr:=[cel bf 169 (formCells nameD 129 i.dec.e i.dec.s),cel bi 78 i.cells]) (hc:=hc1 A1 c1) (hX:=fun w h=>h) (h:=?_)
   rintro v R X' ⟨A2,c2,rfl,rfl⟩
   refine cN (X':=fun w=>i.at_ w) (fun w h=>h.1) ?_
   unfold bld
   repeat' (first|refine gs ?_|refine gs1 fun _=>?_|fail)
   rename_i bs2
   refine bO ?_
   refine ci (pre:=bld bb A2 c2 (s1++core)) (fr:=[cel bf 169 (formCells nameD 129 i.dec.e i.dec.s),cel bi 78 i.cells]) (hc:=hc2 A2 c2 (s1++core) (by rw [ByteArray.size_append];omega) ⟨some ⟨bs2,0,none⟩,2,2⟩) (hX:=fun w h=>aU (xs:=[[.int .i64 i.dec.e],[.int .i64 i.dec.s]]) h.2 rfl (by decide) (by simp)) (h:=?_)
   rintro v R X' ⟨A3,c3,rfl,rfl⟩
   unfold bld
   repeat' (first|refine gs ?_|refine gs1 fun _=>?_|fail)
   refine ew (hm:=List.mem_cons_of_mem _ ay) ?_
   repeat' (first|refine gs ?_|refine gs1 fun _=>?_|(refine gp ?_ ?_<;>intro hx_ this)|fail)
   all_goals
    apply ae;apply aj;rfl;rfl
    simp only [cC,cond_true,ByteArray.append_assoc]
theorem bw (i:Xb) (hr:i.act.Rng) (hdn:i.dec.to.n=i.dec.toL.length):Pu Tryz.prog 22 #[i.v] (fun w=>i.at_ w∧Xg w) (.string (digIt i)):=by
 refine aq Tryz.func22 Tryz.ntmps22 fun av bor w0=>?_
 have hsz:=nF hr hdn
 have hb:=lE i hr hdn
 repeat' (first|(refine ag (hc:=hb) ?_)|refine ag (hc:=mS _ ac) ?_|refine gs ?_|refine gs1 fun _=>?_|(refine gp ?_ ?_<;>intro hx_ this)|fail)
 all_goals (apply ae;apply aj;rfl;rfl)
 · simp only [digIt,hx_,cond_true]
 · simp only [digIt,hx_,cond_false]
theorem dA {i:Xb} (h:i.kind=0) (hr:rightIt i=true):digIt i=digV i.act:=by
 have e:bytesIt i=bytesV i.act:=by rw [bytesIt,bytesV,hr,og h hr,cond_true,cond_true,bodyIt,h];rfl
 rw [digIt,digV,e]
def signedIt (L:List Int) (i:Xb):Bool:=rightIt i&&bif decide (i.kind=2) then decide (i.ballot.server<(L.length:Nat))&&sgnB (L.getD i.ballot.server.toNat 0) i.ballot else bif decide (i.kind=3) then decide (i.dec.server<(L.length:Nat))&&sgnD (L.getD i.dec.server.toNat 0) i.dec else true
set_option maxRecDepth 20000 in
theorem em (s:Xi) (L:List Int) (i:Xb) (hdn:i.dec.to.n=i.dec.toL.length):Pu Tryz.prog 28 #[s.v,i.v] (fun w=>(Ints w s L∧i.at_ w)∧Xg w) (.bool (signedIt L i)):=by
 refine aq Tryz.func28 Tryz.ntmps28 fun av bor w0=>?_
 refine aD (p:=s.n=L.length∧s.n≤maxLen∧(0<L.length→s.p.isSome=true)) (fun w h=>⟨h.1.1.len_,Nat.le_trans (Xe.cap h.1.1) (Xe.max h.1.1),h.1.1.some_⟩) fun ⟨hsn,hsm,hsp⟩=>?_
 simp only [maxLen] at hsm
 have hri:=cL i
 cases hrB:rightIt i with
 | false =>
  rw [hrB] at hri
  rw [show signedIt L i=false from by rw [signedIt,hrB];rfl]
  repeat' (first|(refine ag (hc:=hri) (hX:=fun w h=>h.1.2) ?_)|refine gs ?_|refine gs1 fun _=>?_|(refine gp ?_ ?_<;>intro hx_ this)|fail)
  exact ae (aj rfl rfl) rfl
 | true =>
 rw [hrB] at hri
 have hk:=du hrB
 by_cases h2:i.kind=2
 · rcases hk with h|h|h|h
   all_goals first|(exfalso;omega)|skip
   have h1:=h.2
   clear h
   obtain ⟨hl,hz⟩:=ib h1
   have hlo:0≤i.ballot.server:=(bJ (by have:=h1;simp only [ballotR,Bool.and_eq_true] at this;exact this.1)).1
   have hms:=dC (nm:=nameB) (by decide) (Nat.le_trans (gB hz) (by decide))
   have hsg:=fun p:Int=>mR p i h2 hl (Nat.le_trans hms (by decide))
   by_cases hlt:i.ballot.server<(L.length:Nat)
   · have hsp':=hsp ac
     have e:signedIt L i=sgnB (L.getD i.ballot.server.toNat 0) i.ballot:=by rw [signedIt,hrB,decide_eq_true h2,cond_true,decide_eq_true hlt,Bool.true_and,Bool.true_and]
     rw [e]
     have hget:∀ w,(Ints w s L∧i.at_ w)∧Xg w→CellAt w s.p i.ballot.server.toNat (.int .i64 (L.getD i.ballot.server.toNat 0)):=fun w h=>Ints.get h.1.1 ac
     have hsg1:=hsg (L.getD i.ballot.server.toNat 0)
     generalize L.getD i.ballot.server.toNat 0=pk at *
     repeat' (first|refine cq ?_|refine bK ?_|(refine ag (hc:=hri) (hX:=fun w h=>h.1.2) ?_)|refine gs ?_|refine gs1 fun _=>?_|(refine gp ?_ ?_<;>intro hx_ this)|fail)
     rename_i b3
     (refine ao ⟨[0,1,2,3,4,5,6,7,8,9],[(10,⟨[11,12],[]⟩)]⟩ [cel b3 78 i.cells] (fun w=>(Ints w s L∧i.at_ w)∧Xg w) (h:=?_))
     all_goals repeat' (first|refine aJ (hsub:=by exact aP) (hy:=by first|(apply be true;rfl;rfl;exact decide_eq_true ac)) ?_|(refine ag (hc:=hsg1) (hX:=fun w h=>⟨h.1.2,h.2⟩) ?_)|refine gdz ?_|refine aJ (hsub:=by exact aP) (hy:=by first|(apply bk (q:=i.ballot.server.toNat);rfl;rfl;omega;omega;assumption;omega)|(apply ez (q:=i.ballot.server.toNat) (u:=.int .i64 pk);rfl;exact hget)) ?_|refine aF ?_ (h':=?_)|exact aG|refine gs1 fun _=>?_|(refine gq ?_ ?_<;>intro hx_ this)|fail)
     all_goals
      repeat' (first|refine gs ?_|refine gs1 fun _=>?_|(refine gp ?_ ?_<;>intro hx_ this)|fail)
      exact ae (aj rfl rfl) rfl
   · have e:signedIt L i=false:=by rw [signedIt,hrB,decide_eq_true h2,cond_true,decide_eq_false hlt];rfl
     rw [e]
     repeat' (first|refine cq ?_|refine bK ?_|(refine ag (hc:=hri) (hX:=fun w h=>h.1.2) ?_)|refine gs ?_|refine gs1 fun _=>?_|(refine gp ?_ ?_<;>intro hx_ this)|fail)
     rename_i b3
     (refine ao ⟨[0,1,2,3,4,5,6,7,8,9],[(10,⟨[11,12],[]⟩)]⟩ [cel b3 78 i.cells] (fun w=>(Ints w s L∧i.at_ w)∧Xg w) (h:=?_))
     all_goals repeat' (first|refine aJ (hsub:=by exact aP) (hy:=by first|(apply be false;rfl;rfl;exact decide_eq_false ac)) ?_|refine gdz ?_|refine aF ?_ (h':=?_)|exact aG|refine gs1 fun _=>?_|(refine gq ?_ ?_<;>intro hx_ this)|fail)
     all_goals
      repeat' (first|refine gs ?_|refine gs1 fun _=>?_|(refine gp ?_ ?_<;>intro hx_ this)|fail)
      exact ae (aj rfl rfl) rfl
 by_cases h3:i.kind=3
 · rcases hk with h|h|h|h
   all_goals first|(exfalso;omega)|skip
   have h1:=h.2
   clear h
   obtain ⟨hl,hz⟩:=nA hdn h1
   have hlo:0≤i.dec.server:=(bJ (by have:=h1;simp only [decR,Bool.and_eq_true] at this;exact this.1)).1
   have hms:=dC (nm:=nameD) (by decide) (Nat.le_trans (co hz) (by decide))
   have hsg:=fun p:Int=>mQ p i h3 hl (Nat.le_trans hms (by decide))
   by_cases hlt:i.dec.server<(L.length:Nat)
   · have hsp':=hsp ac
     have e:signedIt L i=sgnD (L.getD i.dec.server.toNat 0) i.dec:=by rw [signedIt,hrB,decide_eq_false h2,cond_false,decide_eq_true h3,cond_true,decide_eq_true hlt,Bool.true_and,Bool.true_and]
     rw [e]
     have hget:∀ w,(Ints w s L∧i.at_ w)∧Xg w→CellAt w s.p i.dec.server.toNat (.int .i64 (L.getD i.dec.server.toNat 0)):=fun w h=>Ints.get h.1.1 ac
     have hsg1:=hsg (L.getD i.dec.server.toNat 0)
     generalize L.getD i.dec.server.toNat 0=pk at *
     repeat' (first|refine cq ?_|refine bK ?_|(refine ag (hc:=hri) (hX:=fun w h=>h.1.2) ?_)|refine gs ?_|refine gs1 fun _=>?_|(refine gp ?_ ?_<;>intro hx_ this)|fail)
     rename_i b3
     (refine ao ⟨[0,1,2,3,4,5,6,7,8,9],[(10,⟨[11,12],[]⟩)]⟩ [cel b3 78 i.cells] (fun w=>(Ints w s L∧i.at_ w)∧Xg w) (h:=?_))
     all_goals repeat' (first|refine aJ (hsub:=by exact aP) (hy:=by first|(apply be true;rfl;rfl;exact decide_eq_true ac)) ?_|(refine ag (hc:=hsg1) (hX:=fun w h=>⟨h.1.2,h.2⟩) ?_)|refine gdz ?_|refine aJ (hsub:=by exact aP) (hy:=by first|(apply bk (q:=i.dec.server.toNat);rfl;rfl;omega;omega;assumption;omega)|(apply ez (q:=i.dec.server.toNat) (u:=.int .i64 pk);rfl;exact hget)) ?_|refine aF ?_ (h':=?_)|exact aG|refine gs1 fun _=>?_|(refine gq ?_ ?_<;>intro hx_ this)|fail)
     all_goals
      repeat' (first|refine gs ?_|refine gs1 fun _=>?_|(refine gp ?_ ?_<;>intro hx_ this)|fail)
      exact ae (aj rfl rfl) rfl
   · have e:signedIt L i=false:=by rw [signedIt,hrB,decide_eq_false h2,cond_false,decide_eq_true h3,cond_true,decide_eq_false hlt];rfl
     rw [e]
     repeat' (first|refine cq ?_|refine bK ?_|(refine ag (hc:=hri) (hX:=fun w h=>h.1.2) ?_)|refine gs ?_|refine gs1 fun _=>?_|(refine gp ?_ ?_<;>intro hx_ this)|fail)
     rename_i b3
     (refine ao ⟨[0,1,2,3,4,5,6,7,8,9],[(10,⟨[11,12],[]⟩)]⟩ [cel b3 78 i.cells] (fun w=>(Ints w s L∧i.at_ w)∧Xg w) (h:=?_))
     all_goals repeat' (first|refine aJ (hsub:=by exact aP) (hy:=by first|(apply be false;rfl;rfl;exact decide_eq_false ac)) ?_|refine gdz ?_|refine aF ?_ (h':=?_)|exact aG|refine gs1 fun _=>?_|(refine gq ?_ ?_<;>intro hx_ this)|fail)
     all_goals
      repeat' (first|refine gs ?_|refine gs1 fun _=>?_|(refine gp ?_ ?_<;>intro hx_ this)|fail)
      exact ae (aj rfl rfl) rfl
 have e:signedIt L i=true:=by rw [signedIt,hrB,decide_eq_false h2,decide_eq_false h3];rfl
 rw [e]
 repeat' (first|refine bK ?_|(refine ag (hc:=hri) (hX:=fun w h=>h.1.2) ?_)|refine gs ?_|refine gs1 fun _=>?_|(refine gp ?_ ?_<;>intro hx_ this)|fail)
 all_goals exact ae (aj rfl rfl) rfl
def ofDecI (d:Xf):Xb:=⟨3,Xc.zero,Xm.zero,Xj.zero,d⟩
def Xf.re (d:Xf) (s:Xi):Xf:={ d with to:=s }
def Xf.can (d:Xf):Xf:=d.re ⟨none,d.toL.length,0⟩
def Xf.Fit (d:Xf):Prop:=d.to.n=d.toL.length
theorem gQ (d:Xf) (s:Xi):(d.re s).can=d.can:=rfl
theorem kD {d:Xf} (h:d.Fit):rightIt (ofDecI d.can)=rightIt (ofDecI d):=by
 have e:decR d.can=decR d:=by
  simp only [decR,termsB,plainD,Xf.can,Xf.re,←show d.to.n=d.toL.length from h]
  rfl
 show (decR d.can&&_)=(decR d&&_)
 rw [e]
 rfl
theorem ff {d:Xf} (h:d.Fit):digIt (ofDecI d.can)=digIt (ofDecI d):=by
 rw [digIt,digIt,bytesIt,bytesIt,kD h]
 rfl
theorem jr {L:List Int} {d:Xf} (h:d.Fit):signedIt L (ofDecI d.can)=signedIt L (ofDecI d):=by
 rw [signedIt,signedIt,kD h]
 rfl
theorem f5 {d:Xf} {s:Xi} (h:d.Fit) (hs:s.n=d.to.n):(d.re s).Fit:=hs.trans h
theorem nY:sameIZ ⟨0,Xc.zero,Xm.zero,Xj.zero,Xf.zero⟩=true:=by decide +kernel
theorem lW {it:Xb} (hk:it.kind=3) (h:rightIt it=true):rightIt (ofDecI it.dec)=true:=by
 have h1:=(Bool.and_eq_true _ _).mp h
 rw [rightK2,hk] at h1
 show (rightK2 (ofDecI it.dec)&&sameIZ (restI (ofDecI it.dec)))=true
 rw [show sameIZ (restI (ofDecI it.dec))=true from nY,Bool.and_true]
 exact h1.1
theorem ze {it:Xb} (hk:it.kind=3) (h:rightIt it=true):digIt (ofDecI it.dec)=digIt it:=by
 rw [digIt,digIt,bytesIt,bytesIt,lW hk h,h,bodyIt,bodyIt,hk]
 rfl
theorem p7 {L:List Int} {it:Xb} (hk:it.kind=3) (h:rightIt it=true):signedIt L (ofDecI it.dec)=signedIt L it:=by
 rw [signedIt,signedIt,lW hk h,h,hk]
 rfl
theorem eY (d:Xf) (hf:d.Fit) (hs:d.to.n*16≤140737488351232):Mk Tryz.prog 21 #[d.v] d.at_ (fun u X=>∃ s:Xi,s.n=d.to.n∧u=(ofDecI (d.re s)).v∧∀ w,X w→(ofDecI (d.re s)).at_ w):=by
 refine bS Tryz.func21 Tryz.ntmps21 fun av bor w0=>?_
 repeat' (first|refine gs ?_|refine gs1 fun _=>?_|fail)
 refine aT (hc:=eO d.to (strs d.toL) hs (fun cs hcs=>by simp only [strs,List.mem_map] at hcs;obtain ⟨x,_,rfl⟩:=hcs;rfl)) fun v1 X1 h1=>?_
 obtain ⟨s1,rfl,hn1,hw1⟩:=h1
 repeat' (first|refine gs ?_|refine gs1 fun _=>?_|(refine aL ?_)|fail)
 have e1:s1.n=d.to.n:=by rw [hn1,show d.to.n=d.toL.length from hf];simp [strs]
 apply ae;refine aI rfl rfl aC ?_
 · rfl
 exact ⟨s1,e1,rfl,fun w h=>⟨⟨aN w 1,aN w 5⟩,hw1 w h.1.2⟩⟩
instance tymD0:TyMap Tryz.prog 188 4 (keyD Int):=⟨ai⟩
instance tymD1:TyMap Tryz.prog 133 4 (keyD ByteArray):=⟨ai⟩
structure Ec (L:List Int) (I:List Xb):Prop where
 rng:∀ i∈I,i.act.Rng
 fit:∀ i∈I,i.dec.Fit
 big:∀ i∈I,i.dec.to.n*16≤140737488351232
 sig:∀ i∈I,signedIt L i=true
 len:I.length≤1000
 few:∀ sv,(selD sv rightIt I).length≤19
 num:∀ sv,((selD sv rightIt I).map Xf.number).Nodup
def decsV (sv:Int) (I:List Xb):List Xf:=((selD sv rightIt I).map Xf.can).mergeSort fun a b=>decide (a.number≤b.number)
theorem gL {l:List Xf} (h:(l.map Xf.number).Nodup):∀ a b,a∈l→b∈l→a.number=b.number→a=b:=by
 induction l with
 | nil=>intro a b h1;cases h1
 | cons x l ih =>
  rw [List.map_cons,List.nodup_cons] at h
  intro a b ha hb hab
  rcases List.mem_cons.1 ha with ea|ha2
  · rcases List.mem_cons.1 hb with eb|hb2
    · exact ea.trans eb.symm
    · exact absurd ((ea▸hab:x.number=b.number)▸List.mem_map_of_mem hb2) h.1
  · rcases List.mem_cons.1 hb with eb|hb2
    · exact absurd ((eb▸hab.symm:x.number=a.number)▸List.mem_map_of_mem ha2) h.1
    · exact ih h.2 a b ha2 hb2 hab
theorem pb {sv:Int} {I:List Xb} {D:List Xf} (hn:((selD sv rightIt I).map Xf.number).Nodup) (hp:D.Perm (selD sv rightIt I)) (ho:D.Pairwise fun a b=>a.number≤b.number):D.map Xf.can=decsV sv I:=by
 have hm:=List.mergeSort_perm ((selD sv rightIt I).map Xf.can) fun a b=>decide (a.number≤b.number)
 have hs:=List.pairwise_mergeSort (le:=fun a b:Xf=>decide (a.number≤b.number)) (fun a b c h1 h2=>decide_eq_true (Int.le_trans (bm h1) (bm h2))) (fun a b=>by
  by_cases h:a.number≤b.number
  · rw [decide_eq_true h];rfl
  · rw [decide_eq_true (show b.number≤a.number by omega),Bool.or_true]) ((selD sv rightIt I).map Xf.can)
 have hn':(((selD sv rightIt I).map Xf.can).map Xf.number).Nodup:=by
  rw [List.map_map]
  exact hn
 have hpc:(D.map Xf.can).Perm ((selD sv rightIt I).map Xf.can):=hp.map _
 refine List.Perm.eq_of_pairwise (le:=fun a b=>decide (a.number≤b.number)=true) (fun a b ha hb h1 h2=>gL hn' a b (hpc.mem_iff.1 ha) (hm.mem_iff.1 hb) (by have:=bm h1;have:=bm h2;omega)) ?_ hs (hpc.trans hm.symm)
 rw [List.pairwise_map]
 exact ho.imp fun h=>decide_eq_true h
def numM (D:List Xf):List (Int×Value):=D.map fun d=>(d.number,.bool true)
theorem oD:∀ (D:List Xf) (n:Int),(∀ d∈D,d.number≠n)→mget (numM D) n=none
 | [],_,_=>rfl
 | d::D,n,h=>by
  have h1:=h d ay
  have ih:=oD D n fun x hx=>h x (List.mem_cons_of_mem _ hx)
  rw [numM] at ih ⊢
  rw [List.map_cons,mget,show Xq.eqb n d.number=false from decide_eq_false fun e=>h1 e.symm]
  exact ih
theorem oz:∀ (D:List Xf) (n:Int),(∀ d∈D,d.number≠n)→mput (numM D) n (.bool true)=numM D++[(n,.bool true)]
 | [],_,_=>rfl
 | d::D,n,h=>by
  have h1:=h d ay
  have ih:=oz D n fun x hx=>h x (List.mem_cons_of_mem _ hx)
  rw [numM] at ih ⊢
  rw [List.map_cons,mput,show Xq.eqb n d.number=false from decide_eq_false fun e=>h1 e.symm,List.cons_append,←ih]
  rfl
structure ValdI (D:List Xf) where
 k:Nat
 hk:k≤D.length
 E:List Xf
 hE:E.map Xf.can=(D.take k).map Xf.can
 hf:∀ d∈E,d.Fit
 A:Option Addr
 c:Nat
 n:Nat
 hn:n=k
 xs:List Value
 hxs:xs=(E.map Xf.cells).flatten
set_option maxRecDepth 20000 in
theorem sL (ks ki:Xi) (L:List Int) (I:List Xb) (sv:Int) (h:Ec L I) :
  Mk Tryz.prog 64 #[.agg #[ks.v,ki.v],.int .i64 sv] (fun w=>(Ints w ks L∧Items w ki I)∧Xg w)
   (fun u X'=>∃ (s:Xi) (E:List Xf),u=s.v∧(E.map Xf.can=decsV sv I∧∀ d∈E,d.Fit)∧∀ w,X' w→Decs w s E):=by
 refine bS Tryz.func64 Tryz.ntmps64 fun av bor w0=>?_
 have hkd:=nc ks ki I sv rightIt digIt (fun it _=>cL it) (fun it hi=>bw it (h.rng it hi) (h.fit it hi)) h.len (h.few sv)
 refine bQ 42 12 ?_
 repeat' (first|(refine aT (hc:=hkd) (hX:=fun w h=>⟨h.1.2,h.2⟩) fun v1 X1 h1=>?_;obtain ⟨s0,D,rfl,⟨hDp,hDo⟩,hDw⟩:=h1)|refine gs ?_|refine gs1 fun _=>?_|(refine eU Int (h:=fun q=>?_))|(refine gp ?_ ?_<;>intro hx_ this)|fail)
 rename_i b2
 have hnum:=h.num sv
 have hDn:(D.map Xf.number).Nodup:=(hDp.map _).nodup_iff.2 hnum
 have hDm:∀ d∈D,∃ it∈I,it.kind=3∧rightIt it=true∧it.dec=d:=fun d hd=>by
  have h1:=hDp.mem_iff.1 hd
  rw [selD,List.mem_map] at h1
  obtain ⟨it,h2,rfl⟩:=h1
  have h3:=List.mem_filter.1 h2
  have h4:=(Bool.and_eq_true _ _).mp h3.2
  have h5:=(Bool.and_eq_true _ _).mp h4.1
  exact ⟨it,h3.1,bm h5.1,h4.2,rfl⟩
 have hDl:D.length≤19:=by
  rw [hDp.length_eq]
  exact h.few sv
 refine aD (p:=s0.n=D.length∧(0<D.length→s0.p.isSome=true)) (fun w h=>by
  have:=(hDw w h.2).1
  exact ⟨by simpa using Xe.len this,fun h0=>(Xe.row this 0 (D[0]).cells (by simp [h0])).2.1⟩) fun ⟨hsn,hsp⟩=>?_
 refine az (ι:=ValdI D) (fun i=>⟨[(1,.int .i64 sv),(2,.pointer (some ⟨b2,0,none⟩)),(5,.slice i.A i.n i.c),(6,.map (some q)),(12,s0.v),(13,.int .i64 (s0.n:Nat)),(14,.int .i64 (i.k:Nat))],[mapr q (numM (D.take i.k)),cel b2 32 [ks.v,ki.v],orow 42 12 (.slice i.A i.n i.c) i.n i.xs],fun w=>(((Ints w ks L∧Items w ki I)∧Xg w)∧Decs w s0 D)∧∀ d∈i.E,d.at_ w⟩) (fun i=>D.length-i.k) ⟨0,Nat.zero_le _,[],rfl,(fun d hd=>(List.not_mem_nil hd).elim),none,0,0,rfl,[],rfl⟩ (ak an (al _) fun w h=>⟨⟨h.1,hDw w h.2⟩,fun d hd=>(List.not_mem_nil hd).elim⟩) fun i=>?_
 obtain ⟨k,hk,E,hE,hEf,A,c,n,hn,xs,hxs⟩:=i
 simp only
 subst hn
 repeat' (first|refine gs ?_|refine gs1 fun _=>?_|(refine gp ?_ ?_<;>intro hx_ this)|fail)
 · have hlt:n<D.length:=by omega
   have hsp':=hsp ac
   obtain ⟨d,hd⟩:∃ d,D[n]?=some d:=⟨_,List.getElem?_eq_getElem hlt⟩
   have hdm:=List.mem_of_getElem? hd
   obtain ⟨it,hi1,hi2,hi3,rfl⟩:=hDm _ hdm
   have hfit:=h.fit it hi1
   have hod:=eY it.dec hfit (h.big it hi1)
   have hcl:=eO it.dec.to (strs it.dec.toL) (h.big it hi1) (fun cs hcs=>by simp only [strs,List.mem_map] at hcs;obtain ⟨x,_,rfl⟩:=hcs;rfl)
   have hsi:∀ s1:Xi,s1.n=it.dec.to.n→signedIt L (ofDecI (it.dec.re s1))=true:=fun s1 h1=>by
    rw [←jr (f5 hfit h1),gQ,jr hfit,p7 hi2 hi3]
    exact h.sig it hi1
   have hfresh:∀ x∈D.take n,x.number≠it.dec.number:=fun x hx=>by
    obtain ⟨j,hj,rfl⟩:=List.getElem_of_mem hx
    rw [List.length_take] at hj
    rw [List.getElem_take]
    intro he
    have h1:=(List.pairwise_iff_getElem.1 hDn) j n (by rw [List.length_map];omega) (by rw [List.length_map];omega) ac
    rw [List.getElem_map,List.getElem_map] at h1
    have h2:D[n]=it.dec:=(List.getElem?_eq_some_iff.1 hd).2
    exact h1 (by rw [he,h2])
   have hget:=oD _ _ hfresh
   have hput:=oz _ _ hfresh
   have htk:numM (D.take (n+1))=numM (D.take n)++[(it.dec.number,.bool true)]:=by
    rw [numM,List.take_add_one,hd,List.map_append]
    rfl
   have hEn:E.length=n:=by
    have:=congrArg List.length hE
    rw [List.length_map,List.length_map,List.length_take] at this
    omega
   generalize it.dec=d at *
   repeat' (first|refine gs ?_|refine gs1 fun _=>?_|(refine aA (q:=n*12) ?_)|(refine aY (cs:=d.cells) (hF:=fun w h=>Xe.row h.1.2.1 n d.cells (by simp [hd])) ?_)|(refine gp ?_ ?_<;>intro hx_ this)|fail)
   rename_i b8
   (refine ao ⟨[0,1,2],[(3,⟨[4,5,6,7],[(8,⟨[],[(9,⟨[10,11],[]⟩)]⟩)]⟩)]⟩ [cel b8 42 d.cells,mapr q (numM (D.take n)),cel b2 32 [ks.v,ki.v],orow 42 12 (.slice A n c) n xs] (fun w=>(((Ints w ks L∧Items w ki I)∧Xg w)∧Decs w s0 D)∧∀ d∈E,d.at_ w) (h:=?_))
   all_goals repeat' (first|((refine aT (hc:=hod) (hX:=fun w h=>h.1.2.2 d hdm) fun v2 X2 h2=>?_;obtain ⟨s1,hs1,rfl,hat1⟩:=h2))|(refine ag (hc:=em ks L (ofDecI (d.re s1)) (f5 hfit hs1)) (hX:=fun w h=>⟨⟨h.1.1.1.1.1,hat1 w h.2⟩,h.1.1.1.2⟩) ?_)|refine gdz ?_|refine aF ?_ (h':=?_)|exact aG|(refine gU (κ:=Int) (kk:=d.number) (o:=none) (hl:=dz aC) (ho:=hget) ?_)|refine gs1 fun _=>?_|(refine gq ?_ ?_<;>intro hx_ this)|fail)
   all_goals
    rw [hsi s1 hs1]
    repeat' (first|refine bH (size:=12) (vs:=[(d.re s2).v]) (css:=(d.re s2).cells) (hsz:=by rfl) (hcs:=by rfl) fun _=>?_|(refine aT (hc:=hcl) (hX:=fun w h=>h.1.1.2.2 d hdm) fun v3 X3 h3=>?_;obtain ⟨s2,rfl,hn2,hw2⟩:=h3)|refine gs ?_|refine gs1 fun _=>?_|(refine fE (κ:=Int) (kk:=d.number) (hA:=by (repeat (first|exact At.here _|apply At.there))) ?_)|(refine gp ?_ ?_<;>intro hx_ this)|fail)
    refine aH (size:=12) (news:=(d.re s2).cells) (q:=1) rfl rfl rfl rfl (fun _=>At.there _ (At.there _ (At.there _ (At.there _ (At.here _))))) (fun w G=>bu G ay rfl rfl 1) ac (by simp only [maxLen];omega) rfl ?_ rfl ?_
    · (first|with_reducible rfl|with_reducible assumption|with_reducible exact Bool.not_false|with_reducible exact Bool.not_true)
    intro A2 c2
    repeat' (first|refine gs ?_|refine gs1 fun _=>?_|(refine gp ?_ ?_<;>intro hx_ this)|fail)
    have hfd:(d.re s2).Fit:=by
     show s2.n=d.toL.length
     rw [hn2]
     simp [strs]
    exact ⟨(⟨n+1,hlt,E++[d.re s2],by rw [List.map_append,hE,List.take_add_one,hd,List.map_append];rfl,fun x hx=>(List.mem_append.1 hx).elim (hEf x) fun h1=>by rw [List.mem_singleton.1 h1];exact hfd,A2,c2,n+1,rfl,xs++(d.re s2).cells,by rw [hxs];simp⟩:ValdI D),(by show D.length-(n+1)<D.length-n;omega),ak an (by rw [htk,←hput];exact .cons _ (.cons _ (al _))) fun w h=>⟨h.1.1.1,fun x hx=>(List.mem_append.1 hx).elim (h.1.1.2 x) fun h1=>by rw [List.mem_singleton.1 h1];exact hw2 w h.2⟩⟩
 · have hke:n=D.length:=by omega
   subst hke
   rw [List.take_length] at hE
   refine ae (aj rfl rfl) ⟨⟨A,_,c⟩,E,rfl,⟨hE.trans (pb hnum hDp hDo),hEf⟩,fun w h=>⟨?_,h.1.2⟩⟩
   have hr:=h.2 (orow 42 12 (.slice A D.length c) D.length xs) (.tail _ (.tail _ (.head _)))
   rw [hxs] at hr
   refine aM (xs:=E.map Xf.cells) hr ?_ (dm _)
   have:=congrArg List.length hE
   simpa using this.symm
def nowB (now:Int) (d:Xf):Bool:=!(decide (now<d.from_)||decide (d.until_≤now))
def undoB (d:Xf):Bool:=decide (d.kind=5)
def undoS (l:List Xf):List ByteArray:=(l.filter undoB).foldl (fun ks d=>sput ks d.object) []
def keepB (U:List ByteArray) (d:Xf):Bool:=undoB d||!hasS U (digIt (ofDecI d))
def forceV (now:Int) (V:List Xf):List Xf:=(V.filter (nowB now)).filter (keepB (undoS (V.filter (nowB now))))
theorem wA {U:List ByteArray} {d:Xf} (h:d.Fit):keepB U d.can=keepB U d:=by
 rw [keepB,keepB,ff h]
 rfl
theorem fC:Xc.zero.Rng:=⟨⟨by decide,by decide,by decide,by decide,by decide,by decide,by decide,by decide,by decide⟩,fun w hw=>(List.not_mem_nil hw).elim,rfl,rfl⟩
theorem jd {sv:Int} {I:List Xb} {x:Xf} (h:x∈decsV sv I):∃ it∈I,it.kind=3∧it.dec.server=sv∧rightIt it=true∧it.dec.can=x:=by
 rw [decsV,List.mem_mergeSort,List.mem_map] at h
 obtain ⟨d,hd,rfl⟩:=h
 rw [selD,List.mem_map] at hd
 obtain ⟨it,h2,rfl⟩:=hd
 have h3:=List.mem_filter.1 h2
 have h4:=(Bool.and_eq_true _ _).mp h3.2
 have h5:=(Bool.and_eq_true _ _).mp h4.1
 exact ⟨it,h3.1,bm h5.1,bm h5.2,h4.2,rfl⟩
theorem g8 {p:Xf→Bool} {E V:List Xf} (hE:E.map Xf.can=V) (hp:∀ d∈E,p d.can=p d):(E.filter p).map Xf.can=V.filter p:=by
 subst hE
 rw [List.filter_map]
 congr 1
 exact List.filter_congr fun d hd=>(hp d hd).symm
theorem sO {E V:List Xf} (hE:E.map Xf.can=V):undoS E=undoS V:=by
 subst hE
 rw [undoS,undoS,List.filter_map,List.foldl_map]
 rfl
theorem tS {now:Int} {E V:List Xf} (hE:E.map Xf.can=V) (hf:∀ d∈E,d.Fit):(forceV now E).map Xf.can=forceV now V:=by
 have h1:(E.filter (nowB now)).map Xf.can=V.filter (nowB now):=g8 hE fun _ _=>rfl
 rw [forceV,forceV,←sO h1]
 exact g8 h1 fun d hd=>wA (hf d (List.mem_filter.1 hd).1)
structure FltI (E:List Xf) (p:Xf→Bool) where
 k:Nat
 hk:k≤E.length
 A:Option Addr
 c:Nat
 n:Nat
 hn:n=((E.take k).filter p).length
 xs:List Value
 hxs:xs=(((E.take k).filter p).map Xf.cells).flatten
theorem iA {E:List Xf} {p:Xf→Bool} {k:Nat} {d:Xf} (h:E[k]?=some d) (hp:p d=true):(E.take (k+1)).filter p=(E.take k).filter p++[d]:=by
 rw [List.take_add_one,h,List.filter_append]
 simp [hp]
theorem kZ {E:List Xf} {p:Xf→Bool} {k:Nat} {d:Xf} (h:E[k]?=some d) (hp:p d=false):(E.take (k+1)).filter p=(E.take k).filter p:=by
 rw [List.take_add_one,h,List.filter_append]
 simp [hp]
theorem Decs.len_ {w:World} {s:Xi} {l:List Xf} (h:Decs w s l):s.n=l.length:=by simpa using Xe.len h.1
theorem Decs.max_ {w:World} {s:Xi} {l:List Xf} (h:Decs w s l):s.n≤maxLen:=Nat.le_trans (Xe.cap h.1) (Xe.max h.1)
theorem Decs.get {w:World} {s:Xi} {l:List Xf} (h:Decs w s l) {k:Nat} {x:Xf} (hx:l[k]?=some x):x.cells.length=12∧s.p.isSome=true∧∀ j u,x.cells[j]?=some u→CellAt w s.p (k*12+j) u:=Xe.row h.1 k x.cells (by simp [hx])
theorem Decs.some_ {w:World} {s:Xi} {l:List Xf} (h:Decs w s l) (h0:0<l.length):s.p.isSome=true:=(h.get (k:=0) (x:=l[0]) (List.getElem?_eq_getElem h0)).2.1
set_option maxRecDepth 20000 in
theorem kQ (ks ki:Xi) (L:List Int) (I:List Xb) (sv now:Int) (h:Ec L I) :
  Mk Tryz.prog 30 #[.agg #[ks.v,ki.v],.int .i64 sv,.int .i64 now] (fun w=>(Ints w ks L∧Items w ki I)∧Xg w)
   (fun u X'=>∃ (s:Xi) (E:List Xf),u=s.v∧(E.map Xf.can=forceV now (decsV sv I)∧∀ d∈E,d.Fit)∧∀ w,X' w→Decs w s E):=by
 refine bS Tryz.func30 Tryz.ntmps30 fun av bor w0=>?_
 have hva:=sL ks ki L I sv h
 repeat' (first|(refine aT (hc:=hva) fun v1 X1 h1=>?_;obtain ⟨s0,E,rfl,⟨hE,hEf⟩,hEw⟩:=h1)|refine gs ?_|refine gs1 fun _=>?_|(refine eU ByteArray (h:=fun q=>?_))|(refine gp ?_ ?_<;>intro hx_ this)|fail)
 rename_i b3
 have hEl:E.length≤19:=by
  have:=congrArg List.length hE
  rw [List.length_map,decsV,List.length_mergeSort,List.length_map] at this
  rw [this]
  exact h.few sv
 refine aD (p:=s0.n=E.length∧(0<E.length→s0.p.isSome=true)) (fun w h=>⟨(hEw w h.2).len_,(hEw w h.2).some_⟩) fun ⟨hsn,hsp⟩=>?_
 refine bQ 42 12 ?_
 refine az (ι:=FltI E (nowB now)) (fun i=>⟨[(2,.int .i64 now),(7,.slice i.A i.n i.c),(8,.map (some q)),(17,s0.v),(18,.int .i64 (s0.n:Nat)),(19,.int .i64 (i.k:Nat))],[orow 42 12 (.slice i.A i.n i.c) i.n i.xs,mapr q (setM (undoS ((E.take i.k).filter (nowB now))))],fun w=>Xg w∧Decs w s0 E⟩) (fun i=>E.length-i.k) ⟨0,Nat.zero_le _,none,0,0,rfl,[],rfl⟩ (ak an (.cons_cons _ (.cons_cons _ (List.nil_sublist _))) fun w h=>⟨h.1.2,hEw w h.2⟩) fun i=>?_
 obtain ⟨k,hk,A,c,n,hn,xs,hxs⟩:=i
 simp only
 have hnl:n≤19:=by
  rw [hn]
  exact Nat.le_trans (List.length_filter_le _ _) (by rw [List.length_take];omega)
 by_cases hlt:k<E.length
 · have hsp':=hsp ac
   obtain ⟨d,hd⟩:∃ d,E[k]?=some d:=⟨_,List.getElem?_eq_getElem hlt⟩
   by_cases h1:now<d.from_
   · have hno:=kZ (p:=nowB now) hd (by rw [nowB,decide_eq_true h1];rfl)
     repeat' (first|refine aw ?_ (be true rfl rfl (decide_eq_true h1))|refine gs ?_|refine gs1 fun _=>?_|(refine aA (q:=k*12) ?_)|(refine aY (cs:=d.cells) (hF:=fun w h=>h.2.get hd) ?_)|(refine gp ?_ ?_<;>intro hx_ this)|fail)
     all_goals first
      | (exfalso;omega)
      | exact ⟨(⟨k+1,hlt,A,c,n,by rw [hno];exact hn,xs,by rw [hno];exact hxs⟩:FltI E (nowB now)),(by show E.length-(k+1)<E.length-k;omega),ak an (by rw [congrArg undoS hno];exact .cons _ (al _)) fun _ h=>h⟩
   · by_cases h2:d.until_≤now
     · have hno:=kZ (p:=nowB now) hd (by rw [nowB,decide_eq_true h2,Bool.or_true];rfl)
       repeat' (first|refine aw ?_ (be false rfl rfl (decide_eq_false h1))|refine aw ?_ (j4 true rfl rfl (decide_eq_true h2))|refine gs ?_|refine gs1 fun _=>?_|(refine aA (q:=k*12) ?_)|(refine aY (cs:=d.cells) (hF:=fun w h=>h.2.get hd) ?_)|(refine gp ?_ ?_<;>intro hx_ this)|fail)
       all_goals first
        | (exfalso;omega)
        | exact ⟨(⟨k+1,hlt,A,c,n,by rw [hno];exact hn,xs,by rw [hno];exact hxs⟩:FltI E (nowB now)),(by show E.length-(k+1)<E.length-k;omega),ak an (by rw [congrArg undoS hno];exact .cons _ (al _)) fun _ h=>h⟩
     · have hyes:=iA (p:=nowB now) hd (by rw [nowB,decide_eq_false h1,decide_eq_false h2];rfl)
       repeat' (first|refine aw ?_ (be false rfl rfl (decide_eq_false h1))|refine aw ?_ (j4 false rfl rfl (decide_eq_false h2))|refine bH (size:=12) (vs:=[d.v]) (css:=d.cells) (hsz:=by rfl) (hcs:=by rfl) fun _=>?_|refine gs ?_|refine gs1 fun _=>?_|(refine aA (q:=k*12) ?_)|(refine aY (cs:=d.cells) (hF:=fun w h=>h.2.get hd) ?_)|(refine gp ?_ ?_<;>intro hx_ this)|fail)
       rotate_right
       all_goals try (exfalso;omega)
       refine aH (size:=12) (news:=d.cells) (q:=1) rfl rfl rfl rfl (fun _=>At.there _ (At.there _ (At.here _))) (fun w G=>bu G ay rfl rfl 1) ac (by simp only [maxLen];omega) rfl ?_ rfl ?_
       · (first|with_reducible rfl|with_reducible assumption|with_reducible exact Bool.not_false|with_reducible exact Bool.not_true)
       intro A2 c2
       cases h3:decide (d.kind=5) with
       | false =>
        have hun:undoS ((E.take (k+1)).filter (nowB now))=undoS ((E.take k).filter (nowB now)):=by
         rw [hyes,undoS,undoS,List.filter_append,List.filter_cons,show undoB d=false from h3]
         simp
        repeat' (first|refine aw ?_ (bg false rfl rfl h3)|refine gs ?_|refine gs1 fun _=>?_|(refine gp ?_ ?_<;>intro hx_ this)|fail)
        exact ⟨(⟨k+1,hlt,A2,c2,n+1,by rw [hyes,List.length_append,←hn];rfl,xs++d.cells,by rw [hyes,hxs];simp⟩:FltI E (nowB now)),(by show E.length-(k+1)<E.length-k;omega),ak an (by rw [hun];exact .cons _ (.cons _ (al _))) fun _ h=>h⟩
       | true =>
        have hun:undoS ((E.take (k+1)).filter (nowB now))=sput (undoS ((E.take k).filter (nowB now))) d.object:=by
         rw [hyes,undoS,undoS,List.filter_append,List.filter_cons,show undoB d=true from h3,List.foldl_append]
         rfl
        have hun:=(congrArg setM hun).trans (oy _ _).symm
        repeat' (first|refine aw ?_ (bg true rfl rfl h3)|refine gs ?_|refine gs1 fun _=>?_|(refine fE (κ:=ByteArray) (kk:=d.object) (hA:=by (repeat (first|exact At.here _|apply At.there))) ?_)|(refine gp ?_ ?_<;>intro hx_ this)|fail)
        exact ⟨(⟨k+1,hlt,A2,c2,n+1,by rw [hyes,List.length_append,←hn];rfl,xs++d.cells,by rw [hyes,hxs];simp⟩:FltI E (nowB now)),(by show E.length-(k+1)<E.length-k;omega),ak an (by rw [hun];exact .cons _ (.cons _ (al _))) fun _ h=>h⟩
 · have hke:k=E.length:=by omega
   rw [hke,List.take_length] at hn hxs
   rw [hke,List.take_length]
   obtain ⟨F,hF⟩:∃ F,E.filter (nowB now)=F:=⟨_,rfl⟩
   rw [hF] at hn hxs ⊢
   obtain ⟨U,hU⟩:∃ U,undoS F=U:=⟨_,rfl⟩
   rw [hU]
   have hFm:∀ d∈F,d∈E:=fun d hd=>by
    rw [←hF] at hd
    exact (List.mem_filter.1 hd).1
   have hFb:∀ d∈F,d.to.n*16≤140737488351232:=fun d hd=>by
    obtain ⟨it,hi,_,_,_,he⟩:=jd (hE▸List.mem_map_of_mem (f:=Xf.can) (hFm d hd))
    have h1:=congrArg (fun x:Xf=>x.toL.length) he
    have h2:it.dec.to.n=it.dec.toL.length:=h.fit it hi
    have h3:d.to.n=d.toL.length:=hEf d (hFm d hd)
    have h4:=h.big it hi
    have h5:it.dec.toL.length=d.toL.length:=h1
    omega
   subst hxs
   repeat' (first|refine gs ?_|refine gs1 fun _=>?_|(refine gp ?_ ?_<;>intro hx_ this)|fail)
   · exfalso;omega
   refine zj ?_
   refine aD (p:=0<F.length→A.isSome=true) (fun w h h0=>by
    have hr:=aM (xs:=F.map Xf.cells) h.2 (by simpa using hn) (dm _)
    exact (Decs.some_ (s:=⟨A,n,c⟩) ⟨hr,fun d hd=>h.1.2.2 d (hFm d hd)⟩ h0)) fun hAp=>?_
   refine bQ 42 12 ?_
   refine az (ι:=FltI F (keepB U)) (fun i=>⟨[(8,.map (some q)),(11,.slice i.A i.n i.c),(44,.slice A n c),(45,.int .i64 (n:Nat)),(46,.int .i64 (i.k:Nat))],[orow 42 12 (.slice i.A i.n i.c) i.n i.xs,mapr q (setM U)],fun w=>Xg w∧Decs w ⟨A,n,c⟩ F⟩) (fun i=>F.length-i.k) ⟨0,Nat.zero_le _,none,0,0,rfl,[],rfl⟩ (ak an (al _) fun w h=>⟨h.1.1,aM (xs:=F.map Xf.cells) h.2 (by simpa using hn) (dm _),fun d hd=>h.1.2.2 d (hFm d hd)⟩) fun i=>?_
   obtain ⟨j,hj,A2,c2,m,hm,ys,hys⟩:=i
   simp only
   have hml:m≤19:=by
    rw [hm]
    exact Nat.le_trans (List.length_filter_le _ _) (by rw [List.length_take];omega)
   by_cases hlt:j<F.length
   · have hAp':=hAp ac
     obtain ⟨d,hd⟩:∃ d,F[j]?=some d:=⟨_,List.getElem?_eq_getElem hlt⟩
     have hdm:=List.mem_of_getElem? hd
     have hfit:=hEf d (hFm d hdm)
     have hod:=eY d hfit (hFb d hdm)
     have hdi:∀ s1:Xi,s1.n=d.to.n→Pu Tryz.prog 22 #[(ofDecI (d.re s1)).v] (fun w=>(ofDecI (d.re s1)).at_ w∧Xg w) (.string (digIt (ofDecI d))):=fun s1 h1=>by
      have:=bw (ofDecI (d.re s1)) fC (f5 hfit h1)
      rwa [←ff (f5 hfit h1),gQ,ff hfit] at this
     have hlk:=l4 U (digIt (ofDecI d))
     cases h3:decide (d.kind=5) with
     | true =>
      have hyes:=iA (p:=keepB U) hd (by rw [keepB,show undoB d=true from h3];rfl)
      repeat' (first|refine aw ?_ (bg true rfl rfl h3)|refine bH (size:=12) (vs:=[d.v]) (css:=d.cells) (hsz:=by rfl) (hcs:=by rfl) fun _=>?_|refine gs ?_|refine gs1 fun _=>?_|(refine aA (q:=j*12) ?_)|(refine aY (cs:=d.cells) (hF:=fun w h=>h.2.get hd) ?_)|(refine gp ?_ ?_<;>intro hx_ this)|fail)
      rotate_right
      all_goals try (exfalso;omega)
      refine aH (size:=12) (news:=d.cells) (q:=1) rfl rfl rfl rfl (fun _=>At.there _ (At.there _ (At.here _))) (fun w G=>bu G ay rfl rfl 1) ac (by simp only [maxLen];omega) rfl ?_ rfl ?_
      · (first|with_reducible rfl|with_reducible assumption|with_reducible exact Bool.not_false|with_reducible exact Bool.not_true)
      intro A3 c3
      repeat' (first|refine gs ?_|refine gs1 fun _=>?_|(refine gp ?_ ?_<;>intro hx_ this)|fail)
      exact ⟨(⟨j+1,hlt,A3,c3,m+1,by rw [hyes,List.length_append,←hm];rfl,ys++d.cells,by rw [hyes,hys];simp⟩:FltI F (keepB U)),(by show F.length-(j+1)<F.length-j;omega),ak an (.cons _ (.cons _ (al _))) fun _ h=>h⟩
     | false =>
      cases h4:hasS U (digIt (ofDecI d)) with
      | true =>
       rw [h4] at hlk
       have hno:=kZ (p:=keepB U) hd (by rw [keepB,show undoB d=false from h3,h4];rfl)
       repeat' (first|refine aw ?_ (bg false rfl rfl h3)|(refine aT (hc:=hod) (hX:=fun w h=>h.2.2 d hdm) fun v2 X2 h2=>?_;obtain ⟨s1,hs1,rfl,hat1⟩:=h2)|(refine ag (hc:=hdi s1 hs1) (hX:=fun w h=>⟨hat1 w h.2,h.1.1⟩) ?_)|refine gs ?_|refine gs1 fun _=>?_|(refine aA (q:=j*12) ?_)|(refine aY (cs:=d.cells) (hF:=fun w h=>h.2.get hd) ?_)|(refine gU (κ:=ByteArray) (kk:=digIt (ofDecI d)) (o:=_) (hl:=dz aC) (ho:=hlk) ?_)|(refine gp ?_ ?_<;>intro hx_ this)|fail)
       all_goals first
        | (exfalso;omega)
        | exact ⟨(⟨j+1,hlt,A2,c2,m,by rw [hno];exact hm,ys,by rw [hno];exact hys⟩:FltI F (keepB U)),(by show F.length-(j+1)<F.length-j;omega),ak an (.cons _ (al _)) fun _ h=>h.1⟩
      | false =>
       rw [h4] at hlk
       have hyes:=iA (p:=keepB U) hd (by rw [keepB,show undoB d=false from h3,h4];rfl)
       repeat' (first|refine aw ?_ (bg false rfl rfl h3)|refine bH (size:=12) (vs:=[d.v]) (css:=d.cells) (hsz:=by rfl) (hcs:=by rfl) fun _=>?_|(refine aT (hc:=hod) (hX:=fun w h=>h.2.2 d hdm) fun v2 X2 h2=>?_;obtain ⟨s1,hs1,rfl,hat1⟩:=h2)|(refine ag (hc:=hdi s1 hs1) (hX:=fun w h=>⟨hat1 w h.2,h.1.1⟩) ?_)|refine gs ?_|refine gs1 fun _=>?_|(refine aA (q:=j*12) ?_)|(refine aY (cs:=d.cells) (hF:=fun w h=>h.2.get hd) ?_)|(refine gU (κ:=ByteArray) (kk:=digIt (ofDecI d)) (o:=_) (hl:=dz aC) (ho:=hlk) ?_)|(refine gp ?_ ?_<;>intro hx_ this)|fail)
       rotate_right
       all_goals try (exfalso;omega)
       refine aH (size:=12) (news:=d.cells) (q:=1) rfl rfl rfl rfl (fun _=>At.there _ (At.there _ (At.here _))) (fun w G=>bu G ay rfl rfl 1) ac (by simp only [maxLen];omega) rfl ?_ rfl ?_
       · (first|with_reducible rfl|with_reducible assumption|with_reducible exact Bool.not_false|with_reducible exact Bool.not_true)
       intro A3 c3
       repeat' (first|refine gs ?_|refine gs1 fun _=>?_|(refine gp ?_ ?_<;>intro hx_ this)|fail)
       exact ⟨(⟨j+1,hlt,A3,c3,m+1,by rw [hyes,List.length_append,←hm];rfl,ys++d.cells,by rw [hyes,hys];simp⟩:FltI F (keepB U)),(by show F.length-(j+1)<F.length-j;omega),ak an (.cons _ (.cons _ (al _))) fun _ h=>h.1⟩
   · have hje:j=F.length:=by omega
     rw [hje,List.take_length] at hm hys
     repeat' (first|refine gs ?_|refine gs1 fun _=>?_|(refine gp ?_ ?_<;>intro hx_ this)|fail)
     · exfalso;omega
     refine ae (aj rfl rfl) ⟨⟨A2,m,c2⟩,F.filter (keepB U),rfl,⟨?_,fun d hd=>hEf d (hFm d (List.mem_filter.1 hd).1)⟩,fun w h=>⟨?_,fun d hd=>h.1.2.2 d (List.mem_filter.1 hd).1⟩⟩
     · have h1:=tS (now:=now) hE hEf
       rw [forceV,hF,hU] at h1
       exact h1
     · have hr:=h.2 (orow 42 12 (.slice A2 m c2) m ys) (.head _)
       rw [hys] at hr
       exact aM (xs:=(F.filter (keepB U)).map Xf.cells) hr (by simpa using hm) (dm _)
theorem tt (d:Xf):Pu Tryz.prog 56 #[d.v] (fun _=>True) d.v:=by
 refine aq Tryz.func56 Tryz.ntmps56 fun av bor w0=>?_
 repeat' (first|refine gs ?_|refine gs1 fun _=>?_|(refine gp ?_ ?_<;>intro hx_ this)|fail)
 exact ae (aI rfl rfl aC (by rfl)) rfl
def kindD (k:Int) (d:Xf):Bool:=decide (d.kind=k)
theorem qf (s:Xi) (E:List Xf) (kd:Int) (hEl:E.length≤1000):Mk Tryz.prog 55 #[s.v,.int .i64 kd,.func (.func 56) #[] #[]] (fun w=>Decs w s E)
  (fun u X'=>∃ s1:Xi,u=s1.v∧∀ w,X' w→Decs w s1 (E.filter (kindD kd))):=by
 refine bS Tryz.func55 Tryz.ntmps55 fun av bor w0=>?_
 refine aD (p:=s.n=E.length∧s.n≤maxLen∧(0<E.length→s.p.isSome=true)) (fun w h=>⟨h.len_,h.max_,h.some_⟩) fun ⟨hsn,hsm,hsp⟩=>?_
 simp only [maxLen] at hsm
 repeat' (first|refine gs ?_|refine gs1 fun _=>?_|(refine gp ?_ ?_<;>intro hx_ this)|fail)
 refine bQ 42 12 ?_
 refine az (ι:=FltI E (kindD kd)) (fun i=>⟨[(1,.int .i64 kd),(2,.func (.func 56) #[] #[]),(7,.slice i.A i.n i.c),(10,s.v),(11,.int .i64 (s.n:Nat)),(12,.int .i64 (i.k:Nat))],[orow 42 12 (.slice i.A i.n i.c) i.n i.xs],fun w=>Decs w s E⟩) (fun i=>E.length-i.k) ⟨0,Nat.zero_le _,none,0,0,rfl,[],rfl⟩ (ak an (al _) fun w h=>h) fun i=>?_
 obtain ⟨j,hj,A,c,m,hm,ys,hys⟩:=i
 simp only
 have hml:m≤1000:=by
  rw [hm]
  exact Nat.le_trans (List.length_filter_le _ _) (by rw [List.length_take];omega)
 by_cases hlt:j<E.length
 · have hsp':=hsp ac
   obtain ⟨d,hd⟩:∃ d,E[j]?=some d:=⟨_,List.getElem?_eq_getElem hlt⟩
   have hp1:=tt d
   cases h3:decide (d.kind=kd) with
   | false =>
    have hno:=kZ (p:=kindD kd) hd h3
    repeat' (first|refine aw ?_ (bg false rfl rfl h3)|refine gs ?_|refine gs1 fun _=>?_|(refine aA (q:=j*12) ?_)|(refine aY (cs:=d.cells) (hF:=fun w h=>h.get hd) ?_)|(refine gp ?_ ?_<;>intro hx_ this)|fail)
    all_goals first
     | (exfalso;omega)
     | exact ⟨(⟨j+1,hlt,A,c,m,by rw [hno];exact hm,ys,by rw [hno];exact hys⟩:FltI E (kindD kd)),(by show E.length-(j+1)<E.length-j;omega),ak an (.cons _ (al _)) fun _ h=>h⟩
   | true =>
    have hyes:=iA (p:=kindD kd) hd h3
    repeat' (first|refine aw ?_ (bg true rfl rfl h3)|refine bH (size:=12) (vs:=[d.v]) (css:=d.cells) (hsz:=by rfl) (hcs:=by rfl) fun _=>?_|(refine ag (hc:=hp1) ?_)|refine gs ?_|refine gs1 fun _=>?_|(refine aA (q:=j*12) ?_)|(refine aY (cs:=d.cells) (hF:=fun w h=>h.get hd) ?_)|(refine gp ?_ ?_<;>intro hx_ this)|fail)
    rotate_right
    all_goals try (exfalso;omega)
    refine aH (size:=12) (news:=d.cells) (q:=1) rfl rfl rfl rfl (fun _=>At.there _ (At.there _ (At.here _))) (fun w G=>bu G ay rfl rfl 1) ac (by simp only [maxLen];omega) rfl ?_ rfl ?_
    · (first|with_reducible rfl|with_reducible assumption|with_reducible exact Bool.not_false|with_reducible exact Bool.not_true)
    intro A3 c3
    repeat' (first|refine gs ?_|refine gs1 fun _=>?_|(refine gp ?_ ?_<;>intro hx_ this)|fail)
    exact ⟨(⟨j+1,hlt,A3,c3,m+1,by rw [hyes,List.length_append,←hm];rfl,ys++d.cells,by rw [hyes,hys];simp⟩:FltI E (kindD kd)),(by show E.length-(j+1)<E.length-j;omega),ak an (.cons _ (.cons _ (al _))) fun _ h=>h⟩
 · have hje:j=E.length:=by omega
   rw [hje,List.take_length] at hm hys
   repeat' (first|refine gs ?_|refine gs1 fun _=>?_|(refine gp ?_ ?_<;>intro hx_ this)|fail)
   · exfalso;omega
   refine ae (aj rfl rfl) ⟨⟨A,m,c⟩,rfl,fun w h=>⟨?_,fun d hd=>h.1.2 d (List.mem_filter.1 hd).1⟩⟩
   have hr:=h.2 (orow 42 12 (.slice A m c) m ys) (.head _)
   rw [hys] at hr
   exact aM (xs:=(E.filter (kindD kd)).map Xf.cells) hr (by simpa using hm) (dm _)
def panelV (now:Int) (V:List Xf):List ByteArray×Int:=match ((forceV now V).filter (kindD 8)).getLast? with
 | none=>([],0)
 | some d=>(d.toL,d.n)
theorem qg {now:Int} {V E:List Xf} (hE:E.map Xf.can=forceV now V):panelV now V=match (E.filter (kindD 8)).getLast? with
 | none=>([],0)
 | some d=>(d.toL,d.n):=by
 rw [panelV,←hE,List.filter_map,List.getLast?_map]
 show (match Option.map Xf.can (E.filter (kindD 8)).getLast? with|none=>([],0)|some d=>(d.toL,d.n))=_
 cases (E.filter (kindD 8)).getLast?<;>rfl
set_option maxRecDepth 20000 in
theorem kI (ks ki:Xi) (L:List Int) (I:List Xb) (sv now:Int) (h:Ec L I) :
  Mk Tryz.prog 25 #[.agg #[ks.v,ki.v],.int .i64 sv,.int .i64 now] (fun w=>(Ints w ks L∧Items w ki I)∧Xg w)
   (fun u X'=>∃ s:Xi,u=.tuple #[s.v,.int .i64 (panelV now (decsV sv I)).2]∧∀ w,X' w→Strs w s (panelV now (decsV sv I)).1):=by
 refine bS Tryz.func25 Tryz.ntmps25 fun av bor w0=>?_
 have hfo:=kQ ks ki L I sv now h
 have hVl:(forceV now (decsV sv I)).length≤1000:=by
  refine Nat.le_trans (List.length_filter_le _ _) (Nat.le_trans (List.length_filter_le _ _) ?_)
  rw [decsV,List.length_mergeSort,List.length_map]
  have:=h.few sv
  omega
 repeat' (first|(refine aT (hc:=hfo) fun v1 X1 h1=>?_;obtain ⟨s0,E,rfl,⟨hE,hEf⟩,hEw⟩:=h1)|refine gs ?_|refine gs1 fun _=>?_|(refine gp ?_ ?_<;>intro hx_ this)|fail)
 have hpd:=qf s0 E 8 (by have:=congrArg List.length hE;rw [List.length_map] at this;omega)
 have hpl:=qg hE
 obtain ⟨F,hF⟩:∃ F,E.filter (kindD 8)=F:=⟨_,rfl⟩
 rw [hF] at hpd hpl
 repeat' (first|apply ba|apply cw_seq|refine bA ?_|refine aW ?_|refine bM ?_|refine cg ?_|refine aQ ?_|refine cV ?_|refine cA ?_|refine bz ?_|refine bL ?_|refine fw (h:=?_)|refine bc fun _=>?_|refine bX fun _=>?_|refine bD ?_|refine aR ?_|refine cw_cond_t ?_|refine cw_cond_f ?_|apply cw_skip|apply cw_block|apply cw_ret|apply cw_exit|refine sy_beql (h:=?_)|refine bC ?_|refine bx ?_|(refine aT (hc:=hpd) (hX:=fun w h=>hEw w h.2) fun v2 X2 h2=>?_;obtain ⟨s1,rfl,hw1⟩:=h2)|(refine cw_cond (ht:=?_) (hf:=?_);all_goals (intro hx_;first|have:=bm hx_|have:=bT hx_|skip)))
 refine aD (p:=s1.n=F.length∧s1.n≤maxLen∧(0<F.length→s1.p.isSome=true)) (fun w h=>⟨(hw1 w h.2).len_,(hw1 w h.2).max_,(hw1 w h.2).some_⟩) fun ⟨hsn,hsm,hsp⟩=>?_
 simp only [maxLen] at hsm
 by_cases h0:F.length=0
 · obtain rfl:F=[]:=List.length_eq_zero_iff.1 h0
   rw [hpl]
   repeat' (first|refine aw ?_ (bg true rfl rfl (decide_eq_true ac))|refine gs ?_|refine gs1 fun _=>?_|(refine gp ?_ ?_<;>intro hx_ this)|fail)
   all_goals first
    | (exfalso;omega)
    | exact ae (cP rfl rfl rfl) ⟨⟨none,0,0⟩,rfl,fun w h=>aN w 1⟩
 · have hsp':=hsp ac
   obtain ⟨d,hd⟩:∃ d,F[F.length-1]?=some d:=⟨_,List.getElem?_eq_getElem ac⟩
   rw [List.getLast?_eq_getElem?,hd] at hpl
   rw [hpl]
   repeat' (first|refine aw ?_ (bg false rfl rfl (decide_eq_false ac))|refine SrG.sy_subN_g (p:=s1.n) (q:=1) (hq:=by omega) (h:=?_)|refine gs ?_|refine gs1 fun _=>?_|(refine aA (q:=(s1.n-1)*12) ?_)|(refine aY (cs:=d.cells) (hF:=fun w h=>(hw1 w h.2).get (k:=s1.n-1) (by rw [hsn];exact hd)) ?_)|(refine gp ?_ ?_<;>intro hx_ this)|fail)
   rename_i b2 hx2 b9
   (refine ao ⟨[0,1,2,3,4,5],[]⟩ [cel b9 42 d.cells,cel b2 32 [ks.v,ki.v]] (fun w=>(((Ints w ks L∧Items w ki I)∧Xg w)∧X1 w)∧X2 w) (h:=?_))
   all_goals repeat' (first|refine gdz ?_|refine aF ?_ (h':=?_)|exact aG|refine gs1 fun _=>?_|(refine gq ?_ ?_<;>intro hx_ this)|fail)
   all_goals
    repeat' (first|refine gs ?_|refine gs1 fun _=>?_|(refine gp ?_ ?_<;>intro hx_ this)|fail)
    exact ae (cP rfl rfl rfl) ⟨d.to,rfl,fun w h=>(hw1 w h.1.2).2 d (List.mem_of_getElem? hd)⟩
theorem yT {P:Program} {f:FuncId} {args:Array Value} {X:World→Prop} {Φ Ψ:Value→(World→Prop)→Prop} (h:Mk P f args X Φ) (hi:∀ u X',Φ u X'→Ψ u X'):Mk P f args X Ψ:=by
 unfold Mk at *
 exact h.mono fun u R X' h1=>⟨hi u X' h1.1,h1.2⟩
structure KnR (L:List Int) (I:List Xb):Prop where
 sv:L.length≤20
 len:I.length≤100
 rng:∀ i∈I,i.act.Rng
 sm:∀ i∈I,i.act.Sm
 dn:∀ i∈I,i.dec.to.n=i.dec.toL.length
 right:∀ i∈I,rightIt i=true
 asc:Asc (I.map digIt)
theorem sD {l:List ByteArray} (h:Asc l) {i j:Nat} {x y:ByteArray} (hij:i<j) (hi:l[i]?=some x) (hj:l[j]?=some y):ltB x y=true:=by
 obtain ⟨h1,rfl⟩:=List.getElem?_eq_some_iff.1 hi
 obtain ⟨h2,rfl⟩:=List.getElem?_eq_some_iff.1 hj
 exact List.pairwise_iff_getElem.1 h i j h1 h2 hij
theorem nK {l m:List ByteArray} (h:Asc l) (hs:m.Sublist l):Asc m:=List.Pairwise.sublist hs h
theorem oC {P:Program} {f:FuncId} {args:Array Value} {X:World→Prop} {v:Value} {Φ:Value→(World→Prop)→Prop} (h:Pu P f args X v) (hi:∀ X',Φ v X'):Mk P f args X Φ:=by
 unfold Pu at h
 unfold Mk
 exact h.mono fun u R X' ⟨h1,h2⟩=>⟨h1▸hi X',h2⟩
theorem xT (ks ki:Xi) (L:List Int) (I:List Xb) (it:Xb) (hdn:it.dec.to.n=it.dec.toL.length) (hs:signedIt L it=false) :
  Pu Tryz.prog 17 #[.agg #[ks.v,ki.v],it.v] (fun w=>((Ints w ks L∧Items w ki I)∧it.at_ w)∧Xg w) (.tuple #[.agg #[ks.v,ki.v],.bool false]):=by
 refine aq Tryz.func17 Tryz.ntmps17 fun av bor w0=>?_
 have hR:=cL it
 have hS:=em ks L it hdn
 rw [hs] at hS
 repeat' (first|(refine ag (hc:=hR) (hX:=fun w h=>h.1.2) ?_)|(refine ag (hc:=hS) (hX:=fun w h=>⟨⟨h.1.1.1,h.1.2⟩,h.2⟩) ?_)|refine gs ?_|refine gs1 fun _=>?_|(refine gp ?_ ?_<;>intro hx_ this)|fail)
 all_goals first
  | exact ae (cB rfl rfl rfl aC (by rfl)) rfl
structure DupI (p:Nat) where
 k:Nat
 hk:k≤p
 at0:Int
theorem uM (ks ki:Xi) (L:List Int) (I:List Xb) (it:Xb) (hr:∀ i∈I,i.act.Rng) (hd:∀ i∈I,i.dec.to.n=i.dec.toL.length) (hit:it.act.Rng) (hdn:it.dec.to.n=it.dec.toL.length) (hI:I.length≤1000) (hs:signedIt L it=true)
  (p:Nat) (x0:Xb) (hp:I[p]?=some x0) (he:digIt x0=digIt it) (hno:∀ (j:Nat) (y:Xb),j<p→I[j]?=some y→seqB (digIt y) (digIt it)=false) :
  Pu Tryz.prog 17 #[.agg #[ks.v,ki.v],it.v] (fun w=>((Ints w ks L∧Items w ki I)∧it.at_ w)∧Xg w) (.tuple #[.agg #[ks.v,ki.v],.bool false]):=by
 refine aq Tryz.func17 Tryz.ntmps17 fun av bor w0=>?_
 have hR:=cL it
 have hS:=em ks L it hdn
 rw [hs] at hS
 have hri:rightIt it=true:=by
  rw [signedIt,Bool.and_eq_true] at hs
  exact hs.1
 rw [hri] at hR
 have hD0:=bw it hit hdn
 have hD:=fun x (hx:x∈I)=>bw x (hr x hx) (hd x hx)
 have hplt:=(List.getElem?_eq_some_iff.1 hp).1
 refine aD (p:=ki.n=I.length∧ki.n≤maxLen∧(0<I.length→ki.p.isSome=true)) (fun w h=>⟨h.1.1.2.len_,h.1.1.2.max_,h.1.1.2.some_⟩) fun ⟨hkn,hkm,hkp⟩=>?_
 simp only [maxLen] at hkm
 have hkp':=hkp ac
 generalize digIt it=d at *
 clear hs hri hr hd hit hdn
 repeat' (first|(refine ag (hc:=hR) (hX:=fun w h=>h.1.2) ?_)|(refine ag (hc:=hS) (hX:=fun w h=>⟨⟨h.1.1.1,h.1.2⟩,h.2⟩) ?_)|(refine ag (hc:=hD0) (hX:=fun w h=>⟨h.1.2,h.2⟩) ?_)|refine gs ?_|refine gs1 fun _=>?_|(refine gp ?_ ?_<;>intro hx_ this)|fail)
 rename_i b2 b3 b4
 refine az (ι:=DupI p) (fun i=>⟨[(2,.pointer (some ⟨b2,0,none⟩)),(3,.pointer (some ⟨b3,0,none⟩)),(4,.pointer (some ⟨b4,0,none⟩)),(6,.string d),(7,.int .i64 i.at0),(29,ki.v),(30,.int .i64 (ki.n:Nat)),(31,.int .i64 (i.k:Nat))],[cel b4 32 [.slice none 0 0,.slice none 0 0],cel b3 78 it.cells,cel b2 32 [ks.v,ki.v]],fun w=>((Ints w ks L∧Items w ki I)∧it.at_ w)∧Xg w⟩) (fun i=>p-i.k) ⟨0,Nat.zero_le _,(ki.n:Nat)⟩ (ak an (al _) fun _ h=>h) fun i=>?_
 obtain ⟨k,hk,at0⟩:=i
 simp only
 obtain ⟨x,hx⟩:∃ x,I[k]?=some x:=⟨_,List.getElem?_eq_getElem ac⟩
 have hxm:=List.mem_of_getElem? hx
 have hDx:=hD x hxm
 by_cases hkp2:k=p
 · obtain rfl:x=x0:=by rw [hkp2,hp] at hx;exact (Option.some.inj hx).symm
   rw [he] at hDx
   have hdd:seqB d d=true:=c8 _
   repeat' (first|refine aw ?_ (be true rfl rfl (decide_eq_true ac))|refine aw ?_ (cS true rfl rfl hdd)|(refine ag (hc:=hDx) (hX:=fun w h=>⟨h.1.1.2.2 x hxm,h.2⟩) ?_)|refine gs ?_|refine gs1 fun _=>?_|(refine aA (q:=k*49) ?_)|(refine aY (cs:=x.cells) (hF:=fun w h=>h.1.1.2.get hx) ?_)|(refine gp ?_ ?_<;>intro hx_ this)|fail)
   all_goals first
    | exact ae (cB rfl rfl rfl aC (by rfl)) rfl
 · have hne:=hno k x ac hx
   cases hg:gtB (digIt x) d
   all_goals
    repeat' (first|refine aw ?_ (be true rfl rfl (decide_eq_true ac))|refine aw ?_ (cS false rfl rfl hne)|refine aw ?_ (gD _ rfl rfl hg)|(refine ag (hc:=hDx) (hX:=fun w h=>⟨h.1.1.2.2 x hxm,h.2⟩) ?_)|refine gs ?_|refine gs1 fun _=>?_|(refine aA (q:=k*49) ?_)|(refine aY (cs:=x.cells) (hF:=fun w h=>h.1.1.2.get hx) ?_)|(refine gp ?_ ?_<;>intro hx_ this)|fail)
   all_goals first
    | exact ⟨(⟨k+1,by omega,at0⟩:DupI p),(by show p-(k+1)<p-k;omega),ak an (.cons _ (al _)) fun _ h=>h⟩
    | exact ⟨(⟨k+1,by omega,(k:Nat)⟩:DupI p),(by show p-(k+1)<p-k;omega),ak an (.cons _ (al _)) fun _ h=>h⟩
def canAdd (L:List Int) (I:List Xb) (it:Xb):Bool:=signedIt L it&&!(I.any fun x=>seqB (digIt x) (digIt it))
def addK (L:List Int) (I:List Xb) (it:Xb):List Xb:=bif canAdd L I it then addV digIt it I else I
theorem ug {I:List Xb} {d:ByteArray}:(∃ x∈I,digIt x=d)→∃ (p:Nat) (x0:Xb),I[p]?=some x0∧digIt x0=d∧∀ (j:Nat) (y:Xb),j<p→I[j]?=some y→seqB (digIt y) d=false:=by
 induction I with
 | nil=>rintro ⟨x,hx,_⟩;cases hx
 | cons a I ih =>
  rintro ⟨x,hx,e⟩
  by_cases ha:digIt a=d
  · exact ⟨0,a,rfl,ha,fun j y hj=>absurd hj (Nat.not_lt_zero _)⟩
  · rcases List.mem_cons.1 hx with rfl|hx
    · exact absurd e ha
    · obtain ⟨p,x0,h1,h2,h3⟩:=ih ⟨x,hx,e⟩
      refine ⟨p+1,x0,h1,h2,fun j y hj hy=>?_⟩
      cases j with
      | zero =>
       obtain rfl:a=y:=by simpa using hy
       cases hs:seqB (digIt a) d with
       | false=>rfl
       | true=>exact absurd (seqB_iff.1 hs) ha
      | succ j=>exact h3 j y ac hy
theorem nL (ks ki:Xi) {L:List Int} {I:List Xb} (h:KnR L I) (it:Xb) (hit:it.act.Rng) (hdn:it.dec.to.n=it.dec.toL.length) :
  Mk Tryz.prog 17 #[.agg #[ks.v,ki.v],it.v] (fun w=>((Ints w ks L∧Items w ki I)∧it.at_ w)∧Xg w)
   (fun u X'=>∃ s:Xi,u=.tuple #[.agg #[ks.v,s.v],.bool (canAdd L I it)]∧∀ w,(Items w ki I∧X' w)→Items w s (addK L I it)):=by
 have hlen:=h.len
 cases hs:signedIt L it with
 | false =>
  have e:canAdd L I it=false:=by rw [canAdd,hs];rfl
  rw [addK,e]
  exact oC (xT ks ki L I it hdn hs) fun X'=>⟨ki,rfl,fun w h=>h.1⟩
 | true =>
  cases hn:I.any fun x=>seqB (digIt x) (digIt it) with
  | true =>
   have e:canAdd L I it=false:=by rw [canAdd,hs,hn];rfl
   rw [addK,e]
   obtain ⟨x,hx,hx2⟩:=List.any_eq_true.1 hn
   obtain ⟨p,x0,h1,h2,h3⟩:=ug ⟨x,hx,seqB_iff.1 hx2⟩
   exact oC (uM ks ki L I it h.rng h.dn hit hdn ac hs p x0 h1 h2 h3) fun X'=>⟨ki,rfl,fun w h=>h.1⟩
  | false =>
   have e:canAdd L I it=true:=by rw [canAdd,hs,hn];rfl
   rw [addK,e]
   have hri:rightIt it=true:=by
    rw [signedIt,Bool.and_eq_true] at hs
    exact hs.1
   have hR:=cL it
   have hS:=em ks L it hdn
   rw [hri] at hR
   rw [hs] at hS
   exact yT (zt (fun w=>Ints w ks L) ks ki I it rightIt digIt hR hS (bw it hit hdn) (fun x hx=>bw x (h.rng x hx) (h.dn x hx)) ac fun x hx=>by
    cases hb:seqB (digIt x) (digIt it) with
    | false=>rfl
    | true=>exact absurd (List.any_eq_true.2 ⟨x,hx,hb⟩) (by rw [hn];decide)) fun u X' ⟨s,h1,h2⟩=>⟨s,h1,fun w h=>h2 w h.2⟩
theorem wG {a b:ByteArray} (h:gtB a b=true):ltB b a=true:=by
 rw [gtB,Bool.not_eq_true',Bool.or_eq_false_iff] at h
 cases hh:ltB b a with
 | true=>rfl
 | false =>
  have:=l5 (a:=a) (b:=b) h.1 hh
  rw [this,c8] at h
  exact absurd h.2 (by decide)
theorem tN {a b:ByteArray} (h:gtB a b=false) (hn:a≠b):ltB a b=true:=by
 rw [gtB,Bool.not_eq_false',Bool.or_eq_true] at h
 rcases h with h|h
 · exact h
 · exact absurd (seqB_iff.1 h) hn
theorem jl (dI:Xb→ByteArray) (it:Xb) (I:List Xb):(addV dI it I).Perm (it::I):=by
 rw [addV]
 refine List.perm_middle.trans ?_
 rw [List.take_append_drop]
theorem xS (dI:Xb→ByteArray) (it:Xb) (I:List Xb) (h:Asc (I.map dI)) (hn:∀ x∈I,dI x≠dI it):Asc ((addV dI it I).map dI):=by
 obtain ⟨p,hp⟩:∃ p,addAt dI (dI it) I I.length=p:=⟨_,rfl⟩
 have hlow:∀ (j:Nat) (x:Xb),j<p→I[j]?=some x→ltB (dI x) (dI it)=true:=fun j x hj hx=>by
  refine tN ?_ (hn x (List.mem_of_getElem? hx))
  rw [addAt,List.take_length] at hp
  obtain ⟨hlt,e⟩:=List.getElem?_eq_some_iff.1 hx
  cases hf:I.findIdx? fun x=>gtB (dI x) (dI it) with
  | none =>
   have:=List.findIdx?_eq_none_iff.1 hf x (List.mem_of_getElem? hx)
   exact this
  | some q =>
   rw [hf] at hp
   obtain ⟨h1,h2,h3⟩:=List.findIdx?_eq_some_iff_getElem.1 hf
   have:=h3 j (by rw [Option.getD_some] at hp;omega)
   rw [e] at this
   simpa using this
 have hhigh:∀ (j:Nat) (x:Xb),p≤j→I[j]?=some x→ltB (dI it) (dI x)=true:=fun j x hj hx=>by
  rw [addAt,List.take_length] at hp
  obtain ⟨hlt,e⟩:=List.getElem?_eq_some_iff.1 hx
  cases hf:I.findIdx? fun x=>gtB (dI x) (dI it) with
  | none =>
   rw [hf,Option.getD_none] at hp
   omega
  | some q =>
   rw [hf,Option.getD_some] at hp
   subst hp
   obtain ⟨h1,h2,h3⟩:=List.findIdx?_eq_some_iff_getElem.1 hf
   have h4:=wG h2
   rcases Nat.lt_or_eq_of_le hj with h5|h5
   · exact iZ h4 (sD h h5 (by rw [List.getElem?_map,List.getElem?_eq_getElem h1];rfl) (by rw [List.getElem?_map,hx];rfl))
   · subst h5
     rw [e] at h4
     exact h4
 rw [addV,hp,List.map_append,List.map_cons]
 refine List.pairwise_append.2 ⟨nK h ((List.take_sublist _ _).map dI),List.pairwise_cons.2 ⟨fun y hy=>?_,nK h ((List.drop_sublist _ _).map dI)⟩,fun x hx y hy=>?_⟩
 · obtain ⟨z,hz,rfl⟩:=List.mem_map.1 hy
   obtain ⟨j,hj⟩:=List.mem_iff_getElem?.1 hz
   rw [List.getElem?_drop] at hj
   exact hhigh _ z ac hj
 · obtain ⟨z,hz,rfl⟩:=List.mem_map.1 hx
   obtain ⟨j,hj⟩:=List.mem_iff_getElem?.1 hz
   rw [List.getElem?_take] at hj
   split at hj
   · rename_i hjp
     have h1:=hlow j z hjp hj
     rcases List.mem_cons.1 hy with rfl|hy
     · exact h1
     · obtain ⟨u,hu,rfl⟩:=List.mem_map.1 hy
       obtain ⟨k,hk⟩:=List.mem_iff_getElem?.1 hu
       rw [List.getElem?_drop] at hk
       exact iZ h1 (hhigh _ u ac hk)
   · cases hj
theorem lq {L:List Int} {I:List Xb} {it:Xb} (h:canAdd L I it=true):signedIt L it=true∧rightIt it=true∧∀ x∈I,digIt x≠digIt it:=by
 rw [canAdd,Bool.and_eq_true,Bool.not_eq_true'] at h
 refine ⟨h.1,?_,fun x hx e=>?_⟩
 · have h1:=h.1
   rw [signedIt,Bool.and_eq_true] at h1
   exact h1.1
 · rw [List.any_eq_true.2 ⟨x,hx,seqB_iff.2 e⟩] at h
   exact absurd h.2 (by decide)
theorem wx {L:List Int} {I:List Xb} (h:KnR L I) {it:Xb} (hit:it.act.Rng) (hsm:it.act.Sm) (hdn:it.dec.to.n=it.dec.toL.length) (hl:I.length<100):KnR L (addK L I it):=by
 rw [addK]
 cases hc:canAdd L I it with
 | false=>exact h
 | true =>
  obtain ⟨h1,h2,h3⟩:=lq hc
  have hp:=jl digIt it I
  have hm:∀ i∈addV digIt it I,i=it∨i∈I:=fun i hi=>List.mem_cons.1 (hp.subset hi)
  show KnR L (addV digIt it I)
  refine ⟨h.sv,by rw [hp.length_eq,List.length_cons];omega,fun i hi=>?_,fun i hi=>?_,fun i hi=>?_,fun i hi=>?_,xS digIt it I h.asc h3⟩
  · rcases hm i hi with rfl|hi
    · exact hit
    · exact h.rng i hi
  · rcases hm i hi with rfl|hi
    · exact hsm
    · exact h.sm i hi
  · rcases hm i hi with rfl|hi
    · exact hdn
    · exact h.dn i hi
  · rcases hm i hi with rfl|hi
    · exact h2
    · exact h.right i hi
structure FndI (p:Nat) where
 k:Nat
 hk:k≤p
 it:Xb
theorem m9 (ks ki:Xi) (I:List Xb) (hr:∀ i∈I,i.act.Rng) (hd:∀ i∈I,i.dec.to.n=i.dec.toL.length) (hI:I.length≤1000) (d:ByteArray) (hn:seqB d ⟨#[]⟩=false)
  (p:Nat) (x0:Xb) (hp:I[p]?=some x0) (he:digIt x0=d) (hno:∀ (j:Nat) (y:Xb),j<p→I[j]?=some y→seqB (digIt y) d=false) :
  Pu Tryz.prog 24 #[.agg #[ks.v,ki.v],.string d] (fun w=>Items w ki I∧Xg w) (.tuple #[x0.v,.bool true]):=by
 refine aq Tryz.func24 Tryz.ntmps24 fun av bor w0=>?_
 have hD:=fun x (hx:x∈I)=>bw x (hr x hx) (hd x hx)
 have hplt:=(List.getElem?_eq_some_iff.1 hp).1
 refine aD (p:=ki.n=I.length∧ki.n≤maxLen∧(0<I.length→ki.p.isSome=true)) (fun w h=>⟨h.1.len_,h.1.max_,h.1.some_⟩) fun ⟨hkn,hkm,hkp⟩=>?_
 simp only [maxLen] at hkm
 have hkp':=hkp ac
 clear hr hd
 repeat' (first|refine aw ?_ (cS false rfl rfl hn)|refine gs ?_|refine gs1 fun _=>?_|(refine gp ?_ ?_<;>intro hx_ this)|fail)
 rename_i b2 b4
 refine az (ι:=FndI p) (fun i=>⟨[(1,.string d),(2,.pointer (some ⟨b2,0,none⟩)),(4,.pointer (some ⟨b4,0,none⟩)),(5,.bool false),(12,ki.v),(13,.int .i64 (ki.n:Nat)),(14,.int .i64 (i.k:Nat))],[cel b4 78 Xb.zero.cells,cel b2 32 [ks.v,ki.v]],fun w=>Items w ki I∧Xg w⟩) (fun i=>p-i.k) ⟨0,Nat.zero_le _,Xb.zero⟩ (ak an (al _) fun _ h=>h) fun i=>?_
 obtain ⟨k,hk,it⟩:=i
 simp only
 obtain ⟨x,hx⟩:∃ x,I[k]?=some x:=⟨_,List.getElem?_eq_getElem ac⟩
 have hxm:=List.mem_of_getElem? hx
 have hDx:=hD x hxm
 by_cases hkp2:k=p
 · obtain rfl:x=x0:=by rw [hkp2,hp] at hx;exact (Option.some.inj hx).symm
   rw [he] at hDx
   have hdd:seqB d d=true:=c8 _
   repeat' (first|refine aw ?_ (be true rfl rfl (decide_eq_true ac))|refine aw ?_ (cS true rfl rfl hdd)|(refine ag (hc:=hDx) (hX:=fun w h=>⟨h.1.2 x hxm,h.2⟩) ?_)|refine gs ?_|refine gs1 fun _=>?_|(refine aA (q:=k*49) ?_)|(refine aY (cs:=x.cells) (hF:=fun w h=>h.1.get hx) ?_)|(refine gp ?_ ?_<;>intro hx_ this)|fail)
   all_goals first
    | exact ae (cB rfl rfl rfl aC (by rfl)) rfl
 · have hne:=hno k x ac hx
   repeat' (first|refine aw ?_ (be true rfl rfl (decide_eq_true ac))|refine aw ?_ (cS false rfl rfl hne)|(refine ag (hc:=hDx) (hX:=fun w h=>⟨h.1.2 x hxm,h.2⟩) ?_)|refine gs ?_|refine gs1 fun _=>?_|(refine aA (q:=k*49) ?_)|(refine aY (cs:=x.cells) (hF:=fun w h=>h.1.get hx) ?_)|(refine gp ?_ ?_<;>intro hx_ this)|fail)
   all_goals first
    | exact ⟨(⟨k+1,by omega,x⟩:FndI p),(by show p-(k+1)<p-k;omega),ak an (.cons _ (al _)) fun _ h=>h⟩
def notB (d:ByteArray) (x:Xb):Bool:=!seqB (digIt x) d
def withoutV (I:List Xb) (d:ByteArray):List Xb:=I.filter (notB d)
structure WoI (I:List Xb) (d:ByteArray) where
 k:Nat
 hk:k≤I.length
 A:Option Addr
 c:Nat
 n:Nat
 hn:n=((I.take k).filter (notB d)).length
 xs:List Value
 hxs:xs=(((I.take k).filter (notB d)).map Xb.cells).flatten
theorem oH (l:List Xb):∀ r∈l.map Xb.cells,r.length=49:=fun r hr=>by
 obtain ⟨c,_,rfl⟩:=List.mem_map.1 hr
 rfl
set_option maxRecDepth 20000 in
theorem pI (ks ki:Xi) (I:List Xb) (hr:∀ i∈I,i.act.Rng) (hd:∀ i∈I,i.dec.to.n=i.dec.toL.length) (hI:I.length≤1000) (d:ByteArray) :
  Mk Tryz.prog 8 #[.agg #[ks.v,ki.v],.string d] (fun w=>Items w ki I∧Xg w)
   (fun u X'=>∃ s:Xi,u=.agg #[ks.v,s.v]∧∀ w,X' w→Items w s (withoutV I d)):=by
 refine bS Tryz.func8 Tryz.ntmps8 fun av bor w0=>?_
 refine aD (p:=ki.n=I.length∧ki.n≤maxLen∧(0<I.length→ki.p.isSome=true)) (fun w h=>⟨h.1.len_,h.1.max_,h.1.some_⟩) fun ⟨hkn,hkm,hkp⟩=>?_
 simp only [maxLen] at hkm
 repeat' (first|refine gs ?_|refine gs1 fun _=>?_|(refine aL (cs:=[ks.v,.slice none 0 0]) (hf:=by rfl) ?_)|(refine gp ?_ ?_<;>intro hx_ this)|fail)
 rename_i b2 b4 b5
 refine bQ 78 49 ?_
 refine az (ι:=WoI I d) (fun i=>⟨[(1,.string d),(2,.pointer (some ⟨b2,0,none⟩)),(4,.pointer (some ⟨b4,0,none⟩)),(5,.pointer (some ⟨b5,0,none⟩)),(6,.int .i64 (i.k:Nat))],[orow 78 49 (.slice i.A i.n i.c) i.n i.xs,cel b5 32 [ks.v,.slice i.A i.n i.c],cel b4 32 [.slice none 0 0,.slice none 0 0],cel b2 32 [ks.v,ki.v]],fun w=>Items w ki I∧Xg w⟩) (fun i=>I.length-i.k) ⟨0,Nat.zero_le _,none,0,0,rfl,[],rfl⟩ (ak an (al _) fun _ h=>h) fun i=>?_
 obtain ⟨k,hk,A,c,n,hn,xs,hxs⟩:=i
 simp only
 have hnl:n≤1000:=by
  rw [hn]
  exact Nat.le_trans (List.length_filter_le _ _) (by rw [List.length_take];omega)
 by_cases hlt:k<I.length
 · have hkp':=hkp ac
   obtain ⟨x,hx⟩:∃ x,I[k]?=some x:=⟨_,List.getElem?_eq_getElem hlt⟩
   have hxm:=List.mem_of_getElem? hx
   have hdi:=bw x (hr x hxm) (hd x hxm)
   have htk:(I.take (k+1)).filter (notB d)=(I.take k).filter (notB d)++(bif notB d x then [x] else []):=by
    rw [List.take_add_one,hx,List.filter_append]
    cases hb:notB d x<;>simp [hb]
   cases hb:seqB (digIt x) d with
   | true =>
    rw [show notB d x=false by rw [notB,hb];rfl,cond_false,List.append_nil] at htk
    repeat' (first|refine aw ?_ (be true rfl rfl (decide_eq_true ac))|refine aw ?_ (eA false rfl rfl (by rw [hb];rfl))|(refine ag (hc:=hdi) (hX:=fun w h=>⟨h.1.2 x hxm,h.2⟩) ?_)|refine gs ?_|refine gs1 fun _=>?_|(refine aA (q:=k*49) ?_)|(refine aY (cs:=x.cells) (hF:=fun w h=>h.1.get hx) ?_)|(refine gp ?_ ?_<;>intro hx_ this)|fail)
    all_goals first
     | (exfalso;omega)
     | exact ⟨(⟨k+1,hlt,A,c,n,by rw [htk];exact hn,xs,by rw [htk];exact hxs⟩:WoI I d),(by show I.length-(k+1)<I.length-k;omega),ak an (al _) fun _ h=>h⟩
   | false =>
    rw [show notB d x=true by rw [notB,hb];rfl,cond_true] at htk
    repeat' (first|refine aw ?_ (be true rfl rfl (decide_eq_true ac))|refine aw ?_ (eA true rfl rfl (by rw [hb];rfl))|(refine ag (hc:=hdi) (hX:=fun w h=>⟨h.1.2 x hxm,h.2⟩) ?_)|refine gs ?_|refine gs1 fun _=>?_|(refine aA (q:=k*49) ?_)|(refine aY (cs:=x.cells) (hF:=fun w h=>h.1.get hx) ?_)|(refine gp ?_ ?_<;>intro hx_ this)|fail)
    (refine ao ⟨[0,2,3,4,5,6],[(1,⟨[],[(7,⟨[],[(8,⟨[9],[(10,⟨[],[]⟩)]⟩)]⟩)]⟩),(7,⟨[],[(1,⟨[],[(8,⟨[9],[(10,⟨[],[]⟩)]⟩)]⟩)]⟩)]⟩ [cel b2 32 [ks.v,ki.v]] (fun w=>Items w ki I∧Xg w) (h:=?_))
    all_goals repeat' (first|refine gdz ?_|refine aJ (hsub:=by exact aP) (hy:=by first|(apply bk (q:=k*49);rfl;rfl;omega;omega;assumption;(first|rfl|omega))|(apply f7 (q:=k*49) (cs:=x.cells);rfl;exact fun w h=>h.1.get hx)) ?_|refine aF ?_ (h':=?_)|exact aG|refine bH (size:=49) (vs:=[x.v]) (css:=x.cells) (hsz:=by rfl) (hcs:=by rfl) fun _=>?_|(refine fI ?_;refine aH (size:=49) (news:=x.cells) (q:=1) rfl rfl rfl rfl (fun _=>At.there _ (At.here _)) (fun w G=>bu G ay rfl rfl 1) ac (by simp only [maxLen];omega) rfl ?_ rfl ?_;(first|with_reducible rfl|with_reducible assumption|with_reducible exact Bool.not_false|with_reducible exact Bool.not_true);intro A2 c2)|refine gs1 fun _=>?_|(refine gq ?_ ?_<;>intro hx_ this)|fail)
    all_goals
     repeat' (first|refine gs ?_|refine gs1 fun _=>?_|(refine gp ?_ ?_<;>intro hx_ this)|fail)
     exact ⟨(⟨k+1,hlt,A2,c2,n+1,by rw [htk,List.length_append,←hn];rfl,xs++x.cells,by rw [htk,hxs];simp⟩:WoI I d),(by show I.length-(k+1)<I.length-k;omega),ak an (.cons _ (al _)) fun _ h=>h⟩
 · have hke:k=I.length:=by omega
   rw [hke,List.take_length] at hn hxs
   repeat' (first|refine aw ?_ (be false rfl rfl (decide_eq_false ac))|refine gs ?_|refine gs1 fun _=>?_|(refine gp ?_ ?_<;>intro hx_ this)|fail)
   refine ae (aI rfl rfl aC (by rfl)) ⟨⟨A,n,c⟩,rfl,fun w h=>⟨?_,fun x hx=>h.1.1.2 x (List.mem_filter.1 hx).1⟩⟩
   have hr:=h.2 (orow 78 49 (.slice A n c) n xs) (.head _)
   rw [hxs] at hr
   exact aM (xs:=(I.filter (notB d)).map Xb.cells) hr (by simpa using hn) (oH _)
def seedS (i:Nat):ByteArray:=⟨#[115,101,114,118,101,114,32]⟩++ofInts [(i:Int)]
def keyS (i:Nat):Eg:=keyOf (seedS i)
theorem cj (i:Nat) (hi:i<256):Pu Tryz.prog 15 #[.int .i64 (i:Int)] Xg (keyS i).v:=by
 refine aq Tryz.func15 Tryz.ntmps15 fun av bor w0=>?_
 have hw:IntKind.u8.wrap (i:Int)=(i:Int):=by rw [wrap8,Nat.mod_eq_of_lt hi]
 have hsz:(seedS i).size≤1000000000000:=by
  have:(seedS i).size=8:=rfl
  omega
 repeat' (first|refine iQ (c:=(i:Int)) (hc:=hw) (h:=?_)|(refine ag (hc:=kp (seedS i) hsz) ?_)|refine gs ?_|refine gs1 fun _=>?_|(refine bG (len:=1) (vs:=[.int .u8 (i:Int)]) fun _=>?_)|(refine am (vd (ns:=[(i:Int)]) rfl aC rfl (by decide)) rfl rfl rfl ?_)|(refine mK (hb:=by exact (show 7+1≤9223372036854775807 by decide)) ?_)|(refine gp ?_ ?_<;>intro hx_ this)|fail)
 exact ae (aI rfl rfl aC (by rfl)) rfl
def Xf.sig (d:Xf) (g:Ef):Xf:={ d with e:=g.e,s:=g.s }
def signDV (k:Eg) (d:Xf):Xf:=d.sig (signV k (msgD d))
set_option maxRecDepth 20000 in
theorem dj (k:Eg) (d:Xf) (hf:d.Fit) (hs:d.to.n*16≤140737488351232) (hl:d.Lt) (hz:(msgD d).size≤1000000000000):Mk Tryz.prog 51 #[k.v,d.v] (fun w=>d.at_ w∧Xg w)
  (fun u X=>∃ s:Xi,s.n=d.to.n∧u=((signDV k d).re s).v∧∀ w,X w→((signDV k d).re s).at_ w):=by
 refine bS Tryz.func51 Tryz.ntmps51 fun av bor w0=>?_
 have hod:=eY d hf hs
 have hsi:=ry k (msgD d) ac
 rw [signDV]
 generalize hg:signV k (msgD d)=g at *
 repeat' (first|(refine aT (hc:=hod) fun v1 X1 h1=>?_;obtain ⟨s1,hs1,rfl,hat1⟩:=h1)|refine gs ?_|refine gs1 fun _=>?_|(refine gp ?_ ?_<;>intro hx_ this)|fail)
 have hms:=rL (ofDecI (d.re s1)) rfl ⟨hl.server,hl.number,hl.kind,hl.n,hl.from_,hl.until_,hl.e,hl.s⟩ (by show (msgD d).size≤_;omega)
 rename_i b2 b3 b4 b5
 rw [show msgD (ofDecI (d.re s1)).dec=msgD d from rfl] at hms
 (refine ao ⟨[0],[(1,⟨[],[(2,⟨[],[(3,⟨[4,5],[(6,⟨[],[]⟩)]⟩)]⟩)]⟩)]⟩ [cel b2 59 k.cells] (fun w=>(d.at_ w∧Xg w)∧X1 w) (h:=?_))
 all_goals repeat' (first|(refine ag (hc:=hms) (hX:=fun w h=>hat1 w h.2) ?_)|(refine ag (hc:=hsi) (hX:=fun w h=>h.1.2) ?_)|refine gdz ?_|refine aF ?_ (h':=?_)|exact aG|(refine aZ (ofDecI ((d.sig g).re s1)).cells (h:=?_))|refine gs1 fun _=>?_|(refine gq ?_ ?_<;>intro hx_ this)|fail)
 all_goals
  repeat' (first|refine gs ?_|refine gs1 fun _=>?_|(refine aE (vs:=((d.sig g).re s1).cells) (hv:=rfl) ?_)|(refine gp ?_ ?_<;>intro hx_ this)|fail)
  exact ae (aI rfl rfl aC (by rfl)) ⟨s1,hs1,rfl,fun w h=>(hat1 w h.1.2).2⟩
end Go.Proofs.YtgffbiobmamobaaGreatDoor
