/- Joined. -/
import Derived.Test.YtggionfjlgfihaaGreatDoorI0
import Derived.Test.YtggionfjlgfihaaGreatDoorI1
import Derived.Test.YtggionfjlgfihaaGreatDoorI31
import Derived.Test.YtggionfjlgfihaaGreatDoorI20
import Derived.Test.YtggionfjlgfihaaGreatDoorI30
import Derived.Test.YtggionfjlgfihaaGreatDoorI29
import Derived.Test.YtggionfjlgfihaaGreatDoorI7
import Derived.Test.YtggionfjlgfihaaGreatDoorI14
import Derived.Test.YtggionfjlgfihaaGreatDoorI13
set_option linter.unusedVariables false
set_option linter.unusedSimpArgs false
set_option maxHeartbeats 16000000
namespace Go.Proofs.YtggionfjlgfihaaGreatDoor
open Go Go.Proofs Sy
theorem gE {c:Xg} (hs:c.Sm):(coreCl c).size≤3000000:=by
 have h1:=hs.actor
 have h2:=hs.prev
 have s1:=aD c.actor
 have s2:=aD c.prev
 have n1:=aw c.base
 have n2:=aw c.gen
 have n3:=aw c.home
 have n4:=aw c.pub
 have n5:=aw c.time
 simp only [coreCl,eT,fB,fJ,gS,ByteArray.append_empty,ByteArray.size_append]
 omega
theorem gF {c:Xi} (hs:c.Sm):(coreBa c).size≤3000000:=by
 have h1:=hs.actor
 have h2:=hs.claim
 have s1:=aD c.actor
 have s2:=aD c.claim
 have n1:=aw c.server
 have n2:=aw c.gen
 have n3:=aw c.time
 simp only [coreBa,eT,fB,fJ,gS,ByteArray.append_empty,ByteArray.size_append]
 omega
theorem gD {c:Xr} (hs:c.Sm):(coreDe c).size≤5000000:=by
 have h1:=hs.actor
 have h2:=hs.object
 have h3:=hs.text
 have h4:=hs.to
 have s1:=aD c.actor
 have s2:=aD c.object
 have s3:=aD c.text
 have n1:=aw c.server
 have n2:=aw c.number
 have n3:=aw c.kind
 have n4:=aw c.n
 have n5:=aw c.from_
 have n6:=aw c.until_
 simp only [coreDe,eT,fB,fJ,gS,ByteArray.append_empty,ByteArray.size_append]
 omega
theorem lf {nm p:ByteArray} (h:nm.size≤20) (hp:p.size≤5000000):(textsV [nm]++p).size≤6000000:=by
 have s1:=aD nm
 simp only [eT,fB,ByteArray.append_empty,ByteArray.size_append]
 omega
theorem d6 (e s:Int):(numsV [e,s]).size≤20:=by
 have n1:=aw e
 have n2:=aw s
 simp only [fJ,gS,ByteArray.append_empty,ByteArray.size_append]
 omega
def bodyIt (i:Xb):ByteArray:=bif decide (i.kind=0) then actBytes i.act else bif decide (i.kind=1) then coreCl i.claim++numsV [i.claim.e,i.claim.s] else bif decide (i.kind=2) then coreBa i.ballot++numsV [i.ballot.e,i.ballot.s] else coreDe i.dec++numsV [i.dec.e,i.dec.s]
def bytesIt (i:Xb):ByteArray:=bif rightIt i then numV i.kind++bodyIt i else ⟨#[]⟩
def digIt (i:Xb):ByteArray:=bif seqB (bytesIt i) ⟨#[]⟩ then ⟨#[]⟩ else shaV (bytesIt i)
theorem dT {i:Xb} (h:rightIt i=true):i.kind=0∧rightB i.act=true∨i.kind=1∧claimR i.claim=true∨i.kind=2∧ballotR i.ballot=true∨i.kind=3∧decR i.dec=true:=by
 rw [rightIt,Bool.and_eq_true] at h
 have h:=h.1
 rw [rightK2] at h
 by_cases h0:i.kind=0
 · rw [decide_eq_true h0] at h;exact .inl ⟨h0,h⟩
 by_cases h1:i.kind=1
 · rw [decide_eq_false h0,decide_eq_true h1] at h;exact .inr (.inl ⟨h1,h⟩)
 by_cases h2:i.kind=2
 · rw [decide_eq_false h0,decide_eq_false h1,decide_eq_true h2] at h;exact .inr (.inr (.inl ⟨h2,h⟩))
 by_cases h3:i.kind=3
 · rw [decide_eq_false h0,decide_eq_false h1,decide_eq_false h2,decide_eq_true h3] at h;exact .inr (.inr (.inr ⟨h3,h⟩))
 rw [decide_eq_false h0,decide_eq_false h1,decide_eq_false h2,decide_eq_false h3] at h
 cases h
theorem jF {i:Xb} (h:i.kind=0) (hr:rightIt i=true):rightB i.act=true:=by
 rcases dT hr with h1|h1|h1|h1
 · exact h1.2
 all_goals (rw [h] at h1;exact absurd h1.1 (by decide))
theorem jV {i:Xb} (hr:i.act.Rng) (hn:i.dec.to.n=i.dec.toL.length) (h:rightIt i=true):(bodyIt i).size≤300000000025:=by
 rw [bodyIt]
 rcases dT h with ⟨h0,h1⟩|⟨h0,h1⟩|⟨h0,h1⟩|⟨h0,h1⟩
 · have:=fb hr
   rw [h0]
   show (actBytes i.act).size≤_
   omega
 · have:=gE (jw h1).2
   have:=d6 i.claim.e i.claim.s
   rw [h0]
   show (coreCl i.claim++numsV [i.claim.e,i.claim.s]).size≤_
   rw [ByteArray.size_append]
   omega
 · have:=gF (ik h1).2
   have:=d6 i.ballot.e i.ballot.s
   rw [h0]
   show (coreBa i.ballot++numsV [i.ballot.e,i.ballot.s]).size≤_
   rw [ByteArray.size_append]
   omega
 · have:=gD (oe hn h1).2
   have:=d6 i.dec.e i.dec.s
   rw [h0]
   show (coreDe i.dec++numsV [i.dec.e,i.dec.s]).size≤_
   rw [ByteArray.size_append]
   omega
theorem oo {i:Xb} (hr:i.act.Rng) (hn:i.dec.to.n=i.dec.toL.length):(bytesIt i).size≤300000000040:=by
 rw [bytesIt]
 cases h:rightIt i with
 | false=>rw [cond_false];simp [ByteArray.size]
 | true =>
  have:=jV hr hn h
  have:=aw i.kind
  rw [cond_true,ByteArray.size_append]
  omega
set_option maxRecDepth 20000 in
theorem l8 (i:Xb) (hr:i.act.Rng) (hdn:i.dec.to.n=i.dec.toL.length):Pu Tryz.prog 55 #[i.v] (fun w=>i.at_ w) (.string (bytesIt i)):=by
 have hri:=cW i
 have hbs:=@jV i hr hdn
 rw [bytesIt]
 cases hrB:rightIt i with
 | false =>
  rw [hrB] at hri
  refine ar Tryz.func55 Tryz.ntmps55 fun av bor w0=>?_
  repeat' (first|(refine ag (hc:=hri) ?_)|refine gs ?_|refine gs1 fun _=>?_|(refine gp ?_ ?_<;>intro hx_ this)|fail)
  all_goals exact ab (ai rfl rfl) rfl
 | true =>
 rw [hrB] at hri
 have hk:=dT hrB
 replace hbs:=hbs hrB
 have hkl:i.kind<9223372036854775808:=by rcases hk with h|h|h|h<;>omega
 refine ar Tryz.func55 Tryz.ntmps55 fun av bor w0=>?_
 repeat' (first|(refine ag (hc:=hri) ?_)|refine gs ?_|refine gs1 fun _=>?_|(refine gp ?_ ?_<;>intro hx_ this)|fail)
 rename_i bi bb bs
 have hS:(⟨#[]⟩:ByteArray)++numsV [i.kind]=numV i.kind:=by
  show ByteArray.empty++(numV i.kind++ByteArray.empty)=numV i.kind
  rw [ByteArray.append_empty,ByteArray.empty_append]
 have hnk:=aw i.kind
 have hns:(⟨#[]⟩:ByteArray).size+(numsV [i.kind]).size≤1099511627776:=by
  rw [←ByteArray.size_append,hS]
  omega
 refine aW ?_
 refine ff 5 1 ?_
 refine bX (l:=bld bb none 0 ⟨#[]⟩++[cel bi 45 i.cells]) (List.Perm.swap _ _ _) ?_
 refine aZ (pre:=bld bb none 0 ⟨#[]⟩) (fr:=[cel bi 45 i.cells]) (hc:=dB bb none 0 ⟨#[]⟩ ⟨some ⟨bs,0,none⟩,1,1⟩ [i.kind] (by simpa using hkl) hns) (hX:=fun w h=>aR (xs:=[[.int .i64 i.kind]]) h.2 rfl (by decide) (by simp)) (h:=?_)
 rintro v R X' ⟨A1,c1,rfl,rfl⟩
 refine bS (X':=fun w=>i.at_ w) (fun w h=>h.1.1) ?_
 rw [hS]
 generalize hs1:numV i.kind=s1 at *
 rw [bodyIt] at hbs ⊢
 rcases hk with ⟨h0,h1⟩|⟨h0,h1⟩|⟨h0,h1⟩|⟨h0,h1⟩
 · rw [decide_eq_true h0,cond_true] at hbs ⊢
   have hab:=jZ i.act (cP hr) ⟨hr.ints.2.2.2.2.2.2.2.1,hr.ints.2.2.2.2.2.2.2.2⟩
   generalize actBytes i.act=body at *
   unfold bld
   repeat' (first|refine bp (hab:=h0) ?_|refine gs ?_|refine gs1 fun _=>?_|(refine gp ?_ ?_<;>intro hx_ this)|fail)
   simp only [List.cons_append,List.nil_append]
   (refine ao ⟨[0,2,3],[(1,⟨[],[(4,⟨[],[(5,⟨[6],[(7,⟨[],[]⟩)]⟩)]⟩)]⟩),(4,⟨[],[(1,⟨[],[(5,⟨[6],[(7,⟨[],[]⟩)]⟩)]⟩)]⟩)]⟩ [cel bi 45 i.cells] (fun w=>i.at_ w) (h:=?_))
   all_goals repeat' (first|(refine ag (hc:=hab) ?_)|refine gdz ?_|refine ax (hsub:=by exact aF) (hy:=by first|(apply da (vs:=i.act.cells);rfl;exact .head _;rfl;rfl)) ?_|refine ay ?_ (h':=?_)|exact az|(refine fU ?_;refine aC (size:=1) (z:=.int .u8 0) rfl rfl rfl rfl (fun _=>At.there _ (At.here _)) (fun w G=>gM aa) aa (by simp only [maxLen];omega) rfl ?_ rfl ?_;(first|with_reducible rfl|with_reducible assumption|with_reducible exact Bool.not_false|with_reducible exact Bool.not_true);intro A2 c2)|refine gs1 fun _=>?_|(refine gq ?_ ?_<;>intro hx_ this)|fail)
   all_goals
    repeat' (first|refine gs ?_|refine gs1 fun _=>?_|(refine gp ?_ ?_<;>intro hx_ this)|fail)
    rw [←bU,←cY]
    refine dR (hm:=List.mem_cons_of_mem _ ap) ?_
    repeat' (first|refine gs ?_|refine gs1 fun _=>?_|(refine gp ?_ ?_<;>intro hx_ this)|fail)
    apply ab;apply ai;rfl;rfl
    simp only [bM,cond_true]
 · rw [decide_eq_false (show ¬ i.kind=0 by omega),cond_false,decide_eq_true h0,cond_true] at hbs ⊢
   obtain ⟨hl,hsm⟩:=jw h1
   have hfo:=lw i h0
   have hcs:=gE hsm
   have hn2:=d6 i.claim.e i.claim.s
   have hc1:=fun (A:Option Addr) (c:Nat)=>mW bb A c s1 i hl aa
   have hc2:=fun (A:Option Addr) (c:Nat) (p:ByteArray) (hp:p.size≤6000000) (sl:Xj)=>dB bb A c p sl [i.claim.e,i.claim.s] (by simp;exact ⟨hl.e,hl.s⟩) aa
   generalize coreCl i.claim=core at *
   generalize numsV [i.claim.e,i.claim.s]=sg at *
   unfold bld
   repeat' (first|refine bo ?_|(refine ag (hc:=hfo) ?_)|refine gs ?_|refine gs1 fun _=>?_|(refine gp ?_ ?_<;>intro hx_ this)|fail)
   rename_i bf
   refine bX (l:=bld bb A1 c1 s1++[cel bf 176 (formCells nameC 172 i.claim.e i.claim.s),cel bi 45 i.cells]) (show List.Perm ([_]++[_,_]++[_]) ([_,_]++[_]++[_]) from List.perm_append_comm.append_right _) ?_
   refine aZ (pre:=bld bb A1 c1 s1) (fr:=[cel bf 176 (formCells nameC 172 i.claim.e i.claim.s),cel bi 45 i.cells]) (hc:=hc1 A1 c1) (hX:=fun _ _=>trivial) (h:=?_)
   rintro v R X' ⟨A2,c2,rfl,rfl⟩
   refine bS (X':=fun w=>i.at_ w) (fun w h=>h.1) ?_
   unfold bld
   repeat' (first|refine gs ?_|refine gs1 fun _=>?_|fail)
   rename_i bs2
   refine aW ?_
   refine aZ (pre:=bld bb A2 c2 (s1++core)) (fr:=[cel bf 176 (formCells nameC 172 i.claim.e i.claim.s),cel bi 45 i.cells]) (hc:=hc2 A2 c2 (s1++core) (by rw [ByteArray.size_append];omega) ⟨some ⟨bs2,0,none⟩,2,2⟩) (hX:=fun w h=>aR (xs:=[[.int .i64 i.claim.e],[.int .i64 i.claim.s]]) h.2 rfl (by decide) (by simp)) (h:=?_)
   rintro v R X' ⟨A3,c3,rfl,rfl⟩
   unfold bld
   repeat' (first|refine gs ?_|refine gs1 fun _=>?_|fail)
   refine dR (hm:=List.mem_cons_of_mem _ ap) ?_
   repeat' (first|refine gs ?_|refine gs1 fun _=>?_|(refine gp ?_ ?_<;>intro hx_ this)|fail)
   all_goals
    apply ab;apply ai;rfl;rfl
    simp only [bM,cond_true,ByteArray.append_assoc]
 · rw [decide_eq_false (show ¬ i.kind=0 by omega),cond_false,decide_eq_false (show ¬ i.kind=1 by omega),cond_false,decide_eq_true h0,cond_true] at hbs ⊢
   obtain ⟨hl,hsm⟩:=ik h1
   have hfo:=lx i h0
   have hcs:=gF hsm
   have hn2:=d6 i.ballot.e i.ballot.s
   have hc1:=fun (A:Option Addr) (c:Nat)=>lQ bb A c s1 i hl aa
   have hc2:=fun (A:Option Addr) (c:Nat) (p:ByteArray) (hp:p.size≤6000000) (sl:Xj)=>dB bb A c p sl [i.ballot.e,i.ballot.s] (by simp;exact ⟨hl.e,hl.s⟩) aa
   generalize coreBa i.ballot=core at *
   generalize numsV [i.ballot.e,i.ballot.s]=sg at *
   unfold bld
   repeat' (first|refine bo ?_|(refine ag (hc:=hfo) ?_)|refine gs ?_|refine gs1 fun _=>?_|(refine gp ?_ ?_<;>intro hx_ this)|fail)
   rename_i bf
   refine bX (l:=bld bb A1 c1 s1++[cel bf 176 (formCells nameB 173 i.ballot.e i.ballot.s),cel bi 45 i.cells]) (show List.Perm ([_]++[_,_]++[_]) ([_,_]++[_]++[_]) from List.perm_append_comm.append_right _) ?_
   refine aZ (pre:=bld bb A1 c1 s1) (fr:=[cel bf 176 (formCells nameB 173 i.ballot.e i.ballot.s),cel bi 45 i.cells]) (hc:=hc1 A1 c1) (hX:=fun _ _=>trivial) (h:=?_)
   rintro v R X' ⟨A2,c2,rfl,rfl⟩
   refine bS (X':=fun w=>i.at_ w) (fun w h=>h.1) ?_
   unfold bld
   repeat' (first|refine gs ?_|refine gs1 fun _=>?_|fail)
   rename_i bs2
   refine aW ?_
   refine aZ (pre:=bld bb A2 c2 (s1++core)) (fr:=[cel bf 176 (formCells nameB 173 i.ballot.e i.ballot.s),cel bi 45 i.cells]) (hc:=hc2 A2 c2 (s1++core) (by rw [ByteArray.size_append];omega) ⟨some ⟨bs2,0,none⟩,2,2⟩) (hX:=fun w h=>aR (xs:=[[.int .i64 i.ballot.e],[.int .i64 i.ballot.s]]) h.2 rfl (by decide) (by simp)) (h:=?_)
   rintro v R X' ⟨A3,c3,rfl,rfl⟩
   unfold bld
   repeat' (first|refine gs ?_|refine gs1 fun _=>?_|fail)
   refine dR (hm:=List.mem_cons_of_mem _ ap) ?_
   repeat' (first|refine gs ?_|refine gs1 fun _=>?_|(refine gp ?_ ?_<;>intro hx_ this)|fail)
   all_goals
    apply ab;apply ai;rfl;rfl
    simp only [bM,cond_true,ByteArray.append_assoc]
 · rw [decide_eq_false (show ¬ i.kind=0 by omega),cond_false,decide_eq_false (show ¬ i.kind=1 by omega),cond_false,decide_eq_false (show ¬ i.kind=2 by omega),cond_false] at hbs ⊢
   obtain ⟨hl,hsm⟩:=oe hdn h1
   have hfo:=lv i h0
   have hcs:=gD hsm
   have hn2:=d6 i.dec.e i.dec.s
   have hc1:=fun (A:Option Addr) (c:Nat)=>iS bb A c s1 i hl aa
   have hc2:=fun (A:Option Addr) (c:Nat) (p:ByteArray) (hp:p.size≤6000000) (sl:Xj)=>dB bb A c p sl [i.dec.e,i.dec.s] (by simp;exact ⟨hl.e,hl.s⟩) aa
   generalize coreDe i.dec=core at *
   generalize numsV [i.dec.e,i.dec.s]=sg at *
   unfold bld
   repeat' (first|refine bo ?_|(refine ag (hc:=hfo) ?_)|refine gs ?_|refine gs1 fun _=>?_|(refine gp ?_ ?_<;>intro hx_ this)|fail)
   rename_i bf
   refine bX (l:=bld bb A1 c1 s1++[cel bf 176 (formCells nameD 174 i.dec.e i.dec.s),cel bi 45 i.cells]) (show List.Perm ([_]++[_,_]++[_]) ([_,_]++[_]++[_]) from List.perm_append_comm.append_right _) ?_
   refine aZ (pre:=bld bb A1 c1 s1) (fr:=[cel bf 176 (formCells nameD 174 i.dec.e i.dec.s),cel bi 45 i.cells]) (hc:=hc1 A1 c1) (hX:=fun w h=>h) (h:=?_)
   rintro v R X' ⟨A2,c2,rfl,rfl⟩
   refine bS (X':=fun w=>i.at_ w) (fun w h=>h.1) ?_
   unfold bld
   repeat' (first|refine gs ?_|refine gs1 fun _=>?_|fail)
   rename_i bs2
   refine aW ?_
   refine aZ (pre:=bld bb A2 c2 (s1++core)) (fr:=[cel bf 176 (formCells nameD 174 i.dec.e i.dec.s),cel bi 45 i.cells]) (hc:=hc2 A2 c2 (s1++core) (by rw [ByteArray.size_append];omega) ⟨some ⟨bs2,0,none⟩,2,2⟩) (hX:=fun w h=>aR (xs:=[[.int .i64 i.dec.e],[.int .i64 i.dec.s]]) h.2 rfl (by decide) (by simp)) (h:=?_)
   rintro v R X' ⟨A3,c3,rfl,rfl⟩
   unfold bld
   repeat' (first|refine gs ?_|refine gs1 fun _=>?_|fail)
   refine dR (hm:=List.mem_cons_of_mem _ ap) ?_
   repeat' (first|refine gs ?_|refine gs1 fun _=>?_|(refine gp ?_ ?_<;>intro hx_ this)|fail)
   all_goals
    apply ab;apply ai;rfl;rfl
    simp only [bM,cond_true,ByteArray.append_assoc]
theorem cb (i:Xb) (hr:i.act.Rng) (hdn:i.dec.to.n=i.dec.toL.length):Pu Tryz.prog 19 #[i.v] (fun w=>i.at_ w∧Xf w) (.string (digIt i)):=by
 refine ar Tryz.func19 Tryz.ntmps19 fun av bor w0=>?_
 have hsz:=oo hr hdn
 have hb:=l8 i hr hdn
 repeat' (first|(refine ag (hc:=hb) ?_)|refine ag (hc:=kL _ aa) ?_|refine gs ?_|refine gs1 fun _=>?_|(refine gp ?_ ?_<;>intro hx_ this)|fail)
 all_goals (apply ab;apply ai;rfl;rfl)
 · simp only [digIt,hx_,cond_true]
 · simp only [digIt,hx_,cond_false]
theorem uY {i:Xb} (h:i.kind=0) (hr:rightIt i=true):digIt i=digV i.act:=by
 have e:bytesIt i=bytesV i.act:=by rw [bytesIt,bytesV,hr,jF h hr,cond_true,cond_true,bodyIt,h];rfl
 rw [digIt,digV,e]
theorem rG (p:Int) (c:Xg) (h:claimR c=true):Pu Tryz.prog 134 #[.int .i64 p,c.v] Xf (.bool (sgnC p c)):=by
 refine ar Tryz.func134 Tryz.ntmps134 fun av bor w0=>?_
 obtain ⟨hl,hsm⟩:=jw h
 have hsi:=nD p (ofClaimI c) rfl hl (Nat.le_trans (lf (by decide) (Nat.le_trans (gE hsm) (by decide))) (by decide))
 have hat:∀ w,(ofClaimI c).at_ w:=fun w=>⟨⟨aJ w 1,aJ w 5⟩,aJ w 1⟩
 repeat' (first|(refine ag (hc:=fI c) ?_)|(refine ag (hc:=hsi) (hX:=fun w h=>⟨hat w,h⟩) ?_)|refine gs ?_|refine gs1 fun _=>?_|(refine gp ?_ ?_<;>intro hx_ this)|fail)
 exact ab (ai rfl rfl) rfl
def signedIt (L:List Int) (i:Xb):Bool:=rightIt i&&bif decide (i.kind=2) then decide (i.ballot.server<(L.length:Nat))&&sgnB (L.getD i.ballot.server.toNat 0) i.ballot else bif decide (i.kind=3) then decide (i.dec.server<(L.length:Nat))&&sgnD (L.getD i.dec.server.toNat 0) i.dec else true
set_option maxRecDepth 20000 in
theorem gi (s:Xj) (L:List Int) (i:Xb) (hdn:i.dec.to.n=i.dec.toL.length):Pu Tryz.prog 24 #[s.v,i.v] (fun w=>(Ints w s L∧i.at_ w)∧Xf w) (.bool (signedIt L i)):=by
 refine ar Tryz.func24 Tryz.ntmps24 fun av bor w0=>?_
 refine aH (p:=s.n=L.length∧s.n≤maxLen∧(0<L.length→s.p.isSome=true)) (fun w h=>⟨h.1.1.len_,Nat.le_trans (Xe.cap h.1.1) (Xe.max h.1.1),h.1.1.some_⟩) fun ⟨hsn,hsm,hsp⟩=>?_
 simp only [maxLen] at hsm
 have hri:=cW i
 cases hrB:rightIt i with
 | false =>
  rw [hrB] at hri
  rw [show signedIt L i=false from by rw [signedIt,hrB];rfl]
  repeat' (first|(refine ag (hc:=hri) (hX:=fun w h=>h.1.2) ?_)|refine gs ?_|refine gs1 fun _=>?_|(refine gp ?_ ?_<;>intro hx_ this)|fail)
  exact ab (ai rfl rfl) rfl
 | true =>
 rw [hrB] at hri
 have hk:=dT hrB
 by_cases h2:i.kind=2
 · rcases hk with h|h|h|h
   all_goals first|(exfalso;omega)|skip
   have h1:=h.2
   clear h
   obtain ⟨hl,hz⟩:=ik h1
   have hlo:0≤i.ballot.server:=(bJ (by have:=h1;simp only [ballotR,Bool.and_eq_true] at this;exact this.1)).1
   have hms:=lf (nm:=nameB) (by decide) (Nat.le_trans (gF hz) (by decide))
   have hsg:=fun p:Int=>nE p i h2 hl (Nat.le_trans hms (by decide))
   by_cases hlt:i.ballot.server<(L.length:Nat)
   · have hsp':=hsp aa
     have e:signedIt L i=sgnB (L.getD i.ballot.server.toNat 0) i.ballot:=by rw [signedIt,hrB,decide_eq_true h2,cond_true,decide_eq_true hlt,Bool.true_and,Bool.true_and]
     rw [e]
     have hget:∀ w,(Ints w s L∧i.at_ w)∧Xf w→CellAt w s.p i.ballot.server.toNat (.int .i64 (L.getD i.ballot.server.toNat 0)):=fun w h=>Ints.get h.1.1 aa
     have hsg1:=hsg (L.getD i.ballot.server.toNat 0)
     generalize L.getD i.ballot.server.toNat 0=pk at *
     repeat' (first|refine bp ?_|refine bo ?_|(refine ag (hc:=hri) (hX:=fun w h=>h.1.2) ?_)|refine gs ?_|refine gs1 fun _=>?_|(refine gp ?_ ?_<;>intro hx_ this)|fail)
     rename_i b3
     (refine ao ⟨[0,1,2,3,4,5,6,7,8,9],[(10,⟨[11,12],[]⟩)]⟩ [cel b3 45 i.cells] (fun w=>(Ints w s L∧i.at_ w)∧Xf w) (h:=?_))
     all_goals repeat' (first|refine ax (hsub:=by exact aF) (hy:=by first|(apply bj true;rfl;rfl;exact decide_eq_true aa)) ?_|(refine ag (hc:=hsg1) (hX:=fun w h=>⟨h.1.2,h.2⟩) ?_)|refine gdz ?_|refine ax (hsub:=by exact aF) (hy:=by first|(apply aG (q:=i.ballot.server.toNat);rfl;rfl;omega;omega;assumption;omega)|(apply de (q:=i.ballot.server.toNat) (u:=.int .i64 pk);rfl;exact hget)) ?_|refine ay ?_ (h':=?_)|exact az|refine gs1 fun _=>?_|(refine gq ?_ ?_<;>intro hx_ this)|fail)
     all_goals
      repeat' (first|refine gs ?_|refine gs1 fun _=>?_|(refine gp ?_ ?_<;>intro hx_ this)|fail)
      exact ab (ai rfl rfl) rfl
   · have e:signedIt L i=false:=by rw [signedIt,hrB,decide_eq_true h2,cond_true,decide_eq_false hlt];rfl
     rw [e]
     repeat' (first|refine bp ?_|refine bo ?_|(refine ag (hc:=hri) (hX:=fun w h=>h.1.2) ?_)|refine gs ?_|refine gs1 fun _=>?_|(refine gp ?_ ?_<;>intro hx_ this)|fail)
     rename_i b3
     (refine ao ⟨[0,1,2,3,4,5,6,7,8,9],[(10,⟨[11,12],[]⟩)]⟩ [cel b3 45 i.cells] (fun w=>(Ints w s L∧i.at_ w)∧Xf w) (h:=?_))
     all_goals repeat' (first|refine ax (hsub:=by exact aF) (hy:=by first|(apply bj false;rfl;rfl;exact decide_eq_false aa)) ?_|refine gdz ?_|refine ay ?_ (h':=?_)|exact az|refine gs1 fun _=>?_|(refine gq ?_ ?_<;>intro hx_ this)|fail)
     all_goals
      repeat' (first|refine gs ?_|refine gs1 fun _=>?_|(refine gp ?_ ?_<;>intro hx_ this)|fail)
      exact ab (ai rfl rfl) rfl
 by_cases h3:i.kind=3
 · rcases hk with h|h|h|h
   all_goals first|(exfalso;omega)|skip
   have h1:=h.2
   clear h
   obtain ⟨hl,hz⟩:=oe hdn h1
   have hlo:0≤i.dec.server:=(bJ (by have:=h1;simp only [decR,Bool.and_eq_true] at this;exact this.1)).1
   have hms:=lf (nm:=nameD) (by decide) (Nat.le_trans (gD hz) (by decide))
   have hsg:=fun p:Int=>nC p i h3 hl (Nat.le_trans hms (by decide))
   by_cases hlt:i.dec.server<(L.length:Nat)
   · have hsp':=hsp aa
     have e:signedIt L i=sgnD (L.getD i.dec.server.toNat 0) i.dec:=by rw [signedIt,hrB,decide_eq_false h2,cond_false,decide_eq_true h3,cond_true,decide_eq_true hlt,Bool.true_and,Bool.true_and]
     rw [e]
     have hget:∀ w,(Ints w s L∧i.at_ w)∧Xf w→CellAt w s.p i.dec.server.toNat (.int .i64 (L.getD i.dec.server.toNat 0)):=fun w h=>Ints.get h.1.1 aa
     have hsg1:=hsg (L.getD i.dec.server.toNat 0)
     generalize L.getD i.dec.server.toNat 0=pk at *
     repeat' (first|refine bp ?_|refine bo ?_|(refine ag (hc:=hri) (hX:=fun w h=>h.1.2) ?_)|refine gs ?_|refine gs1 fun _=>?_|(refine gp ?_ ?_<;>intro hx_ this)|fail)
     rename_i b3
     (refine ao ⟨[0,1,2,3,4,5,6,7,8,9],[(10,⟨[11,12],[]⟩)]⟩ [cel b3 45 i.cells] (fun w=>(Ints w s L∧i.at_ w)∧Xf w) (h:=?_))
     all_goals repeat' (first|refine ax (hsub:=by exact aF) (hy:=by first|(apply bj true;rfl;rfl;exact decide_eq_true aa)) ?_|(refine ag (hc:=hsg1) (hX:=fun w h=>⟨h.1.2,h.2⟩) ?_)|refine gdz ?_|refine ax (hsub:=by exact aF) (hy:=by first|(apply aG (q:=i.dec.server.toNat);rfl;rfl;omega;omega;assumption;omega)|(apply de (q:=i.dec.server.toNat) (u:=.int .i64 pk);rfl;exact hget)) ?_|refine ay ?_ (h':=?_)|exact az|refine gs1 fun _=>?_|(refine gq ?_ ?_<;>intro hx_ this)|fail)
     all_goals
      repeat' (first|refine gs ?_|refine gs1 fun _=>?_|(refine gp ?_ ?_<;>intro hx_ this)|fail)
      exact ab (ai rfl rfl) rfl
   · have e:signedIt L i=false:=by rw [signedIt,hrB,decide_eq_false h2,cond_false,decide_eq_true h3,cond_true,decide_eq_false hlt];rfl
     rw [e]
     repeat' (first|refine bp ?_|refine bo ?_|(refine ag (hc:=hri) (hX:=fun w h=>h.1.2) ?_)|refine gs ?_|refine gs1 fun _=>?_|(refine gp ?_ ?_<;>intro hx_ this)|fail)
     rename_i b3
     (refine ao ⟨[0,1,2,3,4,5,6,7,8,9],[(10,⟨[11,12],[]⟩)]⟩ [cel b3 45 i.cells] (fun w=>(Ints w s L∧i.at_ w)∧Xf w) (h:=?_))
     all_goals repeat' (first|refine ax (hsub:=by exact aF) (hy:=by first|(apply bj false;rfl;rfl;exact decide_eq_false aa)) ?_|refine gdz ?_|refine ay ?_ (h':=?_)|exact az|refine gs1 fun _=>?_|(refine gq ?_ ?_<;>intro hx_ this)|fail)
     all_goals
      repeat' (first|refine gs ?_|refine gs1 fun _=>?_|(refine gp ?_ ?_<;>intro hx_ this)|fail)
      exact ab (ai rfl rfl) rfl
 have e:signedIt L i=true:=by rw [signedIt,hrB,decide_eq_false h2,decide_eq_false h3];rfl
 rw [e]
 repeat' (first|refine bo ?_|(refine ag (hc:=hri) (hX:=fun w h=>h.1.2) ?_)|refine gs ?_|refine gs1 fun _=>?_|(refine gp ?_ ?_<;>intro hx_ this)|fail)
 all_goals exact ab (ai rfl rfl) rfl
end Go.Proofs.YtggionfjlgfihaaGreatDoor


namespace Go.Proofs.YtggionfjlgfihaaGreatDoor
open Go Go.Proofs Sy
section
variable {P:Program} {N:Nat} {av bor:List Nat} {w0:World} {st:St} {ty:TypeId} {x y:Operand} {t t2:TypeId}
end
end Go.Proofs.YtggionfjlgfihaaGreatDoor
namespace Go.Proofs.YtggionfjlgfihaaGreatDoor
open Go Go.Proofs Sy
def Xr.re (d:Xr) (s:Xj):Xr:={ d with to:=s }
def Xr.can (d:Xr):Xr:=d.re ⟨none,d.toL.length,0⟩
def Xr.Fit (d:Xr):Prop:=d.to.n=d.toL.length
def Xb.can (i:Xb):Xb:={ i with act:=i.act.can,dec:=i.dec.can }
theorem uZ {d:Xr} (h:d.Fit):decR d.can=decR d:=by
 simp only [decR,termsB,plainD,Xr.can,Xr.re,←show d.to.n=d.toL.length from h]
 rfl
theorem mV {d:Xr} (h:d.Fit):decZ d.can=decZ d:=by
 simp only [decZ,Xr.can,Xr.re,←show d.to.n=d.toL.length from h]
theorem m7 (a:Xa):actZ a.can=actZ a:=rfl
theorem kO (k:Int) (a:Xa) (c:Xg) (b:Xi) {d:Xr} (h:d.Fit):sameIZ ⟨k,a.can,c,b,d.can⟩=sameIZ ⟨k,a,c,b,d⟩:=by
 unfold sameIZ
 simp only
 rw [m7,mV h]
theorem wv (k:Int) (a:Xa) (c:Xg) (b:Xi) {d:Xr} (h:d.Fit):sameIZ ⟨k,a,c,b,d.can⟩=sameIZ ⟨k,a,c,b,d⟩:=by
 unfold sameIZ
 simp only
 rw [mV h]
theorem ww (k:Int) (a:Xa) (c:Xg) (b:Xi) (d:Xr):sameIZ ⟨k,a.can,c,b,d⟩=sameIZ ⟨k,a,c,b,d⟩:=by
 unfold sameIZ
 simp only
 rw [m7]
theorem ui {i:Xb} (h:i.dec.Fit):sameIZ (restI i.can)=sameIZ (restI i):=by
 have e:restI i.can=bif decide (i.kind=0) then ⟨0,Xa.zero,i.claim,i.ballot,i.dec.can⟩ else bif decide (i.kind=1) then ⟨0,i.act.can,Xg.zero,i.ballot,i.dec.can⟩ else bif decide (i.kind=2) then ⟨0,i.act.can,i.claim,Xi.zero,i.dec.can⟩ else bif decide (i.kind=3) then ⟨0,i.act.can,i.claim,i.ballot,Xr.zero⟩ else ⟨0,i.act.can,i.claim,i.ballot,i.dec.can⟩:=rfl
 rw [e,restI]
 cases decide (i.kind=0) with
 | true=>exact wv _ _ _ _ h
 | false =>
  rw [cond_false,cond_false]
  cases decide (i.kind=1) with
  | true=>exact kO _ _ _ _ h
  | false =>
   rw [cond_false,cond_false]
   cases decide (i.kind=2) with
   | true=>exact kO _ _ _ _ h
   | false =>
    rw [cond_false,cond_false]
    cases decide (i.kind=3) with
    | true=>exact ww _ _ _ _ _
    | false=>exact kO _ _ _ _ h
theorem gl {i:Xb} (h:i.dec.Fit):rightIt i.can=rightIt i:=by
 have e1:rightB i.act.can=rightB i.act:=ew rfl rfl
 have e2:=uZ h
 have e:rightK2 i.can=bif decide (i.kind=0) then rightB i.act.can else bif decide (i.kind=1) then claimR i.claim else bif decide (i.kind=2) then ballotR i.ballot else bif decide (i.kind=3) then decR i.dec.can else false:=rfl
 rw [rightIt,rightIt,ui h,e,e1,e2,rightK2]
theorem lT (s:Xj) (hs:s.n=0) (fv:Value):Pu Tryz.prog 64 #[s.v,fv] (fun _=>True) (.string (numV 0)):=by
 refine ar Tryz.func64 Tryz.ntmps64 fun av bor w0=>?_
 have hn10:=aw s.n
 have e0:numV 0=numV s.n:=by rw [hs];rfl
 rw [e0]
 repeat' (first|refine ag (hc:=dU _ aa) ?_|refine gs ?_|(refine qF fun A c=>?_)|(refine gp ?_ ?_<;>intro hx_ this)|fail)
 refine am (ι:=Option Addr×Nat) (fun i=>⟨[(5,.slice i.1 (numV s.n).size i.2),(13,.int .i64 s.n),(14,.int .i64 0)],[orow 5 1 (.slice i.1 (numV s.n).size i.2) (numV s.n).size (u8s (bytesI (numV s.n)))],fun w=>True⟩) (fun i=>0) (A,c) (ae al (aj _) fun _ h=>trivial) fun i=>?_
 obtain ⟨A,c⟩:=i
 simp only
 repeat' (first|refine aO ?_ (bj false rfl rfl (decide_eq_false aa))|refine gs ?_|(refine dR (hm:=ap) ?_)|(refine gp ?_ ?_<;>intro hx_ this)|fail)
 all_goals first
  | (apply ab;apply ai;rfl;rfl;rw [bM];done)
theorem xe (s:Xj):Pu Tryz.prog 26 #[s.v] (fun w=>Ints w s []) (.string (numV 0)):=by
 refine ar Tryz.func26 Tryz.ntmps26 fun av bor w0=>?_
 refine aH (p:=s.n=0) (fun w h=>h.len_) fun hs=>?_
 have h0:=fun fv=>lT s hs fv
 repeat' (first|(refine ag (hc:=h0 _) ?_)|refine gs ?_|(refine gp ?_ ?_<;>intro hx_ this)|fail)
 all_goals first
  | exact ab (ai rfl rfl) rfl
theorem uX (a:Xb):(digIt a).size≤64:=by
 rw [digIt]
 cases seqB (bytesIt a) ⟨#[]⟩ with
 | true=>exact Nat.zero_le _
 | false=>rw [cond_false,gO];decide
theorem rj (I:List Xb) (h:I.length≤1000):(listV (I.map digIt)).size≤1000000:=by
 have h1:=aw (I.map digIt).length
 have h2:=jx (m:=74) (l:=(I.map digIt).map textV) fun x hx=>by
  obtain ⟨d,hd,rfl⟩:=List.mem_map.1 hx
  obtain ⟨i,_,rfl⟩:=List.mem_map.1 hd
  have:=uX i
  have:=aw (digIt i).size
  rw [textV,ByteArray.size_append]
  omega
 rw [List.length_map,List.length_map] at h2
 rw [listV,ByteArray.size_append]
 omega
def digK (I:List Xb):ByteArray:=shaV (numV 0++listV (I.map digIt))
structure DgsI (I:List Xb) where
 k:Nat
 hk:k≤I.length
 A:Option Addr
 c:Nat
 n:Nat
 hn:n=k
 xs:List Value
 hxs:xs=((I.take k).map digIt).map encB
theorem gy (ks ki:Xj) (I:List Xb) (hr:∀ i∈I,i.act.Rng) (hd:∀ i∈I,i.dec.to.n=i.dec.toL.length) (hI:I.length≤1000) :
  Pu Tryz.prog 7 #[.agg #[ks.v,ki.v]] (fun w=>(Ints w ks []∧Items w ki I)∧Xf w) (.string (digK I)):=by
 refine ar Tryz.func7 Tryz.ntmps7 fun av bor w0=>?_
 have hD:=fun x (hx:x∈I)=>cb x (hr x hx) (hd x hx)
 refine aH (p:=ki.n=I.length∧ki.n≤maxLen∧(0<I.length→ki.p.isSome=true)) (fun w h=>⟨h.1.2.len_,h.1.2.max_,h.1.2.some_⟩) fun ⟨hkn,hkm,hkp⟩=>?_
 simp only [maxLen] at hkm
 clear hr hd
 repeat' (first|refine gs ?_|refine gs1 fun _=>?_|(refine eU (c:=ki.n) (hm:=Nat.ble_eq_true_of_le aa) (hm2:=Nat.ble_eq_true_of_le aa) fun bv=>?_)|(refine gp ?_ ?_<;>intro hx_ this)|fail)
 rename_i b1
 refine am (ι:=DgsI I) (fun i=>⟨[(1,.pointer (some ⟨b1,0,none⟩)),(3,.slice i.A i.n i.c),(11,ki.v),(12,.int .i64 (ki.n:Nat)),(13,.int .i64 (i.k:Nat))],[orow 9 1 (.slice i.A i.n i.c) i.n i.xs,cel b1 26 [ks.v,ki.v]],fun w=>(Ints w ks []∧Items w ki I)∧Xf w⟩) (fun i=>I.length-i.k) ⟨0,Nat.zero_le _,some ⟨bv,0,none⟩,ki.n,0,rfl,[],rfl⟩ (ae al (aj _) fun _ h=>h) fun i=>?_
 obtain ⟨k,hk,A,cp,n,hn,xs,hxs⟩:=i
 simp only
 by_cases hlt:k<I.length
 · have hkp':=hkp aa
   obtain ⟨x,hx⟩:∃ x,I[k]?=some x:=⟨_,List.getElem?_eq_getElem hlt⟩
   have hxm:=List.mem_of_getElem? hx
   have hDx:=hD x hxm
   have hsucc:(I.take (k+1)).map digIt=(I.take k).map digIt++[digIt x]:=by rw [List.take_add_one,hx,List.map_append];rfl
   generalize digIt x=dx at *
   repeat' (first|refine aO ?_ (bj true rfl rfl (decide_eq_true aa))|(refine ag (hc:=hDx) (hX:=fun w h=>⟨h.1.2.2 x hxm,h.2⟩) ?_)|(refine aC (size:=1) (z:=.string ⟨#[]⟩) (news:=[encB dx]) (q:=1) rfl rfl rfl rfl (fun _=>At.there _ (At.there _ (At.here _))) (fun w G=>aU G ap rfl rfl 1) aa (by simp only [maxLen];omega) rfl ?_ rfl ?_;(first|with_reducible rfl|with_reducible assumption|with_reducible exact Bool.not_false|with_reducible exact Bool.not_true);intro A2 c2)|refine gs ?_|refine gs1 fun _=>?_|(refine aE (q:=k*49) ?_)|(refine aS (cs:=x.cells) (hF:=fun w h=>h.1.2.get hx) ?_)|(refine cr (vs:=[encB dx]) fun _=>?_)|(refine gp ?_ ?_<;>intro hx_ this)|fail)
   all_goals first
    | exact ⟨(⟨k+1,hlt,A2,c2,n+1,by omega,xs++[encB dx],by rw [hsucc,List.map_append,←hxs];rfl⟩:DgsI I),(by show I.length-(k+1)<I.length-k;omega),ae al (by repeat (first|exact aj _|exact .cons_cons _ (.cons _ (.cons _ (aj _)))|apply List.Sublist.cons)) fun _ h=>h⟩
 · have hkE:k=I.length:=by omega
   rw [hkE,List.take_length] at hxs
   subst hxs hn
   have hsz:=rj I hI
   have hli:=nV ⟨A,n,cp⟩ (I.map digIt) aa
   have hn10:=aw 0
   have hsh:=kL (numV 0++listV (I.map digIt)) (by rw [ByteArray.size_append];omega)
   have hnu:=xe ks
   repeat' (first|refine aO ?_ (bj false rfl rfl (decide_eq_false aa))|(refine ag (hc:=hnu) (hX:=fun w h=>h.1.1) ?_;refine aW ?_)|(refine ag (hc:=hli) (hX:=fun w h=>eA h.2 (by rw [List.length_map];exact hkE)) ?_)|(refine ag (hc:=hsh) (hX:=fun w h=>h.1.2) ?_)|refine gs ?_|refine gs1 fun _=>?_|(refine qE ?_)|(refine gp ?_ ?_<;>intro hx_ this)|fail)
   all_goals first
    | exact ab (ai rfl rfl) rfl
end Go.Proofs.YtggionfjlgfihaaGreatDoor
