/- Joined by program out of: Oe Of Og Oh Oi Yf Po. -/
import Derived.Test.YtcdilibijnboeaaGreatDoorQ12
import Derived.Test.YtcdilibijnboeaaGreatDoorCards
import Derived.Test.YtcdilibijnboeaaGreatDoorTie
import Derived.WalkKit
import Derived.ProofKit
import Derived.Deep.DeepHandedRow
import Derived.Lib.LaidTab
set_option linter.unusedVariables false
set_option linter.unusedSimpArgs false
namespace Go.Proofs.YtcdilibijnboeaaGreatDoor
open Go Go.Proofs Sy
theorem jI (x:BallotD) (hl:x.Lt) (hs:x.Sm):Pu Tryz.prog 106 #[x.v] (fun _=>True) (.string (msgB x)):=by
 refine ax (args:=[_]) _ Tryz.func106 rfl Tryz.ntmps106 rfl fun av bor w0=>?_
 have c1:=bR nameB (by decide)
 have c2:=io x hl hs
 have h1:=eI hs
 have h2:=aW nameB
 have h3:nameB.size≤20:=by decide
 have e:msgB x=textV nameB++coreBa x:=by rw [msgB,db,dv,ByteArray.append_empty]
 rw [e]
 repeat' (first|apply ab|apply cw_seq|apply cw_reg|refine ac ?_|refine aL fun _=>?_|fail)
 (apply bF;kernel_rfl)
 all_goals refine aa 1 ?_
 all_goals (refine ae 0 ?_;(refine am (hc:=c1) (hX:=fun _ _=>trivial) ?_);apply ab;refine ag ?_)
 all_goals (refine ae 2 ?_;(refine am (hc:=c2) (hX:=fun _ _=>trivial) ?_);apply ab;refine ag ?_)
 all_goals (refine aa 3 (hy:=by (apply bA;rfl;rfl;(try simp only [ByteArray.size_append]);omega)) ?_)
 all_goals refine aa 4 ?_
 all_goals (refine ar ?_)
 all_goals
  repeat' (first|apply aq|fail)
  exact ak (ap rfl rfl) rfl
theorem ik (x:DecD) (hl:x.Lt) (hs:x.Sm):Pu Tryz.prog 107 #[x.v] (fun w=>x.at_ w) (.string (msgD x)):=by
 refine ax (args:=[_]) _ Tryz.func107 rfl Tryz.ntmps107 rfl fun av bor w0=>?_
 have c1:=bR nameD (by decide)
 have c2:=im x hl hs
 have h1:=eH hs
 have h2:=aW nameD
 have h3:nameD.size≤20:=by decide
 have e:msgD x=textV nameD++coreDe x:=by rw [msgD,db,dv,ByteArray.append_empty]
 rw [e]
 repeat' (first|apply ab|apply cw_seq|apply cw_reg|refine ac ?_|refine aL fun _=>?_|fail)
 (apply bF;kernel_rfl)
 all_goals refine aa 1 ?_
 all_goals (refine ae 0 ?_;(refine am (hc:=c1) (hX:=fun _ _=>trivial) ?_);apply ab;refine ag ?_)
 all_goals (refine ae 2 ?_;(refine am (hc:=c2) (hX:=fun w h=>h) ?_);apply ab;refine ag ?_)
 all_goals (refine aa 3 (hy:=by (apply bA;rfl;rfl;(try simp only [ByteArray.size_append]);omega)) ?_)
 all_goals refine aa 4 ?_
 all_goals (refine ar ?_)
 all_goals
  repeat' (first|apply aq|fail)
  exact ak (ap rfl rfl) rfl
set_option maxRecDepth 20000 in
set_option maxHeartbeats 16000000 in
theorem np (s:SlV) (L:List Int) (i:ItemD) (hs:i.Str) (hdn:i.dec.to.n=i.dec.toL.length):Pu Tryz.prog 64 #[s.v,i.v] (fun w=>Ints w s L∧i.at_ w) (.bool (signedIt L i)):=by
 refine ax (args:=[_,_]) _ Tryz.func64 rfl Tryz.ntmps64 rfl fun av bor w0=>?_
 refine bI (p:=s.n=L.length∧s.n≤maxLen∧(0<L.length→s.p.isSome=true)) (fun w h=>⟨h.1.len_,Nat.le_trans (RowsD.cap h.1) (RowsD.max h.1),h.1.some_⟩) fun ⟨hsn,hsm,hsp⟩=>?_
 simp only [maxLen] at hsm
 have hri:=ij i hs
 cases hrB:rightIt i with
 | false =>
  rw [hrB] at hri
  rw [show signedIt L i=false from by rw [signedIt,hrB];rfl]
  repeat' (first|apply ab|apply cw_seq|apply cw_reg|refine ai ?_|refine ac ?_|refine aG ?_|refine bM ?_|refine aL fun _=>?_|refine cw_cond_t ?_|apply aq|(refine am (hc:=hri) (hX:=fun w h=>h.2) ?_)|fail)
  exact ak (ap rfl rfl) rfl
 | true =>
 rw [hrB] at hri
 have hk:=dU hrB
 by_cases h2:i.kind=2
 · rcases hk with h|h|h|h
   all_goals first|(exfalso;omega)|skip
   have h1:=h.2
   clear h
   obtain ⟨hl,hz⟩:=fY h1
   have hlo:0≤i.ballot.server:=(cG (by have:=h1;simp only [ballotR,Bool.and_eq_true] at this;exact this.1)).1
   have hms:=la (nm:=nameB) (by decide) (Nat.le_trans (eI hz) (by decide))
   have hsg:=fun p:Int=>Rf4.refVerify_pu p (msgB i.ballot) i.ballot.e i.ballot.s (Nat.le_trans hms (by decide))
   have hcm:=jI i.ballot hl hz
   by_cases hlt:i.ballot.server<(L.length:Nat)
   · have hsp':=hsp ad
     have e:signedIt L i=sgnB (L.getD i.ballot.server.toNat 0) i.ballot:=by rw [signedIt,hrB,decide_eq_true h2,cond_true,decide_eq_true hlt,Bool.true_and,Bool.true_and]
     rw [e]
     have hget:∀ w,Ints w s L∧i.at_ w→CellAt w s.p i.ballot.server.toNat (.int .i64 (L.getD i.ballot.server.toNat 0)):=fun w h=>Ints.get h.1 ad
     have hsg1:Pu Tryz.prog 105 _ _ (.bool (sgnB (L.getD i.ballot.server.toNat 0) i.ballot)):=hsg (L.getD i.ballot.server.toNat 0)
     generalize L.getD i.ballot.server.toNat 0=pk at *
     repeat' (first|refine bp (hab:=by omega) ?_|apply ab|apply cw_seq|apply cw_reg|refine ai ?_|refine ac ?_|refine az ?_|refine ay ?_|refine aG ?_|refine bM ?_|refine aL fun _=>?_|refine cw_cond_t ?_|refine cw_cond_f ?_|apply cw_skip|apply cw_block|(refine am (hc:=hri) (hX:=fun w h=>h.2) ?_)|fail)
     rename_i b3
     (refine aT [cel b3 57 i.cells] (fun w=>Ints w s L∧i.at_ w) aj ?_)
     all_goals refine aa 0 ?_
     all_goals refine aa 1 ?_
     all_goals refine aa 2 ?_
     all_goals refine aa 3 ?_
     all_goals refine aa 4 ?_
     all_goals (refine aa 5 (hy:=by (apply ca true;rfl;rfl;exact decide_eq_true ad)) ?_)
     all_goals refine aa 6 ?_
     all_goals refine aa 7 ?_
     all_goals refine aa 8 ?_
     all_goals refine aa 9 ?_
     all_goals refine aa 10 ?_
     all_goals (refine aa 11 (hy:=by (apply aM (q:=i.ballot.server.toNat);rfl;rfl;omega;omega;assumption;omega)) ?_)
     all_goals (refine aa 12 (hy:=by (apply ez (q:=i.ballot.server.toNat) (u:=.int .i64 pk);rfl;exact hget)) ?_)
     all_goals refine aa 13 ?_
     all_goals (refine aa 14 (hy:=by (apply cC (vs:=i.ballot.cells);rfl;exact .head _;rfl;rfl)) ?_)
     all_goals refine aa 16 ?_
     all_goals refine aa 17 ?_
     all_goals (refine aa 18 (hy:=by (apply cC (vs:=SgD.cells ⟨i.ballot.e,i.ballot.s⟩);rfl;exact .head _;rfl;rfl)) ?_)
     all_goals (refine ae 15 ?_;(refine am (hc:=hcm) (hX:=fun _ _=>trivial) ?_);apply ab;refine ag ?_)
     all_goals (refine ae 19 ?_;(refine am (hc:=hsg1) (hX:=fun _ _=>trivial) ?_);apply ab;refine ag ?_)
     all_goals refine aa 20 ?_
     all_goals refine aa 21 ?_
     all_goals (refine ar ?_)
     all_goals
      repeat' (first|apply aq|fail)
      exact ak (ap rfl rfl) rfl
   · have e:signedIt L i=false:=by rw [signedIt,hrB,decide_eq_true h2,cond_true,decide_eq_false hlt];rfl
     rw [e]
     repeat' (first|refine bp (hab:=by omega) ?_|apply ab|apply cw_seq|apply cw_reg|refine ai ?_|refine ac ?_|refine az ?_|refine ay ?_|refine aG ?_|refine bM ?_|refine aL fun _=>?_|refine cw_cond_t ?_|refine cw_cond_f ?_|apply cw_skip|apply cw_block|(refine am (hc:=hri) (hX:=fun w h=>h.2) ?_)|fail)
     rename_i b3
     (refine aT [cel b3 57 i.cells] (fun w=>Ints w s L∧i.at_ w) aj ?_)
     all_goals refine aa 0 ?_
     all_goals refine aa 1 ?_
     all_goals refine aa 2 ?_
     all_goals refine aa 3 ?_
     all_goals refine aa 4 ?_
     all_goals (refine aa 5 (hy:=by (apply ca false;rfl;rfl;exact decide_eq_false ad)) ?_)
     all_goals refine aa 6 ?_
     all_goals refine aJ 7 ?_
     all_goals refine aJ 8 ?_
     all_goals refine aJ 9 ?_
     all_goals refine aJ 10 ?_
     all_goals refine aJ 11 ?_
     all_goals refine aJ 12 ?_
     all_goals refine aJ 13 ?_
     all_goals refine aJ 14 ?_
     all_goals refine aJ 16 ?_
     all_goals refine aJ 17 ?_
     all_goals refine aJ 18 ?_
     all_goals (refine ae 15 ?_;(refine aH ?_);apply ab;refine ag ?_)
     all_goals (refine ae 19 ?_;(refine aH ?_);apply ab;refine ag ?_)
     all_goals refine aa 20 ?_
     all_goals refine aa 21 ?_
     all_goals (refine ar ?_)
     all_goals
      repeat' (first|apply aq|fail)
      exact ak (ap rfl rfl) rfl
 by_cases h3:i.kind=3
 · rcases hk with h|h|h|h
   all_goals first|(exfalso;omega)|skip
   have h1:=h.2
   clear h
   obtain ⟨hl,hz⟩:=jQ hdn h1
   have hlo:0≤i.dec.server:=(cG (by have:=h1;simp only [decR,Bool.and_eq_true] at this;exact this.1)).1
   have hms:=la (nm:=nameD) (by decide) (Nat.le_trans (eH hz) (by decide))
   have hsg:=fun p:Int=>Rf4.refVerify_pu p (msgD i.dec) i.dec.e i.dec.s (Nat.le_trans hms (by decide))
   have hcm:=ik i.dec hl hz
   by_cases hlt:i.dec.server<(L.length:Nat)
   · have hsp':=hsp ad
     have e:signedIt L i=sgnD (L.getD i.dec.server.toNat 0) i.dec:=by rw [signedIt,hrB,decide_eq_false h2,cond_false,decide_eq_true h3,cond_true,decide_eq_true hlt,Bool.true_and,Bool.true_and]
     rw [e]
     have hget:∀ w,Ints w s L∧i.at_ w→CellAt w s.p i.dec.server.toNat (.int .i64 (L.getD i.dec.server.toNat 0)):=fun w h=>Ints.get h.1 ad
     have hsg1:Pu Tryz.prog 105 _ _ (.bool (sgnD (L.getD i.dec.server.toNat 0) i.dec)):=hsg (L.getD i.dec.server.toNat 0)
     generalize L.getD i.dec.server.toNat 0=pk at *
     repeat' (first|refine bp (hab:=by omega) ?_|refine bt (hab:=by omega) ?_|apply ab|apply cw_seq|apply cw_reg|refine ai ?_|refine ac ?_|refine az ?_|refine ay ?_|refine aG ?_|refine bM ?_|refine aL fun _=>?_|refine cw_cond_t ?_|refine cw_cond_f ?_|apply cw_skip|apply cw_block|(refine am (hc:=hri) (hX:=fun w h=>h.2) ?_)|fail)
     rename_i b3
     (refine aT [cel b3 57 i.cells] (fun w=>Ints w s L∧i.at_ w) aj ?_)
     all_goals refine aa 0 ?_
     all_goals refine aa 1 ?_
     all_goals refine aa 2 ?_
     all_goals refine aa 3 ?_
     all_goals refine aa 4 ?_
     all_goals (refine aa 5 (hy:=by (apply ca true;rfl;rfl;exact decide_eq_true ad)) ?_)
     all_goals refine aa 6 ?_
     all_goals refine aa 7 ?_
     all_goals refine aa 8 ?_
     all_goals refine aa 9 ?_
     all_goals refine aa 10 ?_
     all_goals (refine aa 11 (hy:=by (apply aM (q:=i.dec.server.toNat);rfl;rfl;omega;omega;assumption;omega)) ?_)
     all_goals (refine aa 12 (hy:=by (apply ez (q:=i.dec.server.toNat) (u:=.int .i64 pk);rfl;exact hget)) ?_)
     all_goals refine aa 13 ?_
     all_goals (refine aa 14 (hy:=by (apply cC (vs:=i.dec.cells);rfl;exact .head _;rfl;rfl)) ?_)
     all_goals refine aa 16 ?_
     all_goals refine aa 17 ?_
     all_goals (refine aa 18 (hy:=by (apply cC (vs:=SgD.cells ⟨i.dec.e,i.dec.s⟩);rfl;exact .head _;rfl;rfl)) ?_)
     all_goals (refine ae 15 ?_;(refine am (hc:=hcm) (hX:=fun w h=>h.2.2) ?_);apply ab;refine ag ?_)
     all_goals (refine ae 19 ?_;(refine am (hc:=hsg1) (hX:=fun _ _=>trivial) ?_);apply ab;refine ag ?_)
     all_goals refine aa 20 ?_
     all_goals refine aa 21 ?_
     all_goals (refine ar ?_)
     all_goals
      repeat' (first|apply aq|fail)
      exact ak (ap rfl rfl) rfl
   · have e:signedIt L i=false:=by rw [signedIt,hrB,decide_eq_false h2,cond_false,decide_eq_true h3,cond_true,decide_eq_false hlt];rfl
     rw [e]
     repeat' (first|refine bp (hab:=by omega) ?_|refine bt (hab:=by omega) ?_|apply ab|apply cw_seq|apply cw_reg|refine ai ?_|refine ac ?_|refine az ?_|refine ay ?_|refine aG ?_|refine bM ?_|refine aL fun _=>?_|refine cw_cond_t ?_|refine cw_cond_f ?_|apply cw_skip|apply cw_block|(refine am (hc:=hri) (hX:=fun w h=>h.2) ?_)|fail)
     rename_i b3
     (refine aT [cel b3 57 i.cells] (fun w=>Ints w s L∧i.at_ w) aj ?_)
     all_goals refine aa 0 ?_
     all_goals refine aa 1 ?_
     all_goals refine aa 2 ?_
     all_goals refine aa 3 ?_
     all_goals refine aa 4 ?_
     all_goals (refine aa 5 (hy:=by (apply ca false;rfl;rfl;exact decide_eq_false ad)) ?_)
     all_goals refine aa 6 ?_
     all_goals refine aJ 7 ?_
     all_goals refine aJ 8 ?_
     all_goals refine aJ 9 ?_
     all_goals refine aJ 10 ?_
     all_goals refine aJ 11 ?_
     all_goals refine aJ 12 ?_
     all_goals refine aJ 13 ?_
     all_goals refine aJ 14 ?_
     all_goals refine aJ 16 ?_
     all_goals refine aJ 17 ?_
     all_goals refine aJ 18 ?_
     all_goals (refine ae 15 ?_;(refine aH ?_);apply ab;refine ag ?_)
     all_goals (refine ae 19 ?_;(refine aH ?_);apply ab;refine ag ?_)
     all_goals refine aa 20 ?_
     all_goals refine aa 21 ?_
     all_goals (refine ar ?_)
     all_goals
      repeat' (first|apply aq|fail)
      exact ak (ap rfl rfl) rfl
 have e:signedIt L i=true:=by rw [signedIt,hrB,decide_eq_false h2,decide_eq_false h3];rfl
 rw [e]
 repeat' (first|refine bt (hab:=by omega) ?_|apply ab|apply cw_seq|apply cw_reg|refine ai ?_|refine ac ?_|refine az ?_|refine ay ?_|refine aG ?_|refine bM ?_|refine aL fun _=>?_|refine cw_cond_f ?_|apply cw_skip|apply cw_block|apply aq|(refine am (hc:=hri) (hX:=fun w h=>h.2) ?_)|fail)
 exact ak (ap rfl rfl) rfl
def badSv (L:List Int) (k:Nat):Bool:=decide (L.getD k 0<1)||decide (2305843009213693950<L.getD k 0)
def badKn (L:List Int) (I:List ItemD) (k:Nat):Bool:=!signedIt L (I.getD k ItemD.zero)||(decide (0<k)&&!ltB (digIt (I.getD (k-1) ItemD.zero)) (digIt (I.getD k ItemD.zero)))
def rightKn (L:List Int) (I:List ItemD):Bool:=decide (L.length≤20)&&(allB L.length (badSv L)&&allB I.length (badKn L I))
section
variable {P:Program} {N:Nat} {av bor:List Nat} {w0:World} {st:St} {ty:TypeId} {x y:Operand} {t t2:TypeId}
theorem ya {a b:ByteArray} (hx:ev st.env x=some (.string a)) (hy:ev st.env y=some (.string b)) (hab:ltB a b=false):Sy.Yields P N av bor w0 st (.binOp .geq t x y t2) ty (.bool true):=by
 have h:=p9 (P:=P) (N:=N) (av:=av) (bor:=bor) (w0:=w0) (t:=t) (t2:=t2) (ty:=ty) hx hy
 rw [show Op.bytesLess a.toList b.toList=false from hab] at h
 exact h
end
set_option maxRecDepth 20000 in
set_option maxHeartbeats 16000000 in
theorem nr (ks ki:SlV) (L:List Int) (I:List ItemD) (hs:∀ i∈I,i.Str) (hdn:∀ i∈I,i.dec.to.n=i.dec.toL.length) :
  Pu Tryz.prog 31 #[.agg #[ks.v,ki.v]] (fun w=>Ints w ks L∧Items w ki I) (.bool (rightKn L I)):=by
 refine ax (args:=[_]) _ Tryz.func31 rfl Tryz.ntmps31 rfl fun av bor w0=>?_
 refine bI (p:=(ks.n=L.length∧ks.n≤maxLen∧(0<L.length→ks.p.isSome=true))∧(ki.n=I.length∧ki.n≤maxLen∧(0<I.length→ki.p.isSome=true))) (fun w h=>⟨⟨h.1.len_,Nat.le_trans (RowsD.cap h.1) (RowsD.max h.1),h.1.some_⟩,h.2.len_,h.2.max_,h.2.some_⟩) fun ⟨⟨hn,hm,hp⟩,hin,him,hip⟩=>?_
 simp only [maxLen] at hm him
 repeat' (first|apply ab|apply cw_seq|apply cw_reg|refine ac ?_|refine az ?_|refine ay ?_|refine cI ?_|refine aZ ?_|refine aL fun _=>?_|apply cw_skip|apply cw_block|apply aq|(refine aC (ht:=?_) (hf:=?_);all_goals (intro hx_;first|have:=aO hx_|have:=aR hx_)))
 · refine ak (ap rfl rfl) ?_
   rw [rightKn,decide_eq_false (by omega)]
   rfl
 rename_i b
 have h20:L.length≤20:=by omega
 rw [rightKn,decide_eq_true h20,Bool.true_and]
 refine aS (ι:=Upto L.length (badSv L)) (fun i=>⟨[(1,.pointer (some ⟨b,0,none⟩)),(3,.int .i64 (i.k:Nat))],[cel b 25 [ks.v,ki.v]],fun w=>Ints w ks L∧Items w ki I⟩) (fun i=>L.length-i.k) (Upto.zero _ _) (aw ⟨rfl,rfl,trivial⟩ (aD _) fun _ h=>h) fun i=>?_
 have hik:=i.hk
 by_cases hlt:i.k<L.length
 · have hks:=hp ad
   repeat' (first|apply ab|apply cw_seq|apply cw_reg|refine ai ?_|refine ac ?_|refine az ?_|refine ay ?_|refine aB ?_|refine aE ?_|refine bc ?_|refine cI ?_|refine aZ ?_|refine be (h:=?_)|refine bY ?_|refine cw_cond_t ?_|apply cw_skip|apply cw_block|apply aq|apply aP|(refine bE (q:=i.k) ?_)|(refine eu (q:=i.k) (u:=.int .i64 (L.getD i.k 0)) (hF:=fun w h=>Ints.get h.1 hlt) ?_)|((fail_if_success (refine aX ?_));refine aQ (ht:=?_) (hf:=?_);all_goals (intro hx_;first|have:=aO hx_|have:=aR hx_))|(refine aC (ht:=?_) (hf:=?_);all_goals (intro hx_;first|have:=aO hx_|have:=aR hx_)))
   all_goals first
    | (exfalso;omega)
    | (refine ak (ap rfl rfl) ?_;rw [dq (k:=i.k) hlt (by simp only [badSv, *,decide_true,decide_false,cond_true,cond_false,Bool.and_true,Bool.true_and,Bool.and_false,Bool.false_and,Bool.not_true,Bool.not_false,Bool.or_true,Bool.true_or,Bool.or_false,Bool.false_or]),Bool.false_and];done)
    | exact ⟨i.next hlt (by simp only [badSv, *,decide_true,decide_false,cond_true,cond_false,Bool.and_true,Bool.true_and,Bool.and_false,Bool.false_and,Bool.not_true,Bool.not_false,Bool.or_true,Bool.true_or,Bool.or_false,Bool.false_or]),(by show L.length-(i.k+1)<L.length-i.k;omega),aw ⟨rfl,rfl,trivial⟩ (aD _) fun _ h=>h⟩
 · rw [i.all hlt,Bool.true_and]
   repeat' (first|refine SrG.sy_lssF_g (hab:=by omega) (h:=?_)|apply ab|apply cw_seq|apply cw_reg|refine ai ?_|refine ac ?_|refine az ?_|refine ay ?_|refine aZ ?_|refine cw_cond_f ?_|apply cw_block|apply aP|fail)
   refine aS (ι:=Upto I.length (badKn L I)) (fun j=>⟨[(1,.pointer (some ⟨b,0,none⟩)),(4,.int .i64 (j.k:Nat))],[cel b 25 [ks.v,ki.v]],fun w=>Ints w ks L∧Items w ki I⟩) (fun j=>I.length-j.k) (Upto.zero _ _) (aw ⟨rfl,rfl,trivial⟩ (aD _) fun _ h=>h) fun j=>?_
   have hjk:=j.hk
   by_cases hlj:j.k<I.length
   · have hki:=hip ad
     obtain ⟨x,hx⟩:∃ x,I[j.k]?=some x:=⟨_,List.getElem?_eq_getElem hlj⟩
     have hxm:=List.mem_of_getElem? hx
     have hxD:I.getD j.k ItemD.zero=x:=by rw [List.getD_eq_getElem?_getD,hx];rfl
     have hsg:=np ks L x (hs x hxm) (hdn x hxm)
     have hdx:=gF x (hs x hxm) (hdn x hxm)
     cases hsB:signedIt L x with
     | false =>
      rw [hsB] at hsg
      have hbad:badKn L I j.k=true:=by rw [badKn,hxD,hsB];rfl
      repeat' (first|refine SrG.sy_lssT_g (hab:=by omega) (h:=?_)|apply ab|apply cw_seq|apply cw_reg|refine ai ?_|refine az ?_|refine ay ?_|refine aZ ?_|refine cw_cond_t ?_|apply cw_skip|apply cw_block|fail)
      (refine aT [cel b 25 [ks.v,ki.v]] (fun w=>Ints w ks L∧Items w ki I) aj ?_)
      all_goals refine aa 0 ?_
      all_goals refine aa 1 ?_
      all_goals refine aa 2 ?_
      all_goals refine aa 3 ?_
      all_goals refine aa 4 ?_
      all_goals (refine aa 5 (hy:=by (apply aM (q:=j.k*49);rfl;rfl;omega;omega;assumption;omega)) ?_)
      all_goals (refine aa 6 (hy:=by (apply du (cs:=x.cells);rfl;exact (fun w h=>Items.get h.2 hx))) ?_)
      all_goals (refine ae 7 ?_;(refine am (hc:=hsg) (hX:=fun w h=>⟨h.1,h.2.2 x hxm⟩) ?_);apply ab;refine ag ?_)
      all_goals refine aa 8 ?_
      all_goals (refine ar ?_)
      all_goals
       repeat' (first|apply ab|apply cw_seq|apply cw_reg|refine ac ?_|refine cw_cond_t ?_|apply aq|fail)
       all_goals (refine ak (ap rfl rfl) ?_;rw [dq hlj hbad])
     | true =>
      rw [hsB] at hsg
      by_cases h0:0<j.k
      · obtain ⟨y,hy⟩:∃ y,I[j.k-1]?=some y:=⟨_,List.getElem?_eq_getElem ad⟩
        have hym:=List.mem_of_getElem? hy
        have hyD:I.getD (j.k-1) ItemD.zero=y:=by rw [List.getD_eq_getElem?_getD,hy];rfl
        have hdy:=gF y (hs y hym) (hdn y hym)
        have hbq:badKn L I j.k=!ltB (digIt y) (digIt x):=by rw [badKn,hxD,hyD,hsB,decide_eq_true h0];rfl
        generalize digIt x=dx at *
        generalize digIt y=dy at *
        cases hlB:ltB dy dx with
        | true =>
         have hok:badKn L I j.k=false:=by rw [hbq,hlB];rfl
         repeat' (first|refine SrG.sy_lssT_g (hab:=by omega) (h:=?_)|apply ab|apply cw_seq|apply cw_reg|refine ai ?_|refine az ?_|refine ay ?_|refine aZ ?_|refine cw_cond_t ?_|apply cw_skip|apply cw_block|fail)
         (refine aT [cel b 25 [ks.v,ki.v]] (fun w=>Ints w ks L∧Items w ki I) aj ?_)
         all_goals refine aa 0 ?_
         all_goals refine aa 1 ?_
         all_goals refine aa 2 ?_
         all_goals refine aa 3 ?_
         all_goals refine aa 4 ?_
         all_goals (refine aa 5 (hy:=by (apply aM (q:=j.k*49);rfl;rfl;omega;omega;assumption;omega)) ?_)
         all_goals (refine aa 6 (hy:=by (apply du (cs:=x.cells);rfl;exact (fun w h=>Items.get h.2 hx))) ?_)
         all_goals (refine ae 7 ?_;(refine am (hc:=hsg) (hX:=fun w h=>⟨h.1,h.2.2 x hxm⟩) ?_);apply ab;refine ag ?_)
         all_goals refine aa 8 ?_
         all_goals (refine ar ?_)
         all_goals
          repeat' (first|apply cw_seq|refine cw_cond_f ?_|apply cw_skip|fail)
          (refine aT [cel b 25 [ks.v,ki.v]] (fun w=>Ints w ks L∧Items w ki I) aj ?_)
          all_goals refine aa 0 ?_
          all_goals (refine aa 1 (hy:=by (apply SrG.y_gtrT_g;rfl;rfl;omega)) ?_)
          all_goals refine aa 2 ?_
          all_goals refine aa 3 ?_
          all_goals refine aa 4 ?_
          all_goals refine aa 5 ?_
          all_goals (refine aa 6 (hy:=by (apply Rf4.y_subM (q:=1);rfl;rfl;omega)) ?_)
          all_goals (refine aa 7 (hy:=by (apply aM (q:=(j.k-1)*49);rfl;rfl;omega;omega;assumption;omega)) ?_)
          all_goals (refine aa 8 (hy:=by (apply du (cs:=y.cells);rfl;exact (fun w h=>Items.get h.2 hy))) ?_)
          all_goals refine aa 10 ?_
          all_goals refine aa 11 ?_
          all_goals refine aa 12 ?_
          all_goals (refine aa 13 (hy:=by (apply aM (q:=j.k*49);rfl;rfl;omega;omega;assumption;omega)) ?_)
          all_goals (refine aa 14 (hy:=by (apply du (cs:=x.cells);rfl;exact (fun w h=>Items.get h.2 hx))) ?_)
          all_goals (refine ae 9 ?_;(refine am (hc:=hdy) (hX:=fun w h=>h.2.2 y hym) ?_);apply ab;refine ag ?_)
          all_goals (refine ae 15 ?_;(refine am (hc:=hdx) (hX:=fun w h=>h.2.2 x hxm) ?_);apply ab;refine ag ?_)
          all_goals (refine aa 16 (hy:=by (apply yb;rfl;rfl;exact hlB)) ?_)
          all_goals refine aa 17 ?_
          all_goals (refine ar ?_)
          all_goals
           repeat' (first|apply ab|apply cw_reg|refine ai ?_|refine ac ?_|refine be (h:=?_)|refine cw_cond_f ?_|apply cw_skip|fail)
           all_goals exact ⟨j.next hlj hok,(by show I.length-(j.k+1)<I.length-j.k;omega),aw ⟨rfl,rfl,trivial⟩ (aD _) fun _ h=>h⟩
        | false =>
         have hbad:badKn L I j.k=true:=by rw [hbq,hlB];rfl
         repeat' (first|refine SrG.sy_lssT_g (hab:=by omega) (h:=?_)|apply ab|apply cw_seq|apply cw_reg|refine ai ?_|refine az ?_|refine ay ?_|refine aZ ?_|refine cw_cond_t ?_|apply cw_skip|apply cw_block|fail)
         (refine aT [cel b 25 [ks.v,ki.v]] (fun w=>Ints w ks L∧Items w ki I) aj ?_)
         all_goals refine aa 0 ?_
         all_goals refine aa 1 ?_
         all_goals refine aa 2 ?_
         all_goals refine aa 3 ?_
         all_goals refine aa 4 ?_
         all_goals (refine aa 5 (hy:=by (apply aM (q:=j.k*49);rfl;rfl;omega;omega;assumption;omega)) ?_)
         all_goals (refine aa 6 (hy:=by (apply du (cs:=x.cells);rfl;exact (fun w h=>Items.get h.2 hx))) ?_)
         all_goals (refine ae 7 ?_;(refine am (hc:=hsg) (hX:=fun w h=>⟨h.1,h.2.2 x hxm⟩) ?_);apply ab;refine ag ?_)
         all_goals refine aa 8 ?_
         all_goals (refine ar ?_)
         all_goals
          repeat' (first|apply cw_seq|refine cw_cond_f ?_|apply cw_skip|fail)
          (refine aT [cel b 25 [ks.v,ki.v]] (fun w=>Ints w ks L∧Items w ki I) aj ?_)
          all_goals refine aa 0 ?_
          all_goals (refine aa 1 (hy:=by (apply SrG.y_gtrT_g;rfl;rfl;omega)) ?_)
          all_goals refine aa 2 ?_
          all_goals refine aa 3 ?_
          all_goals refine aa 4 ?_
          all_goals refine aa 5 ?_
          all_goals (refine aa 6 (hy:=by (apply Rf4.y_subM (q:=1);rfl;rfl;omega)) ?_)
          all_goals (refine aa 7 (hy:=by (apply aM (q:=(j.k-1)*49);rfl;rfl;omega;omega;assumption;omega)) ?_)
          all_goals (refine aa 8 (hy:=by (apply du (cs:=y.cells);rfl;exact (fun w h=>Items.get h.2 hy))) ?_)
          all_goals refine aa 10 ?_
          all_goals refine aa 11 ?_
          all_goals refine aa 12 ?_
          all_goals (refine aa 13 (hy:=by (apply aM (q:=j.k*49);rfl;rfl;omega;omega;assumption;omega)) ?_)
          all_goals (refine aa 14 (hy:=by (apply du (cs:=x.cells);rfl;exact (fun w h=>Items.get h.2 hx))) ?_)
          all_goals (refine ae 9 ?_;(refine am (hc:=hdy) (hX:=fun w h=>h.2.2 y hym) ?_);apply ab;refine ag ?_)
          all_goals (refine ae 15 ?_;(refine am (hc:=hdx) (hX:=fun w h=>h.2.2 x hxm) ?_);apply ab;refine ag ?_)
          all_goals (refine aa 16 (hy:=by (apply ya;rfl;rfl;exact hlB)) ?_)
          all_goals refine aa 17 ?_
          all_goals (refine ar ?_)
          all_goals
           repeat' (first|apply ab|apply cw_seq|apply cw_reg|refine ac ?_|refine cw_cond_t ?_|apply aq|fail)
           all_goals (refine ak (ap rfl rfl) ?_;rw [dq hlj hbad])
      · have hok:badKn L I j.k=false:=by rw [badKn,hxD,hsB,decide_eq_false h0];rfl
        repeat' (first|refine SrG.sy_lssT_g (hab:=by omega) (h:=?_)|apply ab|apply cw_seq|apply cw_reg|refine ai ?_|refine az ?_|refine ay ?_|refine aZ ?_|refine cw_cond_t ?_|apply cw_skip|apply cw_block|fail)
        (refine aT [cel b 25 [ks.v,ki.v]] (fun w=>Ints w ks L∧Items w ki I) aj ?_)
        all_goals refine aa 0 ?_
        all_goals refine aa 1 ?_
        all_goals refine aa 2 ?_
        all_goals refine aa 3 ?_
        all_goals refine aa 4 ?_
        all_goals (refine aa 5 (hy:=by (apply aM (q:=j.k*49);rfl;rfl;omega;omega;assumption;omega)) ?_)
        all_goals (refine aa 6 (hy:=by (apply du (cs:=x.cells);rfl;exact (fun w h=>Items.get h.2 hx))) ?_)
        all_goals (refine ae 7 ?_;(refine am (hc:=hsg) (hX:=fun w h=>⟨h.1,h.2.2 x hxm⟩) ?_);apply ab;refine ag ?_)
        all_goals refine aa 8 ?_
        all_goals (refine ar ?_)
        all_goals
         repeat' (first|apply cw_seq|refine cw_cond_f ?_|apply cw_skip|fail)
         (refine aT [cel b 25 [ks.v,ki.v]] (fun w=>Ints w ks L∧Items w ki I) aj ?_)
         all_goals refine aa 0 ?_
         all_goals (refine aa 1 (hy:=by (apply SrG.y_gtrF_g;rfl;rfl;omega)) ?_)
         all_goals refine aa 2 ?_
         all_goals refine aJ 3 ?_
         all_goals refine aJ 4 ?_
         all_goals refine aJ 5 ?_
         all_goals refine aJ 6 ?_
         all_goals refine aJ 7 ?_
         all_goals refine aJ 8 ?_
         all_goals refine aJ 10 ?_
         all_goals refine aJ 11 ?_
         all_goals refine aJ 12 ?_
         all_goals refine aJ 13 ?_
         all_goals refine aJ 14 ?_
         all_goals (refine ae 9 ?_;(refine aH ?_);apply ab;refine ag ?_)
         all_goals (refine ae 15 ?_;(refine aH ?_);apply ab;refine ag ?_)
         all_goals refine aJ 16 ?_
         all_goals refine aa 17 ?_
         all_goals (refine ar ?_)
         all_goals
          repeat' (first|apply ab|apply cw_reg|refine ai ?_|refine ac ?_|refine be (h:=?_)|refine cw_cond_f ?_|apply cw_skip|fail)
          all_goals exact ⟨j.next hlj hok,(by show I.length-(j.k+1)<I.length-j.k;omega),aw ⟨rfl,rfl,trivial⟩ (aD _) fun _ h=>h⟩
   · rw [j.all hlj]
     repeat' (first|refine SrG.sy_lssF_g (hab:=by omega) (h:=?_)|apply ab|apply cw_seq|apply cw_reg|refine ai ?_|refine ac ?_|refine az ?_|refine ay ?_|refine aZ ?_|refine cw_cond_f ?_|apply aq|apply aP|fail)
     all_goals first
      | exact ak (ap rfl rfl) rfl
theorem rj {l:List ByteArray} (h:∀ k (hk:k+1<l.length),ltB (l[k]'(by omega)) l[k+1]=true):Asc l:=by
 have key:∀ d i (hj:i+d+1<l.length),ltB (l[i]'(by omega)) l[i+d+1]=true:=by
  intro d
  induction d with
  | zero=>exact fun i hj=>h i hj
  | succ d ih =>
   intro i hj
   exact iW (ih i ad) (h (i+d+1) hj)
 refine List.pairwise_iff_getElem.2 fun i j hi hj hij=>?_
 obtain ⟨d,rfl⟩:∃ d,j=i+d+1:=⟨j-i-1,by omega⟩
 exact key d i hj
theorem kT {L:List Int} {I:List ItemD} (h:rightKn L I=true):∀ i∈I,signedIt L i=true:=fun i hi=>by
 rw [rightKn,Bool.and_eq_true,Bool.and_eq_true] at h
 obtain ⟨k,hk⟩:=List.mem_iff_getElem?.1 hi
 obtain ⟨hlt,e⟩:=List.getElem?_eq_some_iff.1 hk
 have h1:=iE h.2.2 hlt
 have e2:I.getD k ItemD.zero=i:=by rw [List.getD_eq_getElem?_getD,hk];rfl
 rw [badKn,e2,Bool.or_eq_false_iff,Bool.not_eq_false'] at h1
 exact h1.1
theorem oP {L:List Int} {I:List ItemD} (h:rightKn L I=true):Asc (I.map digIt):=by
 rw [rightKn,Bool.and_eq_true,Bool.and_eq_true] at h
 refine rj fun k hk=>?_
 rw [List.length_map] at hk
 have h1:=iE h.2.2 hk
 rw [badKn,Bool.or_eq_false_iff] at h1
 have h2:=h1.2
 rw [decide_eq_true ad,Bool.true_and,Bool.not_eq_false',List.getD_eq_getElem?_getD,List.getD_eq_getElem?_getD,Nat.add_sub_cancel,List.getElem?_eq_getElem hk,List.getElem?_eq_getElem (show k<I.length by omega)] at h2
 rw [List.getElem_map,List.getElem_map]
 exact h2
theorem Bv {L:List Int} {I:List ItemD} (h:rightKn L I=true) (hl:I.length≤100) (hr:∀ i∈I,i.act.Rng) (hs:∀ i∈I,i.act.Sm) (hd:∀ i∈I,i.dec.to.n=i.dec.toL.length):KnR L I where
 sv:=by
  rw [rightKn,Bool.and_eq_true] at h
  exact aO h.1
 len:=hl
 rng:=hr
 sm:=hs
 dn:=hd
 right:=fun i hi=>by
  have h1:=kT h i hi
  rw [signedIt,Bool.and_eq_true] at h1
  exact h1.1
 asc:=oP h
theorem Items.sub {w:World} {s:SlV} {l:List ItemD} (h:Items w s l) {k off n:Nat} {x:ItemD} {cs:List Value} (hx:l[k]?=some x) (hc:(x.cells.drop off).take n=cs) (hn:cs.length=n) :
  cs.length=n∧s.p.isSome=true∧∀ j u,cs[j]?=some u→CellAt w s.p (k*49+off+j) u:=by
 refine ⟨hn,(h.get hx).2.1,fun j u hu=>?_⟩
 have h1:x.cells[off+j]?=some u:=by
  rw [←hc,List.getElem?_take] at hu
  split at hu
  · rw [List.getElem?_drop] at hu
    exact hu
  · cases hu
 rw [Nat.add_assoc]
 exact (h.get hx).2.2 (off+j) u h1
def bigIt (i:ItemD):Bool:=decide (8<(i.act.to.n:Int))||decide (8<(i.act.wraps.n:Int))||decide (8<(i.dec.to.n:Int))||decide (600<(i.act.text.size:Int))||decide (600<(i.act.body.data.size:Int))||decide (600<(i.dec.text.size:Int))
def badFw (I:List ItemD) (k:Nat):Bool:=bigIt (I.getD k ItemD.zero)
def fewB (L:List Int) (I:List ItemD):Bool:=!(decide (40<(I.length:Int))||decide (20<(L.length:Int)))&&(allB I.length (badFw I)&&rightKn L I)
set_option maxRecDepth 20000 in
set_option maxHeartbeats 16000000 in
theorem BK (ks ki:SlV) (L:List Int) (I:List ItemD) (hs:∀ i∈I,i.Str) (hdn:∀ i∈I,i.dec.to.n=i.dec.toL.length) :
  Pu Tryz.prog 8 #[.agg #[ks.v,ki.v]] (fun w=>Ints w ks L∧Items w ki I) (.bool (fewB L I)):=by
 refine ax (args:=[_]) _ Tryz.func8 rfl Tryz.ntmps8 rfl fun av bor w0=>?_
 refine bI (p:=(ks.n=L.length∧ks.n≤maxLen∧(0<L.length→ks.p.isSome=true))∧(ki.n=I.length∧ki.n≤maxLen∧(0<I.length→ki.p.isSome=true))) (fun w h=>⟨⟨h.1.len_,Nat.le_trans (RowsD.cap h.1) (RowsD.max h.1),h.1.some_⟩,h.2.len_,h.2.max_,h.2.some_⟩) fun ⟨⟨hn,hm,hp⟩,hin,him,hip⟩=>?_
 simp only [maxLen] at hm him
 have hkr:=nr ks ki L I hs hdn
 clear hs hdn
 by_cases h40:I.length≤40∧L.length≤20
 · have e:fewB L I=(allB I.length (badFw I)&&rightKn L I):=by rw [fewB,decide_eq_false ad,decide_eq_false (by omega)];rfl
   rw [e]
   repeat' (first|apply ab|apply cw_seq|apply cw_reg|refine ai ?_|refine ac ?_|refine az ?_|refine ay ?_|refine aB ?_|refine aE ?_|refine cI ?_|refine aZ ?_|refine bY ?_|refine aL fun _=>?_|refine cw_cond_t ?_|apply cw_skip|apply cw_block|apply aq|((fail_if_success (refine aX ?_));refine aQ (ht:=?_) (hf:=?_);all_goals (intro hx_;first|have:=aO hx_|have:=aR hx_))|(refine aC (ht:=?_) (hf:=?_);all_goals (intro hx_;first|have:=aO hx_|have:=aR hx_)))
   all_goals try (exfalso;omega)
   all_goals try (exfalso;simp at *;omega)
   rename_i b _ _
   refine aS (ι:=Upto I.length (badFw I)) (fun j=>⟨[(1,.pointer (some ⟨b,0,none⟩)),(3,.int .i64 (j.k:Nat))],[cel b 25 [ks.v,ki.v]],fun w=>Ints w ks L∧Items w ki I⟩) (fun j=>I.length-j.k) (Upto.zero _ _) (aw ⟨rfl,rfl,trivial⟩ (aD _) fun _ h=>h) fun j=>?_
   have hjk:=j.hk
   by_cases hlt:j.k<I.length
   · have hki:=hip ad
     obtain ⟨x,hx⟩:∃ x,I[j.k]?=some x:=⟨_,List.getElem?_eq_getElem hlt⟩
     have hxm:=List.mem_of_getElem? hx
     have hxD:I.getD j.k ItemD.zero=x:=by rw [List.getD_eq_getElem?_getD,hx];rfl
     have hbf:badFw I j.k=bigIt x:=by rw [badFw,hxD]
     repeat' (first|refine SrG.sy_lssT_g (hab:=by omega) (h:=?_)|apply ab|apply cw_seq|apply cw_reg|refine ai ?_|refine ac ?_|refine az ?_|refine ay ?_|refine aB ?_|refine aE ?_|refine cI ?_|refine bP ?_|refine aZ ?_|refine be (h:=?_)|refine bY ?_|refine aK fun _=>?_|refine aI ?_|refine cw_cond_t ?_|apply cw_skip|apply cw_block|apply aq|(refine bE (q:=j.k*49) ?_)|(refine gz ?_)|(refine cE (cs:=x.act.cells) (hF:=fun w h=>Items.sub (off:=1) h.2 hx rfl rfl) ?_)|(refine cE (cs:=x.dec.cells) (hF:=fun w h=>Items.sub (off:=37) h.2 hx rfl rfl) ?_)|((fail_if_success (refine aX ?_));refine aQ (ht:=?_) (hf:=?_);all_goals (intro hx_;first|have:=aO hx_|have:=aR hx_))|(refine aC (ht:=?_) (hf:=?_);all_goals (intro hx_;first|have:=aO hx_|have:=aR hx_)))
     all_goals first
      | (refine ak (ap rfl rfl) ?_;rw [dq hlt (by rw [hbf];simp only [bigIt, *,decide_true,decide_false,cond_true,cond_false,Bool.and_true,Bool.true_and,Bool.and_false,Bool.false_and,Bool.not_true,Bool.not_false,Bool.or_true,Bool.true_or,Bool.or_false,Bool.false_or]),Bool.false_and];done)
      | exact ⟨j.next hlt (by rw [hbf];simp only [bigIt, *,decide_true,decide_false,cond_true,cond_false,Bool.and_true,Bool.true_and,Bool.and_false,Bool.false_and,Bool.not_true,Bool.not_false,Bool.or_true,Bool.true_or,Bool.or_false,Bool.false_or]),(by show I.length-(j.k+1)<I.length-j.k;omega),aw ⟨rfl,rfl,trivial⟩ (List.Sublist.cons _ (List.Sublist.cons _ (aD _))) fun _ h=>h⟩
   · rw [j.all hlt,Bool.true_and]
     repeat' (first|refine SrG.sy_lssF_g (hab:=by omega) (h:=?_)|apply ab|apply cw_seq|apply cw_reg|refine ai ?_|refine ac ?_|refine az ?_|refine ay ?_|refine aG ?_|refine aZ ?_|refine cw_cond_f ?_|apply aq|apply aP|(refine am (hc:=hkr) (hX:=fun w h=>h) ?_)|fail)
     all_goals first
      | exact ak (ap rfl rfl) rfl
 · have e:fewB L I=false:=by
    rw [fewB]
    by_cases h1:I.length≤40
    · rw [decide_eq_true (show 20<(L.length:Int) by omega),Bool.or_true]
      rfl
    · rw [decide_eq_true (show 40<(I.length:Int) by omega),Bool.true_or]
      rfl
   rw [e]
   repeat' (first|apply ab|apply cw_seq|apply cw_reg|refine ai ?_|refine ac ?_|refine az ?_|refine ay ?_|refine aB ?_|refine aE ?_|refine cI ?_|refine aZ ?_|refine bY ?_|refine aL fun _=>?_|refine cw_cond_t ?_|apply cw_skip|apply cw_block|apply aq|((fail_if_success (refine aX ?_));refine aQ (ht:=?_) (hf:=?_);all_goals (intro hx_;first|have:=aO hx_|have:=aR hx_))|(refine aC (ht:=?_) (hf:=?_);all_goals (intro hx_;first|have:=aO hx_|have:=aR hx_)))
   all_goals first
    | (exfalso;omega)
    | exact ak (ap rfl rfl) rfl
theorem Ad {L:List Int} {I:List ItemD} (h:fewB L I=true):I.length≤40∧rightKn L I=true∧∀ i∈I,bigIt i=false:=by
 rw [fewB,Bool.and_eq_true,Bool.and_eq_true,Bool.not_eq_true',Bool.or_eq_false_iff] at h
 refine ⟨by have:=aR h.1.1;omega,h.2.2,fun i hi=>?_⟩
 obtain ⟨k,hk⟩:=List.mem_iff_getElem?.1 hi
 obtain ⟨hlt,_⟩:=List.getElem?_eq_some_iff.1 hk
 have h1:=iE h.2.1 hlt
 rw [badFw,List.getD_eq_getElem?_getD,hk] at h1
 exact h1
theorem zw {L:List Int} {I:List ItemD} (h:fewB L I=true) (hs:∀ i∈I,i.Str) (hd:∀ i∈I,i.dec.to.n=i.dec.toL.length):KnR L I:=by
 obtain ⟨h1,h2,h3⟩:=Ad h
 refine Bv h2 ad (fun i hi=>(hs i hi).rng) (fun i hi=>?_) hd
 have h4:=h3 i hi
 simp only [bigIt,Bool.or_eq_false_iff,decide_eq_false_iff_not] at h4
 obtain ⟨⟨⟨⟨⟨g1,g2⟩,_⟩,_⟩,_⟩,_⟩:=h4
 exact ⟨by omega,by omega,(hs i hi).act.target⟩
theorem gJ {P:Program} {N:Nat} {av bor:List Nat} {w0:World} {st:St} {t ty:TypeId} {x:Operand} {b:Bool} (v:Bool) (hx:ev st.env x=some (.bool b)) (hv:(!b)=v):Sy.Yields P N av bor w0 st (.unOp .not t x) ty (.bool v):=hv▸rp hx
theorem Bw {c:ChainD} {kl:List KeyD} (G:ChGood c kl) (hl:c.acts.n=c.actsL.length) {n:Nat} (hn:n<c.actsL.length):∃ y,keyV c.acts.n kl (n:Nat)=some y∧(cutK kl n).getLast?=some y:=by
 obtain ⟨k,r,hk,hk0⟩:=G.key0 ad
 have h1:keyV c.acts.n kl (n:Nat)=keyF kl (n:Nat) kl.length:=by
  rw [keyV,decide_eq_false ad,decide_eq_false (by omega)]
  rfl
 have h2:=jw kl (n:Nat) kl.length (Nat.le_refl _)
 rw [List.take_length] at h2
 have h3:cutK kl n≠[]:=by
  intro e
  have:k∈cutK kl n:=List.mem_filter.2 ⟨by rw [hk];exact aF,decide_eq_true ad⟩
  rw [e] at this
  cases this
 refine ⟨(cutK kl n).getLast h3,?_,List.getLast?_eq_some_getLast h3⟩
 rw [h1,h2]
 exact List.getLast?_eq_some_getLast h3
theorem zu {α:Type} {l:List α} {y:α} (h:l.getLast?=some y):l[l.length-1]?=some y∧0<l.length:=by
 rw [List.getLast?_eq_getElem?] at h
 exact ⟨h,by have:=(List.getElem?_eq_some_iff.1 h).1;omega⟩
structure CutN (len:Nat) where
 k:Nat
 h1:1≤k
 h2:k≤len∨k=1
set_option maxRecDepth 20000 in
set_option maxHeartbeats 16000000 in
theorem nR (ks ki:SlV) (L:List Int) (I:List ItemD) (hs:∀ i∈I,i.Str) (hd:∀ i∈I,i.dec.to.n=i.dec.toL.length) (au:ByteArray) (m:Int) :
  Pu Tryz.prog 3 #[.agg #[ks.v,ki.v],.string au,.int .i64 m] (fun w=>(Ints w ks L∧Items w ki I)∧Glob w) (.bool true):=by
 have hsm:=qp
 have hfw:=BK ks ki L I hs hd
 refine ax (args:=[_,_,_]) _ Tryz.func3 rfl Tryz.ntmps3 rfl fun av bor w0=>?_
 cases hfB:fewB L I with
 | false =>
  rw [hfB] at hfw
  repeat' (first|apply ab|apply cw_seq|apply cw_reg|refine ai ?_|refine ac ?_|refine aG ?_|refine bM ?_|refine aL fun _=>?_|refine cw_cond_t ?_|apply aq|(refine am (hc:=hsm) (hX:=fun w h=>h.2) ?_)|(refine am (hc:=hfw) (hX:=fun w h=>h.1) ?_)|fail)
  exact ak (ap rfl rfl) rfl
 | true =>
  rw [hfB] at hfw
  have hK:=zw hfB hs hd
  repeat' (first|apply ab|apply cw_seq|apply cw_reg|refine ai ?_|refine ac ?_|refine aG ?_|refine bM ?_|refine aK fun _=>?_|refine aL fun _=>?_|refine aI ?_|refine cw_cond_f ?_|apply cw_skip|apply cw_block|(refine am (hc:=hsm) (hX:=fun w h=>h.2) ?_)|(refine am (hc:=hfw) (hX:=fun w h=>h.1) ?_)|(refine dc (hc:=r5 ks ki hK au) (hX:=fun w h=>h) fun v X1 h1=>?_;obtain ⟨c,kl,hQ,rfl,hw1⟩:=h1)|fail)
  rename_i b3 b8
  have G:=sz hK hQ
  have hci:c.id=au:=by obtain ⟨A,sa,sk,st,fork,h1,h2,h3,h4⟩:=hQ;rw [h3]
  refine BO (X':=fun w=>((Ints w ks L∧Items w ki I)∧Glob w)∧c.at_ w∧Keyz w c.keys kl) (fun w h=>⟨h.1,hw1 w h.2⟩) ?_
  refine bI (p:=(c.acts.n=c.actsL.length∧c.acts.n≤maxLen∧(0<c.actsL.length→c.acts.p.isSome=true))∧c.keys.n=kl.length) (fun w h=>⟨⟨h.2.1.len_,h.2.1.max_,h.2.1.some_⟩,(Keyz.know w h.2.2).1⟩) fun ⟨⟨hcn,hcm,hcp⟩,hkn⟩=>?_
  simp only [maxLen] at hcm
  clear hsm hfw hw1 hfB
  have hlen:=G.len
  have hklen:=G.klen
  refine aS (ι:=CutN c.actsL.length) (fun i=>⟨[(1,.string au),(2,.int .i64 m),(7,.bool true),(8,.pointer (some ⟨b8,0,none⟩)),(9,.int .i64 (i.k:Nat))],[cel b8 31 c.cells],fun w=>((Ints w ks L∧Items w ki I)∧Glob w)∧c.at_ w∧Keyz w c.keys kl⟩) (fun i=>c.actsL.length-i.k) ⟨1,Nat.le_refl _,.inr rfl⟩ (aw ⟨rfl,rfl,rfl,rfl,rfl,trivial⟩ (.cons_cons _ (List.nil_sublist _)) fun _ h=>h) fun i=>?_
  obtain ⟨n,h1,h2⟩:=i
  simp only
  by_cases hlt:n<c.actsL.length
  · have hcp':=hcp ad
    obtain ⟨x,hx⟩:∃ x,c.actsL[n]?=some x:=⟨_,List.getElem?_eq_getElem hlt⟩
    have hxm:=List.mem_of_getElem? hx
    have hxr:=G.ok.rng x hxm
    have hcut:=nN c kl ad ad n ad x hx
    obtain ⟨y,hy1,hy2⟩:=Bw G hcn hlt
    obtain ⟨hy3,hy4⟩:=zu hy2
    have hkey:Pu Tryz.prog 11 #[c.v,.int .i64 (n:Nat)] (fun w=>c.at_ w∧Keyz w c.keys kl) (.tuple #[y.v,.bool true]):=by
     have h3:=jB c kl (n:Nat)
     rw [hy1] at h3
     exact h3
    have hofA:=k7 x hxr (G.ok.sm x hxm)
    have hidx:Pu Tryz.prog 13 #[c.v,.string (digV x)] (fun w=>c.at_ w∧Glob w) (.tuple #[.int .i64 (n:Nat),.bool true]):=by
     have h3:=lj c G.ok (digV x)
     rw [G.own n x hx] at h3
     exact h3
    repeat' (first|refine al (ca true rfl rfl (decide_eq_true ad)) rfl aA rfl ?_|apply ab|apply cw_seq|apply cw_reg|refine ai ?_|refine ac ?_|refine az ?_|refine ay ?_|refine aG ?_|refine aZ ?_|refine bU ?_|refine aK fun _=>?_|refine aI ?_|refine cw_cond_t ?_|apply cw_skip|apply cw_block|(refine dc (hc:=hcut) (hX:=fun w h=>h.2) fun v X2 h2=>?_;obtain ⟨sk,rfl,hw2⟩:=h2)|(refine am (hc:=hkey) (hX:=fun w h=>h.1.2) ?_)|fail)
    rename_i b10 b11
    have hfit:Pu Tryz.prog 12 #[(cutD c kl n x.prev sk).v,x.v] (fun w=>((cutD c kl n x.prev sk).at_ w∧Glob w)∧x.at_ w) (.bool true):=by
     have h3:=uO (cutD c kl n x.prev sk) ⟨fun a ha=>G.ok.rng a (List.mem_of_mem_take ha),fun a ha=>G.ok.sm a (List.mem_of_mem_take ha)⟩ x
     rw [G.fit n x h1 hx (cutD c kl n x.prev sk) rfl rfl rfl rfl] at h3
     exact h3
    refine bI (p:=sk.n=(cutK kl n).length∧(0<(cutK kl n).length→sk.p.isSome=true)) (fun w h=>⟨(Keyz.know w (hw2 w h.2).2).1,(Keyz.know w (hw2 w h.2).2).2.2⟩) fun ⟨hsn,hsp⟩=>?_
    have hsp':=hsp hy4
    have hcl:=pR kl n
    rw [show (cutD c kl n x.prev sk).cells=[.string c.id,.slice c.acts.p n n,sk.v,.string x.prev,.int .i64 (cutG kl c.actsL n),.bool false] from rfl]
    (refine aT [cel b11 35 y.cells,cel b10 31 [.string c.id,.slice c.acts.p n n,sk.v,.string x.prev,.int .i64 (cutG kl c.actsL n),.bool false],cel b8 31 c.cells] (fun w=>(((Ints w ks L∧Items w ki I)∧Glob w)∧c.at_ w∧Keyz w c.keys kl)∧X2 w) aj ?_)
    all_goals refine aa 0 ?_
    all_goals refine aa 1 ?_
    all_goals refine aa 2 ?_
    all_goals refine aa 3 ?_
    all_goals (refine aa 4 (hy:=by (apply dH false;rfl;rfl;exact congrArg Bool.not (decide_eq_true rfl))) ?_)
    all_goals refine aa 5 ?_
    all_goals refine aa 6 ?_
    all_goals refine aa 7 ?_
    all_goals refine aa 8 ?_
    all_goals (refine aa 9 (hy:=by (apply eW false;rfl;rfl;exact decide_eq_false ad)) ?_)
    all_goals refine aa 10 ?_
    all_goals refine aa 11 ?_
    all_goals refine aa 12 ?_
    all_goals (refine aa 13 (hy:=by (apply gJ false;rfl;rfl)) ?_)
    all_goals refine aa 14 ?_
    all_goals refine aa 15 ?_
    all_goals refine aa 16 ?_
    all_goals refine aa 17 ?_
    all_goals refine aa 18 ?_
    all_goals refine aa 19 ?_
    all_goals refine aa 20 ?_
    all_goals refine aa 21 ?_
    all_goals (refine aa 22 (hy:=by (apply aM (q:=((cutK kl n).length-1)*3);rfl;rfl;omega;omega;assumption;omega)) ?_)
    all_goals (refine aa 23 (hy:=by (apply du (cs:=y.cells);rfl;exact fun w h=>Keyz.get (hw2 w h.2).2 hy3)) ?_)
    all_goals refine aa 24 ?_
    all_goals (refine aa 25 (hy:=by (apply od (a:=y);rfl;rfl)) ?_)
    all_goals refine aa 26 ?_
    all_goals refine aa 27 ?_
    all_goals refine aa 28 ?_
    all_goals refine aa 29 ?_
    all_goals refine aa 30 ?_
    all_goals refine aa 31 ?_
    all_goals refine aa 32 ?_
    all_goals refine aa 33 ?_
    all_goals refine aa 34 ?_
    all_goals refine aa 35 ?_
    all_goals (refine aa 36 (hy:=by (apply aM (q:=n*20);rfl;rfl;omega;omega;assumption;omega)) ?_)
    all_goals (refine aa 37 (hy:=by (apply du (cs:=x.cells);rfl;exact fun w h=>Acts.get h.1.2.1 hx)) ?_)
    all_goals (refine ae 38 ?_;(refine am (hc:=hfit) (hX:=fun w h=>⟨⟨(hw2 w h.2).1,h.1.1.2⟩,h.1.2.1.2 x hxm⟩) ?_);apply ab;refine ag ?_)
    all_goals (refine aa 39 (hy:=by (apply gJ false;rfl;rfl)) ?_)
    all_goals refine aa 40 ?_
    all_goals (refine ar ?_)
    repeat' (first|apply cw_seq|refine cw_cond_f ?_|apply cw_skip|fail)
    (refine aT [cel b11 35 y.cells,cel b10 31 [.string c.id,.slice c.acts.p n n,sk.v,.string x.prev,.int .i64 (cutG kl c.actsL n),.bool false],cel b8 31 c.cells] (fun w=>(((Ints w ks L∧Items w ki I)∧Glob w)∧c.at_ w∧Keyz w c.keys kl)∧X2 w) aj ?_)
    all_goals refine aa 0 ?_
    all_goals refine aa 1 ?_
    all_goals refine aa 2 ?_
    all_goals refine aa 3 ?_
    all_goals (refine aa 4 (hy:=by (apply aM (q:=n*20);rfl;rfl;omega;omega;assumption;omega)) ?_)
    all_goals (refine aa 5 (hy:=by (apply du (cs:=x.cells);rfl;exact fun w h=>Acts.get h.1.2.1 hx)) ?_)
    all_goals (refine ae 6 ?_;(refine dc (hc:=hofA) (hX:=fun w h=>h.1.2.1.2 x hxm) fun v X3 h3=>?_;obtain ⟨a',rfl,hdg,hra,hw3⟩:=h3);apply ab;refine ag ?_)
    all_goals (refine ae 7 ?_;(refine am (hc:=hdg▸jd a' hra) (hX:=fun w h=>⟨hw3 w h.2,h.1.1.1.2⟩) ?_);apply ab;refine ag ?_)
    all_goals (refine ae 8 ?_;(refine am (hc:=hidx) (hX:=fun w h=>⟨h.1.1.2.1,h.1.1.1.2⟩) ?_);apply ab;refine ag ?_)
    all_goals refine aa 9 ?_
    all_goals refine aa 10 ?_
    all_goals refine aa 11 ?_
    all_goals refine aa 12 ?_
    all_goals refine aa 13 ?_
    all_goals (refine ar ?_)
    repeat' (first|apply cw_seq|fail)
    by_cases hmn:m<(n:Int)
    · by_cases hm1:m<1
      · have hsa:=fA (chZ0 c.id) (chZ0 c.id) [] ⟨rfl,rfl,rfl,rfl,rfl⟩ (fun z hz=>(List.not_mem_nil hz).elim)
        (refine aT [cel b11 35 y.cells,cel b10 31 [.string c.id,.slice c.acts.p n n,sk.v,.string x.prev,.int .i64 (cutG kl c.actsL n),.bool false],cel b8 31 c.cells] (fun w=>((((Ints w ks L∧Items w ki I)∧Glob w)∧c.at_ w∧Keyz w c.keys kl)∧X2 w)∧X3 w) aj ?_)
        all_goals refine aa 0 ?_
        all_goals (refine aa 1 (hy:=by (apply gJ false;rfl;rfl)) ?_)
        all_goals refine aa 2 ?_
        all_goals refine aa 3 ?_
        all_goals refine aa 4 ?_
        all_goals (refine aa 5 (hy:=by (apply dH false;rfl;rfl;exact congrArg Bool.not (decide_eq_true rfl))) ?_)
        all_goals refine aa 6 ?_
        all_goals refine aa 7 ?_
        all_goals refine aa 8 ?_
        all_goals refine aa 9 ?_
        all_goals (refine aa 10 (hy:=by (apply ca true;rfl;rfl;exact decide_eq_true hmn)) ?_)
        all_goals refine aa 11 ?_
        all_goals refine aa 12 ?_
        all_goals refine aa 13 ?_
        all_goals refine aa 15 ?_
        all_goals refine aa 16 ?_
        all_goals (refine ae 14 ?_;(refine am (hc:=jf (cutD c kl n x.prev sk) m hm1) (hX:=fun _ _=>trivial) ?_);apply ab;refine ag ?_)
        all_goals (refine ae 17 ?_;(refine am (hc:=jf c m hm1) (hX:=fun _ _=>trivial) ?_);apply ab;refine ag ?_)
        all_goals (refine ae 18 ?_;(refine am (hc:=hsa) (hX:=fun w h=>⟨iz _ w,iz _ w⟩) ?_);apply ab;refine ag ?_)
        all_goals (refine aa 19 (hy:=by (apply gJ false;rfl;rfl)) ?_)
        all_goals refine aa 20 ?_
        all_goals refine aa 21 ?_
        all_goals (refine ar ?_)
        repeat' (first|apply ab|apply cw_reg|refine ai ?_|refine ac ?_|refine be (h:=?_)|refine cw_cond_f ?_|apply cw_skip|fail)
        exact ⟨(⟨n+1,by omega,by omega⟩:CutN c.actsL.length),(by show c.actsL.length-(n+1)<c.actsL.length-n;omega),aw ⟨rfl,rfl,rfl,rfl,rfl,trivial⟩ (.cons _ (.cons _ (aD _))) fun w h=>h.1.1⟩
      · obtain ⟨p,rfl⟩:∃ p:Nat,m=(p:Int):=⟨m.toNat,by omega⟩
        have hpn:p<n:=by omega
        obtain ⟨z,hz⟩:∃ z,c.actsL[p]?=some z:=⟨_,List.getElem?_eq_getElem ad⟩
        have hzd:(cutD c kl n x.prev sk).actsL[p]?=some z:=by
         show (c.actsL.take n)[p]?=some z
         rw [List.getElem?_take,if_pos hpn]
         exact hz
        have hc1:=nN (cutD c kl n x.prev sk) (cutK kl n) (by show (c.actsL.take n).length≤_;rw [List.length_take];omega) ad p ad z hzd
        have hc2:=nN c kl ad ad p ad z hz
        have hsa:=fun sk2 sk3=>fA (cutD (cutD c kl n x.prev sk) (cutK kl n) p z.prev sk2) (cutD c kl p z.prev sk3) (cutK kl p) ⟨rfl,rfl,xN kl c.actsL ad,rfl,by show (c.actsL.take p).map _=((c.actsL.take n).take p).map _;rw [List.take_take,Nat.min_eq_left (by omega)]⟩ (fun u hu=>G.ok.rng u (List.mem_of_mem_take (List.mem_of_mem_take hu)))
        rw [pS kl (by omega)] at hc1
        (refine aT [cel b11 35 y.cells,cel b10 31 [.string c.id,.slice c.acts.p n n,sk.v,.string x.prev,.int .i64 (cutG kl c.actsL n),.bool false],cel b8 31 c.cells] (fun w=>((((Ints w ks L∧Items w ki I)∧Glob w)∧c.at_ w∧Keyz w c.keys kl)∧X2 w)∧X3 w) aj ?_)
        all_goals refine aa 0 ?_
        all_goals (refine aa 1 (hy:=by (apply gJ false;rfl;rfl)) ?_)
        all_goals refine aa 2 ?_
        all_goals refine aa 3 ?_
        all_goals refine aa 4 ?_
        all_goals (refine aa 5 (hy:=by (apply dH false;rfl;rfl;exact congrArg Bool.not (decide_eq_true rfl))) ?_)
        all_goals refine aa 6 ?_
        all_goals refine aa 7 ?_
        all_goals refine aa 8 ?_
        all_goals refine aa 9 ?_
        all_goals (refine aa 10 (hy:=by (apply ca true;rfl;rfl;exact decide_eq_true hmn)) ?_)
        all_goals refine aa 11 ?_
        all_goals refine aa 12 ?_
        all_goals refine aa 13 ?_
        all_goals refine aa 15 ?_
        all_goals refine aa 16 ?_
        all_goals (refine ae 14 ?_;(refine dc (hc:=hc1) (hX:=fun w h=>hw2 w h.1.2) fun v X4 h4=>?_;obtain ⟨sk2,rfl,hw4⟩:=h4);apply ab;refine ag ?_)
        all_goals (refine ae 17 ?_;(refine dc (hc:=hc2) (hX:=fun w h=>h.1.1.1.2) fun v X5 h5=>?_;obtain ⟨sk3,rfl,hw5⟩:=h5);apply ab;refine ag ?_)
        all_goals (refine ae 18 ?_;(refine am (hc:=hsa sk2 sk3) (hX:=fun w h=>⟨hw4 w h.1.2,hw5 w h.2⟩) ?_);apply ab;refine ag ?_)
        all_goals (refine aa 19 (hy:=by (apply gJ false;rfl;rfl)) ?_)
        all_goals refine aa 20 ?_
        all_goals refine aa 21 ?_
        all_goals (refine ar ?_)
        repeat' (first|apply ab|apply cw_reg|refine ai ?_|refine ac ?_|refine be (h:=?_)|refine cw_cond_f ?_|apply cw_skip|fail)
        exact ⟨(⟨n+1,by omega,by omega⟩:CutN c.actsL.length),(by show c.actsL.length-(n+1)<c.actsL.length-n;omega),aw ⟨rfl,rfl,rfl,rfl,rfl,trivial⟩ (.cons _ (.cons _ (aD _))) fun w h=>h.1.1.1.1⟩
    · (refine aT [cel b11 35 y.cells,cel b10 31 [.string c.id,.slice c.acts.p n n,sk.v,.string x.prev,.int .i64 (cutG kl c.actsL n),.bool false],cel b8 31 c.cells] (fun w=>((((Ints w ks L∧Items w ki I)∧Glob w)∧c.at_ w∧Keyz w c.keys kl)∧X2 w)∧X3 w) aj ?_)
      all_goals refine aa 0 ?_
      all_goals (refine aa 1 (hy:=by (apply gJ false;rfl;rfl)) ?_)
      all_goals refine aa 2 ?_
      all_goals refine aa 3 ?_
      all_goals refine aa 4 ?_
      all_goals (refine aa 5 (hy:=by (apply dH false;rfl;rfl;exact congrArg Bool.not (decide_eq_true rfl))) ?_)
      all_goals refine aa 6 ?_
      all_goals refine aa 7 ?_
      all_goals refine aa 8 ?_
      all_goals refine aa 9 ?_
      all_goals (refine aa 10 (hy:=by (apply ca false;rfl;rfl;exact decide_eq_false hmn)) ?_)
      all_goals refine aa 11 ?_
      all_goals refine aJ 12 ?_
      all_goals refine aJ 13 ?_
      all_goals refine aJ 15 ?_
      all_goals refine aJ 16 ?_
      all_goals (refine ae 14 ?_;(refine aH ?_);apply ab;refine ag ?_)
      all_goals (refine ae 17 ?_;(refine aH ?_);apply ab;refine ag ?_)
      all_goals (refine ae 18 ?_;(refine aH ?_);apply ab;refine ag ?_)
      all_goals refine aJ 19 ?_
      all_goals refine aa 20 ?_
      all_goals refine aa 21 ?_
      all_goals (refine ar ?_)
      repeat' (first|apply ab|apply cw_reg|refine ai ?_|refine ac ?_|refine be (h:=?_)|refine cw_cond_f ?_|apply cw_skip|fail)
      exact ⟨(⟨n+1,by omega,by omega⟩:CutN c.actsL.length),(by show c.actsL.length-(n+1)<c.actsL.length-n;omega),aw ⟨rfl,rfl,rfl,rfl,rfl,trivial⟩ (.cons _ (.cons _ (aD _))) fun w h=>h.1.1⟩
  · have hsz:=fA (chZ0 c.id) (chZ0 au) [] ⟨hci,rfl,rfl,rfl,rfl⟩ (fun z hz=>(List.not_mem_nil hz).elim)
    have hsc:=fA c c kl ⟨rfl,rfl,rfl,rfl,rfl⟩ G.ok.rng
    have hc0:=jf c 0 (by decide)
    repeat' (first|refine al (ca false rfl rfl (decide_eq_false ad)) rfl aA rfl ?_|apply ab|apply cw_seq|apply cw_reg|refine ai ?_|refine az ?_|refine ay ?_|refine aG ?_|refine aZ ?_|refine aK fun _=>?_|refine aI ?_|refine cw_cond_f ?_|apply aP|(refine am (hc:=hc0) (hX:=fun _ _=>trivial) ?_)|fail)
    rename_i b15
    have hcA:=uL c ((c.acts.n:Int)+1) ad ad
    (refine aT [cel b15 31 (⟨c.id,⟨none,0,0⟩,⟨none,0,0⟩,⟨#[]⟩,0,false,[]⟩:ChainD).cells,cel b8 31 c.cells] (fun w=>((Ints w ks L∧Items w ki I)∧Glob w)∧c.at_ w∧Keyz w c.keys kl) aj ?_)
    all_goals refine aa 0 ?_
    all_goals refine aa 1 ?_
    all_goals refine aa 2 ?_
    all_goals refine aa 3 ?_
    all_goals refine aa 4 ?_
    all_goals refine aa 5 ?_
    all_goals refine aa 6 ?_
    all_goals refine aa 8 ?_
    all_goals (refine ae 7 ?_;(refine am (hc:=hcA) (hX:=fun _ _=>trivial) ?_);apply ab;refine ag ?_)
    all_goals (refine ae 9 ?_;(refine am (hc:=hsc) (hX:=fun w h=>⟨h.2,h.2⟩) ?_);apply ab;refine ag ?_)
    all_goals refine aa 10 ?_
    all_goals refine aa 11 ?_
    all_goals refine aa 12 ?_
    all_goals refine aa 13 ?_
    all_goals (refine aa 14 (hy:=by (apply bZ (cs:=(chZ0 au).cells);rfl;kernel_rfl)) ?_)
    all_goals (refine ae 15 ?_;(refine am (hc:=hsz) (hX:=fun w h=>⟨iz _ w,iz _ w⟩) ?_);apply ab;refine ag ?_)
    all_goals refine aa 16 ?_
    all_goals refine aa 17 ?_
    all_goals (refine ar ?_)
    all_goals
     repeat' (first|apply aq|fail)
     exact ak (ap rfl rfl) rfl
end Go.Proofs.YtcdilibijnboeaaGreatDoor
namespace Go.Proofs.YtcdilibijnboeaaGreatDoor
open Go Go.Proofs Sy Go.RowKit Go.Deep Go.ChangeShapes Go.WideShapes
theorem laidOut:laidOutB Tryz.prog=true:=by kernel_rfl
theorem gE {H:Type} {enc:TypeId×Value→H} {P:Program} (hl:laidOutB P=true) {W W':World} {sp:Nat→Bool}:∀ (ts:List TypeId) (vs:List Value) (ds:List (DataW H)) (ps:List MemPlace),(∀ t∈ts,P.readableRec t=true∧t<P.types.size) →
  DataW.TrodAll enc P W 0 (fun _=>true) true ts vs ds ps→(∀ p∈ps,W.sameAt W' p)→(∀ p∈ps,sp p.block=true)→DataW.TrodAll enc P W' 0 sp true ts vs ds ps
 | [],vs,ds,ps,_,h,_,_=>by
  obtain ⟨rfl,rfl,rfl⟩:=trodAll_nil h
  exact trodAll_mk0
 | t::ts,vs,ds,ps,ht,h,hs,hp=>by
  obtain ⟨v,vs',d,ds',p,q,rfl,rfl,rfl,h1,h2⟩:=trodAll_cons h
  exact trodAll_cons_mk (WideElems.Trod_stays hl (ht t aF).1 (ht t aF).2 h1 (fun x hx=>hs x (List.mem_append_left _ hx)) (fun x hx=>hp x (List.mem_append_left _ hx)))
   (gE hl ts vs' ds' q (fun u hu=>ht u (List.mem_cons_of_mem _ hu)) h2 (fun x hx=>hs x (List.mem_append_right _ hx)) (fun x hx=>hp x (List.mem_append_right _ hx)))
theorem uE {X:World→Prop} {w:World} (hX:X w) (hk:∀ w':World,(∀ k,k<w.heap.size→w'.heap[k]?=w.heap[k]?)→X w'):Gam [] (fps []) w [] X w :=
 ⟨Fr.refl _ _,fun k hk=>by simp at hk,by simp [fps],fun k hk=>by simp [fps] at hk,fun r hr=>by simp at hr,⟨fun k=>k<w.heap.size,fun k hk=>⟨hk,by simp [fps]⟩,hk⟩⟩
theorem pU {P:Program} {f:FuncId} {args:Array Value} {X:World→Prop} {v:Value} {w:World} (h:Pu P f args X v) (hX:X w) (hk:∀ w':World,(∀ k,k<w.heap.size→w'.heap[k]?=w.heap[k]?)→X w') :
  Calls P f args w fun e w'=>e=.returned v∧Below w.heap.size w w':=by
 unfold Pu at h
 exact (Ct.run h w [] (uE hX hk)).mono fun e w' ⟨u,R,X',he,⟨hu,hR⟩,G⟩=>⟨by rw [he,hu],G.fr.below⟩
theorem laidK:Rows.laid_agora_sum_constants (H:=Unit)=Lib.tabData .u32 kC:=by kernel_rfl
theorem laidI:Rows.laid_agora_sum_initial (H:=Unit)=Lib.tabData .u32 iniC:=by kernel_rfl
theorem lD {W:World} {name:String} {zs:List Int} {g:Nat} (h:Lib.TabIs Tryz.prog W name .u32 zs) (hg:Tryz.prog.globalNamed name=some g):CellsAt g (u32s zs) W:=fun j v hj=>by
 have hj':j<zs.length:=by have:=(List.getElem?_eq_some_iff.1 hj).1;simpa [u32s] using this
 rw [h.cell hg j hj']
 simp only [u32s,List.getElem?_map,List.getElem?_eq_getElem hj',Option.map_some,Option.some.injEq] at hj
 rw [List.getD_eq_getElem?_getD,List.getElem?_eq_getElem hj',←hj]
 rfl
theorem zG {W:World} (h:laidMet Tryz.prog [("agora/sum.constants",Rows.laid_agora_sum_constants),("agora/sum.initial",Rows.laid_agora_sum_initial)] W):Glob W:=by
 rw [laidK,laidI] at h
 have h1:=Lib.tabIs_of_head (g:=1) (t:=168) (e:=128) (n:=64) aj aj Tryz.underlying168 Tryz.underlying128 aj aj h
 obtain ⟨ps,⟨g',t',cs,fuel,p,q,hg',ht',hvar,hd,hrest,hpq⟩,_⟩:=h
 obtain ⟨g2,t2,cs2,fuel2,p2,q2,hg2,ht2,hvar2,hd2,_,_⟩:=hrest
 have h2:Lib.TabIs Tryz.prog W "agora/sum.initial" .u32 iniC:=by
  have e1:Tryz.prog.globalNamed "agora/sum.initial"=some 0:=by kernel_rfl
  have e2:(Tryz.prog.globals[0]?).map (·.type)=some 129:=by kernel_rfl
  obtain rfl:=Option.some.inj (e1.symm.trans hg2)
  obtain rfl:=Option.some.inj (e2.symm.trans ht2)
  unfold Lib.TabIs
  rw [hvar2,←Lib.cells_of_tab Tryz.underlying129 Tryz.underlying128 aj aj hd2]
 exact ⟨lD h2 aj,lD h1 aj⟩
def layRow (l:List Value):Obj→Obj
 | .cells _ t frozen=>.cells l.toArray t frozen
 | o=>o
noncomputable def laidWorld (os:Os):World :=
 { World.holding Tryz.prog os ⟨#[],#[],[]⟩ with heap:=((World.holding Tryz.prog os ⟨#[],#[],[]⟩).heap.modify 0 (layRow (u32s iniC))).modify 1 (layRow (u32s kC)) }
end Go.Proofs.YtcdilibijnboeaaGreatDoor
