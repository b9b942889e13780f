/- Joined by program out of: Zz Oe Of Og Yh Yx Jh Ye Yy Yz Oh Oi Yf Xa Po. -/
import Derived.Test.YtcdilibijnboeaaGreatDoorU12
import Derived.Test.YtcdilibijnboeaaGreatDoorCards
import Derived.Test.YtcdilibijnboeaaGreatDoorTie
import Derived.WalkKit
import Derived.ProofKit
import Derived.Deep.DeepHandedRow
import Derived.Lib.LaidTab
set_option linter.unusedVariables false
set_option linter.unusedSimpArgs false
namespace Go.Proofs.YtcdilibijnboeaaGreatDoor
open Go Go.Proofs Sy
set_option maxRecDepth 20000 in
set_option maxHeartbeats 16000000 in
theorem nM (i:ItemD) (hs:i.Str) (hdn:i.dec.to.n=i.dec.toL.length):Pu Tryz.prog 108 #[i.v] (fun w=>i.at_ w) (.string (bytesIt i)):=by
 have hr:=hs.rng
 have c1:=io i hs
 have hsz:=@gB i hr hdn
 have hnk:=aO i.kind
 cases hB:rightIt i with
 | false =>
  rw [hB] at c1
  rw [bytesIt,hB]
  refine ay (args:=[_]) _ Tryz.func108 rfl Tryz.ntmps108 rfl fun av bor w0=>?_
  repeat' (first|apply ab|apply Qu|apply Qv|refine aj ?_|refine ad ?_|refine aH ?_|refine bN ?_|refine aN fun _=>?_|refine Qy ?_|apply ar|(refine ao (hc:=c1) (hX:=fun w h=>h) ?_)|fail)
  exact al (aq rfl rfl) rfl
 | true =>
 rw [hB] at c1
 have hsz:=hsz hB
 rw [bytesIt,hB,ZC]
 refine ay (args:=[_]) _ Tryz.func108 rfl Tryz.ntmps108 rfl fun av bor w0=>?_
 rcases d4 hB with ⟨hk,hR⟩|⟨hk,hR⟩|⟨hk,hR⟩|⟨hk,hR⟩
 · have c2:=lm i.act hs.act (d6 hr) ⟨hr.ints.2.2.2.2.2.2.2.1,hr.ints.2.2.2.2.2.2.2.2⟩
   have c3:=bz i.kind ae
   have hb:bodyIt i=actBytes i.act:=by rw [bodyIt,hk];rfl
   rw [hb] at hsz ⊢
   repeat' (first|refine bm (hab:=by omega) ?_|apply ab|apply Qu|apply Qv|refine aj ?_|refine ad ?_|refine aA ?_|refine az ?_|refine aH ?_|refine bN ?_|refine aN fun _=>?_|refine Qy ?_|refine Qz ?_|apply Qx|apply Qw|(refine ao (hc:=c1) (hX:=fun w h=>h) ?_)|(refine ao (hc:=c3) (hX:=fun _ _=>trivial) ?_)|(refine ao (hc:=c2) (hX:=fun w h=>h.1) ?_)|(refine aW (vs:=i.act.cells) (hv:=rfl) ?_)|fail)
   refine am (bD rfl rfl ae) rfl aB rfl ?_
   repeat' (first|apply ab|refine ad ?_|apply ar|fail)
   all_goals exact al (aq rfl rfl) rfl
 · obtain ⟨hl,hm⟩:=gJ hR
   have c3:=bz i.kind ae
   have e1:=ft hm
   have e2:=dL i.claim.e i.claim.s
   have hb:bodyIt i=coreCl i.claim++numsV [i.claim.e,i.claim.s]:=by rw [bodyIt,hk];rfl
   rw [hb]
   repeat' (first|refine bm (hab:=by omega) ?_|refine bt (hab:=by omega) ?_|apply ab|apply Qu|apply Qv|refine aj ?_|refine ad ?_|refine aA ?_|refine az ?_|refine aH ?_|refine bN ?_|refine aN fun _=>?_|refine Qy ?_|refine Qz ?_|apply Qx|apply Qw|(refine ao (hc:=c1) (hX:=fun w h=>h) ?_)|(refine ao (hc:=c3) (hX:=fun _ _=>trivial) ?_)|fail)
   (apply bH;kernel_rfl)
   all_goals refine aa 0 ?_<;>refine aa 1 ?_<;>(refine aa 2 (hy:=by (apply cF (vs:=i.claim.cells);rfl;exact .head _;rfl;rfl)) ?_)<;>refine aa 5 ?_<;>refine aa 6 ?_<;>(refine aa 7 (hy:=by (apply cF (vs:=[.int .i64 i.claim.e,.int .i64 i.claim.s]);rfl;exact .head _;rfl;rfl)) ?_)<;>(refine ag 3 ?_;(refine ao (hc:=nK _ hl hm) ?_);apply ab;refine ai ?_)<;>(refine aa 4 (hy:=by (apply bD;rfl;rfl;(try simp only [Zl]);omega)) ?_)<;>(refine ag 8 ?_;(refine ao (hc:=gR _ _ hl.e hl.s) ?_);apply ab;refine ai ?_)<;>(refine aa 9 (hy:=by (apply bD;rfl;rfl;(try simp only [Zl]);omega)) ?_)<;>refine aa 10 ?_<;>(refine ax ?_)
   all_goals
    repeat' (first|apply ar|fail)
    refine al (aq rfl rfl) ?_
    simp only [ZV]
 · obtain ⟨hl,hm⟩:=gd hR
   have c3:=bz i.kind ae
   have e1:=eL hm
   have e2:=dL i.ballot.e i.ballot.s
   have hb:bodyIt i=coreBa i.ballot++numsV [i.ballot.e,i.ballot.s]:=by rw [bodyIt,hk];rfl
   rw [hb]
   repeat' (first|refine bm (hab:=by omega) ?_|refine bt (hab:=by omega) ?_|apply ab|apply Qu|apply Qv|refine aj ?_|refine ad ?_|refine aA ?_|refine az ?_|refine aH ?_|refine bN ?_|refine aN fun _=>?_|refine Qy ?_|refine Qz ?_|apply Qx|apply Qw|(refine ao (hc:=c1) (hX:=fun w h=>h) ?_)|(refine ao (hc:=c3) (hX:=fun _ _=>trivial) ?_)|fail)
   (apply bH;kernel_rfl)
   all_goals refine aa 0 ?_<;>refine aa 1 ?_<;>(refine aa 2 (hy:=by (apply cF (vs:=i.ballot.cells);rfl;exact .head _;rfl;rfl)) ?_)<;>refine aa 5 ?_<;>refine aa 6 ?_<;>(refine aa 7 (hy:=by (apply cF (vs:=[.int .i64 i.ballot.e,.int .i64 i.ballot.s]);rfl;exact .head _;rfl;rfl)) ?_)<;>(refine ag 3 ?_;(refine ao (hc:=iu _ hl hm) ?_);apply ab;refine ai ?_)<;>(refine aa 4 (hy:=by (apply bD;rfl;rfl;(try simp only [Zl]);omega)) ?_)<;>(refine ag 8 ?_;(refine ao (hc:=gR _ _ hl.e hl.s) ?_);apply ab;refine ai ?_)<;>(refine aa 9 (hy:=by (apply bD;rfl;rfl;(try simp only [Zl]);omega)) ?_)<;>refine aa 10 ?_<;>(refine ax ?_)
   all_goals
    repeat' (first|apply ar|fail)
    refine al (aq rfl rfl) ?_
    simp only [ZV]
 · obtain ⟨hl,hm⟩:=j1 hdn hR
   have c3:=bz i.kind ae
   have e1:=eK hm
   have e2:=dL i.dec.e i.dec.s
   have c4:=ir i.dec hl hm
   have hb:bodyIt i=coreDe i.dec++numsV [i.dec.e,i.dec.s]:=by rw [bodyIt,hk];rfl
   rw [hb]
   repeat' (first|refine bt (hab:=by omega) ?_|apply ab|apply Qu|apply Qv|refine aj ?_|refine ad ?_|refine aA ?_|refine az ?_|refine aH ?_|refine bN ?_|refine aN fun _=>?_|refine Qz ?_|apply Qx|apply Qw|(refine ao (hc:=c1) (hX:=fun w h=>h) ?_)|(refine ao (hc:=c3) (hX:=fun _ _=>trivial) ?_)|fail)
   (apply bH;kernel_rfl)
   all_goals refine aa 0 ?_<;>refine aa 1 ?_<;>(refine aa 2 (hy:=by (apply cF (vs:=i.dec.cells);rfl;exact .head _;rfl;rfl)) ?_)<;>refine aa 5 ?_<;>refine aa 6 ?_<;>(refine aa 7 (hy:=by (apply cF (vs:=[.int .i64 i.dec.e,.int .i64 i.dec.s]);rfl;exact .head _;rfl;rfl)) ?_)<;>(refine ag 3 ?_;(refine ao (hc:=c4) (hX:=fun w h=>h.2) ?_);apply ab;refine ai ?_)<;>(refine aa 4 (hy:=by (apply bD;rfl;rfl;(try simp only [Zl]);omega)) ?_)<;>(refine ag 8 ?_;(refine ao (hc:=gR _ _ hl.e hl.s) ?_);apply ab;refine ai ?_)<;>(refine aa 9 (hy:=by (apply bD;rfl;rfl;(try simp only [Zl]);omega)) ?_)<;>refine aa 10 ?_<;>(refine ax ?_)
   all_goals
    repeat' (first|apply ar|fail)
    refine al (aq rfl rfl) ?_
    simp only [ZV]
theorem gL (i:ItemD) (hs:i.Str) (hdn:i.dec.to.n=i.dec.toL.length):Pu Tryz.prog 65 #[i.v] (fun w=>i.at_ w) (.string (digIt i)):=by
 have c1:=nM i hs hdn
 have hsz:=@iF i hs.rng hdn
 have c2:=mF (bytesIt i) ae
 rw [digIt]
 cases hB:seqB (bytesIt i) ⟨#[]⟩ with
 | true =>
  refine ay (args:=[_]) _ Tryz.func65 rfl Tryz.ntmps65 rfl fun av bor w0=>?_
  repeat' (first|apply ab|apply Qu|apply Qv|refine aj ?_|refine ad ?_|refine aH ?_|refine cC ?_|refine aN fun _=>?_|refine Qy ?_|apply ar|(refine ao (hc:=c1) (hX:=fun w h=>h) ?_)|fail)
  all_goals first
   | (rw [hB] at hx_;exact absurd hx_ (by decide))
   | (refine al (aq rfl rfl) ?_;simp only [ZC,ZB];done)
 | false =>
  refine ay (args:=[_]) _ Tryz.func65 rfl Tryz.ntmps65 rfl fun av bor w0=>?_
  repeat' (first|apply ab|apply Qu|apply Qv|refine aj ?_|refine ad ?_|refine aH ?_|refine cC ?_|refine aN fun _=>?_|refine Qz ?_|apply Qx|apply ar|(refine ao (hc:=c1) (hX:=fun w h=>h) ?_)|(refine ao (hc:=c2) (hX:=fun _ _=>trivial) ?_)|fail)
  all_goals first
   | (rw [hB] at hx_;exact absurd hx_ (by decide))
   | (refine al (aq rfl rfl) ?_;simp only [ZC,ZB];done)
theorem jR (x:BallotD) (hl:x.Lt) (hs:x.Sm):Pu Tryz.prog 106 #[x.v] (fun _=>True) (.string (msgB x)):=by
 refine ay (args:=[_]) _ Tryz.func106 rfl Tryz.ntmps106 rfl fun av bor w0=>?_
 have c1:=bV nameB (by decide)
 have c2:=iu x hl hs
 have h1:=eL hs
 have h2:=aX nameB
 have h3:nameB.size≤20:=by decide
 have e:msgB x=textV nameB++coreBa x:=by rw [msgB,dk,dG,ByteArray.append_empty]
 rw [e]
 repeat' (first|apply ab|apply Qu|apply Qv|refine ad ?_|refine aN fun _=>?_|fail)
 (apply bH;kernel_rfl)
 all_goals refine aa 1 ?_<;>(refine ag 0 ?_;(refine ao (hc:=c1) (hX:=fun _ _=>trivial) ?_);apply ab;refine ai ?_)<;>(refine ag 2 ?_;(refine ao (hc:=c2) (hX:=fun _ _=>trivial) ?_);apply ab;refine ai ?_)<;>(refine aa 3 (hy:=by (apply bD;rfl;rfl;(try simp only [Zl]);omega)) ?_)<;>refine aa 4 ?_<;>(refine ax ?_)
 all_goals
  repeat' (first|apply ar|fail)
  exact al (aq rfl rfl) rfl
theorem ip (x:DecD) (hl:x.Lt) (hs:x.Sm):Pu Tryz.prog 107 #[x.v] (fun w=>x.at_ w) (.string (msgD x)):=by
 refine ay (args:=[_]) _ Tryz.func107 rfl Tryz.ntmps107 rfl fun av bor w0=>?_
 have c1:=bV nameD (by decide)
 have c2:=ir x hl hs
 have h1:=eK hs
 have h2:=aX nameD
 have h3:nameD.size≤20:=by decide
 have e:msgD x=textV nameD++coreDe x:=by rw [msgD,dk,dG,ByteArray.append_empty]
 rw [e]
 repeat' (first|apply ab|apply Qu|apply Qv|refine ad ?_|refine aN fun _=>?_|fail)
 (apply bH;kernel_rfl)
 all_goals refine aa 1 ?_<;>(refine ag 0 ?_;(refine ao (hc:=c1) (hX:=fun _ _=>trivial) ?_);apply ab;refine ai ?_)<;>(refine ag 2 ?_;(refine ao (hc:=c2) (hX:=fun w h=>h) ?_);apply ab;refine ai ?_)<;>(refine aa 3 (hy:=by (apply bD;rfl;rfl;(try simp only [Zl]);omega)) ?_)<;>refine aa 4 ?_<;>(refine ax ?_)
 all_goals
  repeat' (first|apply ar|fail)
  exact al (aq rfl rfl) rfl
set_option maxRecDepth 20000 in
set_option maxHeartbeats 16000000 in
theorem nG (s:SlV) (L:List Int) (i:ItemD) (hs:i.Str) (hdn:i.dec.to.n=i.dec.toL.length):Pu Tryz.prog 64 #[s.v,i.v] (fun w=>Ints w s L∧i.at_ w) (.bool (signedIt L i)):=by
 refine ay (args:=[_,_]) _ Tryz.func64 rfl Tryz.ntmps64 rfl fun av bor w0=>?_
 refine bI (p:=s.n=L.length∧s.n≤maxLen∧(0<L.length→s.p.isSome=true)) (fun w h=>⟨h.1.len_,Qq (RowsD.cap h.1) (RowsD.max h.1),h.1.some_⟩) fun ⟨hsn,hsm,hsp⟩=>?_
 simp only [maxLen] at hsm
 have hri:=io i hs
 cases hrB:rightIt i with
 | false =>
  rw [hrB] at hri
  rw [show signedIt L i=false from by rw [signedIt,hrB];rfl]
  repeat' (first|apply ab|apply Qu|apply Qv|refine aj ?_|refine ad ?_|refine aH ?_|refine bN ?_|refine aN fun _=>?_|refine Qy ?_|apply ar|(refine ao (hc:=hri) (hX:=fun w h=>h.2) ?_)|fail)
  exact al (aq rfl rfl) rfl
 | true =>
 rw [hrB] at hri
 have hk:=d4 hrB
 by_cases h2:i.kind=2
 · rcases hk with h|h|h|h
   all_goals first|(exfalso;omega)|skip
   have h1:=h.2
   clear h
   obtain ⟨hl,hz⟩:=gd h1
   have hlo:0≤i.ballot.server:=(cH (by have:=h1;simp only [ballotR,ZM] at this;exact this.1)).1
   have hms:=ls (nm:=nameB) (by decide) (Qq (eL hz) (by decide))
   have hsg:=fun p:Int=>Rf4.refVerify_pu p (msgB i.ballot) i.ballot.e i.ballot.s (Qq hms (by decide))
   have hcm:=jR i.ballot hl hz
   by_cases hlt:i.ballot.server<(L.length:Nat)
   · have hsp':=hsp ae
     have e:signedIt L i=sgnB (L.getD i.ballot.server.toNat 0) i.ballot:=by rw [signedIt,hrB,ZA h2,ZC,ZA hlt,ZD,ZD]
     rw [e]
     have hget:∀ w,Ints w s L∧i.at_ w→CellAt w s.p i.ballot.server.toNat (.int .i64 (L.getD i.ballot.server.toNat 0)):=fun w h=>Ints.get h.1 ae
     have hsg1:Pu Tryz.prog 105 _ _ (.bool (sgnB (L.getD i.ballot.server.toNat 0) i.ballot)):=hsg (L.getD i.ballot.server.toNat 0)
     generalize L.getD i.ballot.server.toNat 0=pk at *
     repeat' (first|refine bm (hab:=by omega) ?_|apply ab|apply Qu|apply Qv|refine aj ?_|refine ad ?_|refine aA ?_|refine az ?_|refine aH ?_|refine bN ?_|refine aN fun _=>?_|refine Qy ?_|refine Qz ?_|apply Qx|apply Qw|(refine ao (hc:=hri) (hX:=fun w h=>h.2) ?_)|fail)
     rename_i b3
     (refine aU [cel b3 57 i.cells] (fun w=>Ints w s L∧i.at_ w) ak ?_)
     all_goals refine aa 0 ?_<;>refine aa 1 ?_<;>refine aa 2 ?_<;>refine aa 3 ?_<;>refine aa 4 ?_<;>(refine aa 5 (hy:=by (apply bK true;rfl;rfl;exact ZA ae)) ?_)<;>refine aa 6 ?_<;>refine aa 7 ?_<;>refine aa 8 ?_<;>refine aa 9 ?_<;>refine aa 10 ?_<;>(refine aa 11 (hy:=by (apply aL (q:=i.ballot.server.toNat);rfl;rfl;omega;omega;assumption;omega)) ?_)<;>(refine aa 12 (hy:=by (apply cW (q:=i.ballot.server.toNat) (u:=.int .i64 pk);rfl;exact hget)) ?_)<;>refine aa 13 ?_<;>(refine aa 14 (hy:=by (apply cF (vs:=i.ballot.cells);rfl;exact .head _;rfl;rfl)) ?_)<;>refine aa 16 ?_<;>refine aa 17 ?_<;>(refine aa 18 (hy:=by (apply cF (vs:=SgD.cells ⟨i.ballot.e,i.ballot.s⟩);rfl;exact .head _;rfl;rfl)) ?_)<;>(refine ag 15 ?_;(refine ao (hc:=hcm) (hX:=fun _ _=>trivial) ?_);apply ab;refine ai ?_)<;>(refine ag 19 ?_;(refine ao (hc:=hsg1) (hX:=fun _ _=>trivial) ?_);apply ab;refine ai ?_)<;>refine aa 20 ?_<;>refine aa 21 ?_<;>(refine ax ?_)
     all_goals
      repeat' (first|apply ar|fail)
      exact al (aq rfl rfl) rfl
   · have e:signedIt L i=false:=by rw [signedIt,hrB,ZA h2,ZC,Zn hlt];rfl
     rw [e]
     repeat' (first|refine bm (hab:=by omega) ?_|apply ab|apply Qu|apply Qv|refine aj ?_|refine ad ?_|refine aA ?_|refine az ?_|refine aH ?_|refine bN ?_|refine aN fun _=>?_|refine Qy ?_|refine Qz ?_|apply Qx|apply Qw|(refine ao (hc:=hri) (hX:=fun w h=>h.2) ?_)|fail)
     rename_i b3
     (refine aU [cel b3 57 i.cells] (fun w=>Ints w s L∧i.at_ w) ak ?_)
     all_goals refine aa 0 ?_<;>refine aa 1 ?_<;>refine aa 2 ?_<;>refine aa 3 ?_<;>refine aa 4 ?_<;>(refine aa 5 (hy:=by (apply bK false;rfl;rfl;exact Zn ae)) ?_)<;>refine aa 6 ?_<;>refine aC 7 ?_<;>refine aC 8 ?_<;>refine aC 9 ?_<;>refine aC 10 ?_<;>refine aC 11 ?_<;>refine aC 12 ?_<;>refine aC 13 ?_<;>refine aC 14 ?_<;>refine aC 16 ?_<;>refine aC 17 ?_<;>refine aC 18 ?_<;>(refine ag 15 ?_;(refine aK ?_);apply ab;refine ai ?_)<;>(refine ag 19 ?_;(refine aK ?_);apply ab;refine ai ?_)<;>refine aa 20 ?_<;>refine aa 21 ?_<;>(refine ax ?_)
     all_goals
      repeat' (first|apply ar|fail)
      exact al (aq rfl rfl) rfl
 by_cases h3:i.kind=3
 · rcases hk with h|h|h|h
   all_goals first|(exfalso;omega)|skip
   have h1:=h.2
   clear h
   obtain ⟨hl,hz⟩:=j1 hdn h1
   have hlo:0≤i.dec.server:=(cH (by have:=h1;simp only [decR,ZM] at this;exact this.1)).1
   have hms:=ls (nm:=nameD) (by decide) (Qq (eK hz) (by decide))
   have hsg:=fun p:Int=>Rf4.refVerify_pu p (msgD i.dec) i.dec.e i.dec.s (Qq hms (by decide))
   have hcm:=ip i.dec hl hz
   by_cases hlt:i.dec.server<(L.length:Nat)
   · have hsp':=hsp ae
     have e:signedIt L i=sgnD (L.getD i.dec.server.toNat 0) i.dec:=by rw [signedIt,hrB,Zn h2,ZB,ZA h3,ZC,ZA hlt,ZD,ZD]
     rw [e]
     have hget:∀ w,Ints w s L∧i.at_ w→CellAt w s.p i.dec.server.toNat (.int .i64 (L.getD i.dec.server.toNat 0)):=fun w h=>Ints.get h.1 ae
     have hsg1:Pu Tryz.prog 105 _ _ (.bool (sgnD (L.getD i.dec.server.toNat 0) i.dec)):=hsg (L.getD i.dec.server.toNat 0)
     generalize L.getD i.dec.server.toNat 0=pk at *
     repeat' (first|refine bm (hab:=by omega) ?_|refine bt (hab:=by omega) ?_|apply ab|apply Qu|apply Qv|refine aj ?_|refine ad ?_|refine aA ?_|refine az ?_|refine aH ?_|refine bN ?_|refine aN fun _=>?_|refine Qy ?_|refine Qz ?_|apply Qx|apply Qw|(refine ao (hc:=hri) (hX:=fun w h=>h.2) ?_)|fail)
     rename_i b3
     (refine aU [cel b3 57 i.cells] (fun w=>Ints w s L∧i.at_ w) ak ?_)
     all_goals refine aa 0 ?_<;>refine aa 1 ?_<;>refine aa 2 ?_<;>refine aa 3 ?_<;>refine aa 4 ?_<;>(refine aa 5 (hy:=by (apply bK true;rfl;rfl;exact ZA ae)) ?_)<;>refine aa 6 ?_<;>refine aa 7 ?_<;>refine aa 8 ?_<;>refine aa 9 ?_<;>refine aa 10 ?_<;>(refine aa 11 (hy:=by (apply aL (q:=i.dec.server.toNat);rfl;rfl;omega;omega;assumption;omega)) ?_)<;>(refine aa 12 (hy:=by (apply cW (q:=i.dec.server.toNat) (u:=.int .i64 pk);rfl;exact hget)) ?_)<;>refine aa 13 ?_<;>(refine aa 14 (hy:=by (apply cF (vs:=i.dec.cells);rfl;exact .head _;rfl;rfl)) ?_)<;>refine aa 16 ?_<;>refine aa 17 ?_<;>(refine aa 18 (hy:=by (apply cF (vs:=SgD.cells ⟨i.dec.e,i.dec.s⟩);rfl;exact .head _;rfl;rfl)) ?_)<;>(refine ag 15 ?_;(refine ao (hc:=hcm) (hX:=fun w h=>h.2.2) ?_);apply ab;refine ai ?_)<;>(refine ag 19 ?_;(refine ao (hc:=hsg1) (hX:=fun _ _=>trivial) ?_);apply ab;refine ai ?_)<;>refine aa 20 ?_<;>refine aa 21 ?_<;>(refine ax ?_)
     all_goals
      repeat' (first|apply ar|fail)
      exact al (aq rfl rfl) rfl
   · have e:signedIt L i=false:=by rw [signedIt,hrB,Zn h2,ZB,ZA h3,ZC,Zn hlt];rfl
     rw [e]
     repeat' (first|refine bm (hab:=by omega) ?_|refine bt (hab:=by omega) ?_|apply ab|apply Qu|apply Qv|refine aj ?_|refine ad ?_|refine aA ?_|refine az ?_|refine aH ?_|refine bN ?_|refine aN fun _=>?_|refine Qy ?_|refine Qz ?_|apply Qx|apply Qw|(refine ao (hc:=hri) (hX:=fun w h=>h.2) ?_)|fail)
     rename_i b3
     (refine aU [cel b3 57 i.cells] (fun w=>Ints w s L∧i.at_ w) ak ?_)
     all_goals refine aa 0 ?_<;>refine aa 1 ?_<;>refine aa 2 ?_<;>refine aa 3 ?_<;>refine aa 4 ?_<;>(refine aa 5 (hy:=by (apply bK false;rfl;rfl;exact Zn ae)) ?_)<;>refine aa 6 ?_<;>refine aC 7 ?_<;>refine aC 8 ?_<;>refine aC 9 ?_<;>refine aC 10 ?_<;>refine aC 11 ?_<;>refine aC 12 ?_<;>refine aC 13 ?_<;>refine aC 14 ?_<;>refine aC 16 ?_<;>refine aC 17 ?_<;>refine aC 18 ?_<;>(refine ag 15 ?_;(refine aK ?_);apply ab;refine ai ?_)<;>(refine ag 19 ?_;(refine aK ?_);apply ab;refine ai ?_)<;>refine aa 20 ?_<;>refine aa 21 ?_<;>(refine ax ?_)
     all_goals
      repeat' (first|apply ar|fail)
      exact al (aq rfl rfl) rfl
 have e:signedIt L i=true:=by rw [signedIt,hrB,Zn h2,Zn h3];rfl
 rw [e]
 repeat' (first|refine bt (hab:=by omega) ?_|apply ab|apply Qu|apply Qv|refine aj ?_|refine ad ?_|refine aA ?_|refine az ?_|refine aH ?_|refine bN ?_|refine aN fun _=>?_|refine Qz ?_|apply Qx|apply Qw|apply ar|(refine ao (hc:=hri) (hX:=fun w h=>h.2) ?_)|fail)
 exact al (aq rfl rfl) rfl
def badSv (L:List Int) (k:Nat):Bool:=decide (L.getD k 0<1)||decide (2305843009213693950<L.getD k 0)
def badKn (L:List Int) (I:List ItemD) (k:Nat):Bool:=!signedIt L (I.getD k ItemD.zero)||(decide (0<k)&&!ltB (digIt (I.getD (k-1) ItemD.zero)) (digIt (I.getD k ItemD.zero)))
def rightKn (L:List Int) (I:List ItemD):Bool:=decide (L.length≤20)&&(allB L.length (badSv L)&&allB I.length (badKn L I))
section
variable {P:Program} {N:Nat} {av bor:List Nat} {w0:World} {st:St} {ty:TypeId} {x y:Operand} {t t2:TypeId}
theorem yG {a b:ByteArray} (hx:ev st.env x=some (.string a)) (hy:ev st.env y=some (.string b)) (hab:ltB a b=false):Sy.Yields P N av bor w0 st (.binOp .geq t x y t2) ty (.bool true):=by
 have h:=qo (P:=P) (N:=N) (av:=av) (bor:=bor) (w0:=w0) (t:=t) (t2:=t2) (ty:=ty) hx hy
 rw [show Op.bytesLess a.toList b.toList=false from hab] at h
 exact h
end
set_option maxRecDepth 20000 in
set_option maxHeartbeats 16000000 in
theorem nI (ks ki:SlV) (L:List Int) (I:List ItemD) (hs:∀ i∈I,i.Str) (hdn:∀ i∈I,i.dec.to.n=i.dec.toL.length) :
  Pu Tryz.prog 31 #[.agg #[ks.v,ki.v]] (fun w=>Ints w ks L∧Items w ki I) (.bool (rightKn L I)):=by
 refine ay (args:=[_]) _ Tryz.func31 rfl Tryz.ntmps31 rfl fun av bor w0=>?_
 refine bI (p:=(ks.n=L.length∧ks.n≤maxLen∧(0<L.length→ks.p.isSome=true))∧(ki.n=I.length∧ki.n≤maxLen∧(0<I.length→ki.p.isSome=true))) (fun w h=>⟨⟨h.1.len_,Qq (RowsD.cap h.1) (RowsD.max h.1),h.1.some_⟩,h.2.len_,h.2.max_,h.2.some_⟩) fun ⟨⟨hn,hm,hp⟩,hin,him,hip⟩=>?_
 simp only [maxLen] at hm him
 repeat' (first|apply ab|apply Qu|apply Qv|refine ad ?_|refine aA ?_|refine az ?_|refine cK ?_|refine aY ?_|refine aN fun _=>?_|apply Qx|apply Qw|apply ar|(refine aG (ht:=?_) (hf:=?_);all_goals (intro hx_;first|have:=aP hx_|have:=aS hx_)))
 · refine al (aq rfl rfl) ?_
   rw [rightKn,Zn (by omega)]
   rfl
 rename_i b
 have h20:L.length≤20:=by omega
 rw [rightKn,ZA h20,ZD]
 refine aT (ι:=Upto L.length (badSv L)) (fun i=>⟨[(1,.pointer (some ⟨b,0,none⟩)),(3,.int .i64 (i.k:Nat))],[cel b 25 [ks.v,ki.v]],fun w=>Ints w ks L∧Items w ki I⟩) (fun i=>L.length-i.k) (Upto.zero _ _) (aw ⟨rfl,rfl,trivial⟩ (aE _) fun _ h=>h) fun i=>?_
 have hik:=i.hk
 by_cases hlt:i.k<L.length
 · have hks:=hp ae
   repeat' (first|apply ab|apply Qu|apply Qv|refine aj ?_|refine ad ?_|refine aA ?_|refine az ?_|refine aD ?_|refine aF ?_|refine bj ?_|refine cK ?_|refine aY ?_|refine be (h:=?_)|refine cb ?_|refine Qy ?_|apply Qx|apply Qw|apply ar|apply aQ|(refine bu (q:=i.k) ?_)|(refine dD (q:=i.k) (u:=.int .i64 (L.getD i.k 0)) (hF:=fun w h=>Ints.get h.1 hlt) ?_)|((fail_if_success (refine aZ ?_));refine aR (ht:=?_) (hf:=?_);all_goals (intro hx_;first|have:=aP hx_|have:=aS hx_))|(refine aG (ht:=?_) (hf:=?_);all_goals (intro hx_;first|have:=aP hx_|have:=aS hx_)))
   all_goals first
    | (exfalso;omega)
    | (refine al (aq rfl rfl) ?_;rw [dz (k:=i.k) hlt (by simp only [badSv, *,ZQ,ZO,ZC,ZB,ZE,ZD,ZH,ZG,ZK,ZI,ZP,ZJ,ZN,ZF]),ZG];done)
    | exact ⟨i.next hlt (by simp only [badSv, *,ZQ,ZO,ZC,ZB,ZE,ZD,ZH,ZG,ZK,ZI,ZP,ZJ,ZN,ZF]),(by show L.length-(i.k+1)<L.length-i.k;omega),aw ⟨rfl,rfl,trivial⟩ (aE _) fun _ h=>h⟩
 · rw [i.all hlt,ZD]
   repeat' (first|refine SrG.sy_lssF_g (hab:=by omega) (h:=?_)|apply ab|apply Qu|apply Qv|refine aj ?_|refine ad ?_|refine aA ?_|refine az ?_|refine aY ?_|refine Qz ?_|apply Qw|apply aQ|fail)
   refine aT (ι:=Upto I.length (badKn L I)) (fun j=>⟨[(1,.pointer (some ⟨b,0,none⟩)),(4,.int .i64 (j.k:Nat))],[cel b 25 [ks.v,ki.v]],fun w=>Ints w ks L∧Items w ki I⟩) (fun j=>I.length-j.k) (Upto.zero _ _) (aw ⟨rfl,rfl,trivial⟩ (aE _) fun _ h=>h) fun j=>?_
   have hjk:=j.hk
   by_cases hlj:j.k<I.length
   · have hki:=hip ae
     obtain ⟨x,hx⟩:∃ x,I[j.k]?=some x:=⟨_,Zm hlj⟩
     have hxm:=List.mem_of_getElem? hx
     have hxD:I.getD j.k ItemD.zero=x:=by rw [ZL,hx];rfl
     have hsg:=nG ks L x (hs x hxm) (hdn x hxm)
     have hdx:=gL x (hs x hxm) (hdn x hxm)
     cases hsB:signedIt L x with
     | false =>
      rw [hsB] at hsg
      have hbad:badKn L I j.k=true:=by rw [badKn,hxD,hsB];rfl
      repeat' (first|refine SrG.sy_lssT_g (hab:=by omega) (h:=?_)|apply ab|apply Qu|apply Qv|refine aj ?_|refine aA ?_|refine az ?_|refine aY ?_|refine Qy ?_|apply Qx|apply Qw|fail)
      (refine aU [cel b 25 [ks.v,ki.v]] (fun w=>Ints w ks L∧Items w ki I) ak ?_)
      all_goals refine aa 0 ?_<;>refine aa 1 ?_<;>refine aa 2 ?_<;>refine aa 3 ?_<;>refine aa 4 ?_<;>(refine aa 5 (hy:=by (apply aL (q:=j.k*49);rfl;rfl;omega;omega;assumption;omega)) ?_)<;>(refine aa 6 (hy:=by (apply dc (cs:=x.cells);rfl;exact (fun w h=>Items.get h.2 hx))) ?_)<;>(refine ag 7 ?_;(refine ao (hc:=hsg) (hX:=fun w h=>⟨h.1,h.2.2 x hxm⟩) ?_);apply ab;refine ai ?_)<;>refine aa 8 ?_<;>(refine ax ?_)
      all_goals
       repeat' (first|apply ab|apply Qu|apply Qv|refine ad ?_|refine Qy ?_|apply ar|fail)
       all_goals (refine al (aq rfl rfl) ?_;rw [dz hlj hbad])
     | true =>
      rw [hsB] at hsg
      by_cases h0:0<j.k
      · obtain ⟨y,hy⟩:∃ y,I[j.k-1]?=some y:=⟨_,Zm ae⟩
        have hym:=List.mem_of_getElem? hy
        have hyD:I.getD (j.k-1) ItemD.zero=y:=by rw [ZL,hy];rfl
        have hdy:=gL y (hs y hym) (hdn y hym)
        have hbq:badKn L I j.k=!ltB (digIt y) (digIt x):=by rw [badKn,hxD,hyD,hsB,ZA h0];rfl
        generalize digIt x=dx at *
        generalize digIt y=dy at *
        cases hlB:ltB dy dx with
        | true =>
         have hok:badKn L I j.k=false:=by rw [hbq,hlB];rfl
         repeat' (first|refine SrG.sy_lssT_g (hab:=by omega) (h:=?_)|apply ab|apply Qu|apply Qv|refine aj ?_|refine aA ?_|refine az ?_|refine aY ?_|refine Qy ?_|apply Qx|apply Qw|fail)
         (refine aU [cel b 25 [ks.v,ki.v]] (fun w=>Ints w ks L∧Items w ki I) ak ?_)
         all_goals refine aa 0 ?_<;>refine aa 1 ?_<;>refine aa 2 ?_<;>refine aa 3 ?_<;>refine aa 4 ?_<;>(refine aa 5 (hy:=by (apply aL (q:=j.k*49);rfl;rfl;omega;omega;assumption;omega)) ?_)<;>(refine aa 6 (hy:=by (apply dc (cs:=x.cells);rfl;exact (fun w h=>Items.get h.2 hx))) ?_)<;>(refine ag 7 ?_;(refine ao (hc:=hsg) (hX:=fun w h=>⟨h.1,h.2.2 x hxm⟩) ?_);apply ab;refine ai ?_)<;>refine aa 8 ?_<;>(refine ax ?_)
         all_goals
          repeat' (first|apply Qu|refine Qz ?_|apply Qx|fail)
          (refine aU [cel b 25 [ks.v,ki.v]] (fun w=>Ints w ks L∧Items w ki I) ak ?_)
          all_goals refine aa 0 ?_<;>(refine aa 1 (hy:=by (apply SrG.y_gtrT_g;rfl;rfl;omega)) ?_)<;>refine aa 2 ?_<;>refine aa 3 ?_<;>refine aa 4 ?_<;>refine aa 5 ?_<;>(refine aa 6 (hy:=by (apply Rf4.y_subM (q:=1);rfl;rfl;omega)) ?_)<;>(refine aa 7 (hy:=by (apply aL (q:=(j.k-1)*49);rfl;rfl;omega;omega;assumption;omega)) ?_)<;>(refine aa 8 (hy:=by (apply dc (cs:=y.cells);rfl;exact (fun w h=>Items.get h.2 hy))) ?_)<;>refine aa 10 ?_<;>refine aa 11 ?_<;>refine aa 12 ?_<;>(refine aa 13 (hy:=by (apply aL (q:=j.k*49);rfl;rfl;omega;omega;assumption;omega)) ?_)<;>(refine aa 14 (hy:=by (apply dc (cs:=x.cells);rfl;exact (fun w h=>Items.get h.2 hx))) ?_)<;>(refine ag 9 ?_;(refine ao (hc:=hdy) (hX:=fun w h=>h.2.2 y hym) ?_);apply ab;refine ai ?_)<;>(refine ag 15 ?_;(refine ao (hc:=hdx) (hX:=fun w h=>h.2.2 x hxm) ?_);apply ab;refine ai ?_)<;>(refine aa 16 (hy:=by (apply yH;rfl;rfl;exact hlB)) ?_)<;>refine aa 17 ?_<;>(refine ax ?_)
          all_goals
           repeat' (first|apply ab|apply Qv|refine aj ?_|refine ad ?_|refine be (h:=?_)|refine Qz ?_|apply Qx|fail)
           all_goals exact ⟨j.next hlj hok,(by show I.length-(j.k+1)<I.length-j.k;omega),aw ⟨rfl,rfl,trivial⟩ (aE _) fun _ h=>h⟩
        | false =>
         have hbad:badKn L I j.k=true:=by rw [hbq,hlB];rfl
         repeat' (first|refine SrG.sy_lssT_g (hab:=by omega) (h:=?_)|apply ab|apply Qu|apply Qv|refine aj ?_|refine aA ?_|refine az ?_|refine aY ?_|refine Qy ?_|apply Qx|apply Qw|fail)
         (refine aU [cel b 25 [ks.v,ki.v]] (fun w=>Ints w ks L∧Items w ki I) ak ?_)
         all_goals refine aa 0 ?_<;>refine aa 1 ?_<;>refine aa 2 ?_<;>refine aa 3 ?_<;>refine aa 4 ?_<;>(refine aa 5 (hy:=by (apply aL (q:=j.k*49);rfl;rfl;omega;omega;assumption;omega)) ?_)<;>(refine aa 6 (hy:=by (apply dc (cs:=x.cells);rfl;exact (fun w h=>Items.get h.2 hx))) ?_)<;>(refine ag 7 ?_;(refine ao (hc:=hsg) (hX:=fun w h=>⟨h.1,h.2.2 x hxm⟩) ?_);apply ab;refine ai ?_)<;>refine aa 8 ?_<;>(refine ax ?_)
         all_goals
          repeat' (first|apply Qu|refine Qz ?_|apply Qx|fail)
          (refine aU [cel b 25 [ks.v,ki.v]] (fun w=>Ints w ks L∧Items w ki I) ak ?_)
          all_goals refine aa 0 ?_<;>(refine aa 1 (hy:=by (apply SrG.y_gtrT_g;rfl;rfl;omega)) ?_)<;>refine aa 2 ?_<;>refine aa 3 ?_<;>refine aa 4 ?_<;>refine aa 5 ?_<;>(refine aa 6 (hy:=by (apply Rf4.y_subM (q:=1);rfl;rfl;omega)) ?_)<;>(refine aa 7 (hy:=by (apply aL (q:=(j.k-1)*49);rfl;rfl;omega;omega;assumption;omega)) ?_)<;>(refine aa 8 (hy:=by (apply dc (cs:=y.cells);rfl;exact (fun w h=>Items.get h.2 hy))) ?_)<;>refine aa 10 ?_<;>refine aa 11 ?_<;>refine aa 12 ?_<;>(refine aa 13 (hy:=by (apply aL (q:=j.k*49);rfl;rfl;omega;omega;assumption;omega)) ?_)<;>(refine aa 14 (hy:=by (apply dc (cs:=x.cells);rfl;exact (fun w h=>Items.get h.2 hx))) ?_)<;>(refine ag 9 ?_;(refine ao (hc:=hdy) (hX:=fun w h=>h.2.2 y hym) ?_);apply ab;refine ai ?_)<;>(refine ag 15 ?_;(refine ao (hc:=hdx) (hX:=fun w h=>h.2.2 x hxm) ?_);apply ab;refine ai ?_)<;>(refine aa 16 (hy:=by (apply yG;rfl;rfl;exact hlB)) ?_)<;>refine aa 17 ?_<;>(refine ax ?_)
          all_goals
           repeat' (first|apply ab|apply Qu|apply Qv|refine ad ?_|refine Qy ?_|apply ar|fail)
           all_goals (refine al (aq rfl rfl) ?_;rw [dz hlj hbad])
      · have hok:badKn L I j.k=false:=by rw [badKn,hxD,hsB,Zn h0];rfl
        repeat' (first|refine SrG.sy_lssT_g (hab:=by omega) (h:=?_)|apply ab|apply Qu|apply Qv|refine aj ?_|refine aA ?_|refine az ?_|refine aY ?_|refine Qy ?_|apply Qx|apply Qw|fail)
        (refine aU [cel b 25 [ks.v,ki.v]] (fun w=>Ints w ks L∧Items w ki I) ak ?_)
        all_goals refine aa 0 ?_<;>refine aa 1 ?_<;>refine aa 2 ?_<;>refine aa 3 ?_<;>refine aa 4 ?_<;>(refine aa 5 (hy:=by (apply aL (q:=j.k*49);rfl;rfl;omega;omega;assumption;omega)) ?_)<;>(refine aa 6 (hy:=by (apply dc (cs:=x.cells);rfl;exact (fun w h=>Items.get h.2 hx))) ?_)<;>(refine ag 7 ?_;(refine ao (hc:=hsg) (hX:=fun w h=>⟨h.1,h.2.2 x hxm⟩) ?_);apply ab;refine ai ?_)<;>refine aa 8 ?_<;>(refine ax ?_)
        all_goals
         repeat' (first|apply Qu|refine Qz ?_|apply Qx|fail)
         (refine aU [cel b 25 [ks.v,ki.v]] (fun w=>Ints w ks L∧Items w ki I) ak ?_)
         all_goals refine aa 0 ?_<;>(refine aa 1 (hy:=by (apply SrG.y_gtrF_g;rfl;rfl;omega)) ?_)<;>refine aa 2 ?_<;>refine aC 3 ?_<;>refine aC 4 ?_<;>refine aC 5 ?_<;>refine aC 6 ?_<;>refine aC 7 ?_<;>refine aC 8 ?_<;>refine aC 10 ?_<;>refine aC 11 ?_<;>refine aC 12 ?_<;>refine aC 13 ?_<;>refine aC 14 ?_<;>(refine ag 9 ?_;(refine aK ?_);apply ab;refine ai ?_)<;>(refine ag 15 ?_;(refine aK ?_);apply ab;refine ai ?_)<;>refine aC 16 ?_<;>refine aa 17 ?_<;>(refine ax ?_)
         all_goals
          repeat' (first|apply ab|apply Qv|refine aj ?_|refine ad ?_|refine be (h:=?_)|refine Qz ?_|apply Qx|fail)
          all_goals exact ⟨j.next hlj hok,(by show I.length-(j.k+1)<I.length-j.k;omega),aw ⟨rfl,rfl,trivial⟩ (aE _) fun _ h=>h⟩
   · rw [j.all hlj]
     repeat' (first|refine SrG.sy_lssF_g (hab:=by omega) (h:=?_)|apply ab|apply Qu|apply Qv|refine aj ?_|refine ad ?_|refine aA ?_|refine az ?_|refine aY ?_|refine Qz ?_|apply ar|apply aQ|fail)
     all_goals first
      | exact al (aq rfl rfl) rfl
theorem rC {l:List ByteArray} (h:∀ k (hk:k+1<l.length),ltB (l[k]'(by omega)) l[k+1]=true):Asc l:=by
 have key:∀ d i (hj:i+d+1<l.length),ltB (l[i]'(by omega)) l[i+d+1]=true:=by
  intro d
  induction d with
  | zero=>exact fun i hj=>h i hj
  | succ d ih =>
   intro i hj
   exact jd (ih i ae) (h (i+d+1) hj)
 refine List.pairwise_iff_getElem.2 fun i j hi hj hij=>?_
 obtain ⟨d,rfl⟩:∃ d,j=i+d+1:=⟨j-i-1,by omega⟩
 exact key d i hj
theorem ld {L:List Int} {I:List ItemD} (h:rightKn L I=true):∀ i∈I,signedIt L i=true:=fun i hi=>by
 rw [rightKn,ZM,ZM] at h
 obtain ⟨k,hk⟩:=List.mem_iff_getElem?.1 hi
 obtain ⟨hlt,e⟩:=List.getElem?_eq_some_iff.1 hk
 have h1:=iJ h.2.2 hlt
 have e2:I.getD k ItemD.zero=i:=by rw [ZL,hk];rfl
 rw [badKn,e2,Bool.or_eq_false_iff,Bool.not_eq_false'] at h1
 exact h1.1
theorem o9 {L:List Int} {I:List ItemD} (h:rightKn L I=true):Asc (I.map digIt):=by
 rw [rightKn,ZM,ZM] at h
 refine rC fun k hk=>?_
 rw [Z3] at hk
 have h1:=iJ h.2.2 hk
 rw [badKn,Bool.or_eq_false_iff] at h1
 have h2:=h1.2
 rw [ZA ae,ZD,Bool.not_eq_false',ZL,ZL,Nat.add_sub_cancel,Zm hk,Zm (show k<I.length by omega)] at h2
 rw [List.getElem_map,List.getElem_map]
 exact h2
theorem BZ {L:List Int} {I:List ItemD} (h:rightKn L I=true) (hl:I.length≤100) (hr:∀ i∈I,i.act.Rng) (hs:∀ i∈I,i.act.Sm) (hd:∀ i∈I,i.dec.to.n=i.dec.toL.length):KnR L I where
 sv:=by
  rw [rightKn,ZM] at h
  exact aP h.1
 len:=hl
 rng:=hr
 sm:=hs
 dn:=hd
 right:=fun i hi=>by
  have h1:=ld h i hi
  rw [signedIt,ZM] at h1
  exact h1.1
 asc:=o9 h
structure DupI (p:Nat) where
 k:Nat
 hk:k≤p
 at0:Int
theorem vd {I:List ItemD} {d:ByteArray}:(∃ x∈I,digIt x=d)→∃ (p:Nat) (x0:ItemD),I[p]?=some x0∧digIt x0=d∧∀ (j:Nat) (y:ItemD),j<p→I[j]?=some y→seqB (digIt y) d=false:=by
 induction I with
 | nil=>rintro ⟨x,hx,_⟩;cases hx
 | cons a I ih =>
  rintro ⟨x,hx,e⟩
  by_cases ha:digIt a=d
  · exact ⟨0,a,rfl,ha,fun j y hj=>absurd hj (Nat.not_lt_zero _)⟩
  · rcases List.mem_cons.1 hx with rfl|hx
    · exact absurd e ha
    · obtain ⟨p,x0,h1,h2,h3⟩:=ih ⟨x,hx,e⟩
      refine ⟨p+1,x0,h1,h2,fun j y hj hy=>?_⟩
      cases j with
      | zero =>
       obtain rfl:a=y:=by simpa using hy
       cases hs:seqB (digIt a) d with
       | false=>rfl
       | true=>exact absurd (seqB_iff.1 hs) ha
      | succ j=>exact h3 j y ae hy
theorem rq {a:ActD} (h:rightB a=true):seqB (digV a) ⟨#[]⟩=false:=by
 have h1:(numV 0).size=1:=by decide +kernel
 have h2:seqB (bytesV a) ⟨#[]⟩=false:=by
  cases hs:seqB (bytesV a) ⟨#[]⟩ with
  | false=>rfl
  | true =>
   have h3:=congrArg ByteArray.size (seqB_iff.1 hs)
   rw [bytesV,h,ZC,Zl,h1] at h3
   change 1+_=0 at h3
   omega
 cases hs:seqB (digV a) ⟨#[]⟩ with
 | false=>rfl
 | true =>
  have h3:=congrArg ByteArray.size (seqB_iff.1 hs)
  rw [digV,h2,ZB,iS] at h3
  cases h3
structure FndI (p:Nat) where
 k:Nat
 hk:k≤p
 it:ItemD
set_option maxHeartbeats 16000000 in
theorem nY (ks ki:SlV) (I:List ItemD) (hr:∀ i∈I,i.act.Rng) (hd:∀ i∈I,i.dec.to.n=i.dec.toL.length) (hI:I.length≤1000) (d:ByteArray) (hn:seqB d ⟨#[]⟩=false)
  (p:Nat) (x0:ItemD) (hp:I[p]?=some x0) (he:digIt x0=d) (hno:∀ (j:Nat) (y:ItemD),j<p→I[j]?=some y→seqB (digIt y) d=false) :
  Pu Tryz.prog 57 #[.agg #[ks.v,ki.v],.string d] (fun w=>Items w ki I∧Glob w) (.tuple #[x0.v,.bool true]):=by
 refine ay (args:=[_,_]) _ Tryz.func57 rfl Tryz.ntmps57 rfl fun av bor w0=>?_
 have hD:=fun x (hx:x∈I)=>fi x (hr x hx) (hd x hx)
 have hplt:=(List.getElem?_eq_some_iff.1 hp).1
 refine bI (p:=ki.n=I.length∧ki.n≤maxLen∧(0<I.length→ki.p.isSome=true)) (fun w h=>⟨h.1.len_,h.1.max_,h.1.some_⟩) fun ⟨hkn,hkm,hkp⟩=>?_
 simp only [maxLen] at hkm
 have hkp':=hkp ae
 clear hr hd
 repeat' (first|refine am (dj false rfl rfl hn) rfl aB rfl ?_|apply ab|apply Qu|apply Qv|refine aj ?_|refine ad ?_|refine aA ?_|refine az ?_|refine aY ?_|refine aM fun _=>?_|refine aN fun _=>?_|refine Qz ?_|apply Qx|apply Qw|fail)
 rename_i b2 b4
 refine aT (ι:=FndI p) (fun i=>⟨[(1,.string d),(2,.pointer (some ⟨b2,0,none⟩)),(4,.pointer (some ⟨b4,0,none⟩)),(5,.bool false),(12,ki.v),(13,.int .i64 (ki.n:Nat)),(14,.int .i64 (i.k:Nat))],[cel b4 57 ItemD.zero.cells,cel b2 25 [ks.v,ki.v]],fun w=>Items w ki I∧Glob w⟩) (fun i=>p-i.k) ⟨0,Nat.zero_le _,ItemD.zero⟩ (aw ⟨rfl,rfl,rfl,rfl,rfl,rfl,rfl,trivial⟩ (aE _) fun _ h=>h) fun i=>?_
 obtain ⟨k,hk,it⟩:=i
 simp only
 obtain ⟨x,hx⟩:∃ x,I[k]?=some x:=⟨_,Zm ae⟩
 have hxm:=List.mem_of_getElem? hx
 have hDx:=hD x hxm
 by_cases hkp2:k=p
 · obtain rfl:x=x0:=by rw [hkp2,hp] at hx;exact (Option.some.inj hx).symm
   rw [he] at hDx
   have hdd:seqB d d=true:=bL _
   repeat' (first|refine am (bK true rfl rfl (ZA ae)) rfl aB rfl ?_|refine am (dj true rfl rfl hdd) rfl aB rfl ?_|apply ab|apply Qu|apply Qv|refine aj ?_|refine ad ?_|refine aH ?_|refine aM fun _=>?_|refine aJ ?_|refine Qy ?_|apply Qx|apply Qw|apply ar|(refine bu (q:=k*49) ?_)|(refine co (cs:=x.cells) (hF:=fun w h=>h.1.get hx) ?_)|(refine ao (hc:=hDx) (hX:=fun w h=>⟨h.1.2 x hxm,h.2⟩) ?_)|fail)
   all_goals first
    | exact al (dF rfl rfl rfl bX (by rfl)) rfl
 · have hne:=hno k x ae hx
   repeat' (first|refine am (bK true rfl rfl (ZA ae)) rfl aB rfl ?_|refine am (dj false rfl rfl hne) rfl aB rfl ?_|apply ab|apply Qu|apply Qv|refine aj ?_|refine aH ?_|refine be (h:=?_)|refine aM fun _=>?_|refine aJ ?_|refine Qy ?_|refine Qz ?_|apply Qx|apply Qw|(refine bu (q:=k*49) ?_)|(refine co (cs:=x.cells) (hF:=fun w h=>h.1.get hx) ?_)|(refine ao (hc:=hDx) (hX:=fun w h=>⟨h.1.2 x hxm,h.2⟩) ?_)|fail)
   all_goals first
    | exact ⟨(⟨k+1,by omega,x⟩:FndI p),(by show p-(k+1)<p-k;omega),aw ⟨rfl,rfl,rfl,rfl,rfl,rfl,rfl,trivial⟩ (.cons _ (aE _)) fun _ h=>h⟩
theorem pO (ks ki:SlV) (I:List ItemD) (hr:∀ i∈I,i.act.Rng) (hd:∀ i∈I,i.dec.to.n=i.dec.toL.length) (hI:I.length≤1000) (d:ByteArray) (hn:seqB d ⟨#[]⟩=false) (hx:∃ x∈I,digIt x=d) :
  Pu Tryz.prog 25 #[.agg #[ks.v,ki.v],.string d] (fun w=>Items w ki I∧Glob w) (.bool true):=by
 obtain ⟨p,x0,h1,h2,h3⟩:=vd hx
 refine ay (args:=[_,_]) _ Tryz.func25 rfl Tryz.ntmps25 rfl fun av bor w0=>?_
 repeat' (first|apply ab|apply Qu|apply Qv|refine aj ?_|refine ad ?_|refine aH ?_|refine bM ?_|refine aM fun _=>?_|refine aN fun _=>?_|refine aJ ?_|apply ar|(refine ao (hc:=nY ks ki I hr hd hI d hn p x0 h1 h2 h3) (hX:=fun w h=>h) ?_)|fail)
 all_goals first
  | exact al (aq rfl rfl) rfl
theorem rr:Pu Tryz.prog 43 #[.slice none 0 0] (fun _=>True) (.slice none 0 0):=by
 refine ay (args:=[_]) _ Tryz.func43 rfl Tryz.ntmps43 rfl fun av bor w0=>?_
 repeat' (first|refine kQ ?_|apply ab|apply Qu|apply Qv|refine aj ?_|refine ad ?_|refine bU fun _=>?_|apply Qx|apply ar|(refine aG (ht:=?_) (hf:=?_);all_goals (intro hx_;skip)))
 all_goals first
  | exact al (aq rfl rfl) rfl
  | exact absurd hx_ (by decide)
theorem sH:Pu Tryz.prog 17 #[.slice none 0 0] (fun _=>True) (.agg #[.slice none 0 0,.slice none 0 0]):=by
 refine ay (args:=[_]) _ Tryz.func17 rfl Tryz.ntmps17 rfl fun av bor w0=>?_
 repeat' (first|apply ab|apply Qu|apply Qv|refine aj ?_|refine aM fun _=>?_|refine aJ ?_|apply ar|(refine ao (hc:=rr) (hX:=fun _ _=>trivial) ?_)|(refine br (cs:=[.slice none 0 0,.slice none 0 0]) (hf:=by rfl) ?_)|fail)
 exact al (dm rfl rfl bX (by rfl)) rfl
theorem itemsNil (w:World):Items w ⟨none,0,0⟩ []:=⟨cD w 49,fun i hi=>absurd hi (by simp)⟩
theorem chainsNil0 (w:World):Chains w ⟨none,0,0⟩ []:=⟨cD w 6,fun i hi=>absurd hi (by simp)⟩
def chZ0 (id:ByteArray):ChainD:=⟨id,⟨none,0,0⟩,⟨none,0,0⟩,⟨#[]⟩,0,false,[]⟩
theorem te (id:ByteArray) (w:World):(chZ0 id).at_ w∧Keyz w (chZ0 id).keys []:=⟨⟨cD w 20,fun i hi=>(List.not_mem_nil hi).elim⟩,cD w 3⟩
set_option maxRecDepth 20000 in
set_option maxHeartbeats 8000000 in
theorem qD:Pu Tryz.prog 7 #[] Glob (.bool true):=by
 refine ay (args:=[]) _ Tryz.func7 rfl Tryz.ntmps7 rfl fun av bor w0=>?_
 have hof:=fun au=>sG ⟨none,0,0⟩ ⟨none,0,0⟩ sO au
 have hall:=yA (QK [] []) ⟨none,0,0⟩ ⟨none,0,0⟩ [] [] (by simp) hof
 have hids:compB (sortB (authI []))=[]:=by decide +kernel
 rw [hids] at hall
 repeat' (first|apply ab|apply Qu|apply Qv|refine aj ?_|refine ad ?_|refine aH ?_|refine aM fun _=>?_|refine aJ ?_|(refine ao (hc:=sH) (hX:=fun _ _=>trivial) ?_)|(refine dA (hc:=hof _) (hX:=fun w h=>⟨⟨cD w 1,itemsNil w⟩,h⟩) fun v X1 h1=>?_;obtain ⟨c,kl,hQ,rfl,hw1⟩:=h1)|fail)
 obtain ⟨hcA,rfl,hcp,hcg,hcf,hci⟩:=BT hQ
 have G:=sT sO hQ
 refine jX (p:=c.acts.n=0) (fun w h=>by have:=(hw1 w h.2).1.len_;rw [hcA] at this;exact this) fun hcn=>?_
 have hseq:(c.acts.n:Int)=0:=by omega
 have hia:seqB c.id ⟨#[48,49,50,51,52,53,54,55,56,57,97,98,99,100,101,102]⟩=true:=by rw [hci];exact bL _
 have hip:seqB c.prev ⟨#[]⟩=true:=by rw [hcp];exact bL _
 have hdr:=ym c 0 7
 have hkey:Pu Tryz.prog 11 #[c.v,.int .i64 0] (fun w=>c.at_ w∧Keyz w c.keys []) (.tuple #[KeyD.zero.v,.bool false]):=by
  have h1:=jK c [] 0
  have e:keyV c.acts.n [] 0=none:=by rw [keyV];cases (decide ((0:Int)<0)||decide ((c.acts.n:Int)<0))<;>rfl
  rw [e] at h1
  exact h1
 have hidx:Pu Tryz.prog 13 #[c.v,.string ⟨#[]⟩] (fun w=>c.at_ w∧Glob w) (.tuple #[.int .i64 0,.bool false]):=by
  have h1:=pS c G.ok ⟨#[]⟩
  have e:idxV c.actsL ⟨#[]⟩=none:=by rw [hcA];rfl
  rw [e] at h1
  exact h1
 have hfind:Pu Tryz.prog 21 #[.slice none 0 0,.string ⟨#[48,49,50,51,52,53,54,55,56,57,97,98,99,100,101,102]⟩] (fun w=>Chains w ⟨none,0,0⟩ []) (.tuple #[ChainD.zero.v,.bool false]):=AJ ⟨none,0,0⟩ [] _
 have hsame:=ut c (chZ0 ⟨#[48,49,50,51,52,53,54,55,56,57,97,98,99,100,101,102]⟩) [] ⟨hci,hcp,hcg,hcf,by rw [hcA];rfl⟩ (fun x hx=>by rw [hcA] at hx;exact (List.not_mem_nil hx).elim)
 clear hcA hcp hcg hcf hci
 repeat' (first|refine am (dj true rfl rfl (by first|exact hia|exact hip)) rfl aB rfl ?_|refine bm (hab:=by first|exact hseq|rfl|omega) ?_|apply ab|apply Qu|apply Qv|refine aj ?_|refine ad ?_|refine aA ?_|refine az ?_|refine aH ?_|refine aD ?_|refine bN ?_|refine aY ?_|refine bM ?_|refine aM fun _=>?_|refine aJ ?_|apply ar|(refine ao (hc:=hdr) (hX:=fun _ _=>trivial) ?_)|(refine ao (hc:=hkey) (hX:=fun w h=>hw1 w h.2) ?_)|(refine ao (hc:=hidx) (hX:=fun w h=>⟨(hw1 w h.2).1,h.1⟩) ?_)|(refine ao (hc:=hfind) (hX:=fun w h=>chainsNil0 w) ?_)|(refine ao (hc:=hsame) (hX:=fun w h=>⟨hw1 w h.2,te _ w⟩) ?_)|(refine br (cs:=(chZ0 ⟨#[48,49,50,51,52,53,54,55,56,57,97,98,99,100,101,102]⟩).cells) (hf:=by rfl) ?_)|(refine ao (hc:=sH) (hX:=fun _ _=>trivial) ?_)|(refine dA (hc:=hall) (hX:=fun w h=>⟨⟨cD w 1,itemsNil w⟩,h.1⟩) fun v X2 h2=>?_;obtain ⟨s,M,hM,rfl,hws⟩:=h2;cases hM;refine jX (p:=s.n=0) (fun w h=>(hws w h.2).1.len_) fun hsn=>?_)|fail)
 all_goals first
  | exact al (aq rfl rfl) rfl
theorem qs {P:Program} {N:Nat} {av bor:List Nat} {w0:World} {st:St} {t t2 ty:TypeId} {x y:Operand} {k:IntKind} {a b:Int} [hI:TyInt P t k] (v:Bool) (hx:ev st.env x=some (.int k a)) (hy:ev st.env y=some (.int k b)) (hv:decide (a≤b)=v):Sy.Yields P N av bor w0 st (.binOp .leq t x y t2) ty (.bool v):=hv▸rM hx hy
set_option maxRecDepth 20000 in
set_option maxHeartbeats 16000000 in
theorem nW (ks ki:SlV) (L:List Int) (I:List ItemD) (c:ChainD) (kl:List KeyD) (hlen:c.actsL.length≤100) (hkl:kl.length≤1000) (i j:Nat) (g:Int) (p:ByteArray) (x y:KeyD) (a:ActD) (hx:kl[j]?=some x) (hxi:x.from_=(i:Int)) (h1:1≤i) (h2:i≤c.actsL.length)
  (ha:c.actsL[i-1]?=some a) (hk:a.kind=18) (hn:a.n=x.public_) (hm:a.m=x.home) (hj:0<j) (hy:kl[j-1]?=some y) (hyf:y.from_<(i:Int)) :
  Pu Tryz.prog 23 #[.agg #[ks.v,ki.v],c.v,.int .i64 (j:Nat),.int .i64 g,.string p] (fun w=>((Ints w ks L∧Items w ki I)∧Glob w)∧c.at_ w∧Keyz w c.keys kl) (.tuple #[.string p,.int .i64 g,.bool true]):=by
 refine ay (args:=[_,_,_,_,_]) _ Tryz.func23 rfl Tryz.ntmps23 rfl fun av bor w0=>?_
 refine bI (p:=(c.acts.n=c.actsL.length∧(0<c.actsL.length→c.acts.p.isSome=true))∧(c.keys.n=kl.length∧(0<kl.length→c.keys.p.isSome=true))) (fun w h=>⟨⟨h.2.1.len_,h.2.1.some_⟩,(Keyz.know w h.2.2).1,(Keyz.know w h.2.2).2.2⟩) fun ⟨⟨hcn,hcp⟩,hkn,hkp⟩=>?_
 have hjl:=(List.getElem?_eq_some_iff.1 hx).1
 have hcp':=hcp ae
 have hkp':=hkp ae
 clear hcp hkp
 repeat' (first|apply ab|apply Qu|apply Qv|refine aj ?_|refine ad ?_|refine aA ?_|refine az ?_|refine aM fun _=>?_|refine aN fun _=>?_|refine aJ ?_|(refine bu (q:=j*3) ?_)|(refine co (cs:=x.cells) (hF:=fun w h=>Keyz.get h.2.2 hx) ?_)|fail)
 rename_i b5 b6 b13
 (refine aU [cel b13 35 x.cells,cel b6 31 c.cells,cel b5 25 [ks.v,ki.v]] (fun w=>((Ints w ks L∧Items w ki I)∧Glob w)∧c.at_ w∧Keyz w c.keys kl) ak ?_)
 all_goals refine aa 0 ?_<;>refine aa 1 ?_<;>(refine aa 2 (hy:=by (apply fb true;rfl;rfl;exact ZA ae)) ?_)<;>refine aa 3 ?_<;>refine aa 4 ?_<;>refine aa 5 ?_<;>refine aa 6 ?_<;>refine aa 7 ?_<;>refine aa 8 ?_<;>(refine aa 9 (hy:=by (apply qs true;rfl;rfl;exact ZA ae)) ?_)<;>refine aa 10 ?_<;>refine aa 11 ?_<;>refine aa 12 ?_<;>refine aa 13 ?_<;>refine aa 14 ?_<;>refine aa 15 ?_<;>refine aa 16 ?_<;>(refine aa 17 (hy:=by (apply aL (q:=(i-1)*20);rfl;rfl;omega;omega;assumption;omega)) ?_)<;>(refine aa 18 (hy:=by (apply cV;rfl;assumption;rfl)) ?_)<;>(refine aa 19 (hy:=by (apply cW (q:=(i-1)*20+3) (u:=.int .i64 a.kind);rfl;exact fun w h=>(Acts.get h.2.1 ha).2.2 3 _ rfl)) ?_)<;>(refine aa 20 (hy:=by (apply de true;rfl;rfl;exact ZA (by exact hk))) ?_)<;>refine aa 21 ?_<;>refine aa 22 ?_<;>refine aa 23 ?_<;>refine aa 24 ?_<;>refine aa 25 ?_<;>refine aa 26 ?_<;>refine aa 27 ?_<;>(refine aa 28 (hy:=by (apply aL (q:=(i-1)*20);rfl;rfl;omega;omega;assumption;omega)) ?_)<;>(refine aa 29 (hy:=by (apply cV;rfl;assumption;rfl)) ?_)<;>(refine aa 30 (hy:=by (apply cW (q:=(i-1)*20+16) (u:=.int .i64 a.n);rfl;exact fun w h=>(Acts.get h.2.1 ha).2.2 16 _ rfl)) ?_)<;>refine aa 31 ?_<;>refine aa 32 ?_<;>(refine aa 33 (hy:=by (apply de true;rfl;rfl;exact ZA (by exact hn))) ?_)<;>refine aa 34 ?_<;>refine aa 35 ?_<;>refine aa 36 ?_<;>refine aa 37 ?_<;>refine aa 38 ?_<;>refine aa 39 ?_<;>refine aa 40 ?_<;>(refine aa 41 (hy:=by (apply aL (q:=(i-1)*20);rfl;rfl;omega;omega;assumption;omega)) ?_)<;>(refine aa 42 (hy:=by (apply cV;rfl;assumption;rfl)) ?_)<;>(refine aa 43 (hy:=by (apply cW (q:=(i-1)*20+17) (u:=.int .i64 a.m);rfl;exact fun w h=>(Acts.get h.2.1 ha).2.2 17 _ rfl)) ?_)<;>refine aa 44 ?_<;>refine aa 45 ?_<;>(refine aa 46 (hy:=by (apply de true;rfl;rfl;exact ZA (by exact hm))) ?_)<;>refine aa 47 ?_<;>refine aa 48 ?_<;>refine aa 49 ?_<;>(refine aa 50 (hy:=by (apply de false;rfl;rfl;exact Zn ae)) ?_)<;>refine aa 51 ?_<;>refine aa 52 ?_<;>refine aa 53 ?_<;>refine aa 54 ?_<;>refine aa 55 ?_<;>(refine aa 56 (hy:=by (apply aL (q:=(j-1)*3);rfl;rfl;omega;omega;assumption;omega)) ?_)<;>(refine aa 57 (hy:=by (apply cV;rfl;assumption;rfl)) ?_)<;>(refine aa 58 (hy:=by (apply cW (q:=(j-1)*3) (u:=.int .i64 y.from_);rfl;exact fun w h=>(Keyz.get h.2.2 hy).2.2 0 _ rfl)) ?_)<;>refine aa 59 ?_<;>refine aa 60 ?_<;>(refine aa 61 (hy:=by (apply bK true;rfl;rfl;exact ZA ae)) ?_)<;>refine aa 62 ?_<;>refine aa 63 ?_<;>(refine ax ?_)
 all_goals first
  | exact al (lg rfl rfl rfl rfl) rfl
  | skip
 all_goals
  repeat' (first|apply ab|apply Qu|apply Qv|refine aj ?_|refine ad ?_|refine Qy ?_|apply ar|fail)
  all_goals first
   | exact al (lg rfl rfl rfl rfl) rfl
structure LnkI (i:Nat) where
 k:Nat
 hk:k≤i
set_option maxRecDepth 20000 in
set_option maxHeartbeats 16000000 in
theorem nX (ks ki:SlV) (L:List Int) (I:List ItemD) (c:ChainD) (kl:List KeyD) (hlen:c.actsL.length≤100) (hkl:kl.length≤1000) (i j g:Nat) (hg:g≤100000) (p d:ByteArray) (x y:KeyD) (a:ActD) (cl:ClaimD) (hx:kl[j]?=some x) (hxi:x.from_=(i:Int)) (h1:1≤i) (h2:i≤c.actsL.length)
  (ha:c.actsL[i-1]?=some a) (hj:0<j) (hy:kl[j-1]?=some y) (hky:a.kind=18→y.from_=(i:Int)) (hb:cl.base=(i:Int)) (hp:cl.pub=x.public_) (hh:cl.home=x.home) (hv:cl.prev=p)
  (hw:Pu Tryz.prog 51 #[.agg #[ks.v,ki.v],.string c.id,.int .i64 (g:Nat)] (fun w=>(Ints w ks L∧Items w ki I)∧Glob w) (.tuple #[cl.v,.bool true]))
  (hc:Pu Tryz.prog 52 #[.int .i64 (pubS c.actsL i),cl.v] (fun w=>(Ints w ks L∧Items w ki I)∧Glob w) (.bool true))
  (hd:Pu Tryz.prog 14 #[(ofClaimI cl).v] (fun w=>(Ints w ks L∧Items w ki I)∧Glob w) (.string d)) :
  Pu Tryz.prog 23 #[.agg #[ks.v,ki.v],c.v,.int .i64 (j:Nat),.int .i64 (g:Nat),.string p] (fun w=>((Ints w ks L∧Items w ki I)∧Glob w)∧c.at_ w∧Keyz w c.keys kl) (.tuple #[.string d,.int .i64 ((g:Nat)+1),.bool true]):=by
 refine ay (args:=[_,_,_,_,_]) _ Tryz.func23 rfl Tryz.ntmps23 rfl fun av bor w0=>?_
 refine bI (p:=(c.acts.n=c.actsL.length∧(0<c.actsL.length→c.acts.p.isSome=true))∧(c.keys.n=kl.length∧(0<kl.length→c.keys.p.isSome=true))) (fun w h=>⟨⟨h.2.1.len_,h.2.1.some_⟩,(Keyz.know w h.2.2).1,(Keyz.know w h.2.2).2.2⟩) fun ⟨⟨hcn,hcp⟩,hkn,hkp⟩=>?_
 have hjl:=(List.getElem?_eq_some_iff.1 hx).1
 have hcp':=hcp ae
 have hkp':=hkp ae
 clear hcp hkp
 repeat' (first|apply ab|apply Qu|apply Qv|refine aj ?_|refine ad ?_|refine aA ?_|refine az ?_|refine aM fun _=>?_|refine aN fun _=>?_|refine aJ ?_|(refine bu (q:=j*3) ?_)|(refine co (cs:=x.cells) (hF:=fun w h=>Keyz.get h.2.2 hx) ?_)|fail)
 rename_i b5 b6 b13
 refine iD (ι:=Unit) (fun _=>⟨[(3,.int .i64 (g:Nat)),(4,.string p),(5,.pointer (some ⟨b5,0,none⟩)),(6,.pointer (some ⟨b6,0,none⟩)),(13,.pointer (some ⟨b13,0,none⟩)),(87,.bool false)],[cel b13 35 x.cells,cel b6 31 c.cells,cel b5 25 [ks.v,ki.v]],fun w=>((Ints w ks L∧Items w ki I)∧Glob w)∧c.at_ w∧Keyz w c.keys kl⟩) ?_ fun _=>?_
 · have hsp:¬ a.kind=18∨(a.kind=18∧¬ a.n=x.public_)∨(a.kind=18∧a.n=x.public_∧¬ a.m=x.home)∨(a.kind=18∧a.n=x.public_∧a.m=x.home∧y.from_=(i:Int)):=by
    by_cases q1:a.kind=18
    · by_cases q2:a.n=x.public_
      · by_cases q3:a.m=x.home
        · exact .inr (.inr (.inr ⟨q1,q2,q3,hky q1⟩))
        · exact .inr (.inr (.inl ⟨q1,q2,q3⟩))
      · exact .inr (.inl ⟨q1,q2⟩)
    · exact .inl q1
   clear hky hw hc hd
   rcases hsp with q1|⟨q1,q2⟩|⟨q1,q2,q3⟩|⟨q1,q2,q3,q4⟩
   all_goals
    (refine aU [cel b13 35 x.cells,cel b6 31 c.cells,cel b5 25 [ks.v,ki.v]] (fun w=>((Ints w ks L∧Items w ki I)∧Glob w)∧c.at_ w∧Keyz w c.keys kl) ak ?_)
    all_goals refine aa 0 ?_<;>refine aa 1 ?_<;>(refine aa 2 (hy:=by (apply fb true;rfl;rfl;exact ZA ae)) ?_)<;>refine aa 3 ?_<;>refine aa 4 ?_<;>refine aa 5 ?_<;>refine aa 6 ?_<;>refine aa 7 ?_<;>refine aa 8 ?_<;>(refine aa 9 (hy:=by (apply qs true;rfl;rfl;exact ZA ae)) ?_)<;>refine aa 10 ?_<;>refine aa 11 ?_<;>refine aa 12 ?_<;>refine aa 13 ?_<;>refine aa 14 ?_<;>refine aa 15 ?_<;>refine aa 16 ?_<;>(refine aa 17 (hy:=by (apply aL (q:=(i-1)*20);rfl;rfl;omega;omega;assumption;omega)) ?_)<;>(refine aa 18 (hy:=by (apply cV;rfl;assumption;rfl)) ?_)<;>(refine aa 19 (hy:=by (apply cW (q:=(i-1)*20+3) (u:=.int .i64 a.kind);rfl;exact fun w h=>(Acts.get h.2.1 ha).2.2 3 _ rfl)) ?_)<;>(refine aa 20 (hy:=by first|(apply de true;rfl;rfl;exact ZA (by assumption))|(apply de false;rfl;rfl;exact Zn (by assumption))) ?_)<;>refine aa 21 ?_<;>refine aa 22 ?_<;>(first|(refine aa 23 ?_)|(refine aC 23 ?_))<;>(first|(refine aa 24 ?_)|(refine aC 24 ?_))<;>(first|(refine aa 25 ?_)|(refine aC 25 ?_))<;>(first|(refine aa 26 ?_)|(refine aC 26 ?_))<;>(first|(refine aa 27 ?_)|(refine aC 27 ?_))<;>(first|(refine aa 28 (hy:=by (apply aL (q:=(i-1)*20);rfl;rfl;omega;omega;assumption;omega)) ?_)|(refine aC 28 ?_))<;>(first|(refine aa 29 (hy:=by (apply cV;rfl;assumption;rfl)) ?_)|(refine aC 29 ?_))<;>(first|(refine aa 30 (hy:=by (apply cW (q:=(i-1)*20+16) (u:=.int .i64 a.n);rfl;exact fun w h=>(Acts.get h.2.1 ha).2.2 16 _ rfl)) ?_)|(refine aC 30 ?_))<;>(first|(refine aa 31 ?_)|(refine aC 31 ?_))<;>(first|(refine aa 32 ?_)|(refine aC 32 ?_))<;>(first|(refine aa 33 (hy:=by first|(apply de true;rfl;rfl;exact ZA (by assumption))|(apply de false;rfl;rfl;exact Zn (by assumption))) ?_)|(refine aC 33 ?_))<;>refine aa 34 ?_<;>refine aa 35 ?_<;>(first|(refine aa 36 ?_)|(refine aC 36 ?_))<;>(first|(refine aa 37 ?_)|(refine aC 37 ?_))<;>(first|(refine aa 38 ?_)|(refine aC 38 ?_))<;>(first|(refine aa 39 ?_)|(refine aC 39 ?_))<;>(first|(refine aa 40 ?_)|(refine aC 40 ?_))<;>(first|(refine aa 41 (hy:=by (apply aL (q:=(i-1)*20);rfl;rfl;omega;omega;assumption;omega)) ?_)|(refine aC 41 ?_))<;>(first|(refine aa 42 (hy:=by (apply cV;rfl;assumption;rfl)) ?_)|(refine aC 42 ?_))<;>(first|(refine aa 43 (hy:=by (apply cW (q:=(i-1)*20+17) (u:=.int .i64 a.m);rfl;exact fun w h=>(Acts.get h.2.1 ha).2.2 17 _ rfl)) ?_)|(refine aC 43 ?_))<;>(first|(refine aa 44 ?_)|(refine aC 44 ?_))<;>(first|(refine aa 45 ?_)|(refine aC 45 ?_))<;>(first|(refine aa 46 (hy:=by first|(apply de true;rfl;rfl;exact ZA (by assumption))|(apply de false;rfl;rfl;exact Zn (by assumption))) ?_)|(refine aC 46 ?_))<;>refine aa 47 ?_<;>refine aa 48 ?_<;>(first|(refine aa 49 ?_)|(refine aC 49 ?_))<;>(first|(refine aa 50 (hy:=by (apply de false;rfl;rfl;exact Zn ae)) ?_)|(refine aC 50 ?_))<;>(first|(refine aa 51 ?_)|(refine aC 51 ?_))<;>(first|(refine aa 52 ?_)|(refine cI 52 ?_))<;>(first|(refine aa 53 ?_)|(refine cI 53 ?_))<;>(first|(refine aa 54 ?_)|(refine cI 54 ?_))<;>(first|(refine aa 55 ?_)|(refine cI 55 ?_))<;>(first|(refine aa 56 (hy:=by (apply aL (q:=(j-1)*3);rfl;rfl;omega;omega;assumption;omega)) ?_)|(refine cI 56 ?_))<;>(first|(refine aa 57 (hy:=by (apply cV;rfl;assumption;rfl)) ?_)|(refine cI 57 ?_))<;>(first|(refine aa 58 (hy:=by (apply cW (q:=(j-1)*3) (u:=.int .i64 y.from_);rfl;exact fun w h=>(Keyz.get h.2.2 hy).2.2 0 _ rfl)) ?_)|(refine cI 58 ?_))<;>(first|(refine aa 59 ?_)|(refine cI 59 ?_))<;>(first|(refine aa 60 ?_)|(refine cI 60 ?_))<;>(first|(refine aa 61 (hy:=by (apply bK false;rfl;rfl;exact Zn ae)) ?_)|(refine cI 61 ?_))<;>(first|(refine aa 62 ?_)|(refine aC 62 ?_))<;>refine aa 63 ?_<;>(refine ax ?_)
    all_goals exact ⟨(),aw ⟨rfl,rfl,rfl,rfl,rfl,rfl,trivial⟩ (aE _) fun _ h=>h⟩
 · clear hky ha hy
   repeat' (first|apply ab|apply Qu|apply Qv|refine aj ?_|refine ad ?_|refine aA ?_|refine az ?_|refine aH ?_|refine bM ?_|refine aM fun _=>?_|refine aJ ?_|refine Qz ?_|apply Qx|apply Qw|(refine ao (hc:=hw) (hX:=fun w h=>h.1) ?_)|fail)
   rename_i b14
   refine aT (ι:=LnkI i) (fun m=>⟨[(3,.int .i64 (g:Nat)),(4,.string p),(5,.pointer (some ⟨b5,0,none⟩)),(6,.pointer (some ⟨b6,0,none⟩)),(13,.pointer (some ⟨b13,0,none⟩)),(14,.pointer (some ⟨b14,0,none⟩)),(15,.bool true),(16,.int .i64 (pubS c.actsL m.k)),(17,.int .i64 (m.k:Nat))],[cel b14 51 cl.cells,cel b13 35 x.cells,cel b6 31 c.cells,cel b5 25 [ks.v,ki.v]],fun w=>((Ints w ks L∧Items w ki I)∧Glob w)∧c.at_ w∧Keyz w c.keys kl⟩) (fun m=>i-m.k) ⟨0,Nat.zero_le _⟩ (aw ⟨rfl,rfl,rfl,rfl,rfl,rfl,rfl,rfl,rfl,trivial⟩ (aE _) fun _ h=>h) fun m=>?_
   obtain ⟨k,hk⟩:=m
   simp only
   by_cases hlt:k<i
   · obtain ⟨z,hz⟩:∃ z,c.actsL[k]?=some z:=⟨_,Zm ae⟩
     have hst:=uI hz
     obtain ⟨q,hq⟩:∃ q,pubS c.actsL (k+1)=q:=⟨_,rfl⟩
     rw [hq] at hst
     by_cases h19:z.kind=19
     · rw [Qf h19] at hst
       repeat' (first|refine am (bK true rfl rfl (ZA ae)) rfl aB rfl ?_|refine dD (q:=k*20+3) (u:=.int .i64 z.kind) (hF:=fun w h=>(Acts.get h.2.1 hz).2.2 3 _ rfl) ?_|refine dD (q:=k*20+17) (u:=.int .i64 z.m) (hF:=fun w h=>(Acts.get h.2.1 hz).2.2 17 _ rfl) ?_|refine bm (hab:=h19) ?_|apply ab|apply Qu|apply Qv|refine aj ?_|refine ad ?_|refine aA ?_|refine az ?_|refine aD ?_|refine aY ?_|refine be (h:=?_)|refine Qy ?_|apply Qx|apply Qw|(refine bu (q:=k*20) ?_)|(refine eA ?_)|fail)
       all_goals first
        | exact ⟨(⟨k+1,hlt⟩:LnkI i),(by show i-(k+1)<i-k;omega),aw ⟨rfl,rfl,rfl,rfl,rfl,rfl,rfl,congrArg (fun z=>some (Value.int .i64 z)) (hst.symm.trans hq.symm),rfl,trivial⟩ (aE _) fun _ h=>h⟩
     · rw [Qg h19] at hst
       repeat' (first|refine am (bK true rfl rfl (ZA ae)) rfl aB rfl ?_|refine dD (q:=k*20+3) (u:=.int .i64 z.kind) (hF:=fun w h=>(Acts.get h.2.1 hz).2.2 3 _ rfl) ?_|refine bt (hab:=h19) ?_|apply ab|apply Qu|apply Qv|refine aj ?_|refine ad ?_|refine aA ?_|refine az ?_|refine aD ?_|refine aY ?_|refine be (h:=?_)|refine Qy ?_|refine Qz ?_|apply Qx|apply Qw|(refine bu (q:=k*20) ?_)|(refine eA ?_)|fail)
       all_goals first
        | exact ⟨(⟨k+1,hlt⟩:LnkI i),(by show i-(k+1)<i-k;omega),aw ⟨rfl,rfl,rfl,rfl,rfl,rfl,rfl,congrArg (fun z=>some (Value.int .i64 z)) (hst.symm.trans hq.symm),rfl,trivial⟩ (aE _) fun _ h=>h⟩
   · obtain rfl:k=i:=by omega
     have hpp:seqB cl.prev p=true:=by rw [hv];exact bL _
     repeat' (first|refine am (bK false rfl rfl (Zn ae)) rfl aB rfl ?_|refine bm (hab:=by first|exact hp|exact hh|exact hb.trans hxi.symm) ?_|refine am (dj true rfl rfl hpp) rfl aB rfl ?_|apply ab|apply Qu|apply Qv|refine aj ?_|refine ad ?_|refine aA ?_|refine az ?_|refine aH ?_|refine aD ?_|refine aF ?_|refine be (h:=?_)|refine aK ?_|refine Qz ?_|apply ar|apply aQ|(refine ao (hc:=hc) (hX:=fun w h=>h.1) ?_)|(refine ao (hc:=fg cl) (hX:=fun _ _=>trivial) ?_)|(refine ao (hc:=hd) (hX:=fun w h=>h.1) ?_)|fail)
     all_goals first
      | exact al (lg rfl rfl rfl rfl) rfl
theorem Items.sub {w:World} {s:SlV} {l:List ItemD} (h:Items w s l) {k off n:Nat} {x:ItemD} {cs:List Value} (hx:l[k]?=some x) (hc:(x.cells.drop off).take n=cs) (hn:cs.length=n) :
  cs.length=n∧s.p.isSome=true∧∀ j u,cs[j]?=some u→CellAt w s.p (k*49+off+j) u:=by
 refine ⟨hn,(h.get hx).2.1,fun j u hu=>?_⟩
 have h1:x.cells[off+j]?=some u:=by
  rw [←hc,List.getElem?_take] at hu
  split at hu
  · rw [List.getElem?_drop] at hu
    exact hu
  · cases hu
 rw [Z7]
 exact (h.get hx).2.2 (off+j) u h1
def bigIt (i:ItemD):Bool:=decide (8<(i.act.to.n:Int))||decide (8<(i.act.wraps.n:Int))||decide (8<(i.dec.to.n:Int))||decide (600<(i.act.text.size:Int))||decide (600<(i.act.body.data.size:Int))||decide (600<(i.dec.text.size:Int))
def badFw (I:List ItemD) (k:Nat):Bool:=bigIt (I.getD k ItemD.zero)
def fewB (L:List Int) (I:List ItemD):Bool:=!(decide (40<(I.length:Int))||decide (20<(L.length:Int)))&&(allB I.length (badFw I)&&rightKn L I)
set_option maxRecDepth 20000 in
set_option maxHeartbeats 16000000 in
theorem Cd (ks ki:SlV) (L:List Int) (I:List ItemD) (hs:∀ i∈I,i.Str) (hdn:∀ i∈I,i.dec.to.n=i.dec.toL.length) :
  Pu Tryz.prog 8 #[.agg #[ks.v,ki.v]] (fun w=>Ints w ks L∧Items w ki I) (.bool (fewB L I)):=by
 refine ay (args:=[_]) _ Tryz.func8 rfl Tryz.ntmps8 rfl fun av bor w0=>?_
 refine bI (p:=(ks.n=L.length∧ks.n≤maxLen∧(0<L.length→ks.p.isSome=true))∧(ki.n=I.length∧ki.n≤maxLen∧(0<I.length→ki.p.isSome=true))) (fun w h=>⟨⟨h.1.len_,Qq (RowsD.cap h.1) (RowsD.max h.1),h.1.some_⟩,h.2.len_,h.2.max_,h.2.some_⟩) fun ⟨⟨hn,hm,hp⟩,hin,him,hip⟩=>?_
 simp only [maxLen] at hm him
 have hkr:=nI ks ki L I hs hdn
 clear hs hdn
 by_cases h40:I.length≤40∧L.length≤20
 · have e:fewB L I=(allB I.length (badFw I)&&rightKn L I):=by rw [fewB,Zn ae,Zn (by omega)];rfl
   rw [e]
   repeat' (first|apply ab|apply Qu|apply Qv|refine aj ?_|refine ad ?_|refine aA ?_|refine az ?_|refine aD ?_|refine aF ?_|refine cK ?_|refine aY ?_|refine cb ?_|refine aN fun _=>?_|refine Qy ?_|apply Qx|apply Qw|apply ar|((fail_if_success (refine aZ ?_));refine aR (ht:=?_) (hf:=?_);all_goals (intro hx_;first|have:=aP hx_|have:=aS hx_))|(refine aG (ht:=?_) (hf:=?_);all_goals (intro hx_;first|have:=aP hx_|have:=aS hx_)))
   all_goals try (exfalso;omega)
   all_goals try (exfalso;simp at *;omega)
   rename_i b _ _
   refine aT (ι:=Upto I.length (badFw I)) (fun j=>⟨[(1,.pointer (some ⟨b,0,none⟩)),(3,.int .i64 (j.k:Nat))],[cel b 25 [ks.v,ki.v]],fun w=>Ints w ks L∧Items w ki I⟩) (fun j=>I.length-j.k) (Upto.zero _ _) (aw ⟨rfl,rfl,trivial⟩ (aE _) fun _ h=>h) fun j=>?_
   have hjk:=j.hk
   by_cases hlt:j.k<I.length
   · have hki:=hip ae
     obtain ⟨x,hx⟩:∃ x,I[j.k]?=some x:=⟨_,Zm hlt⟩
     have hxm:=List.mem_of_getElem? hx
     have hxD:I.getD j.k ItemD.zero=x:=by rw [ZL,hx];rfl
     have hbf:badFw I j.k=bigIt x:=by rw [badFw,hxD]
     repeat' (first|refine SrG.sy_lssT_g (hab:=by omega) (h:=?_)|apply ab|apply Qu|apply Qv|refine aj ?_|refine ad ?_|refine aA ?_|refine az ?_|refine aD ?_|refine aF ?_|refine cK ?_|refine bT ?_|refine aY ?_|refine be (h:=?_)|refine cb ?_|refine aM fun _=>?_|refine aJ ?_|refine Qy ?_|apply Qx|apply Qw|apply ar|(refine bu (q:=j.k*49) ?_)|(refine eA ?_)|(refine co (cs:=x.act.cells) (hF:=fun w h=>Items.sub (off:=1) h.2 hx rfl rfl) ?_)|(refine co (cs:=x.dec.cells) (hF:=fun w h=>Items.sub (off:=37) h.2 hx rfl rfl) ?_)|((fail_if_success (refine aZ ?_));refine aR (ht:=?_) (hf:=?_);all_goals (intro hx_;first|have:=aP hx_|have:=aS hx_))|(refine aG (ht:=?_) (hf:=?_);all_goals (intro hx_;first|have:=aP hx_|have:=aS hx_)))
     all_goals first
      | (refine al (aq rfl rfl) ?_;rw [dz hlt (by rw [hbf];simp only [bigIt, *,ZQ,ZO,ZC,ZB,ZE,ZD,ZH,ZG,ZK,ZI,ZP,ZJ,ZN,ZF]),ZG];done)
      | exact ⟨j.next hlt (by rw [hbf];simp only [bigIt, *,ZQ,ZO,ZC,ZB,ZE,ZD,ZH,ZG,ZK,ZI,ZP,ZJ,ZN,ZF]),(by show I.length-(j.k+1)<I.length-j.k;omega),aw ⟨rfl,rfl,trivial⟩ (List.Sublist.cons _ (List.Sublist.cons _ (aE _))) fun _ h=>h⟩
   · rw [j.all hlt,ZD]
     repeat' (first|refine SrG.sy_lssF_g (hab:=by omega) (h:=?_)|apply ab|apply Qu|apply Qv|refine aj ?_|refine ad ?_|refine aA ?_|refine az ?_|refine aH ?_|refine aY ?_|refine Qz ?_|apply ar|apply aQ|(refine ao (hc:=hkr) (hX:=fun w h=>h) ?_)|fail)
     all_goals first
      | exact al (aq rfl rfl) rfl
 · have e:fewB L I=false:=by
    rw [fewB]
    by_cases h1:I.length≤40
    · rw [ZA (show 20<(L.length:Int) by omega),ZP]
      rfl
    · rw [ZA (show 40<(I.length:Int) by omega),ZJ]
      rfl
   rw [e]
   repeat' (first|apply ab|apply Qu|apply Qv|refine aj ?_|refine ad ?_|refine aA ?_|refine az ?_|refine aD ?_|refine aF ?_|refine cK ?_|refine aY ?_|refine cb ?_|refine aN fun _=>?_|refine Qy ?_|apply Qx|apply Qw|apply ar|((fail_if_success (refine aZ ?_));refine aR (ht:=?_) (hf:=?_);all_goals (intro hx_;first|have:=aP hx_|have:=aS hx_))|(refine aG (ht:=?_) (hf:=?_);all_goals (intro hx_;first|have:=aP hx_|have:=aS hx_)))
   all_goals first
    | (exfalso;omega)
    | exact al (aq rfl rfl) rfl
theorem AL {L:List Int} {I:List ItemD} (h:fewB L I=true):I.length≤40∧rightKn L I=true∧∀ i∈I,bigIt i=false:=by
 rw [fewB,ZM,ZM,Bool.not_eq_true',Bool.or_eq_false_iff] at h
 refine ⟨by have:=aS h.1.1;omega,h.2.2,fun i hi=>?_⟩
 obtain ⟨k,hk⟩:=List.mem_iff_getElem?.1 hi
 obtain ⟨hlt,_⟩:=List.getElem?_eq_some_iff.1 hk
 have h1:=iJ h.2.1 hlt
 rw [badFw,ZL,hk] at h1
 exact h1
theorem Af {L:List Int} {I:List ItemD} (h:fewB L I=true) (hs:∀ i∈I,i.Str) (hd:∀ i∈I,i.dec.to.n=i.dec.toL.length):KnR L I:=by
 obtain ⟨h1,h2,h3⟩:=AL h
 refine BZ h2 ae (fun i hi=>(hs i hi).rng) (fun i hi=>?_) hd
 have h4:=h3 i hi
 simp only [bigIt,Bool.or_eq_false_iff,decide_eq_false_iff_not] at h4
 obtain ⟨⟨⟨⟨⟨g1,g2⟩,_⟩,_⟩,_⟩,_⟩:=h4
 exact ⟨by omega,by omega,(hs i hi).act.target⟩
theorem gi {P:Program} {N:Nat} {av bor:List Nat} {w0:World} {st:St} {t ty:TypeId} {x:Operand} {b:Bool} (v:Bool) (hx:ev st.env x=some (.bool b)) (hv:(!b)=v):Sy.Yields P N av bor w0 st (.unOp .not t x) ty (.bool v):=hv▸rJ hx
structure CutN (len:Nat) where
 k:Nat
 h1:1≤k
 h2:k≤len∨k=1
theorem Scan.le {W:OfW} {f:ChS} {i j:Nat} {p:ByteArray} {g:Nat} (h:Scan W f i j p g):i≤f.acts.length:=by
 rcases h.next with ⟨x,_,_,_,h1,_⟩|⟨_,a,h1,_⟩|⟨h1,_⟩
 · exact h1
 · exact Nat.le_of_lt (List.getElem?_eq_some_iff.1 h1).1
 · omega
theorem Cv {L:List Int} {I:List ItemD} {au:ByteArray} {c:ChainD} {kl:List KeyD} (q:QK L I au c kl):c.id=au:=by
 obtain ⟨A,sa,sk,st,fork,h1,h2,h3,h4⟩:=q
 rw [h3]
theorem uU {c:ChainD} {kl:List KeyD} {i:Nat} {y:KeyD} (hl:c.acts.n=c.actsL.length) (hi:i≤c.actsL.length) (h:(cutK kl i).getLast?=some y):keyV c.acts.n kl (i:Nat)=some y:=by
 have h1:keyV c.acts.n kl (i:Nat)=keyF kl (i:Nat) kl.length:=by
  rw [keyV,Zn ae,Zn (by omega)]
  rfl
 have h2:=jF kl (i:Nat) kl.length (Qp _)
 rw [List.take_length] at h2
 rw [h1,h2]
 exact h
structure HoI (W:OfW) (f:ChS) where
 i:Nat
 j:Nat
 g:Nat
 p:ByteArray
 h:Scan W f i j p g
structure HiI (W:OfW) (f:ChS) (i:Nat) where
 j:Nat
 g:Nat
 p:ByteArray
 h:Scan W f i j p g
structure CntI (n:Nat) where
 k:Nat
 hk:k≤n
theorem vD {P:Program} {N:Nat} {av bor:List Nat} {w0:World} {st:St} {t t2 ty:TypeId} {x y:Operand} {p q:Bool} [hI:TyBool P t] (v:Bool) (hx:ev st.env x=some (.bool p)) (hy:ev st.env y=some (.bool q)) (hv:(p==q)=v):Sy.Yields P N av bor w0 st (.binOp .eql t x y t2) ty (.bool v):=hv▸vC hx hy
theorem yv {α:Type} (l:List α) (q:α→Bool) {k:Nat} {z:α} (h:l[k]?=some z):((l.take (k+1)).filter q).length=((l.take k).filter q).length+(bif q z then 1 else 0):=by
 rw [List.take_add_one,h,Option.toList_some,List.filter_append,ZX]
 cases hq:q z with
 | true=>simp [hq]
 | false=>simp [hq]
structure HolF (ks ki:SlV) (L:List Int) (I:List ItemD) (c:ChainD) (f:ChS) (W:OfW):Prop where
 won:∀ g cl,W.won g=some cl→g≤100000∧Pu Tryz.prog 51 #[.agg #[ks.v,ki.v],.string c.id,.int .i64 (g:Nat)] (fun w=>(Ints w ks L∧Items w ki I)∧Glob w) (.tuple #[cl.v,.bool true]) ∧
  (∀ p,Pu Tryz.prog 52 #[.int .i64 p,cl.v] (fun w=>(Ints w ks L∧Items w ki I)∧Glob w) (.bool (W.clm p cl))) ∧
  Pu Tryz.prog 14 #[(ofClaimI cl).v] (fun w=>(Ints w ks L∧Items w ki I)∧Glob w) (.string (W.dgC cl))
 sel:∀ a∈W.L,a∈selA c.id rightIt I
 ver:∀ a∈W.L,∀ p,Pu Tryz.prog 24 #[.int .i64 p,a.v] (fun w=>a.at_ w∧Glob w) (.bool (W.ver p a))
 cnt:∀ A':List ActD,A'.Perm (selA c.id rightIt I)→(A'.filter (nextB c f.key)).length=(candL W f).length
 acts:Mk Tryz.prog 26 #[.agg #[ks.v,ki.v],.string c.id] (fun w=>(Ints w ks L∧Items w ki I)∧Glob w) (fun u X'=>∃ (s:SlV) (A':List ActD),u=s.v∧A'.Perm (selA c.id rightIt I)∧∀ w,X' w→Acts w s A')
theorem Am (ks ki:SlV) {L:List Int} {I:List ItemD} (h:KnR L I) {A:List ActD} {c:ChainD} {f:ChS} (hA:A.Perm (selA c.id rightIt I)) (e1:c.actsL=f.acts) (e3:c.prev=f.prev) (e4:c.acts.n=c.actsL.length):HolF ks ki L I c f ((OfWK L.length I c.id).at A):=by
 have H:=pH mx ks ki h c.id
 refine ⟨fun g cl hw=>?_,fun a ha=>hA.subset ha,fun a ha p=>H.ver A hA a ha p,fun A' hA'=>rt hA hA' e1 e3 rfl e4,H.acts⟩
 have hw':(OfWK L.length I c.id).won g=some cl:=hw
 have hb:=H.bnd g cl hw'
 have hB:=H.bB
 have h3:=H.won g (Nat.le_of_lt hb)
 rw [hw'] at h3
 exact ⟨by omega,h3,fun p=>H.clm g cl hw' p,H.dg g cl hw'⟩
set_option maxRecDepth 20000 in
set_option maxHeartbeats 16000000 in
theorem mj (ks ki:SlV) (L:List Int) (I:List ItemD) (hs:∀ i∈I,i.Str) (hd:∀ i∈I,i.dec.to.n=i.dec.toL.length) (au:ByteArray) :
  Pu Tryz.prog 5 #[.agg #[ks.v,ki.v],.string au] (fun w=>(Ints w ks L∧Items w ki I)∧Glob w) (.bool true):=by
 have hsm:=qD
 have hfw:=Cd ks ki L I hs hd
 refine ay (args:=[_,_]) _ Tryz.func5 rfl Tryz.ntmps5 rfl fun av bor w0=>?_
 cases hfB:fewB L I with
 | false =>
  rw [hfB] at hfw
  repeat' (first|apply ab|apply Qu|apply Qv|refine aj ?_|refine ad ?_|refine aH ?_|refine bN ?_|refine aN fun _=>?_|refine Qy ?_|apply ar|(refine ao (hc:=hsm) (hX:=fun w h=>h.2) ?_)|(refine ao (hc:=hfw) (hX:=fun w h=>h.1) ?_)|fail)
  exact al (aq rfl rfl) rfl
 | true =>
  rw [hfB] at hfw
  have hK:=Af hfB hs hd
  repeat' (first|refine bt (hab:=by omega) ?_|refine bm (hab:=by omega) ?_|apply ab|apply Qu|apply Qv|refine aj ?_|refine ad ?_|refine aA ?_|refine az ?_|refine aH ?_|refine aD ?_|refine aF ?_|refine bN ?_|refine cC ?_|refine eQ ?_|refine aY ?_|refine aM fun _=>?_|refine aN fun _=>?_|refine aJ ?_|refine Qy ?_|refine Qz ?_|apply Qx|apply ar|(refine ao (hc:=hsm) (hX:=fun w h=>h.2) ?_)|(refine ao (hc:=hfw) (hX:=fun w h=>h.1) ?_)|(refine dA (hc:=sG ks ki hK au) (hX:=fun w h=>h) fun v X1 h1=>?_;obtain ⟨c,kl,hQ,rfl,hw1⟩:=h1;refine cS (X':=fun w=>((Ints w ks L∧Items w ki I)∧Glob w)∧c.at_ w∧Keyz w c.keys kl) (fun w h=>⟨h.1,hw1 w h.2⟩) ?_;refine jX (p:=(c.acts.n=c.actsL.length∧c.acts.n≤maxLen∧(0<c.actsL.length→c.acts.p.isSome=true))∧c.keys.n=kl.length∧(0<kl.length→c.keys.p.isSome=true)) (fun w h=>⟨⟨h.2.1.len_,h.2.1.max_,h.2.1.some_⟩,(Keyz.know w h.2.2).1,(Keyz.know w h.2.2).2.2⟩) fun ⟨⟨hcn,hcm,hcp⟩,hkn,hkp⟩=>?_;have hci:=Cv hQ;have he1:seqB c.id au=true:=(by rw [hci];exact bL _);have hne:(!seqB c.id au)=false:=(by rw [he1];rfl);rcases Nat.eq_zero_or_pos c.actsL.length with h0|h0;(obtain ⟨z1,z2,z3,z4⟩:=zU hK hQ h0;have he2:seqB c.prev ⟨#[]⟩=true:=(by rw [z2];exact bL _);have z5:c.keys.n=0:=(by rw [hkn,z1];rfl)))|fail)
  · exact al (aq rfl rfl) (congrArg Value.bool he2)
  rename_i b2 hq b6
  clear hq
  obtain ⟨A,f,a0,hA,e1,e2,e3,e4,e5,e6,hsc,ha0,hk0,hid,hpr⟩:=zT hK hQ h0
  subst e2
  have G:=sT hK hQ
  have hlen:=G.len
  have hklen:=G.klen
  have ha0':c.actsL[0]?=some a0:=by rw [e1];exact ha0
  have hk00:=(List.getElem?_eq_some_iff.1 hk0).1
  have hcp':=hcp h0
  have hkp':=hkp hk00
  clear hcp hkp hsm hfw hfB hw1 hs hd hne he1
  have h7a:(!seqB au au)=false:=by rw [bL];rfl
  have h7b:(!seqB a0.prev ⟨#[]⟩)=false:=by rw [hpr,bL];rfl
  have hido:=ga a0.n (G.ok.rng a0 (List.mem_of_getElem? ha0')).ints.2.2.2.2.2.1
  rw [hid] at hido
  (refine aU [cel b6 31 c.cells,cel b2 25 [ks.v,ki.v]] (fun w=>((Ints w ks L∧Items w ki I)∧Glob w)∧c.at_ w∧Keyz w c.keys f.keys) ak ?_)
  all_goals refine aa 0 ?_<;>refine aa 1 ?_<;>refine aa 2 ?_<;>(refine aa 3 (hy:=by (apply de false;rfl;rfl;exact Zn ae)) ?_)<;>refine aa 4 ?_<;>refine aa 5 ?_<;>refine aa 6 ?_<;>(refine aa 7 (hy:=by (apply aL (q:=0);rfl;rfl;omega;omega;assumption;omega)) ?_)<;>(refine aa 8 (hy:=by (apply cV;rfl;assumption;rfl)) ?_)<;>(refine aa 9 (hy:=by (apply cW (q:=0*3+1) (u:=.int .i64 a0.n);rfl;exact fun w h=>(Keyz.get h.2.2 hk0).2.2 1 _ rfl)) ?_)<;>refine aa 11 ?_<;>(refine ag 10 ?_;(refine ao (hc:=hido) (hX:=fun w h=>h.1.2) ?_);apply ab;refine ai ?_)<;>(refine aa 12 (hy:=by (apply eP false;rfl;rfl;exact h7a)) ?_)<;>refine aa 13 ?_<;>refine aa 14 ?_<;>refine aa 15 ?_<;>refine aa 16 ?_<;>(refine aa 17 (hy:=by (apply aL (q:=0);rfl;rfl;omega;omega;assumption;omega)) ?_)<;>(refine aa 18 (hy:=by (apply dc (cs:=(⟨0,a0.n,a0.m⟩:KeyD).cells);rfl;exact fun w h=>Keyz.get h.2.2 hk0)) ?_)<;>refine aa 19 ?_<;>refine aa 20 ?_<;>(refine aa 21 (hy:=by (apply aL (q:=0);rfl;rfl;omega;omega;assumption;omega)) ?_)<;>(refine aa 22 (hy:=by (apply cV;rfl;assumption;rfl)) ?_)<;>(refine aa 23 (hy:=by (apply cW (q:=0*20+16) (u:=.int .i64 a0.n);rfl;exact fun w h=>(Acts.get h.2.1 ha0').2.2 16 _ rfl)) ?_)<;>refine aa 24 ?_<;>refine aa 25 ?_<;>(refine aa 26 (hy:=by (apply aL (q:=0);rfl;rfl;omega;omega;assumption;omega)) ?_)<;>(refine aa 27 (hy:=by (apply cV;rfl;assumption;rfl)) ?_)<;>(refine aa 28 (hy:=by (apply cW (q:=0*20+17) (u:=.int .i64 a0.m);rfl;exact fun w h=>(Acts.get h.2.1 ha0').2.2 17 _ rfl)) ?_)<;>(refine aa 29 (hy:=by (apply cd (cs:=(⟨0,a0.n,a0.m⟩:KeyD).cells);rfl;kernel_rfl)) ?_)<;>(refine aa 30 (hy:=by (apply oz (a:=⟨0,a0.n,a0.m⟩);rfl;rfl)) ?_)<;>refine aa 31 ?_<;>refine aa 32 ?_<;>refine aa 33 ?_<;>refine aa 34 ?_<;>(refine aa 35 (hy:=by (apply aL (q:=0);rfl;rfl;omega;omega;assumption;omega)) ?_)<;>(refine aa 36 (hy:=by (apply cV;rfl;assumption;rfl)) ?_)<;>(refine aa 37 (hy:=by (apply cW (q:=0*20+2) (u:=.string a0.prev);rfl;exact fun w h=>(Acts.get h.2.1 ha0').2.2 2 _ rfl)) ?_)<;>(refine aa 38 (hy:=by (apply eP false;rfl;rfl;exact h7b)) ?_)<;>refine aa 39 ?_<;>(refine ax ?_)
  repeat' (first|apply ab|apply Qu|apply Qv|refine ad ?_|refine Qz ?_|apply Qx|apply Qw|fail)
  clear ha0 hk0 hid hpr h7a h7b hido ha0'
  rw [←hci] at hA hsc e6
  have hcf:c.acts.n=f.acts.length:=by rw [hcn,e1]
  have hF:=Am ks ki hK hA e1 e3 hcn
  generalize (OfWK L.length I c.id).at A=W at *
  refine aT (ι:=HoI W f) (fun m=>⟨[(1,.string au),(2,.pointer (some ⟨b2,0,none⟩)),(5,.bool true),(6,.pointer (some ⟨b6,0,none⟩)),(7,.string m.p),(8,.int .i64 (m.g:Nat)),(9,.int .i64 (m.j:Nat)),(10,.int .i64 (m.i:Nat))],[cel b6 31 c.cells,cel b2 25 [ks.v,ki.v]],fun w=>((Ints w ks L∧Items w ki I)∧Glob w)∧c.at_ w∧Keyz w c.keys f.keys⟩) (fun m=>f.acts.length+1-m.i) ⟨0,1,0,⟨#[]⟩,hsc⟩ (aw ⟨rfl,rfl,rfl,rfl,rfl,rfl,rfl,rfl,trivial⟩ (aE _) fun _ h=>h) fun m=>?_
  clear hsc
  obtain ⟨i,j0,g0,p0,hsc0⟩:=m
  simp only
  have hil:=hsc0.le
  repeat' (first|refine am (qs true rfl rfl (ZA (by rw [hcn,e1];omega))) rfl aB rfl ?_|apply ab|apply Qu|apply Qv|refine aj ?_|refine aA ?_|refine az ?_|refine aY ?_|refine Qy ?_|apply Qx|apply Qw|fail)
  refine aT (ι:=HiI W f i) (fun m=>⟨[(1,.string au),(2,.pointer (some ⟨b2,0,none⟩)),(5,.bool true),(6,.pointer (some ⟨b6,0,none⟩)),(7,.string m.p),(8,.int .i64 (m.g:Nat)),(9,.int .i64 (m.j:Nat)),(10,.int .i64 (i:Nat))],[cel b6 31 c.cells,cel b2 25 [ks.v,ki.v]],fun w=>((Ints w ks L∧Items w ki I)∧Glob w)∧c.at_ w∧Keyz w c.keys f.keys⟩) (fun m=>f.keys.length-m.j) ⟨j0,g0,p0,hsc0⟩ (aw ⟨rfl,rfl,rfl,rfl,rfl,rfl,rfl,rfl,trivial⟩ (aE _) fun _ h=>h) fun m=>?_
  obtain ⟨j,g,p,hsc⟩:=m
  simp only
  rcases hsc.next with ⟨x,hx,hxi,hi1,hi2,hm⟩|⟨hno,a,ha,hac⟩|⟨z1,z2,z3,z4,z5⟩
  · have hjl:=(List.getElem?_eq_some_iff.1 hx).1
    rcases hm with ⟨a,y,m1,m2,m3,m4,m5,m6,m7,m8⟩|⟨⟨cl,q,c1,c2,c3,c4,c5,c6,c7,c8⟩,m5,a,y,m1,m6,m7⟩
    · have hlk:=nW ks ki L I c f.keys hlen hklen i j (g:Nat) p x y a hx hxi hi1 (by rw [e1];exact hi2) (by rw [e1];exact m1) m2 m3 m4 m5 m6 m7
      repeat' (first|refine am (bK true rfl rfl (ZA ae)) rfl aB rfl ?_|refine dD (q:=j*3) (u:=.int .i64 x.from_) (hF:=fun w h=>(Keyz.get h.2.2 hx).2.2 0 _ rfl) ?_|refine bm (hab:=hxi) ?_|apply ab|apply Qu|apply Qv|refine aj ?_|refine ad ?_|refine aA ?_|refine az ?_|refine aH ?_|refine aD ?_|refine bN ?_|refine aY ?_|refine bM ?_|refine be (h:=?_)|refine Qy ?_|refine Qz ?_|apply Qx|apply Qw|(refine bu (q:=j*3) ?_)|(refine eA ?_)|(refine ao (hc:=hlk) (hX:=fun w h=>h) ?_)|fail)
      all_goals first
       | exact ⟨(⟨j+1,g,p,m8⟩:HiI W f i),(by show f.keys.length-(j+1)<f.keys.length-j;omega),aw ⟨rfl,rfl,rfl,rfl,rfl,rfl,rfl,rfl,trivial⟩ (aE _) fun _ h=>h⟩
    · obtain ⟨w1,w2,w3,w4⟩:=hF.won g cl c1
      have hcl:=w3 (pubS c.actsL i)
      rw [show W.clm (pubS c.actsL i) cl=true by rw [mz f.acts i i (Qp _)] at c6;rw [pubS,e1,c6];exact c7] at hcl
      have hlk:=nX ks ki L I c f.keys hlen hklen i j g w1 p (W.dgC cl) x y a cl hx hxi hi1 (by rw [e1];exact hi2) (by rw [e1];exact m1) m5 m6 m7 c2 c3 c4 c5 w2 hcl w4
      repeat' (first|refine am (bK true rfl rfl (ZA ae)) rfl aB rfl ?_|refine dD (q:=j*3) (u:=.int .i64 x.from_) (hF:=fun w h=>(Keyz.get h.2.2 hx).2.2 0 _ rfl) ?_|refine bm (hab:=hxi) ?_|apply ab|apply Qu|apply Qv|refine aj ?_|refine ad ?_|refine aA ?_|refine az ?_|refine aH ?_|refine aD ?_|refine bN ?_|refine aY ?_|refine bM ?_|refine be (h:=?_)|refine Qy ?_|refine Qz ?_|apply Qx|apply Qw|(refine bu (q:=j*3) ?_)|(refine eA ?_)|(refine ao (hc:=hlk) (hX:=fun w h=>h) ?_)|fail)
      all_goals first
       | exact ⟨(⟨j+1,g+1,W.dgC cl,c8⟩:HiI W f i),(by show f.keys.length-(j+1)<f.keys.length-j;omega),aw ⟨rfl,rfl,rfl,rfl,rfl,rfl,rfl,rfl,trivial⟩ (aE _) fun _ h=>h⟩
  · obtain ⟨a1,a2,a3,a4,⟨y,y1,y2⟩,a6⟩:=hac
    have hil2:=(List.getElem?_eq_some_iff.1 ha).1
    have ha':c.actsL[i]?=some a:=by rw [e1];exact ha
    have ham:=List.mem_of_getElem? ha'
    apply Qu
    apply Qu
    refine iD (ι:=Unit) (fun _=>⟨[(1,.string au),(2,.pointer (some ⟨b2,0,none⟩)),(5,.bool true),(6,.pointer (some ⟨b6,0,none⟩)),(7,.string p),(8,.int .i64 (g:Nat)),(9,.int .i64 (j:Nat)),(10,.int .i64 (i:Nat)),(123,.bool false)],[cel b6 31 c.cells,cel b2 25 [ks.v,ki.v]],fun w=>((Ints w ks L∧Items w ki I)∧Glob w)∧c.at_ w∧Keyz w c.keys f.keys⟩) ?_ fun _=>?_
    · by_cases hjl:j<f.keys.length
      · obtain ⟨x,hx⟩:∃ x,f.keys[j]?=some x:=⟨_,Zm hjl⟩
        have hxf:=hno x hx
        repeat' (first|refine am (bK true rfl rfl (ZA ae)) rfl aB rfl ?_|refine dD (q:=j*3) (u:=.int .i64 x.from_) (hF:=fun w h=>(Keyz.get h.2.2 hx).2.2 0 _ rfl) ?_|refine bt (hab:=hxf) ?_|apply ab|apply Qv|refine aj ?_|refine aA ?_|refine az ?_|refine aD ?_|refine aY ?_|(refine bu (q:=j*3) ?_)|(refine eA ?_)|fail)
        exact ⟨(),aw ⟨rfl,rfl,rfl,rfl,rfl,rfl,rfl,rfl,rfl,trivial⟩ (aE _) fun _ h=>h⟩
      · repeat' (first|refine am (bK false rfl rfl (Zn ae)) rfl aB rfl ?_|apply ab|apply Qv|refine aj ?_|refine aA ?_|refine az ?_|refine aF ?_|refine aY ?_|refine aK ?_|fail)
        exact ⟨(),aw ⟨rfl,rfl,rfl,rfl,rfl,rfl,rfl,rfl,rfl,trivial⟩ (aE _) fun _ h=>h⟩
    · have hkey:Pu Tryz.prog 11 #[c.v,.int .i64 (i:Nat)] (fun w=>c.at_ w∧Keyz w c.keys f.keys) (.tuple #[y.v,.bool true]):=by
       have h3:=jK c f.keys (i:Nat)
       rw [uU hcn (by rw [e1];omega) y1] at h3
       exact h3
      have hofA:=lp a (G.ok.rng a ham) (G.ok.sm a ham)
      repeat' (first|refine bt (hab:=by omega) ?_|apply ab|apply Qu|apply Qv|refine aj ?_|refine ad ?_|refine aA ?_|refine az ?_|refine aH ?_|refine aY ?_|refine bM ?_|refine aM fun _=>?_|refine aJ ?_|refine Qz ?_|apply Qx|apply aQ|(refine bu (q:=i*20) ?_)|(refine co (cs:=a.cells) (hF:=fun w h=>Acts.get h.2.1 ha') ?_)|(refine ao (hc:=hkey) (hX:=fun w h=>h.2) ?_)|(refine dA (hc:=hofA) (hX:=fun w h=>h.2.1.2 a ham) fun v X3 h3=>?_;obtain ⟨a',rfl,hdg,hra,hw3⟩:=h3)|(refine ao (hc:=hdg▸jm a' hra) (hX:=fun w h=>⟨hw3 w h.2,h.1.1.2⟩) ?_)|fail)
      rename_i b14 b15
      have hver:=hF.ver a a1 y.public_
      rw [y2] at hver
      obtain ⟨it,hi,hia,k1,k2,k3,k4⟩:=fF (hF.sel _ a1)
      have hrb:rightB a=true:=hia▸jw k1 k2
      have hhas:=pO ks ki I hK.rng hK.dn (Qq hK.len (by decide)) (digV a) (rq hrb) ⟨it,hi,k3⟩
      have hau:(!seqB a.author au)=false:=by rw [k4,hci,bL];rfl
      have hpv:(!seqB a.prev p)=false:=by rw [a3,bL];rfl
      clear hkey hofA hdg hra hw3 k1 k2 k3 hi hia
      by_cases hi0:i=0
      · subst hi0
        have hc0:=vi c ((0:Nat):Int) (by decide)
        have hfit:Pu Tryz.prog 12 #[(chZ0 c.id).v,a.v] (fun w=>((chZ0 c.id).at_ w∧Glob w)∧a.at_ w) (.bool true):=by
         have h3:=jo (chZ0 c.id) ⟨fun a ha=>(List.not_mem_nil ha).elim,fun a ha=>(List.not_mem_nil ha).elim⟩ a
         rw [show fitsV (chZ0 c.id) a (idxV (chZ0 c.id).actsL a.object)=true from rl hrb k4 a2 (a4 rfl).2 (a4 rfl).1] at h3
         exact h3
        (refine aU [cel b15 35 y.cells,cel b14 46 a.cells,cel b6 31 c.cells,cel b2 25 [ks.v,ki.v]] (fun w=>(((Ints w ks L∧Items w ki I)∧Glob w)∧c.at_ w∧Keyz w c.keys f.keys)∧X3 w) ak ?_)
        all_goals refine aa 0 ?_<;>(refine aa 1 (hy:=by (apply gi false;rfl;rfl)) ?_)<;>refine aa 2 ?_<;>refine aa 3 ?_<;>refine aa 4 ?_<;>refine aa 5 ?_<;>(refine aa 6 (hy:=by (apply dQ false;rfl;rfl;exact congrArg Bool.not (ZA a2))) ?_)<;>refine aa 7 ?_<;>refine aa 8 ?_<;>refine aa 9 ?_<;>refine aa 10 ?_<;>refine aa 11 ?_<;>(refine aa 12 (hy:=by (apply eP false;rfl;rfl;exact hau)) ?_)<;>refine aa 13 ?_<;>refine aa 14 ?_<;>refine aa 15 ?_<;>refine aa 16 ?_<;>refine aa 17 ?_<;>(refine aa 18 (hy:=by (apply eP false;rfl;rfl;exact hpv)) ?_)<;>refine aa 19 ?_<;>refine aa 20 ?_<;>refine aa 21 ?_<;>refine aa 22 ?_<;>refine aa 23 ?_<;>(refine ag 24 ?_;(refine ao (hc:=hver) (hX:=fun w h=>⟨h.1.2.1.2 a ham,h.1.1.2⟩) ?_);apply ab;refine ai ?_)<;>(refine aa 25 (hy:=by (apply gi false;rfl;rfl)) ?_)<;>refine aa 26 ?_<;>refine aa 27 ?_<;>refine aa 28 ?_<;>refine aa 29 ?_<;>(refine ag 30 ?_;(refine ao (hc:=hhas) (hX:=fun w h=>⟨h.1.1.1.2,h.1.1.2⟩) ?_);apply ab;refine ai ?_)<;>(refine aa 31 (hy:=by (apply gi false;rfl;rfl)) ?_)<;>refine aa 32 ?_<;>refine aa 33 ?_<;>refine aa 34 ?_<;>refine aa 35 ?_<;>refine aa 37 ?_<;>(refine ag 36 ?_;(refine ao (hc:=hc0) (hX:=fun _ _=>trivial) ?_);apply ab;refine ai ?_)<;>(refine ag 38 ?_;(refine ao (hc:=hfit) (hX:=fun w h=>⟨⟨(te _ w).1,h.1.1.2⟩,h.1.2.1.2 a ham⟩) ?_);apply ab;refine ai ?_)<;>(refine aa 39 (hy:=by (apply gi false;rfl;rfl)) ?_)<;>refine aa 40 ?_<;>(refine ax ?_)
        repeat' (first|apply ab|apply Qv|refine aj ?_|refine ad ?_|refine be (h:=?_)|refine Qz ?_|apply Qx|fail)
        all_goals first
         | exact ⟨(⟨0+1,j,g,digV a,a6⟩:HoI W f),(by show f.acts.length+1-(0+1)<f.acts.length+1-0;omega),aw ⟨rfl,rfl,rfl,rfl,rfl,rfl,rfl,rfl,trivial⟩ (.cons _ (.cons _ (aE _))) fun _ h=>h.1⟩
      · have hcut:=AS c f.keys ae ae i ae a ha'
        have hfit:∀ sk,Pu Tryz.prog 12 #[(cutD c f.keys i a.prev sk).v,a.v] (fun w=>((cutD c f.keys i a.prev sk).at_ w∧Glob w)∧a.at_ w) (.bool true):=fun sk=>by
         have h3:=jo (cutD c f.keys i a.prev sk) ⟨fun a ha=>G.ok.rng a (List.mem_of_mem_take ha),fun a ha=>G.ok.sm a (List.mem_of_mem_take ha)⟩ a
         rw [G.fit i a ae ha' (cutD c f.keys i a.prev sk) rfl rfl rfl rfl] at h3
         exact h3
        (refine aU [cel b15 35 y.cells,cel b14 46 a.cells,cel b6 31 c.cells,cel b2 25 [ks.v,ki.v]] (fun w=>(((Ints w ks L∧Items w ki I)∧Glob w)∧c.at_ w∧Keyz w c.keys f.keys)∧X3 w) ak ?_)
        all_goals refine aa 0 ?_<;>(refine aa 1 (hy:=by (apply gi false;rfl;rfl)) ?_)<;>refine aa 2 ?_<;>refine aa 3 ?_<;>refine aa 4 ?_<;>refine aa 5 ?_<;>(refine aa 6 (hy:=by (apply dQ false;rfl;rfl;exact congrArg Bool.not (ZA a2))) ?_)<;>refine aa 7 ?_<;>refine aa 8 ?_<;>refine aa 9 ?_<;>refine aa 10 ?_<;>refine aa 11 ?_<;>(refine aa 12 (hy:=by (apply eP false;rfl;rfl;exact hau)) ?_)<;>refine aa 13 ?_<;>refine aa 14 ?_<;>refine aa 15 ?_<;>refine aa 16 ?_<;>refine aa 17 ?_<;>(refine aa 18 (hy:=by (apply eP false;rfl;rfl;exact hpv)) ?_)<;>refine aa 19 ?_<;>refine aa 20 ?_<;>refine aa 21 ?_<;>refine aa 22 ?_<;>refine aa 23 ?_<;>(refine ag 24 ?_;(refine ao (hc:=hver) (hX:=fun w h=>⟨h.1.2.1.2 a ham,h.1.1.2⟩) ?_);apply ab;refine ai ?_)<;>(refine aa 25 (hy:=by (apply gi false;rfl;rfl)) ?_)<;>refine aa 26 ?_<;>refine aa 27 ?_<;>refine aa 28 ?_<;>refine aa 29 ?_<;>(refine ag 30 ?_;(refine ao (hc:=hhas) (hX:=fun w h=>⟨h.1.1.1.2,h.1.1.2⟩) ?_);apply ab;refine ai ?_)<;>(refine aa 31 (hy:=by (apply gi false;rfl;rfl)) ?_)<;>refine aa 32 ?_<;>refine aa 33 ?_<;>refine aa 34 ?_<;>refine aa 35 ?_<;>refine aa 37 ?_<;>(refine ag 36 ?_;(refine dA (hc:=hcut) (hX:=fun w h=>h.1.2) fun v X6 h6=>?_;obtain ⟨sk,rfl,hw6⟩:=h6);apply ab;refine ai ?_)<;>(refine ag 38 ?_;(refine ao (hc:=hfit sk) (hX:=fun w h=>⟨⟨(hw6 w h.2).1,h.1.1.1.2⟩,h.1.1.2.1.2 a ham⟩) ?_);apply ab;refine ai ?_)<;>(refine aa 39 (hy:=by (apply gi false;rfl;rfl)) ?_)<;>refine aa 40 ?_<;>(refine ax ?_)
        repeat' (first|apply ab|apply Qv|refine aj ?_|refine ad ?_|refine be (h:=?_)|refine Qz ?_|apply Qx|fail)
        all_goals first
         | exact ⟨(⟨i+1,j,g,digV a,a6⟩:HoI W f),(by show f.acts.length+1-(i+1)<f.acts.length+1-i;omega),aw ⟨rfl,rfl,rfl,rfl,rfl,rfl,rfl,rfl,trivial⟩ (.cons _ (.cons _ (aE _))) fun _ h=>h.1.1⟩
  · have hka:=hF.acts
    rw [hci] at hka
    obtain ⟨y,hy⟩:∃ y,f.keys[f.keys.length-1]?=some y:=⟨_,Zm ae⟩
    have hyk:=xR hy
    repeat' (first|refine am (bK false rfl rfl (Zn ae)) rfl aB rfl ?_|refine bm (hab:=by omega) ?_|apply ab|apply Qu|apply Qv|refine aj ?_|refine ad ?_|refine aA ?_|refine az ?_|refine aH ?_|refine aF ?_|refine aY ?_|refine aK ?_|refine Qy ?_|refine Qz ?_|apply Qw|apply aQ|(refine dA (hc:=hka) (hX:=fun w h=>h.1) fun v X4 h4=>?_;obtain ⟨s,A',rfl,hA',hw4⟩:=h4)|fail)
    refine bI (p:=s.n=A'.length∧s.n≤maxLen∧(0<A'.length→s.p.isSome=true)) (fun w h=>⟨(hw4 w h.2).len_,(hw4 w h.2).max_,(hw4 w h.2).some_⟩) fun ⟨hsn,hsm,hsp⟩=>?_
    simp only [maxLen] at hsm
    have hAl:A'.length≤1000:=by have h1:=hA'.length_eq;have h2:=oT au I;have h3:=hK.len;omega
    have hct:=hF.cnt A' (by rw [hci];exact hA')
    have hn1:=wW z5
    clear hka hsc
    refine aT (ι:=CntI A'.length) (fun m=>⟨[(2,.pointer (some ⟨b2,0,none⟩)),(5,.bool true),(6,.pointer (some ⟨b6,0,none⟩)),(7,.string p),(8,.int .i64 (g:Nat)),(9,.int .i64 (j:Nat)),(18,.int .i64 (((A'.take m.k).filter (nextB c f.key)).length:Nat)),(19,s.v),(20,.int .i64 (m.k:Nat))],[cel b6 31 c.cells,cel b2 25 [ks.v,ki.v]],fun w=>(((Ints w ks L∧Items w ki I)∧Glob w)∧c.at_ w∧Keyz w c.keys f.keys)∧X4 w⟩) (fun m=>A'.length-m.k) ⟨0,Nat.zero_le _⟩ (aw ⟨rfl,rfl,rfl,rfl,rfl,rfl,rfl,rfl,rfl,trivial⟩ (aE _) fun _ h=>h) fun m=>?_
    obtain ⟨k,hk⟩:=m
    simp only
    by_cases hlt:k<A'.length
    · obtain ⟨z,hz⟩:∃ z,A'[k]?=some z:=⟨_,Zm hlt⟩
      have hzm:=List.mem_of_getElem? hz
      have hsp':=hsp ae
      have hst:=yv A' (nextB c f.key) hz
      have hfz:=jo c G.ok z
      have hvz:=iK y.public_ z (by obtain ⟨it,hi,hia,_⟩:=fF (hA'.subset hzm);exact hia▸hK.rng it hi)
      have hnb:nextB c f.key z=(fitsV c z (idxV c.actsL z.object)&&verV y.public_ z):=by rw [hyk];rfl
      have hcl:((A'.take k).filter (nextB c f.key)).length≤k:=Qq (List.length_filter_le _ _) (by rw [List.length_take];omega)
      rw [hnb] at hst
      generalize ((A'.take k).filter (nextB c f.key)).length=N0 at *
      obtain ⟨N1,hN1⟩:∃ n,((A'.take (k+1)).filter (nextB c f.key)).length=n:=⟨_,rfl⟩
      rw [hN1] at hst
      generalize fitsV c z (idxV c.actsL z.object)=vF at *
      generalize verV y.public_ z=vV at *
      clear hnb hct hn1 e6
      cases vF
      · change N1=N0+0 at hst
        rw [Qk] at hst
        subst hst
        repeat' (first|refine am (bK true rfl rfl (ZA ae)) rfl aB rfl ?_|apply ab|apply Qu|apply Qv|refine aj ?_|refine aY ?_|refine Qy ?_|apply Qx|apply Qw|fail)
        (refine aU [cel b6 31 c.cells,cel b2 25 [ks.v,ki.v]] (fun w=>(((Ints w ks L∧Items w ki I)∧Glob w)∧c.at_ w∧Keyz w c.keys f.keys)∧X4 w) ak ?_)
        all_goals refine aa 0 ?_<;>refine aa 1 ?_<;>refine aa 2 ?_<;>(refine aa 3 (hy:=by (apply aL (q:=k*20);rfl;rfl;omega;omega;assumption;omega)) ?_)<;>(refine aa 4 (hy:=by (apply dc (cs:=z.cells);rfl;exact fun w h=>Acts.get (hw4 w h.2) hz)) ?_)<;>(refine ag 5 ?_;(refine ao (hc:=hfz) (hX:=fun w h=>⟨⟨h.1.2.1,h.1.1.2⟩,(hw4 w h.2).2 z hzm⟩) ?_);apply ab;refine ai ?_)<;>refine aa 6 ?_<;>refine aC 7 ?_<;>refine aC 8 ?_<;>refine aC 9 ?_<;>refine aC 10 ?_<;>refine aC 11 ?_<;>refine aC 12 ?_<;>refine aC 13 ?_<;>refine aC 14 ?_<;>refine aC 15 ?_<;>refine aC 16 ?_<;>refine aC 17 ?_<;>refine aC 18 ?_<;>refine aC 19 ?_<;>(refine ag 20 ?_;(refine aK ?_);apply ab;refine ai ?_)<;>refine aa 21 ?_<;>(refine ax ?_)
        repeat' (first|apply ab|apply Qv|refine aj ?_|refine ad ?_|refine be (h:=?_)|refine Qz ?_|apply Qx|fail)
        all_goals first
         | exact ⟨(⟨k+1,hlt⟩:CntI A'.length),(by show A'.length-(k+1)<A'.length-k;omega),aw ⟨rfl,rfl,rfl,rfl,rfl,rfl,congrArg (fun z:Nat=>some (Value.int .i64 (z:Int))) hN1.symm,rfl,rfl,trivial⟩ (aE _) fun _ h=>h⟩
      · cases vV
        · change N1=N0+0 at hst
          rw [Qk] at hst
          subst hst
          repeat' (first|refine am (bK true rfl rfl (ZA ae)) rfl aB rfl ?_|apply ab|apply Qu|apply Qv|refine aj ?_|refine aY ?_|refine Qy ?_|apply Qx|apply Qw|fail)
          (refine aU [cel b6 31 c.cells,cel b2 25 [ks.v,ki.v]] (fun w=>(((Ints w ks L∧Items w ki I)∧Glob w)∧c.at_ w∧Keyz w c.keys f.keys)∧X4 w) ak ?_)
          all_goals refine aa 0 ?_<;>refine aa 1 ?_<;>refine aa 2 ?_<;>(refine aa 3 (hy:=by (apply aL (q:=k*20);rfl;rfl;omega;omega;assumption;omega)) ?_)<;>(refine aa 4 (hy:=by (apply dc (cs:=z.cells);rfl;exact fun w h=>Acts.get (hw4 w h.2) hz)) ?_)<;>(refine ag 5 ?_;(refine ao (hc:=hfz) (hX:=fun w h=>⟨⟨h.1.2.1,h.1.1.2⟩,(hw4 w h.2).2 z hzm⟩) ?_);apply ab;refine ai ?_)<;>refine aa 6 ?_<;>refine aa 7 ?_<;>refine aa 8 ?_<;>refine aa 9 ?_<;>refine aa 10 ?_<;>refine aa 11 ?_<;>refine aa 12 ?_<;>(refine aa 13 (hy:=by (apply aL (q:=(f.keys.length-1)*3);rfl;rfl;omega;omega;assumption;omega)) ?_)<;>(refine aa 14 (hy:=by (apply cV;rfl;assumption;rfl)) ?_)<;>(refine aa 15 (hy:=by (apply cW (q:=(f.keys.length-1)*3+1) (u:=.int .i64 y.public_);rfl;exact fun w h=>(Keyz.get h.1.2.2 hy).2.2 1 _ rfl)) ?_)<;>refine aa 16 ?_<;>refine aa 17 ?_<;>(refine aa 18 (hy:=by (apply aL (q:=k*20);rfl;rfl;omega;omega;assumption;omega)) ?_)<;>(refine aa 19 (hy:=by (apply dc (cs:=z.cells);rfl;exact fun w h=>Acts.get (hw4 w h.2) hz)) ?_)<;>(refine ag 20 ?_;(refine ao (hc:=hvz) (hX:=fun w h=>⟨(hw4 w h.2).2 z hzm,h.1.1.2⟩) ?_);apply ab;refine ai ?_)<;>refine aa 21 ?_<;>(refine ax ?_)
          repeat' (first|apply ab|apply Qv|refine aj ?_|refine ad ?_|refine be (h:=?_)|refine Qz ?_|apply Qx|fail)
          all_goals first
           | exact ⟨(⟨k+1,hlt⟩:CntI A'.length),(by show A'.length-(k+1)<A'.length-k;omega),aw ⟨rfl,rfl,rfl,rfl,rfl,rfl,congrArg (fun z:Nat=>some (Value.int .i64 (z:Int))) hN1.symm,rfl,rfl,trivial⟩ (aE _) fun _ h=>h⟩
        · change N1=N0+1 at hst
          subst hst
          repeat' (first|refine am (bK true rfl rfl (ZA ae)) rfl aB rfl ?_|apply ab|apply Qu|apply Qv|refine aj ?_|refine aY ?_|refine Qy ?_|apply Qx|apply Qw|fail)
          (refine aU [cel b6 31 c.cells,cel b2 25 [ks.v,ki.v]] (fun w=>(((Ints w ks L∧Items w ki I)∧Glob w)∧c.at_ w∧Keyz w c.keys f.keys)∧X4 w) ak ?_)
          all_goals refine aa 0 ?_<;>refine aa 1 ?_<;>refine aa 2 ?_<;>(refine aa 3 (hy:=by (apply aL (q:=k*20);rfl;rfl;omega;omega;assumption;omega)) ?_)<;>(refine aa 4 (hy:=by (apply dc (cs:=z.cells);rfl;exact fun w h=>Acts.get (hw4 w h.2) hz)) ?_)<;>(refine ag 5 ?_;(refine ao (hc:=hfz) (hX:=fun w h=>⟨⟨h.1.2.1,h.1.1.2⟩,(hw4 w h.2).2 z hzm⟩) ?_);apply ab;refine ai ?_)<;>refine aa 6 ?_<;>refine aa 7 ?_<;>refine aa 8 ?_<;>refine aa 9 ?_<;>refine aa 10 ?_<;>refine aa 11 ?_<;>refine aa 12 ?_<;>(refine aa 13 (hy:=by (apply aL (q:=(f.keys.length-1)*3);rfl;rfl;omega;omega;assumption;omega)) ?_)<;>(refine aa 14 (hy:=by (apply cV;rfl;assumption;rfl)) ?_)<;>(refine aa 15 (hy:=by (apply cW (q:=(f.keys.length-1)*3+1) (u:=.int .i64 y.public_);rfl;exact fun w h=>(Keyz.get h.1.2.2 hy).2.2 1 _ rfl)) ?_)<;>refine aa 16 ?_<;>refine aa 17 ?_<;>(refine aa 18 (hy:=by (apply aL (q:=k*20);rfl;rfl;omega;omega;assumption;omega)) ?_)<;>(refine aa 19 (hy:=by (apply dc (cs:=z.cells);rfl;exact fun w h=>Acts.get (hw4 w h.2) hz)) ?_)<;>(refine ag 20 ?_;(refine ao (hc:=hvz) (hX:=fun w h=>⟨(hw4 w h.2).2 z hzm,h.1.1.2⟩) ?_);apply ab;refine ai ?_)<;>refine aa 21 ?_<;>(refine ax ?_)
          repeat' (first|apply ab|apply Qv|refine aj ?_|refine ad ?_|refine be (h:=?_)|refine Qy ?_|fail)
          all_goals first
           | exact ⟨(⟨k+1,hlt⟩:CntI A'.length),(by show A'.length-(k+1)<A'.length-k;omega),aw ⟨rfl,rfl,rfl,rfl,rfl,rfl,congrArg (fun z:Nat=>some (Value.int .i64 (z:Int))) hN1.symm,rfl,rfl,trivial⟩ (aE _) fun _ h=>h⟩
    · obtain rfl:k=A'.length:=by omega
      rw [List.take_length,hct]
      generalize (candL W f).length=n at *
      have hps:seqB p c.prev=true:=by rw [z3,e3];exact bL _
      by_cases h1n:1<n
      · have hfk:(c.fork==true)=true:=by rw [e6,ZA h1n];rfl
        repeat' (first|refine am (bK false rfl rfl (Zn ae)) rfl aB rfl ?_|refine bm (hab:=by omega) ?_|refine am (dj true rfl rfl hps) rfl aB rfl ?_|refine jV (hab:=by omega) ?_|refine am (vD true rfl rfl hfk) rfl aB rfl ?_|refine am (dQ true rfl rfl (by rw [Zn (by omega)];rfl)) rfl aB rfl ?_|apply ab|apply Qu|apply Qv|refine aj ?_|refine ad ?_|refine aA ?_|refine az ?_|refine aD ?_|refine aY ?_|refine Qz ?_|apply ar|apply aQ|fail)
        all_goals first
         | exact al (aq rfl rfl) rfl
      · have hfk:(c.fork==false)=true:=by rw [e6,Zn h1n];rfl
        repeat' (first|refine am (bK false rfl rfl (Zn ae)) rfl aB rfl ?_|refine bm (hab:=by omega) ?_|refine am (dj true rfl rfl hps) rfl aB rfl ?_|refine g9 (hab:=by omega) ?_|refine am (vD true rfl rfl hfk) rfl aB rfl ?_|refine am (dQ true rfl rfl (by rw [Zn (by omega)];rfl)) rfl aB rfl ?_|apply ab|apply Qu|apply Qv|refine aj ?_|refine ad ?_|refine aA ?_|refine az ?_|refine aD ?_|refine aY ?_|refine Qz ?_|apply ar|apply aQ|fail)
        all_goals first
         | exact al (aq rfl rfl) rfl
end Go.Proofs.YtcdilibijnboeaaGreatDoor
namespace Go.Proofs.YtcdilibijnboeaaGreatDoor
open Go Go.Proofs Sy Go.RowKit Go.Deep Go.ChangeShapes Go.WideShapes
theorem laidOut:laidOutB Tryz.prog=true:=by kernel_rfl
theorem gK {H:Type} {enc:TypeId×Value→H} {P:Program} (hl:laidOutB P=true) {W W':World} {sp:Nat→Bool}:∀ (ts:List TypeId) (vs:List Value) (ds:List (DataW H)) (ps:List MemPlace),(∀ t∈ts,P.readableRec t=true∧t<P.types.size) →
  DataW.TrodAll enc P W 0 (fun _=>true) true ts vs ds ps→(∀ p∈ps,W.sameAt W' p)→(∀ p∈ps,sp p.block=true)→DataW.TrodAll enc P W' 0 sp true ts vs ds ps
 | [],vs,ds,ps,_,h,_,_=>by
  obtain ⟨rfl,rfl,rfl⟩:=trodAll_nil h
  exact trodAll_mk0
 | t::ts,vs,ds,ps,ht,h,hs,hp=>by
  obtain ⟨v,vs',d,ds',p,q,rfl,rfl,rfl,h1,h2⟩:=trodAll_cons h
  exact trodAll_cons_mk (WideElems.Trod_stays hl (ht t aI).1 (ht t aI).2 h1 (fun x hx=>hs x (List.mem_append_left _ hx)) (fun x hx=>hp x (List.mem_append_left _ hx)))
   (gK hl ts vs' ds' q (fun u hu=>ht u (ZS _ hu)) h2 (fun x hx=>hs x (List.mem_append_right _ hx)) (fun x hx=>hp x (List.mem_append_right _ hx)))
theorem u9 {X:World→Prop} {w:World} (hX:X w) (hk:∀ w':World,(∀ k,k<w.heap.size→w'.heap[k]?=w.heap[k]?)→X w'):Gam [] (fps []) w [] X w :=
 ⟨Fr.refl _ _,fun k hk=>by simp at hk,by simp [fps],fun k hk=>by simp [fps] at hk,fun r hr=>by simp at hr,⟨fun k=>k<w.heap.size,fun k hk=>⟨hk,by simp [fps]⟩,hk⟩⟩
theorem qc {P:Program} {f:FuncId} {args:Array Value} {X:World→Prop} {v:Value} {w:World} (h:Pu P f args X v) (hX:X w) (hk:∀ w':World,(∀ k,k<w.heap.size→w'.heap[k]?=w.heap[k]?)→X w') :
  Calls P f args w fun e w'=>e=.returned v∧Below w.heap.size w w':=by
 unfold Pu at h
 exact (Ct.run h w [] (u9 hX hk)).mono fun e w' ⟨u,R,X',he,⟨hu,hR⟩,G⟩=>⟨by rw [he,hu],G.fr.below⟩
theorem laidK:Rows.laid_agora_sum_constants (H:=Unit)=Lib.tabData .u32 kC:=by kernel_rfl
theorem laidI:Rows.laid_agora_sum_initial (H:=Unit)=Lib.tabData .u32 iniC:=by kernel_rfl
theorem lQ {W:World} {name:String} {zs:List Int} {g:Nat} (h:Lib.TabIs Tryz.prog W name .u32 zs) (hg:Tryz.prog.globalNamed name=some g):CellsAt g (u32s zs) W:=fun j v hj=>by
 have hj':j<zs.length:=by have:=(List.getElem?_eq_some_iff.1 hj).1;simpa [u32s] using this
 rw [h.cell hg j hj']
 simp only [u32s,List.getElem?_map,Zm hj',Option.map_some,Qc] at hj
 rw [ZL,Zm hj',←hj]
 rfl
theorem Aq {W:World} (h:laidMet Tryz.prog [("agora/sum.constants",Rows.laid_agora_sum_constants),("agora/sum.initial",Rows.laid_agora_sum_initial)] W):Glob W:=by
 rw [laidK,laidI] at h
 have h1:=Lib.tabIs_of_head (g:=1) (t:=168) (e:=128) (n:=64) ak ak Tryz.underlying168 Tryz.underlying128 ak ak h
 obtain ⟨ps,⟨g',t',cs,fuel,p,q,hg',ht',hvar,hd,hrest,hpq⟩,_⟩:=h
 obtain ⟨g2,t2,cs2,fuel2,p2,q2,hg2,ht2,hvar2,hd2,_,_⟩:=hrest
 have h2:Lib.TabIs Tryz.prog W "agora/sum.initial" .u32 iniC:=by
  have e1:Tryz.prog.globalNamed "agora/sum.initial"=some 0:=by kernel_rfl
  have e2:(Tryz.prog.globals[0]?).map (·.type)=some 129:=by kernel_rfl
  obtain rfl:=Option.some.inj (e1.symm.trans hg2)
  obtain rfl:=Option.some.inj (e2.symm.trans ht2)
  unfold Lib.TabIs
  rw [hvar2,←Lib.cells_of_tab Tryz.underlying129 Tryz.underlying128 ak ak hd2]
 exact ⟨lQ h2 ak,lQ h1 ak⟩
def layRow (l:List Value):Obj→Obj
 | .cells _ t frozen=>.cells l.toArray t frozen
 | o=>o
noncomputable def laidWorld (os:Os):World :=
 { World.holding Tryz.prog os ⟨#[],#[],[]⟩ with heap:=((World.holding Tryz.prog os ⟨#[],#[],[]⟩).heap.modify 0 (layRow (u32s iniC))).modify 1 (layRow (u32s kC)) }
end Go.Proofs.YtcdilibijnboeaaGreatDoor
