/- Joined by program out of: Jx Zx ZlA ZmA ZnA Zy Zt Ne Zu Tk Tm Tn Ya. -/
import Derived.Test.YtcdilibijnboeaaGreatDoorT10
set_option linter.unusedVariables false
set_option linter.unusedSimpArgs false
namespace Go.Proofs.YtcdilibijnboeaaGreatDoor
open Go Go.Proofs Sy
def OfW.at (W:OfW) (L:List ActD):OfW:={ W with L:=L }
def OfRes (W:OfW) (st:ChS) (fork:Bool):Prop:=match oneA (firstL W) with
 | some a=>st=finS W a∧fork=decide (1<(candL W (finS W a)).length)
 | none=>st=⟨[],[],⟨#[]⟩,0⟩∧fork=decide (1<(firstL W).length)
def OfAt19 (W:OfW) (PL:List ActD→Prop) (u:Value) (X:World→Prop):Prop:=∃ (L:List ActD) (sa sk:SlV) (st:ChS) (fork:Bool),PL L∧OfRes (W.at L) st fork∧u=(⟨W.id,sa,sk,st.prev,(st.gen:Nat),fork,st.acts⟩:ChainD).v∧∀ w,X w→Acts w sa st.acts∧Keyz w sk st.keys
structure OfHyp (ks ki:SlV) (W:OfW) (PL:List ActD→Prop) (Y:World→Prop):Prop where
 acts:Mk Tryz.prog 26 #[.agg #[ks.v,ki.v],.string W.id] (fun w=>Y w∧Glob w) (fun u X'=>∃ (s:SlV) (L:List ActD),u=s.v∧PL L∧∀ w,X' w→Acts w s L)
 ok:∀ L,PL L→ActsOk L∧L.length≤100000
 bB:W.B≤100000
 won:∀ g:Nat,g≤W.B→Pu Tryz.prog 51 #[.agg #[ks.v,ki.v],.string W.id,.int .i64 (g:Nat)] (fun w=>Y w∧Glob w) (.tuple #[((W.won g).getD ClaimD.zero).v,.bool (W.won g).isSome])
 bnd:∀ g c,W.won g=some c→g<W.B
 clm:∀ g c,W.won g=some c→∀ p:Int,Pu Tryz.prog 52 #[.int .i64 p,c.v] (fun w=>Y w∧Glob w) (.bool (W.clm p c))
 dg:∀ g c,W.won g=some c→Pu Tryz.prog 14 #[(ofClaimI c).v] (fun w=>Y w∧Glob w) (.string (W.dgC c))
 ver:∀ L,PL L→∀ a∈L,∀ p:Int,Pu Tryz.prog 24 #[.int .i64 p,a.v] (fun w=>a.at_ w∧Glob w) (.bool (W.ver p a))
def chZ (id:ByteArray):List Value:=[.string id,.slice none 0 0,.slice none 0 0,.string ⟨#[]⟩,.int .i64 0,.bool false]
def bldH0 (ks ki:SlV) (id:ByteArray) (q1 q2:Nat):BldH:=⟨ks,ki,id,false,q1,q2,ClaimD.zero,false⟩
structure GroI (L:List ActD) where
 k:Nat
 hk:k≤L.length
 G:List (PosK×Grp)
 hG:GrpOk G (L.take k)
theorem pF {ks ki:SlV} {W:OfW} {PL:List ActD→Prop} {Y:World→Prop} (H:OfHyp ks ki W PL Y) (L:List ActD) (b q1 q2:Nat) (sa sk:SlV) (st:ChS) (pl:List (ByteArray×Value)) (ok:BldOk sa sk st pl)
  (hl:st.acts.length≤1000000) (hl2:st.keys.length≤1000000) :
  Ct Tryz.prog 34 #[.pointer (some ⟨b,0,none⟩)] (bldR b ((bldH0 ks ki W.id q1 q2).look (W.won st.gen)) sa sk st pl) (fun w=>Y w∧Glob w)
   (fun u R _=>(∀ s,regS (W.at L) st=some s→BldAt b ((bldH0 ks ki W.id q1 q2).look (W.won s.gen)) s (.bool true) u R)∧(regS (W.at L) st=none→BldAt b ((bldH0 ks ki W.id q1 q2).look (W.won st.gen)) st (.bool false) u R)):=by
 have hwA:(W.at L).won=W.won:=rfl
 cases hw:W.won st.gen with
 | none =>
  refine (mo b ((bldH0 ks ki W.id q1 q2).look none) sa sk st pl ok rfl _).mono fun v R X' h=>⟨fun s hs=>?_,fun _=>h⟩
  rw [regS,hwA,hw] at hs
  cases hs
 | some c =>
  have hg:=H.bnd _ _ hw
  have hB:=H.bB
  refine (mn b ((bldH0 ks ki W.id q1 q2).look (some c)) sa sk st pl ok (W.at L) c hw rfl rfl Y hl hl2 ae (H.clm _ _ hw) (H.dg _ _ hw) (H.won (st.gen+1) hg)).mono fun v R X' h=>⟨fun s hs=>?_,h.2⟩
  obtain ⟨_,_,_,e,_⟩:=mP hs
  rw [e]
  exact h.1 s hs
structure RunI (W:OfW) (a:ActD) where
 st:ChS
 sa:SlV
 sk:SlV
 pl:List (ByteArray×Value)
 ok:BldOk sa sk st pl
 inv:InvS W st
 j:Nat
 hj:muS W st≤j
 hr:runS W j st=finS W a
theorem RunI.next {W:OfW} (hB:∀ g c,W.won g=some c→g<W.B) {a:ActD} {st s:ChS} {j:Nat} (hI:InvS W st) (hj:muS W st≤j) (hr:runS W j st=finS W a) (hs:stepS W st=some s):InvS W s∧muS W s<muS W st∧muS W s≤j-1∧runS W (j-1) s=finS W a:=by
 obtain ⟨h1,h2⟩:=oV hB hI hs
 cases j with
 | zero=>omega
 | succ j=>exact ⟨h1,by omega,by rw [Nat.add_sub_cancel];omega,by rw [pb hs] at hr;exact hr⟩
set_option maxHeartbeats 16000000 in
theorem Ak (ks ki:SlV) (W:OfW) (PL:List ActD→Prop) (Y:World→Prop) (H:OfHyp ks ki W PL Y) :
  Mk Tryz.prog 9 #[.agg #[ks.v,ki.v],.string W.id] (fun w=>Y w∧Glob w) (OfAt19 W PL):=by
 refine cq (args:=[_,_]) _ Tryz.func9 rfl Tryz.ntmps9 rfl fun av bor w0=>?_
 repeat' (first|refine br (cs:=chZ W.id) (hf:=by rfl) ?_|apply ab|apply Qt|apply Qu|refine aj ?_|refine aF ?_|refine aM fun _=>?_|refine aL fun _=>?_|fail)
 refine oU PosK 89 (h:=fun q1=>?_)
 refine lc ByteArray (h:=fun q2=>?_)
 repeat' (first|refine br (cs:=bldC (bldH0 ks ki W.id q1 q2) ⟨none,0,0⟩ ⟨none,0,0⟩ ⟨#[]⟩ ((0:Nat):Int)) (hf:=by rfl) ?_|apply ab|apply Qt|apply Qu|refine aj ?_|refine ad ?_|refine aF ?_|refine aY ?_|refine aL fun _=>?_|apply Qv|(refine cR (hc:=H.acts) (hX:=fun w h=>h) fun v1 X1 h1=>?_;obtain ⟨s,L,rfl,hPL,hw1⟩:=h1)|fail)
 rename_i b2 b4 b
 refine bJ (p:=s.n=L.length∧s.n≤maxLen∧(0<L.length→s.p.isSome=true)) (fun w h=>⟨(hw1 w h.2).len_,(hw1 w h.2).max_,(hw1 w h.2).some_⟩) fun ⟨hsn,hsm,hsp⟩=>?_
 simp only [maxLen] at hsm
 obtain ⟨hok,hL⟩:=H.ok L hPL
 refine aU (ι:=GroI L) (fun i=>⟨[(1,.string W.id),(4,.pointer (some ⟨b4,0,none⟩)),(5,.pointer (some ⟨b,0,none⟩)),(21,s.v),(22,.int .i64 (s.n:Nat)),(23,.int .i64 (i.k:Nat))],[cel b 87 (bldC (bldH0 ks ki W.id q1 q2) ⟨none,0,0⟩ ⟨none,0,0⟩ ⟨#[]⟩ ((0:Nat):Int)),mapr q2 ([]:List (ByteArray×Value)),smapr Tryz.prog 89 q1 (i.G.map fun g=>(g.1,g.2.s.v)),cel b4 31 (chZ ⟨#[]⟩)]++i.G.map grpR,fun w=>(Y w∧Glob w)∧X1 w⟩) (fun i=>L.length-i.k) ⟨0,Nat.zero_le _,[],⟨fun _=>rfl,fun _ _ h=>by cases h⟩⟩ ?_ fun i=>?_
 · exact ax ⟨rfl,rfl,rfl,rfl,rfl,rfl,trivial⟩ (.cons_cons _ (.cons_cons _ (.cons_cons _ (.cons_cons _ (ZR _))))) fun _ h=>h
 obtain ⟨k,hk,G,hG⟩:=i
 simp only
 repeat' (first|apply ab|apply Qt|apply Qu|refine aj ?_|refine ad ?_|refine cv ?_|refine aB ?_|refine aA ?_|refine bj ?_|apply Qw|apply Qv|apply aQ|(refine aH (ht:=?_) (hf:=?_);all_goals (intro hx_;first|have:=aP hx_|have:=aT hx_)))
 · have hlt:k<L.length:=by omega
   have hsp':=hsp ae
   obtain ⟨a,ha⟩:∃ a,L[k]?=some a:=⟨_,Zm hlt⟩
   have ham:=List.mem_of_getElem? ha
   repeat' (first|apply ab|apply Qt|apply Qu|refine aB ?_|refine aA ?_|refine aM fun _=>?_|refine aK ?_|(refine bx (q:=k*20) ?_)|(refine cr (cs:=a.cells) (hF:=fun w h=>Acts.get (hw1 w h.2) ha) ?_)|(refine br (cs:=[.int .i64 a.seq,.string a.prev]) (hf:=by rfl) ?_)|fail)
   rename_i b7 b8
   obtain ⟨rest,hp1,hp2,hp3⟩:=p9 grpR G ((a.seq,a.prev):PosK)
   obtain ⟨l,hl⟩:∃ l,grpL (dget G ((a.seq,a.prev):PosK))=l:=⟨_,rfl⟩
   have hns:(grpS (dget G ((a.seq,a.prev):PosK))).n=l.length:=by
    rw [←hl]
    cases hd:dget G ((a.seq,a.prev):PosK) with
    | none=>rfl
    | some g=>exact hG.len _ g hd
   have hll:l.length≤100000:=by
    rw [←hl,hG.all]
    have h1:=List.length_filter_le (fun x:ActD=>decide (x.seq=a.seq)&&seqB x.prev a.prev) (L.take k)
    rw [List.length_take] at h1
    exact Qp h1 ae
   have hof:(dget (G.map fun g=>(g.1,g.2.s.v)) ((a.seq,a.prev):PosK)).getD (.slice none 0 0)=(grpS (dget G ((a.seq,a.prev):PosK))).v:=by
    rw [gI (fun g:Grp=>g.s.v)]
    cases dget G ((a.seq,a.prev):PosK)<;>rfl
   have hst:=fun (s':SlV) (h:s'.n=l.length+1)=>hG.step a s' (by rw [hl];exact h)
   rw [hl] at hst
   obtain ⟨⟨A,n,c⟩,hs⟩:∃ s',grpS (dget G ((a.seq,a.prev):PosK))=s':=⟨_,rfl⟩
   rw [hs] at hns hof
   simp only at hns
   refine CD (k:=((a.seq,a.prev):PosK)) (rest:=rest) [cel b8 89 [.int .i64 a.seq,.string a.prev],cel b7 46 a.cells,cel b 87 (bldC (bldH0 ks ki W.id q1 q2) ⟨none,0,0⟩ ⟨none,0,0⟩ ⟨#[]⟩ ((0:Nat):Int)),mapr q2 ([]:List (ByteArray×Value)),smapr Tryz.prog 89 q1 (G.map fun g=>(g.1,g.2.s.v)),cel b4 31 (chZ ⟨#[]⟩)] hp2 hp3 ?_
   rw [hs,hl]
   unfold actR
   simp only [Z9,Qa]
   (refine aS [cel b8 89 [.int .i64 a.seq,.string a.prev],cel b7 46 a.cells,cel b 87 (bldC (bldH0 ks ki W.id q1 q2) ⟨none,0,0⟩ ⟨none,0,0⟩ ⟨#[]⟩ ((0:Nat):Int))] (fun w=>(Y w∧Glob w)∧X1 w) ak ?_)
   all_goals refine aa 0 ?_<;>refine aa 1 ?_<;>refine aa 2 ?_<;>refine aa 3 ?_<;>refine aa 4 ?_<;>refine aa 5 ?_<;>(refine ag 6 ?_;(refine bH (size:=20) (vs:=[a.v]) (css:=a.cells) (hsz:=by rfl) (hcs:=by rfl) fun _=>?_);apply ab;refine ai ?_)<;>(refine ag 7 ?_;(refine nI (κ:=PosK) (kk:=((a.seq,a.prev):PosK)) (z:=.slice none 0 0) (u:=.slice A n c) rfl rfl rfl hof (fun _=>At.there _ (At.there _ (At.there _ (At.there _ (At.there _ (At.there _ (At.here _))))))) rfl rfl rfl (fun _=>?_));apply ab;refine ai ?_)<;>refine aa 8 ?_<;>refine aa 10 ?_<;>(refine ag 9 ?_;(refine aV (size:=20) (news:=a.cells) (q:=1) rfl rfl rfl rfl (fun _=>At.there _ (At.here _)) (fun w G=>bo G aI rfl rfl 1) ae (by simp only [maxLen];omega) rfl ?_ rfl ?_;(with_reducible rfl);intro A2 c2);apply ab;refine ai ?_)<;>(refine ag 11 ?_;(refine ld (κ:=PosK) (kk:=((a.seq,a.prev):PosK)) rfl rfl rfl (At.there _ (At.there _ (At.there _ (At.there _ (At.there _ (At.there _ (At.here _))))))) rfl rfl rfl ?_);apply ab;refine ai ?_)<;>(refine aw ?_)
   all_goals
    have hmp:dput (dput (G.map fun g=>(g.1,g.2.s.v)) ((a.seq,a.prev):PosK) (.slice A n c)) ((a.seq,a.prev):PosK) (.slice A2 (n+1) c2)=(dput G ((a.seq,a.prev):PosK) ⟨⟨A2,n+1,c2⟩,l++[a]⟩).map (fun g=>(g.1,g.2.s.v)):=by
     rw [jz]
     exact (qi (fun g:Grp=>g.s.v) G ((a.seq,a.prev):PosK) ⟨⟨A2,n+1,c2⟩,l++[a]⟩).symm
    have hfl:((l++[a]).map ActD.cells).flatten=(l.map ActD.cells).flatten++a.cells:=by simp
    rw [hmp,←hfl]
    refine lV (permG (C:=[cel b8 89 [.int .i64 a.seq,.string a.prev],cel b7 46 a.cells,cel b 87 (bldC (bldH0 ks ki W.id q1 q2) ⟨none,0,0⟩ ⟨none,0,0⟩ ⟨#[]⟩ ((0:Nat):Int)),mapr q2 ([]:List (ByteArray×Value)),smapr Tryz.prog 89 q1 ((dput G ((a.seq,a.prev):PosK) ⟨⟨A2,n+1,c2⟩,l++[a]⟩).map (fun g=>(g.1,g.2.s.v))),cel b4 31 (chZ ⟨#[]⟩)]) (hp1 ⟨⟨A2,n+1,c2⟩,l++[a]⟩)) ?_
    repeat' (first|apply ab|apply Qu|refine aj ?_|refine be (h:=?_)|fail)
    exact ⟨(⟨k+1,hlt,dput G ((a.seq,a.prev):PosK) ⟨⟨A2,n+1,c2⟩,l++[a]⟩,by rw [List.take_add_one,ha];exact hst _ (by show n+1=_;rw [hns])⟩:GroI L),(by show L.length-(k+1)<L.length-k;omega),ax ⟨rfl,rfl,rfl,rfl,rfl,rfl,trivial⟩ (.cons _ (.cons _ (.cons _ (aE _)))) fun w h=>h⟩
 have hkE:k=L.length:=by omega
 rw [hkE,List.take_length] at hG
 refine dc permH ?_
 refine xm _ ?_
 refine cP (X':=fun w=>(Y w∧Glob w)∧(NextD q1 (G.map fun g=>(g.1,g.2.s)) L w∧∀ a∈L,a.at_ w)) (fun w h=>⟨h.1.1,Am hG (h.2 _ (.head _)) (fun r hr=>h.2 r (.tail _ hr)) (hw1 w h.1.2).2,(hw1 w h.1.2).2⟩) ?_
 clear hsp hsn hk
 obtain ⟨M,hM⟩:∃ M,actsFor L ((0:Int),⟨#[]⟩)=M:=⟨_,rfl⟩
 have hfl:firstL (W.at L)=M.filter (firstB (W.at L)):=by rw [←hM];rfl
 have hMm:∀ a∈M,a∈L:=fun a ha=>by rw [←hM] at ha;exact (List.mem_filter.1 ha).1
 have hMl:M.length≤L.length:=by rw [←hM];exact List.length_filter_le _ _
 obtain ⟨G',hG'⟩:∃ G',(G.map fun g=>(g.1,g.2.s))=G':=⟨_,rfl⟩
 rw [hG']
 obtain ⟨s0,hs0⟩:∃ s0,(dget G' ((0:Int),⟨#[]⟩)).getD ⟨none,0,0⟩=s0:=⟨_,rfl⟩
 have hgl:∃ o,dget (G'.map fun g=>(g.1,g.2.v)) ((0:Int),⟨#[]⟩)=o∧o.getD (.slice none 0 0)=s0.v:=by
  refine ⟨_,rfl,?_⟩
  rw [gI,←hs0]
  cases dget G' ((0:Int),⟨#[]⟩)<;>rfl
 obtain ⟨o,ho,hov⟩:=hgl
 have hro:∀ w,((Y w∧Glob w)∧(NextD q1 G' L w∧∀ a∈L,a.at_ w))→Acts w s0 M:=fun w h=>by
  have h1:=h.2.1.rows ((0:Int),⟨#[]⟩)
  rwa [hs0,hM] at h1
 repeat' (first|apply ab|refine aj ?_|refine aY ?_|apply Qv|(refine br (cs:=[.int .i64 0,.string ⟨#[]⟩]) (hf:=by rfl) ?_)|(refine am (mB (κ:=PosK) (kk:=((0:Int),⟨#[]⟩)) (z:=.slice none 0 0) (o:=o) (v:=s0.v) rfl rfl (oZ fun w h=>h.2.1.map) ho hov) rfl rfl rfl ?_)|fail)
 refine bJ (p:=s0.n=M.length∧s0.n≤maxLen∧(0<M.length→s0.p.isSome=true)) (fun w h=>⟨(hro w h).len_,(hro w h).max_,(hro w h).some_⟩) fun ⟨hsn,hsm,hsp⟩=>?_
 simp only [maxLen] at hsm
 refine cW 46 20 ?_
 refine aU (ι:=CanI M (firstB (W.at L))) (fun i=>⟨[(1,.string W.id),(4,.pointer (some ⟨b4,0,none⟩)),(5,.pointer (some ⟨b,0,none⟩)),(9,.slice i.A i.n i.c),(49,s0.v),(50,.int .i64 (s0.n:Nat)),(51,.int .i64 (i.k:Nat))],[orow 46 20 (.slice i.A i.n i.c) i.n i.xs,cel b 87 (bldC (bldH0 ks ki W.id q1 q2) ⟨none,0,0⟩ ⟨none,0,0⟩ ⟨#[]⟩ ((0:Nat):Int)),mapr q2 ([]:List (ByteArray×Value)),cel b4 31 (chZ ⟨#[]⟩)],fun w=>(Y w∧Glob w)∧(NextD q1 G' L w∧∀ a∈L,a.at_ w)⟩) (fun i=>M.length-i.k) ⟨0,Nat.zero_le _,none,0,0,rfl,[],rfl⟩ (ax ⟨rfl,rfl,rfl,rfl,rfl,rfl,rfl,trivial⟩ (aE _) fun _ h=>h) fun i=>?_
 clear hkE this
 obtain ⟨k,hk',A,cc,n,hn',xs,hxs⟩:=i
 simp only
 have hnl:n≤100000:=by have h1:=List.length_filter_le (firstB (W.at L)) (M.take k);rw [←hn',List.length_take] at h1;omega
 repeat' (first|apply ab|apply Qt|apply Qu|refine aj ?_|refine cv ?_|refine aB ?_|refine dF ?_|refine bj ?_|refine cG ?_|refine aY ?_|refine bc ?_|apply Qw|apply Qv|apply aQ|(refine aH (ht:=?_) (hf:=?_);all_goals (intro hx_;first|have:=aP hx_|have:=aT hx_|skip)))
 · have hlt:k<M.length:=by omega
   have hsp':=hsp ae
   obtain ⟨a,ha⟩:∃ a,M[k]?=some a:=⟨_,Zm hlt⟩
   have ham:a∈M:=List.mem_of_getElem? ha
   have hamL:=hMm a ham
   have hnn:a.n<9223372036854775808:=(hok.rng a hamL).ints.2.2.2.2.2.1
   have hv:=H.ver L hPL a hamL a.n
   have htk:((M.take (k+1)).filter (firstB (W.at L)))=(M.take k).filter (firstB (W.at L))++(bif firstB (W.at L) a then [a] else []):=by
    rw [List.take_add_one,ha,List.filter_append,Option.toList_some]
    congr 1
   have hfb:firstB (W.at L) a=(decide (a.kind=0)&&seqB (idV a.n) W.id&&W.ver a.n a):=rfl
   by_cases h0:a.kind=0
   · cases hid:seqB (idV a.n) W.id with
     | false =>
      have hno:(M.take (k+1)).filter (firstB (W.at L))=(M.take k).filter (firstB (W.at L)):=by simp [htk,hfb,hid]
      repeat' (first|refine bm (hab:=h0) ?_|refine am (dw _ rfl rfl hid) rfl aC rfl ?_|apply ab|apply Qt|apply Qu|refine aj ?_|refine aB ?_|refine aA ?_|refine aD ?_|refine aG ?_|refine be (h:=?_)|refine aJ ?_|refine aM fun _=>?_|refine aK ?_|refine Qy ?_|apply Qw|(refine bx (q:=k*20) ?_)|(refine cr (cs:=a.cells) (hF:=fun w h=>Acts.get (hro w h) ha) ?_)|(refine ao (hc:=ii a.n hnn) (hX:=fun w h=>h.1.2) ?_)|fail)
      exact ⟨(⟨k+1,hlt,A,cc,n,by rw [hno];exact hn',xs,by rw [hno];exact hxs⟩:CanI M (firstB (W.at L))),(by show M.length-(k+1)<M.length-k;omega),ax ⟨rfl,rfl,rfl,rfl,rfl,rfl,rfl,trivial⟩ (List.Sublist.cons _ (aE _)) fun _ h=>h⟩
     | true =>
      cases hve:W.ver a.n a with
      | false =>
       rw [hve] at hv
       have hno:(M.take (k+1)).filter (firstB (W.at L))=(M.take k).filter (firstB (W.at L)):=by simp [htk,hfb,hve]
       repeat' (first|refine bm (hab:=h0) ?_|refine am (dw _ rfl rfl hid) rfl aC rfl ?_|apply ab|apply Qt|apply Qu|refine aj ?_|refine aB ?_|refine aA ?_|refine aF ?_|refine aD ?_|refine be (h:=?_)|refine aM fun _=>?_|refine aK ?_|refine Qy ?_|apply Qw|(refine bx (q:=k*20) ?_)|(refine cr (cs:=a.cells) (hF:=fun w h=>Acts.get (hro w h) ha) ?_)|(refine ao (hc:=ii a.n hnn) (hX:=fun w h=>h.1.2) ?_)|(refine ao (hc:=hv) (hX:=fun w h=>⟨h.2.2 a hamL,h.1.2⟩) ?_)|fail)
       exact ⟨(⟨k+1,hlt,A,cc,n,by rw [hno];exact hn',xs,by rw [hno];exact hxs⟩:CanI M (firstB (W.at L))),(by show M.length-(k+1)<M.length-k;omega),ax ⟨rfl,rfl,rfl,rfl,rfl,rfl,rfl,trivial⟩ (List.Sublist.cons _ (aE _)) fun _ h=>h⟩
      | true =>
       rw [hve] at hv
       have hyes:(M.take (k+1)).filter (firstB (W.at L))=(M.take k).filter (firstB (W.at L))++[a]:=by rw [htk,hfb,hid,hve,ZA h0];rfl
       repeat' (first|refine bH (size:=20) (vs:=[a.v]) (css:=a.cells) (hsz:=by rfl) (hcs:=by rfl) fun _=>?_|refine bm (hab:=h0) ?_|refine am (dw _ rfl rfl hid) rfl aC rfl ?_|apply ab|apply Qt|apply Qu|refine aj ?_|refine aB ?_|refine aA ?_|refine aF ?_|refine aD ?_|refine aM fun _=>?_|refine aK ?_|refine Qx ?_|(refine bx (q:=k*20) ?_)|(refine cr (cs:=a.cells) (hF:=fun w h=>Acts.get (hro w h) ha) ?_)|(refine ao (hc:=ii a.n hnn) (hX:=fun w h=>h.1.2) ?_)|(refine ao (hc:=hv) (hX:=fun w h=>⟨h.2.2 a hamL,h.1.2⟩) ?_)|fail)
       refine aV (size:=20) (news:=a.cells) (q:=1) rfl rfl rfl rfl (fun _=>At.there _ (At.there _ (At.here _))) (fun w G=>bo G aI rfl rfl 1) ae (by simp only [maxLen];omega) rfl ?_ rfl ?_
       · (with_reducible rfl)
       intro A2 c2
       repeat' (first|apply ab|apply Qu|refine aj ?_|refine ad ?_|refine be (h:=?_)|fail)
       exact ⟨(⟨k+1,hlt,A2,c2,n+1,by rw [hyes,ZX,←hn'];rfl,xs++a.cells,by rw [hyes,hxs];simp⟩:CanI M (firstB (W.at L))),(by show M.length-(k+1)<M.length-k;omega),ax ⟨rfl,rfl,rfl,rfl,rfl,rfl,rfl,trivial⟩ (List.Sublist.cons _ (List.Sublist.cons _ (aE _))) fun _ h=>h⟩
   · have hno:(M.take (k+1)).filter (firstB (W.at L))=(M.take k).filter (firstB (W.at L)):=by simp [htk,hfb,h0]
     repeat' (first|refine bt (hab:=h0) ?_|apply ab|apply Qt|apply Qu|refine aj ?_|refine aB ?_|refine aA ?_|refine aG ?_|refine be (h:=?_)|refine aJ ?_|refine aM fun _=>?_|refine aK ?_|refine Qy ?_|apply Qw|(refine bx (q:=k*20) ?_)|(refine cr (cs:=a.cells) (hF:=fun w h=>Acts.get (hro w h) ha) ?_)|fail)
     exact ⟨(⟨k+1,hlt,A,cc,n,by rw [hno];exact hn',xs,by rw [hno];exact hxs⟩:CanI M (firstB (W.at L))),(by show M.length-(k+1)<M.length-k;omega),ax ⟨rfl,rfl,rfl,rfl,rfl,rfl,rfl,trivial⟩ (List.Sublist.cons _ (aE _)) fun _ h=>h⟩
 have hkE:k=M.length:=by omega
 have hfin:firstL (W.at L)=(M.take k).filter (firstB (W.at L)):=by rw [hfl,hkE,List.take_length]
 have hnc:n=(firstL (W.at L)).length:=by rw [hfin];exact hn'
 · have hn1:n≠1:=by
    intro e
    rw [e] at hx_
    exact absurd hx_ (by decide)
   have hone:oneA (firstL (W.at L))=none:=mU ae
   have hdc:decide ((1:Int)<(n:Int))=decide (1<(firstL (W.at L)).length):=by
    rw [←hnc]
    by_cases h1:1<n
    · rw [ZA h1,ZA (by omega)]
    · rw [Zn h1,Zn (by omega)]
   repeat' (first|apply ab|refine aK ?_|apply ar|(refine aW (vs:=[.string W.id,.slice none 0 0,.slice none 0 0,.string ⟨#[]⟩,.int .i64 0,.bool (decide ((1:Int)<(n:Int)))]) (hv:=rfl) ?_)|fail)
   exact al (dz rfl rfl bU (by rfl)) ⟨L,⟨none,0,0⟩,⟨none,0,0⟩,⟨[],[],⟨#[]⟩,0⟩,decide ((1:Int)<(n:Int)),hPL,(by rw [OfRes,hone];exact ⟨rfl,hdc⟩),rfl,fun w h=>⟨⟨cB w 20,fun a h=>by cases h⟩,cB w 3⟩⟩
 have hkE:k=M.length:=by omega
 have hfin:firstL (W.at L)=(M.take k).filter (firstB (W.at L)):=by rw [hfl,hkE,List.take_length]
 have hnc:n=(firstL (W.at L)).length:=by rw [hfin];exact hn'
 have hn1:n=1:=by
  by_cases e:n=1
  · exact e
  · exact absurd hx_ (by simp;omega)
 obtain ⟨a,ha⟩:∃ a,firstL (W.at L)=[a]:=List.length_eq_one_iff.1 ae
 have ham:a∈firstL (W.at L):=by rw [ha];exact List.mem_singleton.2 rfl
 have hamL:a∈L:=hMm a (by rw [hfl] at ham;exact (List.mem_filter.1 ham).1)
 have hxa:xs=a.cells:=by rw [hxs,←hfin,ha];simp
 subst hxa
 subst hn1
 refine cO (r:=orow 46 20 (.slice A 1 cc) 1 a.cells) bU (p:=A.isSome=true) (fun w h=>cE h (by decide)) fun hAp=>?_
 have hcr:orow 46 20 (.slice A 1 cc) 1 a.cells∈[orow 46 20 (.slice A 1 cc) 1 a.cells]:=.head _
 (refine aS [orow 46 20 (.slice A 1 cc) 1 a.cells] (fun w=>(Y w∧Glob w)∧(NextD q1 G' L w∧∀ a∈L,a.at_ w)) ak ?_)
 all_goals refine aa 0 ?_<;>refine aa 1 ?_<;>(refine aa 2 (hy:=by (apply aN (q:=0);rfl;rfl;omega;omega;assumption;rfl)) ?_)<;>(refine aa 3 (hy:=by (apply eU;rfl;assumption;rfl)) ?_)<;>(refine aa 4 (hy:=by (apply f0 (size:=20) (i:=0) (j:=16) (xs:=[a.cells]) (cs:=a.cells) (u:=.int .i64 a.n);rfl;exact .head _;rfl;exact (fun r hr=>by rw [List.mem_singleton.1 hr];rfl);rfl;rfl)) ?_)<;>refine aa 5 ?_<;>(refine aa 6 (hy:=by (apply aN (q:=0);rfl;rfl;omega;omega;assumption;rfl)) ?_)<;>(refine aa 7 (hy:=by (apply eU;rfl;assumption;rfl)) ?_)<;>(refine aa 8 (hy:=by (apply f0 (size:=20) (i:=0) (j:=17) (xs:=[a.cells]) (cs:=a.cells) (u:=.int .i64 a.m);rfl;exact .head _;rfl;exact (fun r hr=>by rw [List.mem_singleton.1 hr];rfl);rfl;rfl)) ?_)<;>(refine aa 9 (hy:=by (apply cj (cs:=KeyD.cells ⟨0,a.n,a.m⟩);rfl;rfl)) ?_)<;>(refine ag 10 ?_;(refine bH (size:=3) (vs:=[KeyD.v ⟨0,a.n,a.m⟩]) (css:=KeyD.cells ⟨0,a.n,a.m⟩) (hsz:=by rfl) (hcs:=by rfl) fun bk=>?_);apply ab;refine ai ?_)<;>refine aa 11 ?_<;>refine aa 12 ?_<;>refine aa 13 ?_<;>(refine ag 14 ?_;(refine bc ?_);apply ab;refine ai ?_)<;>(refine aw ?_)
 refine yG 3 1 rfl (by decide) ?_
 refine cW 46 20 ?_
 refine lV permK ?_
 have hadd:=yO b (bldH0 ks ki W.id q1 q2) ⟨none,0,0⟩ ⟨some ⟨bk,0,none⟩,1,1⟩ (⟨[],[⟨0,a.n,a.m⟩],⟨#[]⟩,0⟩:ChS) [] ⟨rfl,rfl,fun d=>rfl⟩ a (hok.rng a hamL) (hok.sm a hamL) (by simp) (by simp)
 repeat' (first|apply Qt|apply Qu|refine aj ?_|(refine bx (q:=0) ?_)|(refine am (fZ (size:=20) (m:=1) (i:=0) (xs:=[a.cells]) (cs:=a.cells) rfl (.tail _ (.tail _ (.tail _ (.tail _ (.head _))))) rfl (fun r hr=>by rw [List.mem_singleton.1 hr];rfl) rfl) rfl rfl rfl ?_)|fail)
 refine cw (pre:=bldR b (bldH0 ks ki W.id q1 q2) ⟨none,0,0⟩ ⟨some ⟨bk,0,none⟩,1,1⟩ (⟨[],[⟨0,a.n,a.m⟩],⟨#[]⟩,0⟩:ChS) []) (fr:=[orow 46 20 (.slice A 1 cc) 1 a.cells,cel b4 31 (chZ ⟨#[]⟩)]) (first:=#[]) (caps:=#[]) (hc:=hadd) (hX:=fun w h=>⟨h.2.2 a hamL,h.1.2⟩) (h:=?_)
 rintro v R X' ⟨rfl,sa,sk,pl,ok,rfl⟩
 refine cP (X':=fun w=>(Y w∧Glob w)∧(NextD q1 G' L w∧∀ a∈L,a.at_ w)) (fun w h=>h.1) ?_
 repeat' (first|apply ab|apply Qt|apply Qu|refine aj ?_|fail)
 have hlook:=ta b (bldH0 ks ki W.id q1 q2) sa sk (begS a) (W.won 0) (fun w=>Y w∧Glob w) (H.won 0 (Nat.zero_le _))
 refine cw (pre:=[bldCel b (bldH0 ks ki W.id q1 q2) sa sk (begS a)]) (fr:=[actR sa (begS a).acts,keyR sk (begS a).keys,mapr q2 pl,orow 46 20 (.slice A 1 cc) 1 a.cells,cel b4 31 (chZ ⟨#[]⟩)]) (first:=#[]) (caps:=#[]) (hc:=hlook) (hX:=fun w h=>h.1) (h:=?_)
 rintro v R X' ⟨rfl,rfl⟩
 repeat' (first|apply ab|apply Qt|apply Qv|fail)
 have hbI:=tz ham
 refine aU (ι:=RunI (W.at L) a) (fun i=>⟨[(4,.pointer (some ⟨b4,0,none⟩)),(5,.pointer (some ⟨b,0,none⟩))],bldR b ((bldH0 ks ki W.id q1 q2).look (W.won i.st.gen)) i.sa i.sk i.st i.pl++[cel b4 31 (chZ ⟨#[]⟩)],fun w=>(Y w∧Glob w)∧(NextD q1 G' L w∧∀ a∈L,a.at_ w)⟩) (fun i=>muS (W.at L) i.st) ⟨begS a,sa,sk,pl,ok,hbI.1,L.length+W.B,Nat.le_of_succ_le hbI.2,rfl⟩ (ax ⟨rfl,rfl,trivial⟩ (.cons_cons _ (.cons_cons _ (.cons_cons _ (.cons_cons _ (.cons _ (aE _)))))) fun w h=>h.1) fun i=>?_
 clear ok hlook hadd
 obtain ⟨st,sa2,sk2,pl2,ok2,inv,j,hj,hr⟩:=i
 simp only
 have hlen:=inv.len
 have hlen':st.acts.length≤L.length:=hlen
 have hkn:=inv.keyn
 have hgn:st.gen≤W.B:=inv.gen
 have hbB:=H.bB
 have hreg:=pF H L b q1 q2 sa2 sk2 st pl2 ok2 ae ae
 repeat' (first|apply Qt|apply Qu|refine aj ?_|fail)
 refine cw (pre:=bldR b ((bldH0 ks ki W.id q1 q2).look (W.won st.gen)) sa2 sk2 st pl2) (fr:=[cel b4 31 (chZ ⟨#[]⟩)]) (first:=#[]) (caps:=#[]) (hc:=hreg) (hX:=fun w h=>h.1) (h:=?_)
 rintro v R X' ⟨h1,h2⟩
 refine cP (X':=fun w=>(Y w∧Glob w)∧(NextD q1 G' L w∧∀ a∈L,a.at_ w)) (fun w h=>h.1) ?_
 cases hrg:regS (W.at L) st with
 | some s1 =>
  obtain ⟨rfl,sa3,sk3,pl3,ok3,rfl⟩:=h1 s1 hrg
  have hstep:stepS (W.at L) st=some s1:=by rw [stepS,hrg]
  obtain ⟨n1,n2,n3,n4⟩:=RunI.next (W:=W.at L) H.bnd inv hj hr hstep
  repeat' (first|apply ab|refine aj ?_|refine aD ?_|refine bR ?_|refine Qx ?_|apply Qw|apply Qv|fail)
  exact ⟨(⟨s1,sa3,sk3,pl3,ok3,n1,j-1,n3,n4⟩:RunI (W.at L) a),n2,ax ⟨rfl,rfl,trivial⟩ (aE _) fun w h=>h⟩
 | none =>
  obtain ⟨rfl,sa3,sk3,pl3,ok3,rfl⟩:=h2 hrg
  have hct:=ou b ((bldH0 ks ki W.id q1 q2).look (W.won st.gen)) sa3 sk3 st pl3 ok3 (W.at L) G' inv rfl hok hL H.bB (H.ver L hPL)
  repeat' (first|refine aj ?_|fail)
  refine cw (pre:=bldR b ((bldH0 ks ki W.id q1 q2).look (W.won st.gen)) sa3 sk3 st pl3) (fr:=[cel b4 31 (chZ ⟨#[]⟩)]) (first:=#[]) (caps:=#[]) (hc:=hct) (hX:=fun w h=>⟨h.2,h.1.2⟩) (h:=?_)
  rintro v R X' ⟨g1,g2⟩
  refine cP (X':=fun w=>(Y w∧Glob w)∧(NextD q1 G' L w∧∀ a∈L,a.at_ w)) (fun w h=>h.1) ?_
  cases ho2:oneA (candL (W.at L) st) with
  | some a2 =>
   obtain ⟨rfl,sa4,sk4,pl4,ok4,rfl⟩:=g1 a2 ho2
   have hstep:stepS (W.at L) st=some (addS st a2):=by rw [stepS,hrg,ho2];rfl
   obtain ⟨n1,n2,n3,n4⟩:=RunI.next (W:=W.at L) H.bnd inv hj hr hstep
   repeat' (first|apply ab|refine aG ?_|refine Qx ?_|apply Qw|apply Qv|fail)
   exact ⟨(⟨addS st a2,sa4,sk4,pl4,ok4,n1,j-1,n3,n4⟩:RunI (W.at L) a),n2,ax ⟨rfl,rfl,trivial⟩ (aE _) fun w h=>h⟩
  | none =>
   obtain ⟨rfl,sa4,sk4,pl4,ok4,rfl⟩:=g2 ho2
   have hstep:stepS (W.at L) st=none:=by rw [stepS,hrg,ho2];rfl
   rw [pa hstep] at hr
   repeat' (first|apply ab|apply Qt|apply Qu|refine aj ?_|refine cv ?_|refine aB ?_|refine aG ?_|refine aK ?_|refine Qy ?_|apply ar|apply aQ|(refine aW (vs:=[.string W.id,.slice sa4.p sa4.n sa4.c,.slice sk4.p sk4.n sk4.c,.string st.prev,.int .i64 (st.gen:Nat),.bool (decide (1<(candL (W.at L) st).length))]) (hv:=rfl) ?_)|fail)
   refine al (dz rfl rfl bU (by rfl)) ⟨L,sa4,sk4,st,decide (1<(candL (W.at L) st).length),hPL,?_,rfl,fun w h=>⟨?_,?_⟩⟩
   · rw [OfRes,show oneA (firstL (W.at L))=some a from by rw [ha];rfl]
     exact ⟨hr,by rw [←hr]⟩
   · exact fe (h.2 (actR sa4 st.acts) (.tail _ (.head _))) ok4.hn fun x hx=>h.1.2.2 x (inv.mem x hx)
   · exact cb (h.2 (keyR sk4 st.keys) (.tail _ (.tail _ (.head _)))) (by rw [Z3];exact ok4.hk) (m0 _)
structure KnR (L:List Int) (I:List ItemD):Prop where
 sv:L.length≤20
 len:I.length≤100
 rng:∀ i∈I,i.act.Rng
 sm:∀ i∈I,i.act.Sm
 dn:∀ i∈I,i.dec.to.n=i.dec.toL.length
 right:∀ i∈I,rightIt i=true
 asc:Asc (I.map digIt)
theorem tt {P:Program} {f:FuncId} {args:Array Value} {pre:List Res} {X X':World→Prop} {Post:Value→List Res→(World→Prop)→Prop} (h:Ct P f args pre X Post) (hx:∀ w,X' w→X w):Ct P f args pre X' Post :=
 Ct.mk fun w av G=>h.run w av (G.imp hx)
theorem nZ {P:Program} {f:FuncId} {args:Array Value} {X X':World→Prop} {v:Value} (h:Pu P f args X v) (hx:∀ w,X' w→X w):Pu P f args X' v:=by
 unfold Pu at *
 exact tt h hx
theorem As {P:Program} {f:FuncId} {args:Array Value} {X X':World→Prop} {Φ:Value→(World→Prop)→Prop} (h:Mk P f args X Φ) (hx:∀ w,X' w→X w):Mk P f args X' Φ:=by
 unfold Mk at *
 exact tt h hx
theorem vL:ActD.zero.Rng:=⟨by decide,fun w hw=>(List.not_mem_nil hw).elim,rfl,rfl⟩
theorem tv {x y:ByteArray} (h:ltB x y=true):¬ SrG.cmp2 0 0 y x<0:=by
 have h1:ltB y x=false:=by
  cases hh:ltB y x with
  | false=>rfl
  | true =>
   have:=fT h hh
   rw [fo] at this
   cases this
 have h2:Op.bytesLess y.toList x.toList=false:=h1
 rw [SrG.cmp2,SrG.cmpI_self]
 show ¬ SrG.cmpB_g y x<0
 rw [SrG.cmpB_g,h2]
 cases seqB y x<;>decide
theorem ja {l:List ByteArray} (h:Asc l) {i j:Nat} {x y:ByteArray} (hij:i<j) (hi:l[i]?=some x) (hj:l[j]?=some y):ltB x y=true:=by
 obtain ⟨h1,rfl⟩:=List.getElem?_eq_some_iff.1 hi
 obtain ⟨h2,rfl⟩:=List.getElem?_eq_some_iff.1 hj
 exact List.pairwise_iff_getElem.1 h i j h1 h2 hij
theorem iZ {l m:List ByteArray} (h:Asc l) (hs:m.Sublist l):Asc m:=List.Pairwise.sublist hs h
theorem srtC {L:List Int} {I:List ItemD} (h:KnR L I) (au:ByteArray):SrC.Srt (selFC au rightIt digIt I):=by
 have ha:Asc ((selFC au rightIt digIt I).map FndC.dg):=by
  rw [selFC,Qr]
  exact iZ h.asc (List.filter_sublist.map digIt)
 have hr:∀ x∈selFC au rightIt digIt I,x.rank=0:=fun x hx=>by
  rw [selFC] at hx
  obtain ⟨i,_,rfl⟩:=List.mem_map.1 hx
  rfl
 intro i j x y hij hi hj
 rw [SrC.cmpX,hr x (List.mem_of_getElem? hi),hr y (List.mem_of_getElem? hj)]
 exact tv (ja ha hij (by rw [List.getElem?_map,hi];rfl) (by rw [List.getElem?_map,hj];rfl))
theorem srtB {L:List Int} {I:List ItemD} (h:KnR L I) (au:ByteArray) (gn:Int):SrB.Srt (selFB au gn rightIt digIt I):=by
 have ha:Asc ((selFB au gn rightIt digIt I).map FndB.dg):=by
  rw [selFB,Qr]
  exact iZ h.asc (List.filter_sublist.map digIt)
 have hr:∀ x∈selFB au gn rightIt digIt I,x.rank=0:=fun x hx=>by
  rw [selFB] at hx
  obtain ⟨i,_,rfl⟩:=List.mem_map.1 hx
  rfl
 intro i j x y hij hi hj
 rw [SrB.cmpX,hr x (List.mem_of_getElem? hi),hr y (List.mem_of_getElem? hj)]
 exact tv (ja ha hij (by rw [List.getElem?_map,hi];rfl) (by rw [List.getElem?_map,hj];rfl))
def claimsV (I:List ItemD) (au:ByteArray):List ClaimD:=selC au rightIt I
def dgCl (c:ClaimD):ByteArray:=digIt (ofClaimI c)
def wonK (sv:Nat) (I:List ItemD) (au:ByteArray) (gn:Int):Option ClaimD:=wonO sv (claimsV I au) dgCl (selB2 au gn rightIt I) gn
theorem ku {sv:Nat} {I:List ItemD} {au:ByteArray} {gn:Int} {c:ClaimD} (h:wonK sv I au gn=some c):c∈claimsV I au∧c.gen=gn:=by
 have h1:=List.find?_some h
 rw [wonB,ZM,ZT] at h1
 exact ⟨List.mem_of_find?_eq_some h,h1.1⟩
theorem ov {I:List ItemD} {au:ByteArray} {c:ClaimD} (h:c∈claimsV I au):claimR c=true:=by
 rw [claimsV,selC] at h
 obtain ⟨i,hi,rfl⟩:=List.mem_map.1 h
 have h1:=(List.mem_filter.1 hi).2
 rw [selBC,ZM,wantC,ZM,ZT] at h1
 rcases dH h1.2 with h2|h2|h2|h2
 · rw [h1.1.1] at h2;exact absurd h2.1 (by decide)
 · exact h2.2
 · rw [h1.1.1] at h2;exact absurd h2.1 (by decide)
 · rw [h1.1.1] at h2;exact absurd h2.1 (by decide)
def lnone (f:Nat→Option ClaimD):Nat→Nat→Nat
 | 0,g=>g
 | n+1,g=>match f g with
  | none=>g
  | some _=>lnone f n (g+1)
theorem lE (f:Nat→Option ClaimD):∀ n g i,g≤i→i<lnone f n g→(f i).isSome=true
 | 0,g,i,h1,h2=>by rw [lnone] at h2;omega
 | n+1,g,i,h1,h2=>by
  rw [lnone] at h2
  cases hf:f g with
  | none=>rw [hf] at h2;simp only at h2;omega
  | some c =>
   rw [hf] at h2
   simp only at h2
   rcases Nat.lt_or_eq_of_le h1 with h3|rfl
   · exact lE f n (g+1) i h3 h2
   · rw [hf];rfl
theorem lD (f:Nat→Option ClaimD):∀ n g,lnone f n g<g+n→f (lnone f n g)=none
 | 0,g,h=>by rw [lnone] at h;omega
 | n+1,g,h=>by
  rw [lnone] at h ⊢
  cases hf:f g with
  | none=>exact hf
  | some c =>
   rw [hf] at h
   simp only at h ⊢
   exact lD f n (g+1) ae
def genB (sv:Nat) (I:List ItemD) (au:ByteArray):Nat:=lnone (fun g=>wonK sv I au (g:Nat)) ((claimsV I au).length+1) 0
theorem oq (sv:Nat) (I:List ItemD) (au:ByteArray):genB sv I au≤(claimsV I au).length:=by
 have h:=js (n:=genB sv I au) (l:=(claimsV I au).map ClaimD.gen) fun i hi=>by
  have h1:=lE (fun g=>wonK sv I au (g:Nat)) _ 0 i (Nat.zero_le _) hi
  cases hw:wonK sv I au (i:Nat) with
  | none=>rw [hw] at h1;cases h1
  | some c =>
   obtain ⟨h2,h3⟩:=ku hw
   exact List.mem_map.2 ⟨c,h2,h3⟩
 simpa using h
theorem vo (sv:Nat) (I:List ItemD) (au:ByteArray):wonK sv I au (genB sv I au:Nat)=none :=
 lD (fun g=>wonK sv I au (g:Nat)) ((claimsV I au).length+1) 0 (by have:=oq sv I au;rw [genB] at this;omega)
def OfWK (sv:Nat) (I:List ItemD) (au:ByteArray):OfW:=⟨[],au,fun g=>bif decide (g<genB sv I au) then wonK sv I au (g:Nat) else none,sgnC,dgCl,verV,genB sv I au⟩
theorem BM {sv:Nat} {I:List ItemD} {au:ByteArray} {g:Nat} (hg:g≤genB sv I au):(OfWK sv I au).won g=wonK sv I au (g:Nat):=by
 show (bif decide (g<genB sv I au) then _ else _)=_
 rcases Nat.lt_or_eq_of_le hg with h|rfl
 · rw [ZA h,ZC]
 · rw [Zn (Nat.lt_irrefl _),ZB,vo]
theorem ik {sv:Nat} {I:List ItemD} {au:ByteArray} {g:Nat} {c:ClaimD} (h:(OfWK sv I au).won g=some c):g<genB sv I au∧wonK sv I au (g:Nat)=some c:=by
 change (bif decide (g<genB sv I au) then wonK sv I au (g:Nat) else none)=some c at h
 cases hd:decide (g<genB sv I au) with
 | true=>rw [hd] at h;exact ⟨aP hd,h⟩
 | false=>rw [hd] at h;cases h
theorem ya (hso:∀ n,n≤1000000→SortA n) (ks ki:SlV) {L:List Int} {I:List ItemD} (h:KnR L I) (au:ByteArray) :
  OfHyp ks ki (OfWK L.length I au) (fun A=>A.Perm (selA au rightIt I)) (fun w=>Ints w ks L∧Items w ki I):=by
 have hR:∀ it∈I,Pu Tryz.prog 44 #[it.v] (fun w=>it.at_ w) (.bool (rightIt it)):=fun it hi=>dN it
 have hD:∀ it∈I,Pu Tryz.prog 14 #[it.v] (fun w=>it.at_ w∧Glob w) (.string (digIt it)):=fun it hi=>dA it (h.rng it hi) (h.dn it hi)
 have hI:I.length≤1000:=Qp h.len (by decide)
 have hcl:(claimsV I au).length≤I.length:=by rw [claimsV,selC,Z3];exact List.length_filter_le _ _
 have hgl:=oq L.length I au
 have hlen:=h.len
 have hdc:∀ c∈claimsV I au,Pu Tryz.prog 14 #[(ofClaimI c).v] Glob (.string (dgCl c)):=fun c hc =>
  nZ (dA (ofClaimI c) vL rfl) fun w hw=>⟨⟨⟨cB w 1,cB w 5⟩,cB w 1⟩,hw⟩
 have hmem:∀ A:List ActD,A.Perm (selA au rightIt I)→∀ a∈A,∃ i∈I,i.act=a:=fun A hA a ha=>by
  have h1:=hA.subset ha
  rw [selA] at h1
  obtain ⟨i,hi,e⟩:=List.mem_map.1 h1
  exact ⟨i,(List.mem_filter.1 hi).1,e⟩
 exact {
  acts:=As (om ks ki I au rightIt digIt hR hD hI (hso _ ae)) fun w hw=>⟨hw.1.2,hw.2⟩
  ok:=fun A hA=>⟨⟨fun a ha=>by obtain ⟨i,hi,rfl⟩:=hmem A hA a ha;exact h.rng i hi,fun a ha=>by obtain ⟨i,hi,rfl⟩:=hmem A hA a ha;exact h.sm i hi⟩,by
   rw [hA.length_eq,selA,Z3]
   have:=List.length_filter_le (selB au rightIt) I
   omega⟩
  bB:=by show genB L.length I au≤_;omega
  won:=fun g hg=>by
   rw [BM hg]
   exact BL ks ki L I au (g:Nat) (claimsV I au) (selB2 au (g:Nat) rightIt I) dgCl (by rw [selB2,Z3];have:=List.length_filter_le (selBB au (g:Nat) rightIt) I;omega) (by have:=h.sv;omega)
    (j4 ks ki I au rightIt digIt hR hD hI (srtC h au)) (jv ks ki I au (g:Nat) rightIt digIt hR hD hI (srtB h au _)) hdc
  bnd:=fun g c hw=>(ik hw).1
  clm:=fun g c hw p=>nZ (rH p c (ov (ku (ik hw).2).1)) fun w hw=>hw.2
  dg:=fun g c hw=>nZ (hdc c (ku (ik hw).2).1) fun w hw=>hw.2
  ver:=fun A hA a ha p=>by
   obtain ⟨i,hi,rfl⟩:=hmem A hA a ha
   exact oF p i.act (h.rng i hi) }
theorem Cb (hso:∀ n,n≤1000000→SortA n) (ks ki:SlV) {L:List Int} {I:List ItemD} (h:KnR L I) (au:ByteArray) :
  Mk Tryz.prog 9 #[.agg #[ks.v,ki.v],.string au] (fun w=>(Ints w ks L∧Items w ki I)∧Glob w) (OfAt19 (OfWK L.length I au) fun A=>A.Perm (selA au rightIt I)) :=
 Ak ks ki (OfWK L.length I au) _ _ (ya hso ks ki h au)
end Go.Proofs.YtcdilibijnboeaaGreatDoor
namespace Go.Proofs.YtcdilibijnboeaaGreatDoor
open Go Go.Proofs Sy SrG
namespace SrA
def p22 (i:Nat):Nat:=i*22
theorem cC (i:Nat):p22 i=i*22:=rfl
attribute [irreducible] p22
structure FndX where
 rank:Int
 dg:ByteArray
 r:List Value
 hr:r.length=20
 h1:r.all (·.oneCell')=true
def FndX.cells (f:FndX):List Value:=.int .i64 f.rank::.string f.dg::f.r
theorem FndX.len (f:FndX):f.cells.length=22:=by simp [FndX.cells,f.hr]
theorem FndX.one (f:FndX):f.cells.all (·.oneCell')=true:=by rw [FndX.cells,List.all_cons,List.all_cons,f.h1];rfl
theorem cellsF (P:List FndX):∀ r∈P.map FndX.cells,r.length=22:=fun r hr=>by
 obtain ⟨c,_,rfl⟩:=List.mem_map.1 hr
 exact c.len
abbrev postR (s:SlV) (P:List FndX):Res:=orow 159 22 (.slice s.p s.n s.c) s.n (P.map FndX.cells).flatten
theorem cS:∀ (L:List FndX) (p:Nat) (x:FndX),p<L.length→(L.map FndX.cells).flatten.take (p*22)++x.cells++(L.map FndX.cells).flatten.drop (p*22+22)=((L.set p x).map FndX.cells).flatten
 | [],p,x,h=>absurd h (by simp)
 | c::L,0,x,h=>by
  have h6:c.cells.length=22:=c.len
  rw [List.set_cons_zero,Qs,Qs,List.flatten_cons,List.flatten_cons,Nat.zero_mul,Qk,List.take_zero,Qa,List.drop_append,h6,List.drop_of_length_le (by omega)]
  rfl
 | c::L,p+1,x,h=>by
  have h6:c.cells.length=22:=c.len
  have ih:=cS L p x (by simpa using h)
  rw [List.set_cons_succ,Qs,Qs,List.flatten_cons,List.flatten_cons,←ih,List.take_append,List.drop_append,h6,List.take_of_length_le ae,List.drop_of_length_le ae,
   show (p+1)*22-22=p*22 from by omega,show (p+1)*22+22-22=p*22+22 from by omega,Qa,ZZ,ZZ,ZZ]
theorem dX {P:List FndX} {i j:Nat} {x y:FndX} (hi:P[i]?=some x) (hj:P[j]?=some y):((P.set i y).set j x).Perm P:=by
 obtain ⟨h1,rfl⟩:=List.getElem?_eq_some_iff.1 hi
 obtain ⟨h2,rfl⟩:=List.getElem?_eq_some_iff.1 hj
 exact List.set_set_perm h1 h2
section
variable {N:Nat} {av bor:List Nat} {w0:World} {st:St} {ty:TypeId} {x y:Operand} {E:Env} {loc:List Res} {X:World→Prop} {ops:Array Oper} {kk:St→Prop} {pos:String} {af:Array Edge} {g:Option (Nat×Bool)} {rest:List Oper} {bb want:Bool}
theorem bq {A:Option Addr} {m c i:Nat} {P:List FndX} {p:FndX} (hx:ev st.env x=some (elP A (p22 i))) (hm:orow 159 22 (.slice A m c) m (P.map FndX.cells).flatten∈st.loc) (hn:m=P.length) (hi:P[i]?=some p) :
  Sy.Yields Tryz.prog N av bor w0 st (.load 159 x) ty (.agg p.cells.toArray):=fZ (xs:=P.map FndX.cells) (cs:=p.cells) (cC i▸hx) hm (by simp [hn]) (cellsF P) (by simp [hi])
theorem bN {d:Option Tmp} {loc':List Res} {A:Option Addr} {m c i:Nat} {P:List FndX} {p:FndX} (hx:ev E x=some (elP A (p22 i)):=by rfl) (hy:ev E y=some (.agg p.cells.toArray):=by rfl) (hi:i<m:=by omega) (hn:m=P.length)
  (hA:At (orow 159 22 (.slice A m c) m (P.map FndX.cells).flatten) (orow 159 22 (.slice A m c) m ((P.set i p).map FndX.cells).flatten) loc loc':=by (repeat (first|exact At.here _|apply At.there))) (hg:gdB ops E g=some (bb,want):=by rfl) (hb:bb=want:=by exact aC) (hd:inB N d=true:=by rfl)
  (h:Sw Tryz.prog N av bor w0 ops rest ⟨putE E d undef,loc',X⟩ kk):Sw Tryz.prog N av bor w0 ops (⟨d,.store 159 x y,ty,pos,af,g⟩::rest) ⟨E,loc,X⟩ kk :=
 nF (i:=i) (size:=22) (vs:=p.cells) ak (cC i▸hx) hy rfl p.one p.len hi (cS P i p ae) hA hg hb hd h
end
def PermAt (s:SlV) (P:List FndX) (u:Value) (R:List Res) (X:World→Prop):Prop:=u=.tuple #[]∧∃ Q:List FndX,Q.Perm P∧R=[postR s Q]
structure PermI (P:List FndX) (n:Nat) where
 k:Nat
 hk:k≤n
 Q:List FndX
 hQ:Q.Perm P
set_option maxHeartbeats 4000000 in
theorem cL (s:SlV) (P:List FndX) (a b n:Nat) (fv:Value) (hs:s.n=P.length) (hm:s.n≤1000000) (ha:a+n≤s.n) (hb:b+n≤s.n) :
  Ct Tryz.prog 257 #[s.v,.int .i64 (a:Nat),.int .i64 (b:Nat),.int .i64 (n:Nat),fv] [postR s P] (fun _=>True) (PermAt s P):=by
 refine cd (args:=[_,_,_,_,_]) _ Tryz.func257 rfl Tryz.ntmps257 rfl fun av bor w0=>?_
 refine cO (r:=postR s P) aI (p:=0<s.n→s.p.isSome=true) (fun w h hn=>cE h hn) fun hp=>?_
 repeat' (first|apply ab|apply Qt|apply Qu|refine ad ?_|apply Qv|fail)
 refine aU (ι:=PermI P n) (fun i=>⟨[(0,s.v),(1,.int .i64 (a:Nat)),(2,.int .i64 (b:Nat)),(3,.int .i64 (n:Nat)),(10,.int .i64 (i.k:Nat))],[postR s i.Q],fun _=>True⟩) (fun i=>n-i.k) ⟨0,Nat.zero_le _,P,List.Perm.refl _⟩ (ax ⟨rfl,rfl,rfl,rfl,rfl,trivial⟩ (aE _) fun _ h=>h) fun i=>?_
 obtain ⟨k,hk,Q,hQ⟩:=i
 simp only
 have hl:=hQ.length_eq
 repeat' (first|apply ab|apply Qt|apply Qu|refine aj ?_|refine bj ?_|apply Qw|apply Qv|apply aQ|(refine aH (ht:=?_) (hf:=?_);all_goals (intro hx_;first|have:=aP hx_|have:=aT hx_)))
 · have hlt:k<n:=by omega
   have hp':=hp ae
   obtain ⟨x,hx⟩:∃ x,Q[a+k]?=some x:=⟨_,Zm ae⟩
   obtain ⟨y,hy⟩:∃ y,Q[b+k]?=some y:=⟨_,Zm ae⟩
   (refine aS [] (fun _=>True) ak ?_)
   all_goals refine aa 0 ?_<;>refine aa 1 ?_<;>refine aa 2 ?_<;>refine aa 3 ?_<;>refine aa 4 ?_<;>refine aa 5 ?_<;>refine aa 6 ?_<;>refine aa 7 ?_<;>refine aa 8 ?_<;>refine aa 9 ?_<;>refine aa 10 ?_<;>refine aa 11 ?_<;>(refine aa 12 (hy:=by (apply aN (q:=p22 (b+k));rfl;rfl;omega;omega;assumption;(rw [cC];omega))) ?_)<;>refine aa 14 ?_<;>refine aa 15 ?_<;>refine aa 16 ?_<;>refine aa 17 ?_<;>(refine aa 18 (hy:=by (apply aN (q:=p22 (a+k));rfl;rfl;omega;omega;assumption;(rw [cC];omega))) ?_)<;>(refine bw 13 19 (h:=?_) (h':=?_);(focus (((refine am (bq (i:=b+k) (P:=Q) rfl aI ae hy) rfl rfl rfl ?_);apply ab;refine ai ?_);all_goals ((refine ag 19 ?_;(refine am (bq (i:=a+k) (P:=Q) rfl aI ae hx) rfl rfl rfl ?_);apply ab;refine ai ?_);all_goals (refine aa 20 (hy:=by (apply aN (q:=p22 (a+k));rfl;rfl;omega;omega;assumption;(rw [cC];omega))) ?_);all_goals (refine ag 21 ?_;(refine bN (i:=a+k) (p:=y) rfl rfl ae ae (At.here _) rfl aC rfl ?_);apply ab;refine ai ?_);all_goals (refine aa 22 (hy:=by (apply aN (q:=p22 (b+k));rfl;rfl;omega;omega;assumption;(rw [cC];omega))) ?_);all_goals (refine ag 23 ?_;(refine bN (i:=b+k) (p:=x) rfl rfl ae (by (simp only [List.length_set];omega)) (At.here _) rfl aC rfl ?_);apply ab;refine ai ?_);all_goals (refine aw ?_))));rotate_right;(focus (((refine am (bq (i:=a+k) (P:=Q) rfl aI ae hx) rfl rfl rfl ?_);apply ab;refine ai ?_);all_goals ((refine ag 13 ?_;(refine am (bq (i:=b+k) (P:=Q) rfl aI ae hy) rfl rfl rfl ?_);apply ab;refine ai ?_);all_goals (refine aa 20 (hy:=by (apply aN (q:=p22 (a+k));rfl;rfl;omega;omega;assumption;(rw [cC];omega))) ?_);all_goals (refine ag 21 ?_;(refine bN (i:=a+k) (p:=y) rfl rfl ae ae (At.here _) rfl aC rfl ?_);apply ab;refine ai ?_);all_goals (refine aa 22 (hy:=by (apply aN (q:=p22 (b+k));rfl;rfl;omega;omega;assumption;(rw [cC];omega))) ?_);all_goals (refine ag 23 ?_;(refine bN (i:=b+k) (p:=x) rfl rfl ae (by (simp only [List.length_set];omega)) (At.here _) rfl aC rfl ?_);apply ab;refine ai ?_);all_goals (refine aw ?_)))))
   all_goals
    repeat' (first|apply ab|apply Qu|refine aj ?_|refine ad ?_|refine be (h:=?_)|fail)
    exact ⟨(⟨k+1,hlt,(Q.set (a+k) y).set (b+k) x,(dX hx hy).trans hQ⟩:PermI P n),(by show n-(k+1)<n-k;omega),ax ⟨rfl,rfl,rfl,rfl,rfl,trivial⟩ (aE _) fun _ h=>h⟩
 · exact bY (bL rfl) ⟨rfl,Q,hQ,rfl⟩
section
variable {N:Nat} {av bor:List Nat} {w0:World} {ops:Array Oper} {rest:List Oper} {k:St→Prop} {E:Env} {X:World→Prop} {d:Option Tmp} {ty:TypeId} {pos:String} {af:Array Edge} {g:Option (Nat×Bool)} {bb want:Bool}
theorem cU {x:Operand} {xs:List Operand} {ats:Array TypeId} {f:FuncId} {args:List Value} {s:SlV} {Q:List FndX}
  (hx:ev E x=some (.func (.func f) #[] #[]):=by rfl) (ha:evs E xs=some args:=by rfl) (hg:gdB ops E g=some (bb,want):=by rfl) (hb:bb=want:=by exact aC) (hd:inB N d=true:=by rfl) (hf:FnBody Tryz.prog f:=by infer_instance)
  (hc:Ct Tryz.prog f args.toArray [postR s Q] (fun _=>True) (PermAt s Q))
  (h:∀ Q':List FndX,Q'.Perm Q→Sw Tryz.prog N av bor w0 ops rest ⟨putE E d (.tuple #[]),[postR s Q'],X⟩ k) :
  Sw Tryz.prog N av bor w0 ops (⟨d,.call ⟨.value x,xs.toArray,ats⟩,ty,pos,af,g⟩::rest) ⟨E,[postR s Q],X⟩ k :=
 cw (pre:=[postR s Q]) (fr:=[]) (first:=#[]) (caps:=#[]) (Post:=PermAt s Q) hx ha rfl hg hb hd hf (by simpa using hc) (fun _ _=>trivial) fun u R X' ⟨h1,Q',h2,h3⟩=>by
  subst h1
  subst h3
  refine iw (fun a w ok=>?_) (h Q' h2)
  exact ok.via fun M G=>G.imp fun _ h=>h.1
end
structure RotI (P:List FndX) (p q:Nat) where
 i:Nat
 j:Nat
 h1:1≤i
 h2:i≤p
 h3:1≤j
 h4:j≤q
 Q:List FndX
 hQ:Q.Perm P
set_option maxHeartbeats 4000000 in
theorem fO (s:SlV) (P:List FndX) (a m b:Nat) (fv:Value) (hs:s.n=P.length) (hm:s.n≤1000000) (ha:a<m) (hb:m<b) (hbs:b≤s.n) :
  Ct Tryz.prog 234 #[s.v,.int .i64 (a:Nat),.int .i64 (m:Nat),.int .i64 (b:Nat),fv] [postR s P] (fun _=>True) (PermAt s P):=by
 refine cd (args:=[_,_,_,_,_]) _ Tryz.func234 rfl Tryz.ntmps234 rfl fun av bor w0=>?_
 repeat' (first|refine bF (hq:=by omega) ?_|apply ab|apply Qt|apply Qu|refine aj ?_|refine ad ?_|apply Qv|fail)
 refine aU (ι:=RotI P (m-a) (b-m)) (fun r=>⟨[(0,s.v),(2,.int .i64 (m:Nat)),(4,fv),(10,.int .i64 (r.i:Nat)),(11,.int .i64 (r.j:Nat))],[postR s r.Q],fun _=>True⟩) (fun r=>r.i+r.j) ⟨m-a,b-m,by omega,by omega,by omega,by omega,P,List.Perm.refl _⟩ (ax ⟨rfl,rfl,rfl,rfl,rfl,trivial⟩ (aE _) fun _ h=>h) fun r=>?_
 obtain ⟨i,j,h1,h2,h3,h4,Q,hQ⟩:=r
 simp only
 have hl:=hQ.length_eq
 by_cases hij:i=j
 · repeat' (first|refine eP (hab:=by omega) ?_|refine bF (hq:=by omega) ?_|apply ab|apply Qt|apply Qu|refine aj ?_|refine Qy ?_|apply aQ|(refine cU (hc:=cL s Q (m-i) m i fv ae hm ae ae) (h:=fun Q2 hQ2=>?_))|fail)
   exact bY (bL rfl) ⟨rfl,Q2,hQ2.trans hQ,rfl⟩
 · repeat' (first|refine bF (hq:=by omega) ?_|refine bp (hq:=by omega) ?_|apply ab|apply Qt|apply Qu|refine aj ?_|refine ad ?_|refine dF ?_|refine cG ?_|apply Qw|apply Qv|apply aQ|(refine cU (hc:=cL s Q (m-i) m j fv ae hm ae ae) (h:=fun Q2 hQ2=>?_))|(refine cU (hc:=cL s Q (m-i) (m+j-i) i fv ae hm ae ae) (h:=fun Q2 hQ2=>?_))|(refine aH (ht:=?_) (hf:=?_);all_goals (intro hx_;first|have:=aP hx_|have:=aT hx_|skip)))
   · exact ⟨(⟨i-j,j,by omega,by omega,h3,h4,Q2,hQ2.trans hQ⟩:RotI P (m-a) (b-m)),(by show i-j+j<i+j;omega),ax ⟨rfl,rfl,rfl,rfl,rfl,trivial⟩ (aE _) fun _ h=>h⟩
   · exact ⟨(⟨i,j-i,h1,h2,by omega,by omega,Q2,hQ2.trans hQ⟩:RotI P (m-a) (b-m)),(by show i+(j-i)<i+j;omega),ax ⟨rfl,rfl,rfl,rfl,rfl,trivial⟩ (aE _) fun _ h=>h⟩
   · have h9:(i:Int)=(j:Int):=by simpa using hx_
     exact absurd (show i=j by omega) hij
def cmpX (x y:FndX):Int:=cmp2 x.rank y.rank x.dg y.dg
theorem eI (x y:FndX):Pu Tryz.prog 96 #[.agg x.cells.toArray,.agg y.cells.toArray] (fun _=>True) (.int .i64 (cmpX x y)):=by
 refine ay (args:=[_,_]) _ Tryz.func96 rfl Tryz.ntmps96 rfl fun av bor w0=>?_
 have h1:=gJ x.rank y.rank
 have h2:=gq x.dg y.dg
 rw [cmpX,cmp2]
 generalize cmpI x.rank y.rank=k at *
 generalize SrG.cmpB_g x.dg y.dg=l at *
 have h3:=fun s=>rn s k l
 repeat' (first|apply ab|apply Qt|apply Qu|refine ad ?_|refine aL fun _=>?_|fail)
 rename_i b2 b3
 (refine aS [cel b3 159 y.cells,cel b2 159 x.cells] (fun _=>True) ak ?_)
 all_goals refine aa 0 ?_<;>refine aa 1 ?_<;>refine aa 2 ?_<;>refine aa 3 ?_<;>refine aa 5 ?_<;>refine aa 6 ?_<;>refine aa 7 ?_<;>refine aa 8 ?_<;>(refine ag 4 ?_;(refine ao (hc:=h1) (hX:=fun _ _=>trivial) ?_);apply ab;refine ai ?_)<;>(refine ag 9 ?_;(refine ao (hc:=h2) (hX:=fun _ _=>trivial) ?_);apply ab;refine ai ?_)<;>(refine ag 10 ?_;(refine bS (len:=2) (vs:=[.int .i64 k,.int .i64 l]) fun bs=>?_;refine co ?_);apply ab;refine ai ?_)<;>(refine ag 11 ?_;(refine ao (hc:=h3 ⟨some ⟨bs,0,none⟩,2,2⟩) (hX:=fun w h=>bK (xs:=[[.int .i64 k],[.int .i64 l]]) h.2 rfl (by decide) (by simp)) ?_);apply ab;refine ai ?_)<;>refine aa 12 ?_<;>(refine aw ?_)
 all_goals
  repeat' (first|apply ar|fail)
  exact al (ap rfl rfl) rfl
def cmpF:Value:=.func (.func 96) #[] #[]
def Srt (P:List FndX):Prop:=∀ (i j:Nat) (x y:FndX),i<j→P[i]?=some x→P[j]?=some y→¬ cmpX y x<0
def Rel (P Q:List FndX):Prop:=Q.Perm P∧(Srt P→Q=P)
theorem Rel.refl (P:List FndX):Rel P P:=⟨List.Perm.refl _,fun _=>rfl⟩
theorem Rel.trans {P Q R:List FndX} (h:Rel P Q) (k:Rel Q R):Rel P R:=⟨k.1.trans h.1,fun hs=>by rw [k.2 (h.2 hs▸hs),h.2 hs]⟩
theorem Rel.swap {P Q:List FndX} (h:Rel P Q) {i j:Nat} {x y:FndX} (hi:Q[i]?=some x) (hj:Q[j]?=some y) (hno:Srt P→False):Rel P ((Q.set i y).set j x):=⟨(dX hi hj).trans h.1,fun hs=>(hno hs).elim⟩
theorem Rel.srt {P Q:List FndX} (h:Rel P Q) (hs:Srt P):Srt Q:=by rw [h.2 hs];exact hs
theorem Rel.perm {P Q Q':List FndX} (h:Rel P Q) (k:Q'.Perm Q) (hno:Srt P→False):Rel P Q':=⟨k.trans h.1,fun hs=>(hno hs).elim⟩
def RelAt (s:SlV) (P:List FndX) (u:Value) (R:List Res) (X:World→Prop):Prop:=u=.tuple #[]∧∃ Q:List FndX,Rel P Q∧R=[postR s Q]
end SrA
namespace SrA
structure InsI (P:List FndX) (a b:Nat) where
 k:Nat
 h1:a+1≤k
 h2:k≤b∨k=a+1
 Q:List FndX
 hQ:Rel P Q
structure InsJ (P:List FndX) (a k:Nat) where
 j:Nat
 h1:a≤j
 h2:j≤k
 Q:List FndX
 hQ:Rel P Q
set_option maxHeartbeats 60000000 in
theorem dk (s:SlV) (P:List FndX) (a b:Nat) (hs:s.n=P.length) (hm:s.n≤1000000) (ha:a≤s.n) (hb:b≤s.n) :
  Ct Tryz.prog 202 #[s.v,.int .i64 (a:Nat),.int .i64 (b:Nat),cmpF] [postR s P] (fun _=>True) (RelAt s P):=by
 refine cd (args:=[_,_,_,_]) _ Tryz.func202 rfl Tryz.ntmps202 rfl fun av bor w0=>?_
 refine cO (r:=postR s P) aI (p:=0<s.n→s.p.isSome=true) (fun w h hn=>cE h hn) fun hp=>?_
 repeat' (first|refine bp (q:=1) (hq:=by omega) ?_|apply ab|apply Qt|apply Qu|refine aj ?_|refine ad ?_|apply Qv|fail)
 refine aU (ι:=InsI P a b) (fun i=>⟨[(0,s.v),(1,.int .i64 (a:Nat)),(2,.int .i64 (b:Nat)),(3,cmpF),(8,.int .i64 (i.k:Nat))],[postR s i.Q],fun _=>True⟩) (fun i=>b-i.k) ⟨a+1,Qo _,.inr rfl,P,Rel.refl _⟩ (ax ⟨rfl,rfl,rfl,rfl,rfl,trivial⟩ (aE _) fun _ h=>h) fun i=>?_
 obtain ⟨k,h1,h2,Q,hQ⟩:=i
 simp only
 have hl:=hQ.1.length_eq
 repeat' (first|apply ab|apply Qt|apply Qu|refine aj ?_|refine ad ?_|refine bj ?_|apply Qw|apply Qv|apply aQ|(refine aH (ht:=?_) (hf:=?_);all_goals (intro hx_;first|have:=aP hx_|have:=aT hx_)))
 · have hkb:k<b:=by omega
   refine aU (ι:=InsJ P a k) (fun i=>⟨[(0,s.v),(1,.int .i64 (a:Nat)),(2,.int .i64 (b:Nat)),(3,cmpF),(8,.int .i64 (k:Nat)),(9,.int .i64 (i.j:Nat))],[postR s i.Q],fun _=>True⟩) (fun i=>i.j) ⟨k,by omega,Qo _,Q,hQ⟩ (ax ⟨rfl,rfl,rfl,rfl,rfl,rfl,trivial⟩ (aE _) fun _ h=>h) fun i=>?_
   obtain ⟨j,h3,h4,Q2,hQ2⟩:=i
   simp only
   have hl2:=hQ2.1.length_eq
   have hp':=hp ae
   by_cases hja:a<j
   · obtain ⟨x,hx⟩:∃ x,Q2[j]?=some x:=⟨_,Zm ae⟩
     obtain ⟨y,hy⟩:∃ y,Q2[j-1]?=some y:=⟨_,Zm ae⟩
     have hcm:=eI x y
     have hsx:Srt P→¬ cmpX x y<0:=fun hs=>hQ2.srt hs (j-1) j y x ae hy hx
     generalize cmpX x y=z at *
     apply Qt
     apply Qt
     unfold cmpF
     (refine aS [] (fun _=>True) ak ?_)
     all_goals refine aa 0 ?_<;>refine aa 1 ?_<;>(refine aa 2 (hy:=by (apply y_gtrT_g;rfl;rfl;omega)) ?_)<;>refine aa 3 ?_<;>refine aa 4 ?_<;>refine aa 5 ?_<;>refine aa 6 ?_<;>(refine aa 7 (hy:=by (apply aN (q:=p22 (j));rfl;rfl;omega;omega;assumption;(rw [cC];omega))) ?_)<;>refine aa 9 ?_<;>refine aa 10 ?_<;>refine aa 11 ?_<;>(refine aa 12 (hy:=by (apply aN (q:=p22 (j-1));rfl;rfl;omega;omega;assumption;(rw [cC];omega))) ?_)<;>(refine bw 8 13 (h:=?_) (h':=?_);(focus (((refine am (bq (i:=j) (P:=Q2) rfl aI ae hx) rfl rfl rfl ?_);apply ab;refine ai ?_);all_goals ((refine ag 13 ?_;(refine am (bq (i:=j-1) (P:=Q2) rfl aI ae hy) rfl rfl rfl ?_);apply ab;refine ai ?_);all_goals (refine ag 14 ?_;(refine ao (hc:=hcm) (hX:=fun _ _=>trivial) ?_);apply ab;refine ai ?_);all_goals (refine aa 15 ?_);all_goals (refine aa 16 ?_);all_goals (refine aw ?_))));rotate_right;(focus (((refine am (bq (i:=j-1) (P:=Q2) rfl aI ae hy) rfl rfl rfl ?_);apply ab;refine ai ?_);all_goals ((refine ag 8 ?_;(refine am (bq (i:=j) (P:=Q2) rfl aI ae hx) rfl rfl rfl ?_);apply ab;refine ai ?_);all_goals (refine ag 14 ?_;(refine ao (hc:=hcm) (hX:=fun _ _=>trivial) ?_);apply ab;refine ai ?_);all_goals (refine aa 15 ?_);all_goals (refine aa 16 ?_);all_goals (refine aw ?_)))))
     all_goals
      repeat' (first|apply ab|apply Qt|apply Qu|refine aj ?_|refine ad ?_|refine be (h:=?_)|apply Qw|apply Qv|apply aQ|(refine aH (ht:=?_) (hf:=?_);all_goals (intro hx_;first|have:=aP hx_|have:=aT hx_)))
      · (refine aS [] (fun _=>True) ak ?_)
        all_goals refine aa 0 ?_<;>refine aa 1 ?_<;>refine aa 2 ?_<;>refine aa 3 ?_<;>refine aa 4 ?_<;>refine aa 5 ?_<;>refine aa 6 ?_<;>refine aa 7 ?_<;>(refine aa 8 (hy:=by (apply aN (q:=p22 (j-1));rfl;rfl;omega;omega;assumption;(rw [cC];omega))) ?_)<;>refine aa 10 ?_<;>refine aa 11 ?_<;>(refine aa 12 (hy:=by (apply aN (q:=p22 (j));rfl;rfl;omega;omega;assumption;(rw [cC];omega))) ?_)<;>(refine bw 9 13 (h:=?_) (h':=?_);(focus (((refine am (bq (i:=j-1) (P:=Q2) rfl aI ae hy) rfl rfl rfl ?_);apply ab;refine ai ?_);all_goals ((refine ag 13 ?_;(refine am (bq (i:=j) (P:=Q2) rfl aI ae hx) rfl rfl rfl ?_);apply ab;refine ai ?_);all_goals (refine aa 14 (hy:=by (apply aN (q:=p22 (j));rfl;rfl;omega;omega;assumption;(rw [cC];omega))) ?_);all_goals (refine ag 15 ?_;(refine bN (i:=j) (p:=y) rfl rfl ae ae (At.here _) rfl aC rfl ?_);apply ab;refine ai ?_);all_goals (refine aa 16 (hy:=by (apply aN (q:=p22 (j-1));rfl;rfl;omega;omega;assumption;(rw [cC];omega))) ?_);all_goals (refine ag 17 ?_;(refine bN (i:=j-1) (p:=x) rfl rfl ae (by (simp only [List.length_set];omega)) (At.here _) rfl aC rfl ?_);apply ab;refine ai ?_);all_goals (refine aw ?_))));rotate_right;(focus (((refine am (bq (i:=j) (P:=Q2) rfl aI ae hx) rfl rfl rfl ?_);apply ab;refine ai ?_);all_goals ((refine ag 9 ?_;(refine am (bq (i:=j-1) (P:=Q2) rfl aI ae hy) rfl rfl rfl ?_);apply ab;refine ai ?_);all_goals (refine aa 14 (hy:=by (apply aN (q:=p22 (j));rfl;rfl;omega;omega;assumption;(rw [cC];omega))) ?_);all_goals (refine ag 15 ?_;(refine bN (i:=j) (p:=y) rfl rfl ae ae (At.here _) rfl aC rfl ?_);apply ab;refine ai ?_);all_goals (refine aa 16 (hy:=by (apply aN (q:=p22 (j-1));rfl;rfl;omega;omega;assumption;(rw [cC];omega))) ?_);all_goals (refine ag 17 ?_;(refine bN (i:=j-1) (p:=x) rfl rfl ae (by (simp only [List.length_set];omega)) (At.here _) rfl aC rfl ?_);apply ab;refine ai ?_);all_goals (refine aw ?_)))))
        all_goals
         repeat' (first|refine bF (q:=1) (hq:=by omega) ?_|apply ab|apply Qu|refine aj ?_|refine ad ?_|fail)
         exact ⟨(⟨j-1,by omega,by omega,(Q2.set j y).set (j-1) x,hQ2.swap hx hy (fun hs=>hsx hs (by assumption))⟩:InsJ P a k),(by show j-1<j;omega),ax ⟨rfl,rfl,rfl,rfl,rfl,rfl,trivial⟩ (aE _) fun _ h=>h⟩
      · repeat' (first|refine bp (q:=1) (hq:=by omega) ?_|fail)
        exact ⟨(⟨k+1,by omega,by omega,Q2,hQ2⟩:InsI P a b),(by show b-(k+1)<b-k;omega),ax ⟨rfl,rfl,rfl,rfl,rfl,trivial⟩ (aE _) fun _ h=>h⟩
   · apply Qt
     apply Qt
     unfold cmpF
     (refine aS [] (fun _=>True) ak ?_)
     all_goals refine aa 0 ?_<;>refine aa 1 ?_<;>(refine aa 2 (hy:=by (apply y_gtrF_g;rfl;rfl;omega)) ?_)<;>refine aa 3 ?_<;>refine az 4 ?_<;>refine az 5 ?_<;>refine az 6 ?_<;>refine az 7 ?_<;>refine az 9 ?_<;>refine az 10 ?_<;>refine az 11 ?_<;>refine az 12 ?_<;>(refine bw 8 13 (h:=?_) (h':=?_);(focus (((refine aJ ?_);apply ab;refine ai ?_);all_goals ((refine ag 13 ?_;(refine aJ ?_);apply ab;refine ai ?_);all_goals (refine ag 14 ?_;(refine aJ ?_);apply ab;refine ai ?_);all_goals (refine az 15 ?_);all_goals (refine aa 16 ?_);all_goals (refine aw ?_))));rotate_right;(focus (((refine aJ ?_);apply ab;refine ai ?_);all_goals ((refine ag 8 ?_;(refine aJ ?_);apply ab;refine ai ?_);all_goals (refine ag 14 ?_;(refine aJ ?_);apply ab;refine ai ?_);all_goals (refine az 15 ?_);all_goals (refine aa 16 ?_);all_goals (refine aw ?_)))))
     all_goals
      repeat' (first|refine bp (q:=1) (hq:=by omega) ?_|apply ab|apply Qu|refine aj ?_|refine ad ?_|refine Qy ?_|apply aQ|fail)
      exact ⟨(⟨k+1,by omega,by omega,Q2,hQ2⟩:InsI P a b),(by show b-(k+1)<b-k;omega),ax ⟨rfl,rfl,rfl,rfl,rfl,trivial⟩ (aE _) fun _ h=>h⟩
 · exact bY (bL rfl) ⟨rfl,Q,hQ,rfl⟩
section
variable {N:Nat} {av bor:List Nat} {w0:World} {ops:Array Oper} {rest:List Oper} {k:St→Prop} {E:Env} {X:World→Prop} {d:Option Tmp} {ty:TypeId} {pos:String} {af:Array Edge} {g:Option (Nat×Bool)} {bb want:Bool}
theorem gw {x:Operand} {xs:List Operand} {ats:Array TypeId} {f:FuncId} {args:List Value} {s:SlV} {Q:List FndX}
  (hx:ev E x=some (.func (.func f) #[] #[]):=by rfl) (ha:evs E xs=some args:=by rfl) (hg:gdB ops E g=some (bb,want):=by rfl) (hb:bb=want:=by exact aC) (hd:inB N d=true:=by rfl) (hf:FnBody Tryz.prog f:=by infer_instance)
  (hc:Ct Tryz.prog f args.toArray [postR s Q] (fun _=>True) (RelAt s Q))
  (h:∀ Q':List FndX,Rel Q Q'→Sw Tryz.prog N av bor w0 ops rest ⟨putE E d (.tuple #[]),[postR s Q'],X⟩ k) :
  Sw Tryz.prog N av bor w0 ops (⟨d,.call ⟨.value x,xs.toArray,ats⟩,ty,pos,af,g⟩::rest) ⟨E,[postR s Q],X⟩ k :=
 cw (pre:=[postR s Q]) (fr:=[]) (first:=#[]) (caps:=#[]) (Post:=RelAt s Q) hx ha rfl hg hb hd hf (by simpa using hc) (fun _ _=>trivial) fun u R X' ⟨h1,Q',h2,h3⟩=>by
  subst h1
  subst h3
  refine iw (fun a w ok=>?_) (h Q' h2)
  exact ok.via fun M G=>G.imp fun _ h=>h.1
theorem cM {x:Operand} {xs:List Operand} {ats:Array TypeId} {f:FuncId} {args:List Value} {s:SlV} {P Q:List FndX} (hQ:Rel P Q)
  (hx:ev E x=some (.func (.func f) #[] #[]):=by rfl) (ha:evs E xs=some args:=by rfl) (hg:gdB ops E g=some (bb,want):=by rfl) (hb:bb=want:=by exact aC) (hd:inB N d=true:=by rfl) (hf:FnBody Tryz.prog f:=by infer_instance)
  (hc:∀ Q:List FndX,Rel P Q→Ct Tryz.prog f args.toArray [postR s Q] (fun _=>True) (RelAt s Q))
  (h:∀ Q':List FndX,Rel P Q'→Sw Tryz.prog N av bor w0 ops rest ⟨putE E d (.tuple #[]),[postR s Q'],X⟩ k) :
  Sw Tryz.prog N av bor w0 ops (⟨d,.call ⟨.value x,xs.toArray,ats⟩,ty,pos,af,g⟩::rest) ⟨E,[postR s Q],X⟩ k:=gw hx ha hg hb hd hf (hc Q hQ) fun Q' h1=>h Q' (hQ.trans h1)
theorem ix {x:Operand} {xs:List Operand} {ats:Array TypeId} {f:FuncId} {args:List Value} {s:SlV} {P Q:List FndX} (hQ:Rel P Q) (hno:Srt P→False)
  (hx:ev E x=some (.func (.func f) #[] #[]):=by rfl) (ha:evs E xs=some args:=by rfl) (hg:gdB ops E g=some (bb,want):=by rfl) (hb:bb=want:=by exact aC) (hd:inB N d=true:=by rfl) (hf:FnBody Tryz.prog f:=by infer_instance)
  (hc:∀ Q:List FndX,Rel P Q→Ct Tryz.prog f args.toArray [postR s Q] (fun _=>True) (PermAt s Q))
  (h:∀ Q':List FndX,Rel P Q'→Sw Tryz.prog N av bor w0 ops rest ⟨putE E d (.tuple #[]),[postR s Q'],X⟩ k) :
  Sw Tryz.prog N av bor w0 ops (⟨d,.call ⟨.value x,xs.toArray,ats⟩,ty,pos,af,g⟩::rest) ⟨E,[postR s Q],X⟩ k:=cU hx ha hg hb hd hf (hc Q hQ) fun Q' h1=>h Q' (hQ.perm h1 hno)
end
structure BinL (P:List FndX) (lo hi:Nat) extends BinI_g lo hi where
 hs:Srt P→i=lo
structure BinR (P:List FndX) (lo hi:Nat) extends BinI_g lo hi where
 hs:Srt P→j=hi
structure MerO (P:List FndX) (a m b mid:Nat) extends MerI_g a m b mid where
 hs:Srt P→j=(if mid<m then mid else m)
structure UpI (P:List FndX) (a:Nat) where
 k:Nat
 h1:a≤k
 Q:List FndX
 hQ:Rel P Q
structure DownI (P:List FndX) (i m:Nat) where
 k:Nat
 h1:i≤k
 h2:k≤m
 Q:List FndX
 hQ:Rel P Q
set_option maxRecDepth 20000 in
set_option maxHeartbeats 60000000 in
theorem cT:∀ (d:Nat) (s:SlV) (P:List FndX) (a m b:Nat),b-a≤d→s.n=P.length→s.n≤1000000→a<m→m<b→b≤s.n →
  Ct Tryz.prog 203 #[s.v,.int .i64 (a:Nat),.int .i64 (m:Nat),.int .i64 (b:Nat),cmpF] [postR s P] (fun _=>True) (RelAt s P)
 | 0,s,P,a,m,b,hd,hs,hm,ha,hb,hbs=>absurd hd ae
 | d+1,s,P,a,m,b,hd,hs,hm,ha,hb,hbs=>by
  have ih:=cT d
  have hP:Rel P P:=Rel.refl P
  refine cd (args:=[_,_,_,_,_]) _ Tryz.func203 rfl Tryz.ntmps203 rfl fun av bor w0=>?_
  refine cO (r:=postR s P) aI (p:=0<s.n→s.p.isSome=true) (fun w h hn=>cE h hn) fun hp=>?_
  have hp':=hp ae
  by_cases hA:m-a=1
  · repeat' (first|refine bF (hq:=by omega) ?_|refine bm (hab:=by omega) ?_|apply ab|apply Qt|apply Qu|refine aj ?_|refine ad ?_|refine Qx ?_|apply Qv|fail)
    refine aU (ι:=BinL P m b) (fun r=>⟨[(0,s.v),(1,.int .i64 (a:Nat)),(4,cmpF),(10,.int .i64 (r.i:Nat)),(11,.int .i64 (r.j:Nat))],[postR s P],fun _=>True⟩) (fun r=>r.j-r.i) ⟨⟨m,b,by omega,by omega,by omega⟩,fun _=>rfl⟩ (ax ⟨rfl,rfl,rfl,rfl,rfl,trivial⟩ (aE _) fun _ h=>h) fun r=>?_
    obtain ⟨⟨i,j,h1,h2,h3⟩,hso⟩:=r
    simp only at hso
    simp only
    repeat' (first|refine bp (hq:=by omega) ?_|refine sy_toU_g (hq:=by omega) ?_|refine df ?_|refine sy_toI_g (hq:=by omega) ?_|apply ab|apply Qt|apply Qu|refine aj ?_|refine ad ?_|refine bj ?_|apply Qw|apply Qv|apply aQ|(refine aH (ht:=?_) (hf:=?_);all_goals (intro hx_;first|have:=aP hx_|have:=aT hx_)))
    · have hlt:i<j:=by omega
      obtain ⟨x,hx⟩:∃ x,P[(i+j)/2]?=some x:=⟨_,Zm ae⟩
      obtain ⟨y,hy⟩:∃ y,P[a]?=some y:=⟨_,Zm ae⟩
      have hcm:=eI x y
      have hsx:Srt P→¬ cmpX x y<0:=fun hs=>hs a ((i+j)/2) y x ae hy hx
      generalize cmpX x y=z at *
      unfold cmpF
      (refine aS [] (fun _=>True) ak ?_)
      all_goals refine aa 0 ?_<;>refine aa 1 ?_<;>refine aa 2 ?_<;>(refine aa 3 (hy:=by (apply aN (q:=p22 (((i+j)/2)));rfl;rfl;omega;omega;assumption;(rw [cC];omega))) ?_)<;>refine aa 5 ?_<;>refine aa 6 ?_<;>(refine aa 7 (hy:=by (apply aN (q:=p22 (a));rfl;rfl;omega;omega;assumption;(rw [cC];omega))) ?_)<;>(refine bw 4 8 (h:=?_) (h':=?_);(focus (((refine am (bq (i:=(i+j)/2) (P:=P) rfl aI ae hx) rfl rfl rfl ?_);apply ab;refine ai ?_);all_goals ((refine ag 8 ?_;(refine am (bq (i:=a) (P:=P) rfl aI ae hy) rfl rfl rfl ?_);apply ab;refine ai ?_);all_goals (refine ag 9 ?_;(refine ao (hc:=hcm) (hX:=fun _ _=>trivial) ?_);apply ab;refine ai ?_);all_goals (refine aa 10 ?_);all_goals (refine aw ?_))));rotate_right;(focus (((refine am (bq (i:=a) (P:=P) rfl aI ae hy) rfl rfl rfl ?_);apply ab;refine ai ?_);all_goals ((refine ag 4 ?_;(refine am (bq (i:=(i+j)/2) (P:=P) rfl aI ae hx) rfl rfl rfl ?_);apply ab;refine ai ?_);all_goals (refine ag 9 ?_;(refine ao (hc:=hcm) (hX:=fun _ _=>trivial) ?_);apply ab;refine ai ?_);all_goals (refine aa 10 ?_);all_goals (refine aw ?_)))))
      all_goals
       repeat' (first|refine bp (q:=1) (hq:=by omega) ?_|apply ab|apply Qu|refine aj ?_|refine ad ?_|(refine aH (ht:=?_) (hf:=?_);all_goals (intro hx_;first|have:=aP hx_|have:=aT hx_)))
       · exact ⟨(⟨⟨(i+j)/2+1,j,by omega,by omega,h3⟩,fun hs=>absurd (show z<0 by assumption) (hsx hs)⟩:BinL P m b),(by show j-((i+j)/2+1)<j-i;omega),ax ⟨rfl,rfl,rfl,rfl,rfl,trivial⟩ (aE _) fun _ h=>h⟩
       · exact ⟨(⟨⟨i,(i+j)/2,h1,by omega,by omega⟩,hso⟩:BinL P m b),(by show (i+j)/2-i<j-i;omega),ax ⟨rfl,rfl,rfl,rfl,rfl,trivial⟩ (aE _) fun _ h=>h⟩
    · refine aU (ι:=UpI P a) (fun r=>⟨[(0,s.v),(10,.int .i64 (i:Nat)),(13,.int .i64 (r.k:Nat))],[postR s r.Q],fun _=>True⟩) (fun r=>i-r.k) ⟨a,Qo _,P,hP⟩ (ax ⟨rfl,rfl,rfl,trivial⟩ (aE _) fun _ h=>h) fun r=>?_
      obtain ⟨k,h4,Q,hQ⟩:=r
      simp only
      have hl:=hQ.1.length_eq
      repeat' (first|refine bF (q:=1) (hq:=by omega) ?_|apply ab|apply Qt|apply Qu|refine aj ?_|refine bj ?_|apply Qw|apply Qv|apply ar|apply aQ|(refine aH (ht:=?_) (hf:=?_);all_goals (intro hx_;first|have:=aP hx_|have:=aT hx_)))
      · have hlt:k+1<i:=by omega
        obtain ⟨x,hx⟩:∃ x,Q[k]?=some x:=⟨_,Zm ae⟩
        obtain ⟨y,hy⟩:∃ y,Q[k+1]?=some y:=⟨_,Zm ae⟩
        (refine aS [] (fun _=>True) ak ?_)
        all_goals refine aa 0 ?_<;>refine aa 1 ?_<;>refine aa 2 ?_<;>refine aa 3 ?_<;>refine aa 4 ?_<;>refine aa 5 ?_<;>refine aa 6 ?_<;>refine aa 7 ?_<;>(refine aa 8 (hy:=by (apply aN (q:=p22 (k+1));rfl;rfl;omega;omega;assumption;(rw [cC];omega))) ?_)<;>refine aa 10 ?_<;>refine aa 11 ?_<;>(refine aa 12 (hy:=by (apply aN (q:=p22 (k));rfl;rfl;omega;omega;assumption;(rw [cC];omega))) ?_)<;>(refine bw 9 13 (h:=?_) (h':=?_);(focus (((refine am (bq (i:=k+1) (P:=Q) rfl aI ae hy) rfl rfl rfl ?_);apply ab;refine ai ?_);all_goals ((refine ag 13 ?_;(refine am (bq (i:=k) (P:=Q) rfl aI ae hx) rfl rfl rfl ?_);apply ab;refine ai ?_);all_goals (refine aa 14 (hy:=by (apply aN (q:=p22 (k));rfl;rfl;omega;omega;assumption;(rw [cC];omega))) ?_);all_goals (refine ag 15 ?_;(refine bN (i:=k) (p:=y) rfl rfl ae ae (At.here _) rfl aC rfl ?_);apply ab;refine ai ?_);all_goals (refine aa 16 (hy:=by (apply aN (q:=p22 (k+1));rfl;rfl;omega;omega;assumption;(rw [cC];omega))) ?_);all_goals (refine ag 17 ?_;(refine bN (i:=k+1) (p:=x) rfl rfl ae (by (simp only [List.length_set];omega)) (At.here _) rfl aC rfl ?_);apply ab;refine ai ?_);all_goals (refine aw ?_))));rotate_right;(focus (((refine am (bq (i:=k) (P:=Q) rfl aI ae hx) rfl rfl rfl ?_);apply ab;refine ai ?_);all_goals ((refine ag 9 ?_;(refine am (bq (i:=k+1) (P:=Q) rfl aI ae hy) rfl rfl rfl ?_);apply ab;refine ai ?_);all_goals (refine aa 14 (hy:=by (apply aN (q:=p22 (k));rfl;rfl;omega;omega;assumption;(rw [cC];omega))) ?_);all_goals (refine ag 15 ?_;(refine bN (i:=k) (p:=y) rfl rfl ae ae (At.here _) rfl aC rfl ?_);apply ab;refine ai ?_);all_goals (refine aa 16 (hy:=by (apply aN (q:=p22 (k+1));rfl;rfl;omega;omega;assumption;(rw [cC];omega))) ?_);all_goals (refine ag 17 ?_;(refine bN (i:=k+1) (p:=x) rfl rfl ae (by (simp only [List.length_set];omega)) (At.here _) rfl aC rfl ?_);apply ab;refine ai ?_);all_goals (refine aw ?_)))))
        all_goals
         repeat' (first|refine bp (q:=1) (hq:=by omega) ?_|apply ab|apply Qu|refine aj ?_|refine ad ?_|fail)
         exact ⟨(⟨k+1,by omega,(Q.set k y).set (k+1) x,hQ.swap hx hy (fun hs=>by have:=hso hs;omega)⟩:UpI P a),(by show i-(k+1)<i-k;omega),ax ⟨rfl,rfl,rfl,trivial⟩ (aE _) fun _ h=>h⟩
      · exact al (bL rfl) ⟨rfl,Q,hQ,rfl⟩
  · by_cases hB:b-m=1
    · repeat' (first|refine bF (hq:=by omega) ?_|refine bm (hab:=by omega) ?_|refine bt (hab:=by omega) ?_|apply ab|apply Qt|apply Qu|refine aj ?_|refine ad ?_|refine Qx ?_|refine Qy ?_|apply Qw|apply Qv|fail)
      refine aU (ι:=BinR P a m) (fun r=>⟨[(0,s.v),(2,.int .i64 (m:Nat)),(4,cmpF),(14,.int .i64 (r.i:Nat)),(15,.int .i64 (r.j:Nat))],[postR s P],fun _=>True⟩) (fun r=>r.j-r.i) ⟨⟨a,m,by omega,by omega,by omega⟩,fun _=>rfl⟩ (ax ⟨rfl,rfl,rfl,rfl,rfl,trivial⟩ (aE _) fun _ h=>h) fun r=>?_
      obtain ⟨⟨i,j,h1,h2,h3⟩,hso⟩:=r
      simp only at hso
      simp only
      repeat' (first|refine bp (hq:=by omega) ?_|refine sy_toU_g (hq:=by omega) ?_|refine df ?_|refine sy_toI_g (hq:=by omega) ?_|apply ab|apply Qt|apply Qu|refine aj ?_|refine ad ?_|refine bj ?_|apply Qw|apply Qv|apply aQ|(refine aH (ht:=?_) (hf:=?_);all_goals (intro hx_;first|have:=aP hx_|have:=aT hx_)))
      · have hlt:i<j:=by omega
        obtain ⟨x,hx⟩:∃ x,P[m]?=some x:=⟨_,Zm ae⟩
        obtain ⟨y,hy⟩:∃ y,P[(i+j)/2]?=some y:=⟨_,Zm ae⟩
        have hcm:=eI x y
        have hsx:Srt P→¬ cmpX x y<0:=fun hs=>hs ((i+j)/2) m y x ae hy hx
        generalize cmpX x y=z at *
        unfold cmpF
        (refine aS [] (fun _=>True) ak ?_)
        all_goals refine aa 0 ?_<;>refine aa 1 ?_<;>refine aa 2 ?_<;>(refine aa 3 (hy:=by (apply aN (q:=p22 (m));rfl;rfl;omega;omega;assumption;(rw [cC];omega))) ?_)<;>refine aa 5 ?_<;>refine aa 6 ?_<;>(refine aa 7 (hy:=by (apply aN (q:=p22 (((i+j)/2)));rfl;rfl;omega;omega;assumption;(rw [cC];omega))) ?_)<;>(refine bw 4 8 (h:=?_) (h':=?_);(focus (((refine am (bq (i:=m) (P:=P) rfl aI ae hx) rfl rfl rfl ?_);apply ab;refine ai ?_);all_goals ((refine ag 8 ?_;(refine am (bq (i:=(i+j)/2) (P:=P) rfl aI ae hy) rfl rfl rfl ?_);apply ab;refine ai ?_);all_goals (refine ag 9 ?_;(refine ao (hc:=hcm) (hX:=fun _ _=>trivial) ?_);apply ab;refine ai ?_);all_goals (refine aa 10 ?_);all_goals (refine aa 11 ?_);all_goals (refine aw ?_))));rotate_right;(focus (((refine am (bq (i:=(i+j)/2) (P:=P) rfl aI ae hy) rfl rfl rfl ?_);apply ab;refine ai ?_);all_goals ((refine ag 4 ?_;(refine am (bq (i:=m) (P:=P) rfl aI ae hx) rfl rfl rfl ?_);apply ab;refine ai ?_);all_goals (refine ag 9 ?_;(refine ao (hc:=hcm) (hX:=fun _ _=>trivial) ?_);apply ab;refine ai ?_);all_goals (refine aa 10 ?_);all_goals (refine aa 11 ?_);all_goals (refine aw ?_)))))
        all_goals
         repeat' (first|refine bp (q:=1) (hq:=by omega) ?_|apply ab|apply Qu|refine aj ?_|refine ad ?_|(refine aH (ht:=?_) (hf:=?_);all_goals (intro hx_;skip)))
         · exact ⟨(⟨⟨(i+j)/2+1,j,by omega,by omega,h3⟩,hso⟩:BinR P a m),(by show j-((i+j)/2+1)<j-i;omega),ax ⟨rfl,rfl,rfl,rfl,rfl,trivial⟩ (aE _) fun _ h=>h⟩
         · exact ⟨(⟨⟨i,(i+j)/2,h1,by omega,by omega⟩,fun hs=>absurd (show z<0 by (simp_all;done)) (hsx hs)⟩:BinR P a m),(by show (i+j)/2-i<j-i;omega),ax ⟨rfl,rfl,rfl,rfl,rfl,trivial⟩ (aE _) fun _ h=>h⟩
      · refine aU (ι:=DownI P i m) (fun r=>⟨[(0,s.v),(14,.int .i64 (i:Nat)),(17,.int .i64 (r.k:Nat))],[postR s r.Q],fun _=>True⟩) (fun r=>r.k) ⟨m,by omega,Qo _,P,hP⟩ (ax ⟨rfl,rfl,rfl,trivial⟩ (aE _) fun _ h=>h) fun r=>?_
        obtain ⟨k,h4,h5,Q,hQ⟩:=r
        simp only
        have hl:=hQ.1.length_eq
        repeat' (first|apply ab|apply Qt|apply Qu|refine aj ?_|refine cG ?_|apply Qw|apply Qv|apply ar|apply aQ|(refine aH (ht:=?_) (hf:=?_);all_goals (intro hx_;first|have:=aP hx_|have:=aT hx_)))
        · have hlt:i<k:=by omega
          obtain ⟨x,hx⟩:∃ x,Q[k]?=some x:=⟨_,Zm ae⟩
          obtain ⟨y,hy⟩:∃ y,Q[k-1]?=some y:=⟨_,Zm ae⟩
          (refine aS [] (fun _=>True) ak ?_)
          all_goals refine aa 0 ?_<;>refine aa 1 ?_<;>refine aa 2 ?_<;>refine aa 3 ?_<;>refine aa 4 ?_<;>refine aa 5 ?_<;>refine aa 6 ?_<;>refine aa 7 ?_<;>(refine aa 8 (hy:=by (apply aN (q:=p22 (k-1));rfl;rfl;omega;omega;assumption;(rw [cC];omega))) ?_)<;>refine aa 10 ?_<;>refine aa 11 ?_<;>(refine aa 12 (hy:=by (apply aN (q:=p22 (k));rfl;rfl;omega;omega;assumption;(rw [cC];omega))) ?_)<;>(refine bw 9 13 (h:=?_) (h':=?_);(focus (((refine am (bq (i:=k-1) (P:=Q) rfl aI ae hy) rfl rfl rfl ?_);apply ab;refine ai ?_);all_goals ((refine ag 13 ?_;(refine am (bq (i:=k) (P:=Q) rfl aI ae hx) rfl rfl rfl ?_);apply ab;refine ai ?_);all_goals (refine aa 14 (hy:=by (apply aN (q:=p22 (k));rfl;rfl;omega;omega;assumption;(rw [cC];omega))) ?_);all_goals (refine ag 15 ?_;(refine bN (i:=k) (p:=y) rfl rfl ae ae (At.here _) rfl aC rfl ?_);apply ab;refine ai ?_);all_goals (refine aa 16 (hy:=by (apply aN (q:=p22 (k-1));rfl;rfl;omega;omega;assumption;(rw [cC];omega))) ?_);all_goals (refine ag 17 ?_;(refine bN (i:=k-1) (p:=x) rfl rfl ae (by (simp only [List.length_set];omega)) (At.here _) rfl aC rfl ?_);apply ab;refine ai ?_);all_goals (refine aw ?_))));rotate_right;(focus (((refine am (bq (i:=k) (P:=Q) rfl aI ae hx) rfl rfl rfl ?_);apply ab;refine ai ?_);all_goals ((refine ag 9 ?_;(refine am (bq (i:=k-1) (P:=Q) rfl aI ae hy) rfl rfl rfl ?_);apply ab;refine ai ?_);all_goals (refine aa 14 (hy:=by (apply aN (q:=p22 (k));rfl;rfl;omega;omega;assumption;(rw [cC];omega))) ?_);all_goals (refine ag 15 ?_;(refine bN (i:=k) (p:=y) rfl rfl ae ae (At.here _) rfl aC rfl ?_);apply ab;refine ai ?_);all_goals (refine aa 16 (hy:=by (apply aN (q:=p22 (k-1));rfl;rfl;omega;omega;assumption;(rw [cC];omega))) ?_);all_goals (refine ag 17 ?_;(refine bN (i:=k-1) (p:=x) rfl rfl ae (by (simp only [List.length_set];omega)) (At.here _) rfl aC rfl ?_);apply ab;refine ai ?_);all_goals (refine aw ?_)))))
          all_goals
           repeat' (first|refine bF (q:=1) (hq:=by omega) ?_|apply ab|apply Qu|refine aj ?_|refine ad ?_|fail)
           exact ⟨(⟨k-1,by omega,by omega,(Q.set k y).set (k-1) x,hQ.swap hx hy (fun hs=>by have:=hso hs;omega)⟩:DownI P i m),(by show k-1<k;omega),ax ⟨rfl,rfl,rfl,trivial⟩ (aE _) fun _ h=>h⟩
        · exact al (bL rfl) ⟨rfl,Q,hQ,rfl⟩
    · obtain ⟨mid,hmid⟩:∃ mid,mid=(a+b)/2:=⟨_,rfl⟩
      have hm1:a<mid:=by omega
      have hm2:mid<b:=by omega
      have hm3:2*mid≤a+b:=by omega
      have hm4:a+b≤2*mid+1:=by omega
      by_cases hmm:mid<m
      all_goals
       repeat' (first|refine bt (hab:=by omega) ?_|refine nB (hab:=by omega) ?_|refine ir (hab:=by omega) ?_|refine bF (q:=1) (hq:=by omega) ?_|refine bF (hq:=by omega) ?_|refine bp (hq:=by omega) ?_|refine sy_toU_g (hq:=by omega) ?_|refine df ?_|refine sy_toI_g (hq:=by omega) ?_|apply ab|apply Qt|apply Qu|refine aj ?_|refine ad ?_|refine Qx ?_|refine Qy ?_|apply Qw|apply Qv|fail)
       rw [←hmid]
       first
        | refine aU (ι:=MerO P a m b mid) (fun r=>⟨[(0,s.v),(1,.int .i64 (a:Nat)),(2,.int .i64 (m:Nat)),(3,.int .i64 (b:Nat)),(4,cmpF),(18,.int .i64 (mid:Nat)),(19,.int .i64 ((mid+m:Nat):Int)),(20,.int .i64 (r.i:Nat)),(21,.int .i64 (r.j:Nat)),(22,.int .i64 ((mid+m-1:Nat):Int))],[postR s P],fun _=>True⟩) (fun r=>r.j-r.i) ⟨⟨mid+m-b,mid,by omega,by omega,by omega⟩,fun _=>by rw [Qe (by assumption)]⟩ (ax ⟨rfl,rfl,rfl,rfl,rfl,rfl,rfl,rfl,rfl,rfl,trivial⟩ (aE _) fun _ h=>h) fun r=>?_
        | refine aU (ι:=MerO P a m b mid) (fun r=>⟨[(0,s.v),(1,.int .i64 (a:Nat)),(2,.int .i64 (m:Nat)),(3,.int .i64 (b:Nat)),(4,cmpF),(18,.int .i64 (mid:Nat)),(19,.int .i64 ((mid+m:Nat):Int)),(20,.int .i64 (r.i:Nat)),(21,.int .i64 (r.j:Nat)),(22,.int .i64 ((mid+m-1:Nat):Int))],[postR s P],fun _=>True⟩) (fun r=>r.j-r.i) ⟨⟨a,m,by omega,by omega,by omega⟩,fun _=>by rw [Qf (by assumption)]⟩ (ax ⟨rfl,rfl,rfl,rfl,rfl,rfl,rfl,rfl,rfl,rfl,trivial⟩ (aE _) fun _ h=>h) fun r=>?_
       obtain ⟨⟨i,j,h1,h2,h3⟩,hso⟩:=r
       simp only at hso
       simp only
       have hk1:a≤i:=by omega
       have hk2:j≤m:=by omega
       have hk3:i≤mid+m:=by omega
       by_cases hij:i<j
       · have hk4:(i+j)/2<j:=by omega
         have hk5:i≤(i+j)/2:=by omega
         have hk6:(i+j)/2≤mid+m-1:=by omega
         have hk7:mid+m-1-(i+j)/2<b:=by omega
         repeat' (first|refine sy_lssT_g (hab:=by omega) ?_|refine bp (hq:=by omega) ?_|refine sy_toU_g (hq:=by omega) ?_|refine df ?_|refine sy_toI_g (hq:=by omega) ?_|apply ab|apply Qt|apply Qu|refine aj ?_|refine ad ?_|refine Qx ?_|apply Qw|apply Qv|fail)
         obtain ⟨x,hx⟩:∃ x,P[mid+m-1-(i+j)/2]?=some x:=⟨_,Zm ae⟩
         obtain ⟨y,hy⟩:∃ y,P[(i+j)/2]?=some y:=⟨_,Zm ae⟩
         have hcm:=eI x y
         have hsx:Srt P→¬ cmpX x y<0:=fun hs=>hs ((i+j)/2) (mid+m-1-(i+j)/2) y x ae hy hx
         generalize cmpX x y=z at *
         unfold cmpF
         (refine aS [] (fun _=>True) ak ?_)
         all_goals refine aa 0 ?_<;>refine aa 1 ?_<;>refine aa 2 ?_<;>refine aa 3 ?_<;>refine aa 4 ?_<;>(refine aa 5 (hy:=by (apply aN (q:=p22 ((mid+m-1-(i+j)/2)));rfl;rfl;omega;omega;assumption;(rw [cC];omega))) ?_)<;>refine aa 7 ?_<;>refine aa 8 ?_<;>(refine aa 9 (hy:=by (apply aN (q:=p22 (((i+j)/2)));rfl;rfl;omega;omega;assumption;(rw [cC];omega))) ?_)<;>(refine bw 6 10 (h:=?_) (h':=?_);(focus (((refine am (bq (i:=mid+m-1-(i+j)/2) (P:=P) rfl aI ae hx) rfl rfl rfl ?_);apply ab;refine ai ?_);all_goals ((refine ag 10 ?_;(refine am (bq (i:=(i+j)/2) (P:=P) rfl aI ae hy) rfl rfl rfl ?_);apply ab;refine ai ?_);all_goals (refine ag 11 ?_;(refine ao (hc:=hcm) (hX:=fun _ _=>trivial) ?_);apply ab;refine ai ?_);all_goals (refine aa 12 ?_);all_goals (refine aa 13 ?_);all_goals (refine aw ?_))));rotate_right;(focus (((refine am (bq (i:=(i+j)/2) (P:=P) rfl aI ae hy) rfl rfl rfl ?_);apply ab;refine ai ?_);all_goals ((refine ag 6 ?_;(refine am (bq (i:=mid+m-1-(i+j)/2) (P:=P) rfl aI ae hx) rfl rfl rfl ?_);apply ab;refine ai ?_);all_goals (refine ag 11 ?_;(refine ao (hc:=hcm) (hX:=fun _ _=>trivial) ?_);apply ab;refine ai ?_);all_goals (refine aa 12 ?_);all_goals (refine aa 13 ?_);all_goals (refine aw ?_)))))
         all_goals
          repeat' (first|refine bp (q:=1) (hq:=by omega) ?_|apply ab|apply Qu|refine aj ?_|refine ad ?_|(refine aH (ht:=?_) (hf:=?_);all_goals (intro hx_;skip)))
          · exact ⟨(⟨⟨(i+j)/2+1,j,by omega,by omega,by omega⟩,hso⟩:MerO P a m b mid),(by show j-((i+j)/2+1)<j-i;omega),ax ⟨rfl,rfl,rfl,rfl,rfl,rfl,rfl,rfl,rfl,rfl,trivial⟩ (aE _) fun _ h=>h⟩
          · exact ⟨(⟨⟨i,(i+j)/2,by omega,by omega,by omega⟩,fun hs=>absurd (show z<0 by (simp_all;done)) (hsx hs)⟩:MerO P a m b mid),(by show (i+j)/2-i<j-i;omega),ax ⟨rfl,rfl,rfl,rfl,rfl,rfl,rfl,rfl,rfl,rfl,trivial⟩ (aE _) fun _ h=>h⟩
       · have hk8:mid+m-i≤b:=by omega
         have hnl:¬ (i:Int)<(j:Int):=by omega
         repeat' (first|refine sy_lssF_g (hab:=by first|exact hnl|omega) ?_|refine sy_lssT_g (hab:=by omega) ?_|refine bF (hq:=by omega) ?_|apply ab|apply Qt|apply Qu|refine aj ?_|refine ad ?_|refine aD ?_|refine aG ?_|refine bj ?_|refine aJ ?_|refine Qx ?_|refine Qy ?_|apply Qw|apply aQ|(refine ix (P:=P) (hQ:=by assumption) (hno:=fun hs=>by have:=hso hs;split at this<;>omega) (hc:=fun Q hQ=>fO s Q i m (mid+m-i) cmpF (hs.trans hQ.1.length_eq.symm) hm ae ae ae) (h:=fun Q2 hQ2=>?_))|(refine cM (P:=P) (hQ:=by assumption) (hc:=fun Q hQ=>ih s Q a i mid ae (hs.trans hQ.1.length_eq.symm) hm ae ae ae) (h:=fun Q2 hQ2=>?_))|(refine cM (P:=P) (hQ:=by assumption) (hc:=fun Q hQ=>ih s Q mid (mid+m-i) b ae (hs.trans hQ.1.length_eq.symm) hm ae ae ae) (h:=fun Q2 hQ2=>?_))|((fail_if_success (refine aZ ?_));refine aR (ht:=?_) (hf:=?_);all_goals (intro hx_;first|have:=aP hx_|have:=aT hx_))|(refine aH (ht:=?_) (hf:=?_);all_goals (intro hx_;first|have:=aP hx_|have:=aT hx_)))
         all_goals
          refine bY (bL rfl) ⟨rfl,_,?_,rfl⟩
          assumption
end SrA
namespace SrA
structure StaI (P:List FndX) (n w:Nat) where
 a:Nat
 b:Nat
 h1:a≤n
 h2:b=a+w
 Q:List FndX
 hQ:Rel P Q
structure StaO (P:List FndX) (n:Nat) where
 z:Nat
 h1:1≤z
 h2:z≤2*n+20
 Q:List FndX
 hQ:Rel P Q
set_option maxRecDepth 20000 in
set_option maxHeartbeats 8000000 in
theorem fJ (s:SlV) (P:List FndX) (hs:s.n=P.length) (hm:s.n≤1000000):Ct Tryz.prog 161 #[s.v,.int .i64 (s.n:Nat),cmpF] [postR s P] (fun _=>True) (RelAt s P):=by
 have hP:Rel P P:=Rel.refl P
 refine cd (args:=[_,_,_]) _ Tryz.func161 rfl Tryz.ntmps161 rfl fun av bor w0=>?_
 repeat' (first|apply ab|apply Qt|apply Qu|refine aj ?_|refine ad ?_|apply Qv|fail)
 refine aU (ι:=StaI P s.n 20) (fun r=>⟨[(0,s.v),(1,.int .i64 (s.n:Nat)),(2,cmpF),(6,.int .i64 20),(7,.int .i64 (r.a:Nat)),(8,.int .i64 (r.b:Nat))],[postR s r.Q],fun _=>True⟩) (fun r=>s.n-r.a) ⟨0,20,Nat.zero_le _,rfl,P,hP⟩ (ax ⟨rfl,rfl,rfl,rfl,rfl,rfl,trivial⟩ (aE _) fun _ h=>h) fun r=>?_
 obtain ⟨a,b,h1,h2,Q,hQ⟩:=r
 simp only
 repeat' (first|refine bp (q:=20) (hq:=by omega) ?_|apply ab|apply Qt|apply Qu|refine aj ?_|refine ad ?_|refine cF ?_|apply Qw|apply Qv|apply aQ|(refine cM (P:=P) (hQ:=by assumption) (hc:=fun Q hQ=>dk s Q a b (hs.trans hQ.1.length_eq.symm) hm ae ae) (h:=fun Q2 hQ2=>?_))|(refine cM (P:=P) (hQ:=by assumption) (hc:=fun Q hQ=>dk s Q a s.n (hs.trans hQ.1.length_eq.symm) hm ae ae) (h:=fun Q2 hQ2=>?_))|(refine aH (ht:=?_) (hf:=?_);all_goals (intro hx_;first|have:=aP hx_|have:=aT hx_)))
 · exact ⟨(⟨b,b+20,by omega,rfl,Q2,hQ2⟩:StaI P s.n 20),(by show s.n-b<s.n-a;omega),ax ⟨rfl,rfl,rfl,rfl,rfl,rfl,trivial⟩ (aE _) fun _ h=>h⟩
 · refine aU (ι:=StaO P s.n) (fun r=>⟨[(0,s.v),(1,.int .i64 (s.n:Nat)),(2,cmpF),(6,.int .i64 (r.z:Nat))],[postR s r.Q],fun _=>True⟩) (fun r=>s.n-r.z) ⟨20,by omega,by omega,Q2,hQ2⟩ (ax ⟨rfl,rfl,rfl,rfl,trivial⟩ (aE _) fun _ h=>h) fun r=>?_
   clear h1 h2 hQ hQ2
   obtain ⟨z,h1,h2,Q,hQ⟩:=r
   simp only
   repeat' (first|refine dW (p:=2) (hq:=by omega) ?_|apply ab|apply Qt|apply Qu|refine aj ?_|refine ad ?_|refine bj ?_|apply Qw|apply Qv|apply aQ|(refine aH (ht:=?_) (hf:=?_);all_goals (intro hx_;first|have:=aP hx_|have:=aT hx_)))
   · have hzn:z<s.n:=by omega
     refine aU (ι:=StaI P s.n (2*z)) (fun r=>⟨[(0,s.v),(1,.int .i64 (s.n:Nat)),(2,cmpF),(6,.int .i64 (z:Nat)),(7,.int .i64 (r.a:Nat)),(8,.int .i64 (r.b:Nat))],[postR s r.Q],fun _=>True⟩) (fun r=>s.n-r.a) ⟨0,2*z,Nat.zero_le _,(Qk _).symm,Q,hQ⟩ (ax ⟨rfl,rfl,rfl,rfl,rfl,rfl,trivial⟩ (aE _) fun _ h=>h) fun r=>?_
     obtain ⟨a,b,h3,h4,Q3,hQ3⟩:=r
     simp only
     repeat' (first|refine bp (hq:=by omega) ?_|refine dW (p:=2) (hq:=by omega) ?_|refine dW (q:=2) (hq:=by omega) ?_|apply ab|apply Qt|apply Qu|refine aj ?_|refine ad ?_|refine bj ?_|refine cF ?_|apply Qw|apply Qv|apply aQ|(refine cM (P:=P) (hQ:=by assumption) (hc:=fun Q hQ=>cT (b-a) s Q a (a+z) b (Qo _) (hs.trans hQ.1.length_eq.symm) hm ae ae ae) (h:=fun Q2 hQ2=>?_))|(refine cM (P:=P) (hQ:=by assumption) (hc:=fun Q hQ=>cT (s.n-a) s Q a (a+z) s.n (Qo _) (hs.trans hQ.1.length_eq.symm) hm ae ae ae) (h:=fun Q2 hQ2=>?_))|(refine aH (ht:=?_) (hf:=?_);all_goals (intro hx_;first|have:=aP hx_|have:=aT hx_)))
     · exact ⟨(⟨b,b+2*z,by omega,rfl,Q2,hQ2⟩:StaI P s.n (2*z)),(by show s.n-b<s.n-a;omega),ax ⟨rfl,rfl,rfl,rfl,rfl,rfl,trivial⟩ (aE _) fun _ h=>h⟩
     all_goals
      refine ⟨(⟨z*2,by omega,by omega,_,?_⟩:StaO P s.n),(by show s.n-z*2<s.n-z;omega),ax ⟨rfl,rfl,rfl,rfl,trivial⟩ (aE _) fun _ h=>h⟩
      assumption
   · exact bY (bL rfl) ⟨rfl,Q,hQ,rfl⟩
theorem sortStable_ct (s:SlV) (P:List FndX) (hs:s.n=P.length) (hm:s.n≤1000000):Ct Tryz.prog 95 #[s.v,cmpF] [postR s P] (fun _=>True) (RelAt s P):=by
 have hP:Rel P P:=Rel.refl P
 refine cd (args:=[_,_]) _ Tryz.func95 rfl Tryz.ntmps95 rfl fun av bor w0=>?_
 repeat' (first|apply ab|apply Qu|refine aj ?_|refine aY ?_|(refine cM (P:=P) (hQ:=by assumption) (hc:=fun Q hQ=>fJ s Q (hs.trans hQ.1.length_eq.symm) hm) (h:=fun Q2 hQ2=>?_))|fail)
 exact bY (bL rfl) ⟨rfl,Q2,hQ2,rfl⟩
end SrA
end Go.Proofs.YtcdilibijnboeaaGreatDoor
namespace Go.Proofs.YtcdilibijnboeaaGreatDoor
open Go Go.Proofs Sy
theorem xJ {α β:Type} {f:α→β} {P:List α} {Q:List β} (h:Q.Perm (P.map f)):∃ Q':List α,Q'.Perm P∧Q'.map f=Q:=by
 generalize e:P.map f=R at h
 induction h generalizing P with
 | nil =>
  cases P with
  | nil=>exact ⟨[],List.Perm.refl _,rfl⟩
  | cons a P=>cases e
 | cons x h ih =>
  cases P with
  | nil=>cases e
  | cons a P =>
   rw [Qs,List.cons.injEq] at e
   obtain ⟨Q',h1,h2⟩:=ih e.2
   exact ⟨a::Q',h1.cons a,by rw [Qs,h2,e.1]⟩
 | swap x y l =>
  cases P with
  | nil=>cases e
  | cons a P =>
   cases P with
   | nil=>cases e
   | cons b P =>
    rw [Qs,Qs,List.cons.injEq,List.cons.injEq] at e
    exact ⟨b::a::P,List.Perm.swap _ _ _,by rw [Qs,Qs,e.1,e.2.1,e.2.2]⟩
 | trans h1 h2 ih1 ih2 =>
  obtain ⟨Q2,p2,e2⟩:=ih2 e
  obtain ⟨Q1,p1,e1⟩:=ih1 e2
  exact ⟨Q1,p1.trans p2,e1⟩
def fndX (f:FndA):SrA.FndX:=⟨f.rank,f.dg,f.a.cells,rfl,rfl⟩
theorem lO (P:List FndA):(P.map fndX).map SrA.FndX.cells=P.map FndA.cells:=by rw [Qr];rfl
theorem uA (n:Nat) (hn:n≤1000000):SortA n:=fun s P hs hl=>by
 have h:=SrA.sortStable_ct s (P.map fndX) (by rw [Z3];exact hs) ae
 have e:SrA.postR s (P.map fndX)=fndR s P:=by
  show orow _ 22 _ _ ((P.map fndX).map SrA.FndX.cells).flatten=orow _ 22 _ _ (P.map FndA.cells).flatten
  rw [lO]
 rw [e] at h
 refine h.mono fun u R X' ⟨h1,Q,h2,h3⟩=>?_
 obtain ⟨Q',p,rfl⟩:=xJ h2.1
 refine ⟨h1,Q',p,?_⟩
 rw [h3]
 show [orow _ 22 _ _ ((Q'.map fndX).map SrA.FndX.cells).flatten]=[orow _ 22 _ _ (Q'.map FndA.cells).flatten]
 rw [lO]
def cutK (kl:List KeyD) (q:Nat):List KeyD:=kl.filter fun k=>decide (k.from_≤(q:Int))
def movN (l:List ActD):Nat:=(l.filter fun a=>decide (a.kind=18)).length
structure CutJ (kl:List KeyD) (q:Nat) where
 k:Nat
 hk:k≤kl.length
 n:Nat
 hn:n=(cutK (kl.take k) q).length
 A:Option Addr
 c:Nat
 xs:List Value
 hxs:xs=((cutK (kl.take k) q).map KeyD.cells).flatten
structure GenJ (l:List ActD) (q n:Nat) where
 k:Nat
 hk:k≤q
 g:Int
 hg:g=(n:Int)-1-(movN (l.take k):Nat)
def keyF (kl:List KeyD) (i:Int):Nat→Option KeyD
 | 0=>none
 | j+1=>bif decide ((kl.getD j KeyD.zero).from_≤i) then some (kl.getD j KeyD.zero) else keyF kl i j
def keyV (n:Nat) (kl:List KeyD) (i:Int):Option KeyD:=bif decide (i<0)||decide ((n:Int)<i) then none else keyF kl i kl.length
def keyOP (o:Option KeyD):Value:=.tuple #[(o.getD KeyD.zero).v,.bool o.isSome]
structure KeyI (kl:List KeyD) (i:Int) where
 k:Nat
 hk:k≤kl.length
 hs:keyF kl i kl.length=keyF kl i k
set_option maxHeartbeats 8000000 in
theorem qp (c:ChainD) (kl:List KeyD) (i:Int):Pu Tryz.prog 11 #[c.v,.int .i64 i] (fun w=>c.at_ w∧Keyz w c.keys kl) (keyOP (keyV c.acts.n kl i)):=by
 refine ay (args:=[_,_]) _ Tryz.func11 rfl Tryz.ntmps11 rfl fun av bor w0=>?_
 refine bJ (p:=c.keys.n=kl.length∧c.keys.n≤maxLen∧(0<kl.length→c.keys.p.isSome=true)) (fun w h=>Keyz.know w h.2) fun ⟨hkn,hkm,hkp⟩=>?_
 simp only [maxLen] at hkm
 cases hb:(decide (i<0)||decide ((c.acts.n:Int)<i)) with
 | true =>
  rw [show keyV c.acts.n kl i=none from by rw [keyV,hb];rfl]
  repeat' (first|apply ab|apply Qt|apply Qu|refine aj ?_|refine ad ?_|refine aB ?_|refine aA ?_|refine aD ?_|refine aG ?_|refine bj ?_|refine cG ?_|refine aY ?_|refine de (h:=?_)|refine bR ?_|refine aM fun _=>?_|refine aL fun _=>?_|refine aK ?_|refine Qx ?_|apply Qw|apply Qv|apply ar|(refine br (cs:=KeyD.zero.cells) (hf:=by rfl) ?_)|((fail_if_success (refine aZ ?_));refine aR (ht:=?_) (hf:=?_);all_goals (intro hx_;first|have:=aP hx_|have:=aT hx_))|(refine aH (ht:=?_) (hf:=?_);all_goals (intro hx_;first|have:=aP hx_|have:=aT hx_)))
  all_goals first
   | exact al (cV rfl rfl rfl bU (by rfl)) rfl
   | (exfalso;simp_all;done)
 | false =>
  have hb':=hb
  simp only [Bool.or_eq_false_iff,decide_eq_false_iff_not] at hb'
  obtain ⟨h0,h1⟩:=hb'
  rw [show keyV c.acts.n kl i=keyF kl i kl.length from by rw [keyV,hb];rfl]
  repeat' (first|refine am (bM false rfl rfl (Zn h0)) rfl aC rfl ?_|refine ir (hab:=h1) ?_|apply ab|apply Qt|apply Qu|refine aj ?_|refine ad ?_|refine aB ?_|refine aA ?_|refine aG ?_|refine aY ?_|refine de (h:=?_)|refine aM fun _=>?_|refine aL fun _=>?_|refine Qy ?_|apply Qw|apply Qv|fail)
  rename_i b2 b4
  refine aU (ι:=KeyI kl i) (fun j=>⟨[(1,.int .i64 i),(2,.pointer (some ⟨b2,0,none⟩)),(4,.pointer (some ⟨b4,0,none⟩)),(6,.int .i64 ((j.k:Nat)-1))],[cel b4 35 KeyD.zero.cells,cel b2 31 c.cells],fun w=>c.at_ w∧Keyz w c.keys kl⟩) (fun j=>j.k) ⟨c.keys.n,by omega,by rw [hkn]⟩ (ax ⟨rfl,rfl,rfl,rfl,trivial⟩ (aE _) fun _ h=>h) fun j=>?_
  obtain ⟨k,hk,hs⟩:=j
  simp only
  cases k with
  | zero =>
   rw [hs]
   clear hs
   repeat' (first|refine am (eJ false rfl rfl (Zn ae)) rfl aC rfl ?_|apply ab|apply Qt|apply Qu|refine aj ?_|refine ad ?_|refine aK ?_|refine Qy ?_|apply ar|apply aQ|(refine br (cs:=KeyD.zero.cells) (hf:=by rfl) ?_)|fail)
   exact al (cV rfl rfl rfl bU (by rfl)) rfl
  | succ k =>
   obtain ⟨y,hy⟩:∃ y,kl[k]?=some y:=⟨_,Zm ae⟩
   have hyD:kl.getD k KeyD.zero=y:=by rw [ZL,hy];rfl
   have hkp':=hkp ae
   cases hle:decide (y.from_≤i) with
   | true =>
    rw [hs,show keyF kl i (k+1)=some y from by rw [keyF,hyD,hle];rfl]
    clear hs
    have hle':=aP hle
    repeat' (first|refine am (eJ true rfl rfl (ZA ae)) rfl aC rfl ?_|refine dP (q:=k*3) (u:=.int .i64 y.from_) (hF:=fun w h=>(Keyz.get h.2 hy).2.2 0 _ rfl) ?_|apply ab|apply Qt|apply Qu|refine aj ?_|refine ad ?_|refine aB ?_|refine aA ?_|refine cF ?_|refine aK ?_|refine Qx ?_|apply Qw|apply Qv|apply ar|(refine bx (q:=k*3) ?_)|(refine eX ?_)|(refine cr (cs:=y.cells) (hF:=fun w h=>Keyz.get h.2 hy) ?_)|fail)
    all_goals first
     | exact al (cV rfl rfl rfl bU (by rfl)) rfl
     | (exfalso;omega)
   | false =>
    have hs2:keyF kl i kl.length=keyF kl i k:=by rw [hs,keyF,hyD,hle];rfl
    repeat' (first|refine am (eJ true rfl rfl (ZA ae)) rfl aC rfl ?_|refine dP (q:=k*3) (u:=.int .i64 y.from_) (hF:=fun w h=>(Keyz.get h.2 hy).2.2 0 _ rfl) ?_|apply ab|apply Qt|apply Qu|refine aj ?_|refine ad ?_|refine aB ?_|refine aA ?_|refine cF ?_|refine de (h:=?_)|refine Qx ?_|refine Qy ?_|apply Qw|apply Qv|(refine bx (q:=k*3) ?_)|(refine eX ?_)|fail)
    all_goals first
     | exact ⟨(⟨k,by omega,hs2⟩:KeyI kl i),Nat.lt_succ_self k,ax ⟨rfl,rfl,rfl,(by show some (Value.int IntKind.i64 (((k+1:Nat):Int)-1-1))=some (Value.int IntKind.i64 ((k:Int)-1));rw [show ((k+1:Nat):Int)-1-1=(k:Int)-1 from by omega]),trivial⟩ (aE _) fun _ h=>h⟩
     | (exfalso;exact absurd (by assumption) (aT hle))
theorem m7 {c c':ChainD} {a:ActD} {pl:Option Nat} (h1:c.id=c'.id) (h2:c.acts.n=c'.acts.n) (h3:c.prev=c'.prev) (h4:c.actsL=c'.actsL):fitsV c a pl=fitsV c' a pl:=by
 have e:∀ p,atK c pl p=atK c' pl p:=fun p=>by
  cases pl with
  | none=>rfl
  | some j=>show p (c.actsL.getD j ActD.zero).kind=p (c'.actsL.getD j ActD.zero).kind;rw [h4]
 rw [fitsV,fitsV,h1,h2,h3,e,e]
theorem uS {W:OfW} {st s:ChS} (h:regS W st=some s):∃ c i,W.won st.gen=some c∧c.base=(st.acts.length:Int)∧c.prev=st.prev∧setI st.acts st.acts.length=some i∧W.clm (st.acts.getD i ActD.zero).m c=true∧s=⟨st.acts,st.keys++[⟨(st.acts.length:Nat),c.pub,c.home⟩],W.dgC c,st.gen+1⟩:=by
 rw [regS] at h
 cases hw:W.won st.gen with
 | none=>rw [hw] at h;cases h
 | some c =>
  rw [hw] at h
  simp only at h
  cases hb:decide (c.base=(st.acts.length:Int))&&seqB c.prev st.prev with
  | false=>rw [hb] at h;cases h
  | true =>
   rw [hb] at h
   rw [ZM,ZT,seqB_iff] at hb
   cases hs:setI st.acts st.acts.length with
   | none=>rw [hs] at h;cases h
   | some i =>
    rw [hs] at h
    simp only [ZC] at h
    cases hc:W.clm (st.acts.getD i ActD.zero).m c with
    | false=>rw [hc] at h;cases h
    | true =>
     rw [hc,ZC,Qb] at h
     exact ⟨c,i,rfl,hb.1,hb.2,rfl,hc,h.symm⟩
theorem oW {W:OfW} {st s:ChS} (h:stepS W st=some s):regS W st=some s∨regS W st=none∧∃ a,candL W st=[a]∧s=addS st a:=by
 rw [stepS] at h
 cases hr:regS W st with
 | some s'=>rw [hr] at h;exact .inl h
 | none =>
  rw [hr] at h
  cases ho:oneA (candL W st) with
  | none=>rw [ho] at h;cases h
  | some a =>
   rw [ho,Option.map_some,Qb] at h
   exact .inr ⟨rfl,a,jr ho,h.symm⟩
theorem nP {W:OfW} {P:ChS→Prop} (hst:∀ st s,P st→stepS W st=some s→P s):∀ (n:Nat) (st:ChS),P st→P (runS W n st)
 | 0,st,h=>h
 | n+1,st,h=>by
  cases hs:stepS W st with
  | none=>rw [pa hs];exact h
  | some s=>rw [pb hs];exact nP hst n s (hst st s h hs)
theorem mG {α:Type} (l:List α) (a:α) (i:Nat) (h:i≤l.length):(l++[a]).take i=l.take i:=by
 rw [List.take_append,show i-l.length=0 from by omega,List.take_zero,Z8]
theorem qa {α:Type} {l:List α} {a x:α} {i:Nat} (h:(l++[a])[i]?=some x):l[i]?=some x∧i<l.length∨i=l.length∧x=a:=by
 rcases Nat.lt_trichotomy i l.length with hi|rfl|hi
 · rw [Z4 hi] at h
   exact .inl ⟨h,hi⟩
 · rw [Ql (Qo _),Nat.sub_self] at h
   exact .inr ⟨rfl,(Option.some.inj h).symm⟩
 · rw [Ql ae,List.getElem?_singleton,Qf (by omega)] at h
   cases h
structure ChFit (W:OfW) (st:ChS):Prop where
 mem:∀ a∈st.acts,a∈W.L
 seq:∀ (i:Nat) (x:ActD),st.acts[i]?=some x→x.seq=(i:Int)
 fit:∀ (i:Nat) (x:ActD),st.acts[i]?=some x→1≤i→fitsV ((⟨st.acts.take i,[],x.prev,0⟩:ChS).ch W.id) x (idxV (st.acts.take i) x.object)=true
 key0:∃ k r,st.keys=k::r∧k.from_=0
theorem yw {W:OfW} {st s:ChS} (h:ChFit W st) (hs:stepS W st=some s):ChFit W s:=by
 obtain ⟨k,r,hk,hk0⟩:=h.key0
 rcases oW hs with h1|⟨h1,a,h2,rfl⟩
 · obtain ⟨c,i,e1,e2,e3,e4,e5,rfl⟩:=uS h1
   exact ⟨h.mem,h.seq,h.fit,k,r++[_],by rw [hk];rfl,hk0⟩
 · have ha:a∈candL W st:=by rw [h2];exact List.mem_singleton.2 rfl
   obtain ⟨m1,m2,m3⟩:=lY ha
   have hp:a.prev=st.prev:=by
    rw [candL,List.mem_filter,List.mem_filter,posB,ZM,seqB_iff] at ha
    exact ha.1.2.2
   refine ⟨fun x hx=>?_,fun i x hx=>?_,fun i x hx h0=>?_,?_⟩
   · rcases List.mem_append.1 (show x∈st.acts++[a] from hx) with hx|hx
     · exact h.mem x hx
     · rw [List.mem_singleton.1 hx];exact m1
   · rcases qa (show (st.acts++[a])[i]?=some x from hx) with ⟨h3,_⟩|⟨rfl,rfl⟩
     · exact h.seq i x h3
     · exact m2
   · rcases qa (show (st.acts++[a])[i]?=some x from hx) with ⟨h3,h4⟩|⟨rfl,rfl⟩
     · have:=h.fit i x h3 h0
       rw [show (addS st a).acts.take i=st.acts.take i from mG _ _ _ (by omega)]
       exact this
     · rw [show (addS st x).acts.take st.acts.length=st.acts from by rw [show (addS st x).acts=st.acts++[x] from rfl,mG _ _ _ (Qo _),List.take_length]]
       rw [candB,ZM] at m3
       rw [←m3.1]
       exact m7 rfl rfl hp rfl
   · show ∃ k r,(bif decide (a.kind=18) then st.keys++[_] else st.keys)=k::r∧k.from_=0
     cases decide (a.kind=18) with
     | true=>exact ⟨k,r++[_],by rw [hk];rfl,hk0⟩
     | false=>exact ⟨k,r,hk,hk0⟩
theorem CE {W:OfW} {a:ActD} (ha:a∈firstL W):begS a=⟨[a],[⟨0,a.n,a.m⟩],digV a,0⟩∧a∈W.L∧a.seq=0∧a.prev=⟨#[]⟩∧a.kind=0∧idV a.n=W.id∧W.ver a.n a=true:=by
 rw [firstL,List.mem_filter,List.mem_filter] at ha
 have h2:=ha.1.2
 simp only [posB,ZM,ZT,seqB_iff] at h2
 have h3:=ha.2
 simp only [firstB,ZM,ZT,seqB_iff] at h3
 exact ⟨by rw [begS,addS,h3.1.1];rfl,ha.1.1,h2.1,h2.2,h3.1.1,h3.1.2,h3.2⟩
theorem Bf {W:OfW} {a:ActD} (ha:a∈firstL W):ChFit W (begS a):=by
 obtain ⟨e,h1,h2,h3,h4,h5,h6⟩:=CE ha
 rw [e]
 refine ⟨fun x hx=>by rw [List.mem_singleton.1 hx];exact h1,fun i x hx=>?_,fun i x hx h0=>?_,_,[],rfl,rfl⟩
 · rw [List.getElem?_singleton] at hx
   split at hx
   · rename_i hi
     subst hi
     rw [←Option.some.inj hx,h2];rfl
   · cases hx
 · rw [List.getElem?_singleton,Qf (by omega)] at hx
   cases hx
theorem AZ {W:OfW} {a:ActD} (ha:a∈firstL W):ChFit W (finS W a):=nP (P:=ChFit W) (fun st s h hs=>yw h hs) _ _ (Bf ha)
section
variable {P:Program} {N:Nat} {av bor:List Nat} {w0:World} {ty:TypeId}
end
section
variable {N:Nat} {av bor:List Nat} {w0:World} {st:St} {ty:TypeId} {x:Operand}
end
def seedB (i:Nat):ByteArray:=⟨#[97,99,116,111,114,32]⟩++ofInts [(i:Int)]
def keyA (i:Nat):KyD:=keyOf (seedB i)
def idA21 (i:Nat):ByteArray:=idV (keyA i).p
def ChainD.more (c:ChainD) (s:SlV) (a:ActD):ChainD:={ c with acts:=s,actsL:=c.actsL++[a],prev:=digV a }
def ActD.can (a:ActD):ActD:=a.re ⟨none,a.to.n,0⟩ ⟨none,a.wraps.n,0⟩
def ChainD.can (c:ChainD):ChainD:={ c with acts:=⟨none,c.acts.n,0⟩,keys:=⟨none,c.keys.n,0⟩,actsL:=c.actsL.map ActD.can }
def actorB:ByteArray:=⟨#[97,99,116,111,114]⟩
def idC (i:Nat):ChainD:={ ChainD.zero with id:=idA21 i }
def draftB (i:Nat):ActD:={ draftV (idC i) 0 0 with text:=actorB,n:=(keyA i).p }
def actB (i:Nat):ActD:=actSignV (keyA i) (draftB i)
def beginC (i:Nat):ChainD:={ idC i with acts:=⟨none,1,0⟩,keys:=⟨none,1,0⟩,prev:=digV (actB i),actsL:=[(actB i).can] }
section
variable {N:Nat} {av bor:List Nat} {w0:World} {E:Env} {loc:List Res} {X:World→Prop}
end
structure BegI where
 k:Nat
 hk:k≤4
 L:List ChainD
 hL:L.map ChainD.can=(List.range k).map beginC
 xs:List Value
 hxs:xs=(L.map ChainD.cells).flatten
 hb:∀ c∈L,ActsOk c.actsL∧c.actsL.length≤1
 A:Option Addr
 c:Nat
theorem xw (w:World):(isAgg 41).run Tryz.prog w=.ok true w:=by kernel_rfl
theorem uG (w:World):(Go.sizeOf 41).run Tryz.prog w=.ok 3 w:=by kernel_rfl
theorem pM {cs:Array Value} {o:Nat} {w:World}:(part 41 cs o).run Tryz.prog w=.ok (.agg (cs.extract o (o+3))) w:=by
 simp [part,xw,uG]
theorem yB {d:Nat} {a b c a' b' c':ByteArray} {w:World}:(Op.equalIn (d+2) 41 (.agg #[.string a,.string b,.string c]) (.agg #[.string a',.string b',.string c'])).run Tryz.prog w=.ok (seqB a a'&&(seqB b b'&&(seqB c c'&&true))) w:=by
 rw [run_equalIn_agg w (d+1) _ _ _ l3 ng]
 have hf:(Tryz.prog.fieldsOf 41).toList.map (fun f=>(f.name,f.type,f.offset))=[("Nonce",9,0),("Data",9,1),("Tag",9,2)]:=by kernel_rfl
 generalize (Tryz.prog.fieldsOf 41).toList=l at hf
 rcases l with _|⟨⟨n1,t1,o1,_⟩,_|⟨⟨n2,t2,o2,_⟩,_|⟨⟨n3,t3,o3,_⟩,_|⟨f4,l⟩⟩⟩⟩
 case cons.cons.cons.nil =>
  simp only [Qs,List.map_nil,List.cons.injEq,Prod.mk.injEq,and_true] at hf
  obtain ⟨⟨rfl,rfl,rfl⟩,⟨rfl,rfl,rfl⟩,rfl,rfl,rfl⟩:=hf
  exact ck (by dsimp only;decide) (bu rfl) (bu rfl) fq (ck (by dsimp only;decide) (bu rfl) (bu rfl) fq (ck (by dsimp only;decide) (bu rfl) (bu rfl) fq gU))
 all_goals (have:=congrArg List.length hf;simp at this)
def wrapEq (a b:WrapD):Bool:=decide (a.to=b.to)&&(decide (a.eph=b.eph)&&((seqB a.box.nonce b.box.nonce&&(seqB a.box.data b.box.data&&(seqB a.box.tag b.box.tag&&true)))&&true))
theorem oM (a:WrapD):wrapEq a a=true:=by simp [wrapEq,cf]
theorem mf:Tryz.prog.underlying 97=some (.struct (Tryz.prog.fieldsOf 97)):=by kernel_rfl
theorem nu:Tryz.prog.stoodInHeld 97=false:=by kernel_rfl
theorem nv:Tryz.prog.eqGuardType Tryz.prog.depth 97=false:=by kernel_rfl
theorem qW (w:World) (a b:WrapD):(Op.equalIn 10000 97 (.agg a.cells.toArray) (.agg b.cells.toArray)).run Tryz.prog w=.ok (wrapEq a b) w:=by
 rw [show (10000:Nat)=9999+1 from rfl,run_equalIn_agg w 9999 _ _ _ mf nu]
 have hf:(Tryz.prog.fieldsOf 97).toList.map (fun f=>(f.name,f.type,f.offset))=[("To",3,0),("Eph",3,1),("Box",41,2)]:=by kernel_rfl
 generalize (Tryz.prog.fieldsOf 97).toList=l at hf
 rcases l with _|⟨⟨n1,t1,o1,_⟩,_|⟨⟨n2,t2,o2,_⟩,_|⟨⟨n3,t3,o3,_⟩,_|⟨f4,l⟩⟩⟩⟩
 case cons.cons.cons.nil =>
  simp only [Qs,List.map_nil,List.cons.injEq,Prod.mk.injEq,and_true] at hf
  obtain ⟨⟨rfl,rfl,rfl⟩,⟨rfl,rfl,rfl⟩,rfl,rfl,rfl⟩:=hf
  exact ck (by dsimp only;decide) (bu rfl) (bu rfl) da (ck (by dsimp only;decide) (bu rfl) (bu rfl) da (ck (by dsimp only;decide) pM pM yB gU))
 all_goals (have:=congrArg List.length hf;simp at this)
theorem nj {N:Nat} {av bor:List Nat} {w0:World} {st:St} {ty t2:TypeId} {x y:Operand} {a b:WrapD} (hx:ev st.env x=some (.agg a.cells.toArray)) (hy:ev st.env y=some (.agg b.cells.toArray)) :
  Sy.Yields Tryz.prog N av bor w0 st (.binOp .neq 97 x y t2) ty (.bool (!wrapEq a b)):=Sy.Yields.mk fun A w ok d pos af g=>by
 have h1:=run_neq_struct (P:=Tryz.prog) w 97 a.cells.toArray b.cells.toArray
 rw [qW w a b] at h1
 simp [execOp,ok.eval (st:=st) hx,ok.eval (st:=st) hy,run_eqGuard_agg _ _ _ _ _ _ _ nv,h1]
theorem vP {N:Nat} {av bor:List Nat} {w0:World} {st:St} {ty t2:TypeId} {x y:Operand} {a:WrapD} (hx:ev st.env x=some (.agg a.cells.toArray)) (hy:ev st.env y=some (.agg a.cells.toArray)) :
  Sy.Yields Tryz.prog N av bor w0 st (.binOp .neq 97 x y t2) ty (.bool false):=by
 have h:=nj (N:=N) (av:=av) (bor:=bor) (w0:=w0) (ty:=ty) (t2:=t2) hx hy
 rw [oM] at h
 exact h
theorem tD {N:Nat} {av bor:List Nat} {w0:World} {E:Env} {loc:List Res} {X:World→Prop} {ty t2:TypeId} {x y:Operand} {a b:BoxD} (hx:ev E x=some a.v) (hy:ev E y=some b.v) (h:boxEq a b=true) :
  Sy.Yields Tryz.prog N av bor w0 ⟨E,loc,X⟩ (.binOp .eql 41 x y t2) ty (.bool true):=h▸r4 hx hy
theorem tC {N:Nat} {av bor:List Nat} {w0:World} {E:Env} {loc:List Res} {X:World→Prop} {ty t2:TypeId} {x y:Operand} {a b c d:Int} (hx:ev E x=some (.agg #[.int .i64 a,.int .i64 b])) (hy:ev E y=some (.agg #[.int .i64 c,.int .i64 d])) (h:(decide (a=c)&&decide (b=d))=true) :
  Sy.Yields Tryz.prog N av bor w0 ⟨E,loc,X⟩ (.binOp .eql 44 x y t2) ty (.bool true):=h▸rU hx hy
theorem rL (a:BoxD):boxEq a a=true:=by simp [boxEq,cf]
theorem uU {a b:ActD} (h:b.can=a.can):b=a.re b.to b.wraps∧b.to.n=a.to.n∧b.wraps.n=a.wraps.n:=by
 obtain ⟨a1,a2,a3,a4,a5,a6,a7,a8,a9,a10,a11,a12,a13,a14,a15,a16,a17,a18,a19,a20⟩:=a
 obtain ⟨b1,b2,b3,b4,b5,b6,b7,b8,b9,b10,b11,b12,b13,b14,b15,b16,b17,b18,b19,b20⟩:=b
 simp only [ActD.can,ActD.re,ActD.mk.injEq,SlV.mk.injEq] at h
 simp only [ActD.re,ActD.mk.injEq,true_and,and_true]
 obtain ⟨rfl,rfl,rfl,rfl,rfl,rfl,rfl,rfl,rfl,⟨_,h1,_⟩,rfl,rfl,rfl,⟨_,h2,_⟩,rfl,rfl,rfl,rfl,rfl,rfl⟩:=h
 exact ⟨by simp,h1,h2⟩
set_option maxRecDepth 20000 in
set_option maxHeartbeats 8000000 in
theorem uH (a b:ActD) (hb:b.can=a.can) (hr:a.Rng):Pu Tryz.prog 42 #[a.v,b.v] (fun w=>a.at_ w∧b.at_ w) (.bool true):=by
 obtain ⟨hE,n1,n2⟩:=uU hb
 have l1:=hr.to_len
 have l2:=hr.wraps_len
 refine sT (X:=fun w=>(Strs w a.to a.toL∧Wraps w a.wraps a.wrapsL)∧Strs w b.to a.toL∧Wraps w b.wraps a.wrapsL) ?_ fun w h=>⟨h.1,by have h2:=h.2.1;rw [hE] at h2;exact h2,by have h2:=h.2.2;rw [hE] at h2;exact h2⟩
 have f1:seqB a.author b.author=true:=by rw [hE];exact cf _
 have f2:a.seq=b.seq:=by rw [hE];rfl
 have f3:seqB a.prev b.prev=true:=by rw [hE];exact cf _
 have f4:a.kind=b.kind:=by rw [hE];rfl
 have f5:a.time=b.time:=by rw [hE];rfl
 have f6:seqB a.object b.object=true:=by rw [hE];exact cf _
 have f7:seqB a.target b.target=true:=by rw [hE];exact cf _
 have f8:a.scope=b.scope:=by rw [hE];rfl
 have f9:seqB a.group b.group=true:=by rw [hE];exact cf _
 have f10:seqB a.text b.text=true:=by rw [hE];exact cf _
 have f11:boxEq a.body b.body=true:=by rw [hE];exact rL _
 have f12:a.epoch=b.epoch:=by rw [hE];rfl
 have f13:a.n=b.n:=by rw [hE];rfl
 have f14:a.m=b.m:=by rw [hE];rfl
 have f15:(decide (a.e=b.e)&&decide (a.s=b.s))=true:=by rw [hE];simp [ActD.re]
 clear hE hb hr
 refine ay (args:=[_,_]) _ Tryz.func42 rfl Tryz.ntmps42 rfl fun av bor w0=>?_
 refine bJ (p:=(a.to.n≤maxLen∧(0<a.toL.length→a.to.p.isSome=true)∧(0<a.toL.length→b.to.p.isSome=true))∧(a.wraps.n≤maxLen∧(0<a.wrapsL.length→a.wraps.p.isSome=true)∧(0<a.wrapsL.length→b.wraps.p.isSome=true))) (fun w h=>⟨⟨Qp (RowsD.cap h.1.1) (RowsD.max h.1.1),h.1.1.some_,h.2.1.some_⟩,Qp (RowsD.cap h.1.2) (RowsD.max h.1.2),h.1.2.some_,h.2.2.some_⟩) fun ⟨⟨m1,p1,q1⟩,m2,p2,q2⟩=>?_
 simp only [maxLen] at m1 m2
 repeat' (first|refine eP (hab:=by omega) ?_|apply ab|apply Qt|apply Qu|refine aj ?_|refine ad ?_|refine aB ?_|refine aA ?_|refine aG ?_|refine aY ?_|refine aL fun _=>?_|refine Qy ?_|apply Qw|apply Qv|fail)
 rename_i b2 b3
 refine aU (ι:=Kth a.toL.length) (fun i=>⟨[(2,.pointer (some ⟨b2,0,none⟩)),(3,.pointer (some ⟨b3,0,none⟩)),(5,.int .i64 i.k)],[cel b3 46 b.cells,cel b2 46 a.cells],fun w=>(Strs w a.to a.toL∧Wraps w a.wraps a.wrapsL)∧Strs w b.to a.toL∧Wraps w b.wraps a.wrapsL⟩) (fun i=>a.toL.length-i.k) ⟨0,Nat.zero_le _⟩ (ax ⟨rfl,rfl,rfl,trivial⟩ (aE _) fun _ h=>h) fun i=>?_
 obtain ⟨k,hk⟩:=i
 simp only
 by_cases hlt:k<a.toL.length
 · have p1':=p1 ae
   have q1':=q1 ae
   repeat' (first|refine am (bM true rfl rfl (ZA ae)) rfl aC rfl ?_|apply ab|apply Qt|apply Qu|refine aj ?_|refine aB ?_|refine aA ?_|refine aY ?_|refine Qx ?_|apply Qw|apply Qv|fail)
   (refine aS [cel b3 46 b.cells,cel b2 46 a.cells] (fun w=>(Strs w a.to a.toL∧Wraps w a.wraps a.wrapsL)∧Strs w b.to a.toL∧Wraps w b.wraps a.wrapsL) ak ?_)
   all_goals refine aa 0 ?_<;>refine aa 1 ?_<;>refine aa 2 ?_<;>(refine aa 3 (hy:=by (apply aN (q:=k);rfl;rfl;omega;omega;assumption;omega)) ?_)<;>(refine aa 4 (hy:=by (apply dv;rfl;exact fun w h=>Strs.get h.1.1 hlt)) ?_)<;>refine aa 5 ?_<;>refine aa 6 ?_<;>refine aa 7 ?_<;>(refine aa 8 (hy:=by (apply aN (q:=k);rfl;rfl;omega;omega;assumption;omega)) ?_)<;>(refine aa 9 (hy:=by (apply dv;rfl;exact fun w h=>Strs.get h.2.1 hlt)) ?_)<;>(refine aa 10 (hy:=by (apply d8 false;rfl;rfl;exact (by rw [cf];rfl))) ?_)<;>(refine aw ?_)
   all_goals
    repeat' (first|apply ab|apply Qu|refine aj ?_|refine ad ?_|refine be (h:=?_)|refine Qy ?_|apply Qw|fail)
    exact ⟨(⟨k+1,hlt⟩:Kth a.toL.length),(by show a.toL.length-(k+1)<a.toL.length-k;omega),ax ⟨rfl,rfl,rfl,trivial⟩ (aE _) fun _ h=>h⟩
 · repeat' (first|refine am (bM false rfl rfl (Zn ae)) rfl aC rfl ?_|apply ab|apply Qt|apply Qu|refine aj ?_|refine ad ?_|refine aB ?_|refine aA ?_|refine aY ?_|refine Qy ?_|apply Qv|apply aQ|fail)
   refine aU (ι:=Kth a.wrapsL.length) (fun i=>⟨[(2,.pointer (some ⟨b2,0,none⟩)),(3,.pointer (some ⟨b3,0,none⟩)),(6,.int .i64 i.k)],[cel b3 46 b.cells,cel b2 46 a.cells],fun w=>(Strs w a.to a.toL∧Wraps w a.wraps a.wrapsL)∧Strs w b.to a.toL∧Wraps w b.wraps a.wrapsL⟩) (fun i=>a.wrapsL.length-i.k) ⟨0,Nat.zero_le _⟩ (ax ⟨rfl,rfl,rfl,trivial⟩ (aE _) fun _ h=>h) fun i=>?_
   obtain ⟨k,hk⟩:=i
   simp only
   by_cases hlt:k<a.wrapsL.length
   · have p2':=p2 ae
     have q2':=q2 ae
     obtain ⟨x,hx⟩:∃ x,a.wrapsL[k]?=some x:=⟨_,Zm hlt⟩
     repeat' (first|refine am (bM true rfl rfl (ZA ae)) rfl aC rfl ?_|apply ab|apply Qt|apply Qu|refine aj ?_|refine aB ?_|refine aA ?_|refine aY ?_|refine Qx ?_|apply Qw|apply Qv|fail)
     (refine aS [cel b3 46 b.cells,cel b2 46 a.cells] (fun w=>(Strs w a.to a.toL∧Wraps w a.wraps a.wrapsL)∧Strs w b.to a.toL∧Wraps w b.wraps a.wrapsL) ak ?_)
     all_goals refine aa 0 ?_<;>refine aa 1 ?_<;>refine aa 2 ?_<;>(refine aa 3 (hy:=by (apply aN (q:=k*5);rfl;rfl;omega;omega;assumption;omega)) ?_)<;>(refine aa 4 (hy:=by (apply cX (cs:=x.cells);rfl;exact fun w h=>Wraps.get h.1.2 hx)) ?_)<;>refine aa 5 ?_<;>refine aa 6 ?_<;>refine aa 7 ?_<;>(refine aa 8 (hy:=by (apply aN (q:=k*5);rfl;rfl;omega;omega;assumption;omega)) ?_)<;>(refine aa 9 (hy:=by (apply cX (cs:=x.cells);rfl;exact fun w h=>Wraps.get h.2.2 hx)) ?_)<;>(refine aa 10 (hy:=by (apply vP (a:=x);rfl;rfl)) ?_)<;>(refine aw ?_)
     all_goals
      repeat' (first|apply ab|apply Qu|refine aj ?_|refine ad ?_|refine be (h:=?_)|refine Qy ?_|apply Qw|fail)
      exact ⟨(⟨k+1,hlt⟩:Kth a.wrapsL.length),(by show a.wrapsL.length-(k+1)<a.wrapsL.length-k;omega),ax ⟨rfl,rfl,rfl,trivial⟩ (aE _) fun _ h=>h⟩
   · repeat' (first|refine am (bM false rfl rfl (Zn ae)) rfl aC rfl ?_|refine am (dw true rfl rfl (by assumption)) rfl aC rfl ?_|refine bm (hab:=by assumption) ?_|apply ab|apply Qt|apply Qu|refine aj ?_|refine ad ?_|refine aB ?_|refine aA ?_|refine aD ?_|refine aY ?_|refine Qy ?_|apply ar|apply aQ|(refine am (tD (a:=a.body) (b:=b.body) rfl rfl (by assumption)) rfl aC rfl ?_)|(refine am (tC (a:=a.e) (b:=a.s) (c:=b.e) (d:=b.s) rfl rfl (by assumption)) rfl aC rfl ?_)|(refine aW ?_)|fail)
     all_goals first
      | exact al (ap rfl rfl) rfl
end Go.Proofs.YtcdilibijnboeaaGreatDoor
