/- Joined. -/
import Derived.Test.YtaolfiikahlmkaaGreatDoorZ12
set_option linter.unusedVariables false
set_option linter.unusedSimpArgs false
set_option maxHeartbeats 16000000
namespace Go.Proofs.YtaolfiikahlmkaaGreatDoor
open Go Go.Proofs Sy
def OfW.at (W:OfW) (L:List ActD):OfW:={ W with L:=L }
def OfRes (W:OfW) (st:ChS) (fork:Bool):Prop:=match oneA (firstL W) with
 | some a=>st=finS W a∧fork=decide (1<(candL W (finS W a)).length)
 | none=>st=⟨[],[],⟨#[]⟩,0⟩∧fork=decide (1<(firstL W).length)
def OfAt19 (W:OfW) (PL:List ActD→Prop) (u:Value) (X:World→Prop):Prop:=∃ (L:List ActD) (sa sk:SlV) (st:ChS) (fork:Bool),PL L∧OfRes (W.at L) st fork∧u=(⟨W.id,sa,sk,st.prev,(st.gen:Nat),fork,st.acts⟩:ChainD).v∧∀ w,X w→Acts w sa st.acts∧Keyz w sk st.keys
structure OfHyp (ks ki:SlV) (W:OfW) (PL:List ActD→Prop) (Y:World→Prop):Prop where
 acts:Mk Tryz.prog 62 #[.agg #[ks.v,ki.v],.string W.id] (fun w=>Y w∧Glob w) (fun u X'=>∃ (s:SlV) (L:List ActD),u=s.v∧PL L∧∀ w,X' w→Acts w s L)
 ok:∀ L,PL L→ActsOk L∧L.length≤100000
 bB:W.B≤100000
 won:∀ g:Nat,g≤W.B→Pu Tryz.prog 115 #[.agg #[ks.v,ki.v],.string W.id,.int .i64 (g:Nat)] (fun w=>Y w∧Glob w) (.tuple #[((W.won g).getD ClaimD.zero).v,.bool (W.won g).isSome])
 bnd:∀ g c,W.won g=some c→g<W.B
 clm:∀ g c,W.won g=some c→∀ p:Int,Pu Tryz.prog 116 #[.int .i64 p,c.v] (fun w=>Y w∧Glob w) (.bool (W.clm p c))
 dg:∀ g c,W.won g=some c→Pu Tryz.prog 18 #[(ofClaimI c).v] (fun w=>Y w∧Glob w) (.string (W.dgC c))
 ver:∀ L,PL L→∀ a∈L,∀ p:Int,Pu Tryz.prog 64 #[.int .i64 p,a.v] (fun w=>a.at_ w∧Glob w) (.bool (W.ver p a))
def chZ (id:ByteArray):List Value:=[.string id,.slice none 0 0,.slice none 0 0,.string ⟨#[]⟩,.int .i64 0,.bool false]
def bldH0 (ks ki:SlV) (id:ByteArray) (q1 q2:Nat):BldH:=⟨ks,ki,id,false,q1,q2,ClaimD.zero,false⟩
structure GroI (L:List ActD) where
 k:Nat
 hk:k≤L.length
 G:List (PosK×Grp)
 hG:GrpOk G (L.take k)
theorem sC {ks ki:SlV} {W:OfW} {PL:List ActD→Prop} {Y:World→Prop} (H:OfHyp ks ki W PL Y) (L:List ActD) (b q1 q2:Nat) (sa sk:SlV) (st:ChS) (pl:List (ByteArray×Value)) (ok:BldOk sa sk st pl)
  (hl:st.acts.length≤1000000) (hl2:st.keys.length≤1000000) :
  Ct Tryz.prog 67 #[.pointer (some ⟨b,0,none⟩)] (bldR b ((bldH0 ks ki W.id q1 q2).look (W.won st.gen)) sa sk st pl) (fun w=>Y w∧Glob w)
   (fun u R _=>(∀ s,regS (W.at L) st=some s→BldAt b ((bldH0 ks ki W.id q1 q2).look (W.won s.gen)) s (.bool true) u R)∧(regS (W.at L) st=none→BldAt b ((bldH0 ks ki W.id q1 q2).look (W.won st.gen)) st (.bool false) u R)):=by
 have hwA:(W.at L).won=W.won:=rfl
 cases hw:W.won st.gen with
 | none =>
  refine (oM b ((bldH0 ks ki W.id q1 q2).look none) sa sk st pl ok rfl _).mono fun v R X' h=>⟨fun s hs=>?_,fun _=>h⟩
  rw [regS,hwA,hw] at hs
  cases hs
 | some c =>
  have hg:=H.bnd _ _ hw
  have hB:=H.bB
  refine (oL b ((bldH0 ks ki W.id q1 q2).look (some c)) sa sk st pl ok (W.at L) c hw rfl rfl Y hl hl2 aa (H.clm _ _ hw) (H.dg _ _ hw) (H.won (st.gen+1) hg)).mono fun v R X' h=>⟨fun s hs=>?_,h.2⟩
  obtain ⟨_,_,_,e,_⟩:=pt hs
  rw [e]
  exact h.1 s hs
structure RunI (W:OfW) (a:ActD) where
 st:ChS
 sa:SlV
 sk:SlV
 pl:List (ByteArray×Value)
 ok:BldOk sa sk st pl
 inv:InvS W st
 j:Nat
 hj:muS W st≤j
 hr:runS W j st=finS W a
theorem RunI.next {W:OfW} (hB:∀ g c,W.won g=some c→g<W.B) {a:ActD} {st s:ChS} {j:Nat} (hI:InvS W st) (hj:muS W st≤j) (hr:runS W j st=finS W a) (hs:stepS W st=some s):InvS W s∧muS W s<muS W st∧muS W s≤j-1∧runS W (j-1) s=finS W a:=by
 obtain ⟨h1,h2⟩:=jH hB hI hs
 cases j with
 | zero=>omega
 | succ j=>exact ⟨h1,by omega,by rw [Nat.add_sub_cancel];omega,by rw [eK hs] at hr;exact hr⟩
theorem D9 (ks ki:SlV) (W:OfW) (PL:List ActD→Prop) (Y:World→Prop) (H:OfHyp ks ki W PL Y) :
  Mk Tryz.prog 27 #[.agg #[ks.v,ki.v],.string W.id] (fun w=>Y w∧Glob w) (OfAt19 W PL):=by
 refine bZ (args:=[_,_]) _ Tryz.func27 rfl Tryz.ntmps27 rfl fun av bor w0=>?_
 repeat' (first|refine aF (cs:=chZ W.id) (hf:=by rfl) ?_|refine gs ?_|refine gs1 fun _=>?_|(refine gp ?_ ?_<;>intro hx_ this)|fail)
 refine rF PosK 129 (h:=fun q1=>?_)
 refine jk ByteArray (h:=fun q2=>?_)
 repeat' (first|refine aF (cs:=bldC (bldH0 ks ki W.id q1 q2) ⟨none,0,0⟩ ⟨none,0,0⟩ ⟨#[]⟩ ((0:Nat):Int)) (hf:=by rfl) ?_|(refine bS (hc:=H.acts) (hX:=fun w h=>h) fun v1 X1 h1=>?_;obtain ⟨s,L,rfl,hPL,hw1⟩:=h1)|refine gs ?_|refine gs1 fun _=>?_|(refine gp ?_ ?_<;>intro hx_ this)|fail)
 rename_i b2 b4 b
 refine aM (p:=s.n=L.length∧s.n≤maxLen∧(0<L.length→s.p.isSome=true)) (fun w h=>⟨(hw1 w h.2).len_,(hw1 w h.2).max_,(hw1 w h.2).some_⟩) fun ⟨hsn,hsm,hsp⟩=>?_
 simp only [maxLen] at hsm
 obtain ⟨hok,hL⟩:=H.ok L hPL
 refine ar (ι:=GroI L) (fun i=>⟨[(1,.string W.id),(4,.pointer (some ⟨b4,0,none⟩)),(5,.pointer (some ⟨b,0,none⟩)),(21,s.v),(22,.int .i64 (s.n:Nat)),(23,.int .i64 (i.k:Nat))],[cel b 126 (bldC (bldH0 ks ki W.id q1 q2) ⟨none,0,0⟩ ⟨none,0,0⟩ ⟨#[]⟩ ((0:Nat):Int)),mapr q2 ([]:List (ByteArray×Value)),smapr Tryz.prog 129 q1 (i.G.map fun g=>(g.1,g.2.s.v)),cel b4 35 (chZ ⟨#[]⟩)]++i.G.map grpR,fun w=>(Y w∧Glob w)∧X1 w⟩) (fun i=>L.length-i.k) ⟨0,Z4 _,[],⟨fun _=>rfl,fun _ _ h=>by cases h⟩⟩ ?_ fun i=>?_
 · exact aj qZq9 (.cons_cons _ (.cons_cons _ (.cons_cons _ (.cons_cons _ (Zu _))))) fun _ h=>h
 obtain ⟨k,hk,G,hG⟩:=i
 simp only
 repeat' (first|refine gs ?_|refine gs1 fun _=>?_|(refine gp ?_ ?_<;>intro hx_ this)|fail)
 · have hlt:k<L.length:=by omega
   have hsp':=hsp aa
   obtain ⟨a,ha⟩:∃ a,L[k]?=some a:=⟨_,Zb hlt⟩
   have ham:=Z6 ha
   repeat' (first|refine gs ?_|refine gs1 fun _=>?_|(refine aO (q:=k*20) ?_)|(refine ca (cs:=a.cells) (hF:=fun w h=>Acts.get (hw1 w h.2) ha) ?_)|(refine aF (cs:=[.int .i64 a.seq,.string a.prev]) (hf:=by rfl) ?_)|(refine gp ?_ ?_<;>intro hx_ this)|fail)
   rename_i b7 b8
   obtain ⟨rest,hp1,hp2,hp3⟩:=tu grpR G ((a.seq,a.prev):PosK)
   obtain ⟨l,hl⟩:∃ l,grpL (dget G ((a.seq,a.prev):PosK))=l:=⟨_,rfl⟩
   have hns:(grpS (dget G ((a.seq,a.prev):PosK))).n=l.length:=by
    rw [←hl]
    cases hd:dget G ((a.seq,a.prev):PosK) with
    | none=>rfl
    | some g=>exact hG.len _ g hd
   have hll:l.length≤100000:=by
    rw [←hl,hG.all]
    have h1:=Qa (fun x:ActD=>decide (x.seq=a.seq)&&seqB x.prev a.prev) (L.take k)
    rw [Qi] at h1
    exact ZY h1 aa
   have hof:(dget (G.map fun g=>(g.1,g.2.s.v)) ((a.seq,a.prev):PosK)).getD (.slice none 0 0)=(grpS (dget G ((a.seq,a.prev):PosK))).v:=by
    rw [iF (fun g:Grp=>g.s.v)]
    cases dget G ((a.seq,a.prev):PosK)<;>rfl
   have hst:=fun (s':SlV) (h:s'.n=l.length+1)=>hG.step a s' (by rw [hl];exact h)
   rw [hl] at hst
   obtain ⟨⟨A,n,c⟩,hs⟩:∃ s',grpS (dget G ((a.seq,a.prev):PosK))=s':=⟨_,rfl⟩
   rw [hs] at hns hof
   simp only at hns
   refine GD (k:=((a.seq,a.prev):PosK)) (rest:=rest) [cel b8 129 [.int .i64 a.seq,.string a.prev],cel b7 46 a.cells,cel b 126 (bldC (bldH0 ks ki W.id q1 q2) ⟨none,0,0⟩ ⟨none,0,0⟩ ⟨#[]⟩ ((0:Nat):Int)),mapr q2 ([]:List (ByteArray×Value)),smapr Tryz.prog 129 q1 (G.map fun g=>(g.1,g.2.s.v)),cel b4 35 (chZ ⟨#[]⟩)] hp2 hp3 ?_
   rw [hs,hl]
   unfold actR
   simp only [ZK,ZL]
   (refine aq ⟨[0,1,2,3,4,5],[(6,⟨[],[(7,⟨[8,10],[(9,⟨[],[(11,⟨[],[]⟩)]⟩)]⟩)]⟩)]⟩ [cel b8 129 [.int .i64 a.seq,.string a.prev],cel b7 46 a.cells,cel b 126 (bldC (bldH0 ks ki W.id q1 q2) ⟨none,0,0⟩ ⟨none,0,0⟩ ⟨#[]⟩ ((0:Nat):Int))] (fun w=>(Y w∧Glob w)∧X1 w) (h:=?_))
   all_goals repeat' (first|refine gdz ?_|refine az ?_ (h':=?_)|exact aA|refine du (size:=20) (vs:=[a.v]) (css:=a.cells) (hsz:=by rfl) (hcs:=by rfl) fun _=>?_|(refine jF (κ:=PosK) (kk:=((a.seq,a.prev):PosK)) (z:=.slice none 0 0) (u:=.slice A n c) rfl rfl rfl hof (fun _=>At.there _ (At.there _ (At.there _ (At.there _ (At.there _ (At.here _)))))) rfl rfl rfl (fun _=>?_))|(refine jF (κ:=PosK) (kk:=((a.seq,a.prev):PosK)) (z:=.slice none 0 0) (u:=.slice A n c) rfl rfl rfl hof (fun _=>At.there _ (At.there _ (At.there _ (At.there _ (At.there _ (At.there _ (At.here _))))))) rfl rfl rfl (fun _=>?_))|(refine ia ?_;refine aN (size:=20) (news:=a.cells) (q:=1) rfl rfl rfl rfl (fun _=>At.there _ (At.here _)) (fun w G=>bX G ax rfl rfl 1) aa (by simp only [maxLen];omega) rfl ?_ rfl ?_;(first|with_reducible rfl|with_reducible assumption|with_reducible exact Zl|with_reducible exact Zn);intro A2 c2)|(refine ni (κ:=PosK) (kk:=((a.seq,a.prev):PosK)) rfl rfl rfl (At.there _ (At.there _ (At.there _ (At.there _ (At.there _ (At.there _ (At.here _))))))) rfl rfl rfl ?_)|refine gs1 fun _=>?_|(refine gq ?_ ?_<;>intro hx_ this)|fail)
   all_goals
    have hmp:dput (dput (G.map fun g=>(g.1,g.2.s.v)) ((a.seq,a.prev):PosK) (.slice A n c)) ((a.seq,a.prev):PosK) (.slice A2 (n+1) c2)=(dput G ((a.seq,a.prev):PosK) ⟨⟨A2,n+1,c2⟩,l++[a]⟩).map (fun g=>(g.1,g.2.s.v)):=by
     rw [kW]
     exact (tG (fun g:Grp=>g.s.v) G ((a.seq,a.prev):PosK) ⟨⟨A2,n+1,c2⟩,l++[a]⟩).symm
    have hfl:((l++[a]).map ActD.cells).flatten=(l.map ActD.cells).flatten++a.cells:=by simp
    rw [hmp,←hfl]
    refine ov (permG (C:=[cel b8 129 [.int .i64 a.seq,.string a.prev],cel b7 46 a.cells,cel b 126 (bldC (bldH0 ks ki W.id q1 q2) ⟨none,0,0⟩ ⟨none,0,0⟩ ⟨#[]⟩ ((0:Nat):Int)),mapr q2 ([]:List (ByteArray×Value)),smapr Tryz.prog 129 q1 ((dput G ((a.seq,a.prev):PosK) ⟨⟨A2,n+1,c2⟩,l++[a]⟩).map (fun g=>(g.1,g.2.s.v))),cel b4 35 (chZ ⟨#[]⟩)]) (hp1 ⟨⟨A2,n+1,c2⟩,l++[a]⟩)) ?_
    repeat' (first|refine gs ?_|refine gs1 fun _=>?_|(refine gp ?_ ?_<;>intro hx_ this)|fail)
    exact ⟨(⟨k+1,hlt,dput G ((a.seq,a.prev):PosK) ⟨⟨A2,n+1,c2⟩,l++[a]⟩,by rw [Qg,ha];exact hst _ (by show n+1=_;rw [hns])⟩:GroI L),(by show L.length-(k+1)<L.length-k;omega),aj qZq9 (.cons _ (.cons _ (.cons _ (al _)))) fun w h=>h⟩
 have hkE:k=L.length:=by omega
 rw [hkE,Qh] at hG
 refine dc permH ?_
 refine AU _ ?_
 refine cD (X':=fun w=>(Y w∧Glob w)∧(NextD q1 (G.map fun g=>(g.1,g.2.s)) L w∧∀ a∈L,a.at_ w)) (fun w h=>⟨h.1.1,Ec hG (h.2 _ (.head _)) (fun r hr=>h.2 r (.tail _ hr)) (hw1 w h.1.2).2,(hw1 w h.1.2).2⟩) ?_
 clear hsp hsn hk
 obtain ⟨M,hM⟩:∃ M,actsFor L ((0:Int),⟨#[]⟩)=M:=⟨_,rfl⟩
 have hfl:firstL (W.at L)=M.filter (firstB (W.at L)):=by rw [←hM];rfl
 have hMm:∀ a∈M,a∈L:=fun a ha=>by rw [←hM] at ha;exact (QM.1 ha).1
 have hMl:M.length≤L.length:=by rw [←hM];exact Qa _ _
 obtain ⟨G',hG'⟩:∃ G',(G.map fun g=>(g.1,g.2.s))=G':=⟨_,rfl⟩
 rw [hG']
 obtain ⟨s0,hs0⟩:∃ s0,(dget G' ((0:Int),⟨#[]⟩)).getD ⟨none,0,0⟩=s0:=⟨_,rfl⟩
 have hgl:∃ o,dget (G'.map fun g=>(g.1,g.2.v)) ((0:Int),⟨#[]⟩)=o∧o.getD (.slice none 0 0)=s0.v:=by
  refine ⟨_,rfl,?_⟩
  rw [iF,←hs0]
  cases dget G' ((0:Int),⟨#[]⟩)<;>rfl
 obtain ⟨o,ho,hov⟩:=hgl
 have hro:∀ w,((Y w∧Glob w)∧(NextD q1 G' L w∧∀ a∈L,a.at_ w))→Acts w s0 M:=fun w h=>by
  have h1:=h.2.1.rows ((0:Int),⟨#[]⟩)
  rwa [hs0,hM] at h1
 repeat' (first|refine gs ?_|refine gs1 fun _=>?_|(refine aF (cs:=[.int .i64 0,.string ⟨#[]⟩]) (hf:=by rfl) ?_)|(refine ai (oY (κ:=PosK) (kk:=((0:Int),⟨#[]⟩)) (z:=.slice none 0 0) (o:=o) (v:=s0.v) rfl rfl (rM fun w h=>h.2.1.map) ho hov) rfl rfl rfl ?_)|(refine gp ?_ ?_<;>intro hx_ this)|fail)
 refine aM (p:=s0.n=M.length∧s0.n≤maxLen∧(0<M.length→s0.p.isSome=true)) (fun w h=>⟨(hro w h).len_,(hro w h).max_,(hro w h).some_⟩) fun ⟨hsn,hsm,hsp⟩=>?_
 simp only [maxLen] at hsm
 refine cJ 46 20 ?_
 refine ar (ι:=CanI M (firstB (W.at L))) (fun i=>⟨[(1,.string W.id),(4,.pointer (some ⟨b4,0,none⟩)),(5,.pointer (some ⟨b,0,none⟩)),(9,.slice i.A i.n i.c),(49,s0.v),(50,.int .i64 (s0.n:Nat)),(51,.int .i64 (i.k:Nat))],[orow 46 20 (.slice i.A i.n i.c) i.n i.xs,cel b 126 (bldC (bldH0 ks ki W.id q1 q2) ⟨none,0,0⟩ ⟨none,0,0⟩ ⟨#[]⟩ ((0:Nat):Int)),mapr q2 ([]:List (ByteArray×Value)),cel b4 35 (chZ ⟨#[]⟩)],fun w=>(Y w∧Glob w)∧(NextD q1 G' L w∧∀ a∈L,a.at_ w)⟩) (fun i=>M.length-i.k) ⟨0,Z4 _,none,0,0,rfl,[],rfl⟩ (aj qZq9 (al _) fun _ h=>h) fun i=>?_
 clear hkE this
 obtain ⟨k,hk',A,cc,n,hn',xs,hxs⟩:=i
 simp only
 have hnl:n≤100000:=by have h1:=Qa (firstB (W.at L)) (M.take k);rw [←hn',Qi] at h1;omega
 repeat' (first|refine gs ?_|refine gs1 fun _=>?_|(refine gp ?_ ?_<;>intro hx_ this)|fail)
 · have hlt:k<M.length:=by omega
   have hsp':=hsp aa
   obtain ⟨a,ha⟩:∃ a,M[k]?=some a:=⟨_,Zb hlt⟩
   have ham:a∈M:=Z6 ha
   have hamL:=hMm a ham
   have hnn:a.n<9223372036854775808:=(hok.rng a hamL).ints.2.2.2.2.2.1
   have hv:=H.ver L hPL a hamL a.n
   have htk:((M.take (k+1)).filter (firstB (W.at L)))=(M.take k).filter (firstB (W.at L))++(bif firstB (W.at L) a then [a] else []):=by
    rw [Qg,ha,Qv,Qu]
    congr 1
   have hfb:firstB (W.at L) a=(decide (a.kind=0)&&seqB (idV a.n) W.id&&W.ver a.n a):=rfl
   by_cases h0:a.kind=0
   · cases hid:seqB (idV a.n) W.id with
     | false =>
      have hno:(M.take (k+1)).filter (firstB (W.at L))=(M.take k).filter (firstB (W.at L)):=by simp [htk,hfb,hid]
      repeat' (first|refine aP (hab:=h0) ?_|refine ai (dA _ rfl rfl hid) rfl am rfl ?_|(refine ab (hc:=gW a.n hnn) (hX:=fun w h=>h.1.2) ?_)|(refine ab (hc:=hv) (hX:=fun w h=>⟨h.2.2 a hamL,h.1.2⟩) ?_)|refine gs ?_|refine gs1 fun _=>?_|(refine aO (q:=k*20) ?_)|(refine ca (cs:=a.cells) (hF:=fun w h=>Acts.get (hro w h) ha) ?_)|(refine gp ?_ ?_<;>intro hx_ this)|fail)
      exact ⟨(⟨k+1,hlt,A,cc,n,by rw [hno];exact hn',xs,by rw [hno];exact hxs⟩:CanI M (firstB (W.at L))),(by show M.length-(k+1)<M.length-k;omega),aj qZq9 (Z2 _ (al _)) fun _ h=>h⟩
     | true =>
      cases hve:W.ver a.n a with
      | false =>
       rw [hve] at hv
       have hno:(M.take (k+1)).filter (firstB (W.at L))=(M.take k).filter (firstB (W.at L)):=by simp [htk,hfb,hve]
       repeat' (first|refine aP (hab:=h0) ?_|refine ai (dA _ rfl rfl hid) rfl am rfl ?_|(refine ab (hc:=gW a.n hnn) (hX:=fun w h=>h.1.2) ?_)|(refine ab (hc:=hv) (hX:=fun w h=>⟨h.2.2 a hamL,h.1.2⟩) ?_)|refine gs ?_|refine gs1 fun _=>?_|(refine aO (q:=k*20) ?_)|(refine ca (cs:=a.cells) (hF:=fun w h=>Acts.get (hro w h) ha) ?_)|(refine gp ?_ ?_<;>intro hx_ this)|fail)
       exact ⟨(⟨k+1,hlt,A,cc,n,by rw [hno];exact hn',xs,by rw [hno];exact hxs⟩:CanI M (firstB (W.at L))),(by show M.length-(k+1)<M.length-k;omega),aj qZq9 (Z2 _ (al _)) fun _ h=>h⟩
      | true =>
       rw [hve] at hv
       have hyes:(M.take (k+1)).filter (firstB (W.at L))=(M.take k).filter (firstB (W.at L))++[a]:=by rw [htk,hfb,hid,hve,Zd h0];rfl
       repeat' (first|refine du (size:=20) (vs:=[a.v]) (css:=a.cells) (hsz:=by rfl) (hcs:=by rfl) fun _=>?_|refine aP (hab:=h0) ?_|refine ai (dA _ rfl rfl hid) rfl am rfl ?_|(refine ab (hc:=gW a.n hnn) (hX:=fun w h=>h.1.2) ?_)|(refine ab (hc:=hv) (hX:=fun w h=>⟨h.2.2 a hamL,h.1.2⟩) ?_)|refine gs ?_|refine gs1 fun _=>?_|(refine aO (q:=k*20) ?_)|(refine ca (cs:=a.cells) (hF:=fun w h=>Acts.get (hro w h) ha) ?_)|(refine gp ?_ ?_<;>intro hx_ this)|fail)
       refine aN (size:=20) (news:=a.cells) (q:=1) rfl rfl rfl rfl (fun _=>At.there _ (At.there _ (At.here _))) (fun w G=>bX G ax rfl rfl 1) aa (by simp only [maxLen];omega) rfl ?_ rfl ?_
       · (first|with_reducible rfl|with_reducible assumption|with_reducible exact Zl|with_reducible exact Zn)
       intro A2 c2
       repeat' (first|refine gs ?_|refine gs1 fun _=>?_|(refine gp ?_ ?_<;>intro hx_ this)|fail)
       exact ⟨(⟨k+1,hlt,A2,c2,n+1,by rw [hyes,ZA,←hn'];rfl,xs++a.cells,by rw [hyes,hxs];simp⟩:CanI M (firstB (W.at L))),(by show M.length-(k+1)<M.length-k;omega),aj qZq9 (Z2 _ (Z2 _ (al _))) fun _ h=>h⟩
   · have hno:(M.take (k+1)).filter (firstB (W.at L))=(M.take k).filter (firstB (W.at L)):=by simp [htk,hfb,h0]
     repeat' (first|refine aL (hab:=h0) ?_|(refine ab (hc:=gW a.n hnn) (hX:=fun w h=>h.1.2) ?_)|(refine ab (hc:=hv) (hX:=fun w h=>⟨h.2.2 a hamL,h.1.2⟩) ?_)|refine gs ?_|refine gs1 fun _=>?_|(refine aO (q:=k*20) ?_)|(refine ca (cs:=a.cells) (hF:=fun w h=>Acts.get (hro w h) ha) ?_)|(refine gp ?_ ?_<;>intro hx_ this)|fail)
     exact ⟨(⟨k+1,hlt,A,cc,n,by rw [hno];exact hn',xs,by rw [hno];exact hxs⟩:CanI M (firstB (W.at L))),(by show M.length-(k+1)<M.length-k;omega),aj qZq9 (Z2 _ (al _)) fun _ h=>h⟩
 have hkE:k=M.length:=by omega
 have hfin:firstL (W.at L)=(M.take k).filter (firstB (W.at L)):=by rw [hfl,hkE,Qh]
 have hnc:n=(firstL (W.at L)).length:=by rw [hfin];exact hn'
 · have hn1:n≠1:=by
    intro e
    rw [e] at hx_
    exact absurd hx_ (by decide)
   have hone:oneA (firstL (W.at L))=none:=pz aa
   have hdc:decide ((1:Int)<(n:Int))=decide (1<(firstL (W.at L)).length):=by
    rw [←hnc]
    by_cases h1:1<n
    · rw [Zd h1,Zd (by omega)]
    · rw [Zc h1,Zc (by omega)]
   repeat' (first|refine gs ?_|refine gs1 fun _=>?_|(refine aw (vs:=[.string W.id,.slice none 0 0,.slice none 0 0,.string ⟨#[]⟩,.int .i64 0,.bool (decide ((1:Int)<(n:Int)))]) (hv:=rfl) ?_)|(refine gp ?_ ?_<;>intro hx_ this)|fail)
   exact ad (cB rfl rfl bz (by rfl)) ⟨L,⟨none,0,0⟩,⟨none,0,0⟩,⟨[],[],⟨#[]⟩,0⟩,decide ((1:Int)<(n:Int)),hPL,(by rw [OfRes,hone];exact ⟨rfl,hdc⟩),rfl,fun w h=>⟨⟨aY w 20,fun a h=>by cases h⟩,aY w 3⟩⟩
 have hkE:k=M.length:=by omega
 have hfin:firstL (W.at L)=(M.take k).filter (firstB (W.at L)):=by rw [hfl,hkE,Qh]
 have hnc:n=(firstL (W.at L)).length:=by rw [hfin];exact hn'
 have hn1:n=1:=by
  by_cases e:n=1
  · exact e
  · exact absurd hx_ (by simp;omega)
 obtain ⟨a,ha⟩:∃ a,firstL (W.at L)=[a]:=List.length_eq_one_iff.1 aa
 have ham:a∈firstL (W.at L):=by rw [ha];exact Z5.2 rfl
 have hamL:a∈L:=hMm a (by rw [hfl] at ham;exact (QM.1 ham).1)
 have hxa:xs=a.cells:=by rw [hxs,←hfin,ha];simp
 subst hxa
 subst hn1
 refine cK (r:=orow 46 20 (.slice A 1 cc) 1 a.cells) bz (p:=A.isSome=true) (fun w h=>cA h (by decide)) fun hAp=>?_
 have hcr:orow 46 20 (.slice A 1 cc) 1 a.cells∈[orow 46 20 (.slice A 1 cc) 1 a.cells]:=.head _
 (refine aq ⟨[0,1,2,3,4,5,6,7,8,9],[(10,⟨[11,12,13],[(14,⟨[],[]⟩)]⟩)]⟩ [orow 46 20 (.slice A 1 cc) 1 a.cells] (fun w=>(Y w∧Glob w)∧(NextD q1 G' L w∧∀ a∈L,a.at_ w)) (h:=?_))
 all_goals repeat' (first|refine gdz ?_|refine ay (hsub:=by exact aK) (hy:=by first|(apply aC (q:=0);rfl;rfl;omega;omega;assumption;rfl)|(apply jg;rfl;assumption;rfl)|(apply gH (size:=20) (i:=0) (j:=16) (xs:=[a.cells]) (cs:=a.cells) (u:=.int .i64 a.n);rfl;exact .head _;rfl;exact (fun r hr=>by rw [Z5.1 hr];rfl);rfl;rfl)|(apply gH (size:=20) (i:=0) (j:=17) (xs:=[a.cells]) (cs:=a.cells) (u:=.int .i64 a.m);rfl;exact .head _;rfl;exact (fun r hr=>by rw [Z5.1 hr];rfl);rfl;rfl)|(apply ft (cs:=KeyD.cells ⟨0,a.n,a.m⟩);rfl;rfl)) ?_|refine az ?_ (h':=?_)|exact aA|refine du (size:=3) (vs:=[KeyD.v ⟨0,a.n,a.m⟩]) (css:=KeyD.cells ⟨0,a.n,a.m⟩) (hsz:=by rfl) (hcs:=by rfl) fun bk=>?_|refine gs1 fun _=>?_|(refine gq ?_ ?_<;>intro hx_ this)|fail)
 refine Cx 3 1 rfl (by decide) ?_
 refine cJ 46 20 ?_
 refine ov permK ?_
 have hadd:=CO b (bldH0 ks ki W.id q1 q2) ⟨none,0,0⟩ ⟨some ⟨bk,0,none⟩,1,1⟩ (⟨[],[⟨0,a.n,a.m⟩],⟨#[]⟩,0⟩:ChS) [] ⟨rfl,rfl,fun d=>rfl⟩ a (hok.rng a hamL) (hok.sm a hamL) (by simp) (by simp)
 repeat' (first|refine gs ?_|refine gs1 fun _=>?_|(refine aO (q:=0) ?_)|(refine ai (ib (size:=20) (m:=1) (i:=0) (xs:=[a.cells]) (cs:=a.cells) rfl (.tail _ (.tail _ (.tail _ (.tail _ (.head _))))) rfl (fun r hr=>by rw [Z5.1 hr];rfl) rfl) rfl rfl rfl ?_)|(refine gp ?_ ?_<;>intro hx_ this)|fail)
 refine cj (pre:=bldR b (bldH0 ks ki W.id q1 q2) ⟨none,0,0⟩ ⟨some ⟨bk,0,none⟩,1,1⟩ (⟨[],[⟨0,a.n,a.m⟩],⟨#[]⟩,0⟩:ChS) []) (fr:=[orow 46 20 (.slice A 1 cc) 1 a.cells,cel b4 35 (chZ ⟨#[]⟩)]) (first:=#[]) (caps:=#[]) (hc:=hadd) (hX:=fun w h=>⟨h.2.2 a hamL,h.1.2⟩) (h:=?_)
 rintro v R X' ⟨rfl,sa,sk,pl,ok,rfl⟩
 refine cD (X':=fun w=>(Y w∧Glob w)∧(NextD q1 G' L w∧∀ a∈L,a.at_ w)) (fun w h=>h.1) ?_
 repeat' (first|refine gs ?_|refine gs1 fun _=>?_|fail)
 have hlook:=wo b (bldH0 ks ki W.id q1 q2) sa sk (begS a) (W.won 0) (fun w=>Y w∧Glob w) (H.won 0 (Z4 _))
 refine cj (pre:=[bldCel b (bldH0 ks ki W.id q1 q2) sa sk (begS a)]) (fr:=[actR sa (begS a).acts,keyR sk (begS a).keys,mapr q2 pl,orow 46 20 (.slice A 1 cc) 1 a.cells,cel b4 35 (chZ ⟨#[]⟩)]) (first:=#[]) (caps:=#[]) (hc:=hlook) (hX:=fun w h=>h.1) (h:=?_)
 rintro v R X' ⟨rfl,rfl⟩
 repeat' (first|refine gs ?_|refine gs1 fun _=>?_|(refine gp ?_ ?_<;>intro hx_ this)|fail)
 have hbI:=ra ham
 refine ar (ι:=RunI (W.at L) a) (fun i=>⟨[(4,.pointer (some ⟨b4,0,none⟩)),(5,.pointer (some ⟨b,0,none⟩))],bldR b ((bldH0 ks ki W.id q1 q2).look (W.won i.st.gen)) i.sa i.sk i.st i.pl++[cel b4 35 (chZ ⟨#[]⟩)],fun w=>(Y w∧Glob w)∧(NextD q1 G' L w∧∀ a∈L,a.at_ w)⟩) (fun i=>muS (W.at L) i.st) ⟨begS a,sa,sk,pl,ok,hbI.1,L.length+W.B,Nat.le_of_succ_le hbI.2,rfl⟩ (aj qZq9 (.cons_cons _ (.cons_cons _ (.cons_cons _ (.cons_cons _ (.cons _ (al _)))))) fun w h=>h.1) fun i=>?_
 clear ok hlook hadd
 obtain ⟨st,sa2,sk2,pl2,ok2,inv,j,hj,hr⟩:=i
 simp only
 have hlen:=inv.len
 have hlen':st.acts.length≤L.length:=hlen
 have hkn:=inv.keyn
 have hgn:st.gen≤W.B:=inv.gen
 have hbB:=H.bB
 have hreg:=sC H L b q1 q2 sa2 sk2 st pl2 ok2 aa aa
 repeat' (first|refine gs ?_|refine gs1 fun _=>?_|fail)
 refine cj (pre:=bldR b ((bldH0 ks ki W.id q1 q2).look (W.won st.gen)) sa2 sk2 st pl2) (fr:=[cel b4 35 (chZ ⟨#[]⟩)]) (first:=#[]) (caps:=#[]) (hc:=hreg) (hX:=fun w h=>h.1) (h:=?_)
 rintro v R X' ⟨h1,h2⟩
 refine cD (X':=fun w=>(Y w∧Glob w)∧(NextD q1 G' L w∧∀ a∈L,a.at_ w)) (fun w h=>h.1) ?_
 cases hrg:regS (W.at L) st with
 | some s1 =>
  obtain ⟨rfl,sa3,sk3,pl3,ok3,rfl⟩:=h1 s1 hrg
  have hstep:stepS (W.at L) st=some s1:=by rw [stepS,hrg]
  obtain ⟨n1,n2,n3,n4⟩:=RunI.next (W:=W.at L) H.bnd inv hj hr hstep
  repeat' (first|refine gs ?_|refine gs1 fun _=>?_|(refine gp ?_ ?_<;>intro hx_ this)|fail)
  exact ⟨(⟨s1,sa3,sk3,pl3,ok3,n1,j-1,n3,n4⟩:RunI (W.at L) a),n2,aj qZq9 (al _) fun w h=>h⟩
 | none =>
  obtain ⟨rfl,sa3,sk3,pl3,ok3,rfl⟩:=h2 hrg
  have hct:=qU b ((bldH0 ks ki W.id q1 q2).look (W.won st.gen)) sa3 sk3 st pl3 ok3 (W.at L) G' inv rfl hok hL H.bB (H.ver L hPL)
  repeat' (first|refine gs ?_|refine gs1 fun _=>?_|fail)
  refine cj (pre:=bldR b ((bldH0 ks ki W.id q1 q2).look (W.won st.gen)) sa3 sk3 st pl3) (fr:=[cel b4 35 (chZ ⟨#[]⟩)]) (first:=#[]) (caps:=#[]) (hc:=hct) (hX:=fun w h=>⟨h.2,h.1.2⟩) (h:=?_)
  rintro v R X' ⟨g1,g2⟩
  refine cD (X':=fun w=>(Y w∧Glob w)∧(NextD q1 G' L w∧∀ a∈L,a.at_ w)) (fun w h=>h.1) ?_
  cases ho2:oneA (candL (W.at L) st) with
  | some a2 =>
   obtain ⟨rfl,sa4,sk4,pl4,ok4,rfl⟩:=g1 a2 ho2
   have hstep:stepS (W.at L) st=some (addS st a2):=by rw [stepS,hrg,ho2];rfl
   obtain ⟨n1,n2,n3,n4⟩:=RunI.next (W:=W.at L) H.bnd inv hj hr hstep
   repeat' (first|refine gs ?_|refine gs1 fun _=>?_|(refine gp ?_ ?_<;>intro hx_ this)|fail)
   exact ⟨(⟨addS st a2,sa4,sk4,pl4,ok4,n1,j-1,n3,n4⟩:RunI (W.at L) a),n2,aj qZq9 (al _) fun w h=>h⟩
  | none =>
   obtain ⟨rfl,sa4,sk4,pl4,ok4,rfl⟩:=g2 ho2
   have hstep:stepS (W.at L) st=none:=by rw [stepS,hrg,ho2];rfl
   rw [fK hstep] at hr
   repeat' (first|refine gs ?_|refine gs1 fun _=>?_|(refine aw (vs:=[.string W.id,.slice sa4.p sa4.n sa4.c,.slice sk4.p sk4.n sk4.c,.string st.prev,.int .i64 (st.gen:Nat),.bool (decide (1<(candL (W.at L) st).length))]) (hv:=rfl) ?_)|(refine gp ?_ ?_<;>intro hx_ this)|fail)
   refine ad (cB rfl rfl bz (by rfl)) ⟨L,sa4,sk4,st,decide (1<(candL (W.at L) st).length),hPL,?_,rfl,fun w h=>⟨?_,?_⟩⟩
   · rw [OfRes,show oneA (firstL (W.at L))=some a from by rw [ha];rfl]
     exact ⟨hr,by rw [←hr]⟩
   · exact eP (h.2 (actR sa4 st.acts) (.tail _ (.head _))) ok4.hn fun x hx=>h.1.2.2 x (inv.mem x hx)
   · exact ck (h.2 (keyR sk4 st.keys) (.tail _ (.tail _ (.head _)))) (by rw [ZF];exact ok4.hk) (pI _)
structure KnR (L:List Int) (I:List ItemD):Prop where
 sv:L.length≤20
 len:I.length≤100
 rng:∀ i∈I,i.act.Rng
 sm:∀ i∈I,i.act.Sm
 dn:∀ i∈I,i.dec.to.n=i.dec.toL.length
 right:∀ i∈I,rightIt i=true
 asc:Asc (I.map digIt)
theorem wG {P:Program} {f:FuncId} {args:Array Value} {pre:List Res} {X X':World→Prop} {Post:Value→List Res→(World→Prop)→Prop} (h:Ct P f args pre X Post) (hx:∀ w,X' w→X w):Ct P f args pre X' Post :=
 Ct.mk fun w av G=>h.run w av (G.imp hx)
theorem qB {P:Program} {f:FuncId} {args:Array Value} {X X':World→Prop} {v:Value} (h:Pu P f args X v) (hx:∀ w,X' w→X w):Pu P f args X' v:=by
 unfold Pu at *
 exact wG h hx
theorem Ej {P:Program} {f:FuncId} {args:Array Value} {X X':World→Prop} {Φ:Value→(World→Prop)→Prop} (h:Mk P f args X Φ) (hx:∀ w,X' w→X w):Mk P f args X' Φ:=by
 unfold Mk at *
 exact wG h hx
theorem zn:ActD.zero.Rng:=⟨by decide,fun w hw=>(Qk hw).elim,rfl,rfl⟩
theorem wH {x y:ByteArray} (h:ltB x y=true):¬ SrG.cmp2 0 0 y x<0:=by
 have h1:ltB y x=false:=by
  cases hh:ltB y x with
  | false=>rfl
  | true =>
   have:=fF h hh
   rw [dF] at this
   cases this
 have h2:Op.bytesLess y.toList x.toList=false:=h1
 rw [SrG.cmp2,SrG.cmpI_self]
 show ¬ SrG.cmpB_g y x<0
 rw [SrG.cmpB_g,h2]
 cases seqB y x<;>decide
theorem mn {l:List ByteArray} (h:Asc l) {i j:Nat} {x y:ByteArray} (hij:i<j) (hi:l[i]?=some x) (hj:l[j]?=some y):ltB x y=true:=by
 obtain ⟨h1,rfl⟩:=QJ.1 hi
 obtain ⟨h2,rfl⟩:=QJ.1 hj
 exact List.pairwise_iff_getElem.1 h i j h1 h2 hij
theorem ml {l m:List ByteArray} (h:Asc l) (hs:m.Sublist l):Asc m:=List.Pairwise.sublist hs h
theorem srtC {L:List Int} {I:List ItemD} (h:KnR L I) (au:ByteArray):SrC.Srt (selFC au rightIt digIt I):=by
 have ha:Asc ((selFC au rightIt digIt I).map FndC.dg):=by
  rw [selFC,Z0]
  exact ml h.asc (List.filter_sublist.map digIt)
 have hr:∀ x∈selFC au rightIt digIt I,x.rank=0:=fun x hx=>by
  rw [selFC] at hx
  obtain ⟨i,_,rfl⟩:=QI.1 hx
  rfl
 intro i j x y hij hi hj
 rw [SrC.cmpX,hr x (Z6 hi),hr y (Z6 hj)]
 exact wH (mn ha hij (by rw [Z7,hi];rfl) (by rw [Z7,hj];rfl))
theorem srtB {L:List Int} {I:List ItemD} (h:KnR L I) (au:ByteArray) (gn:Int):SrB.Srt (selFB au gn rightIt digIt I):=by
 have ha:Asc ((selFB au gn rightIt digIt I).map FndB.dg):=by
  rw [selFB,Z0]
  exact ml h.asc (List.filter_sublist.map digIt)
 have hr:∀ x∈selFB au gn rightIt digIt I,x.rank=0:=fun x hx=>by
  rw [selFB] at hx
  obtain ⟨i,_,rfl⟩:=QI.1 hx
  rfl
 intro i j x y hij hi hj
 rw [SrB.cmpX,hr x (Z6 hi),hr y (Z6 hj)]
 exact wH (mn ha hij (by rw [Z7,hi];rfl) (by rw [Z7,hj];rfl))
def claimsV (I:List ItemD) (au:ByteArray):List ClaimD:=selC au rightIt I
def dgCl (c:ClaimD):ByteArray:=digIt (ofClaimI c)
def wonK (sv:Nat) (I:List ItemD) (au:ByteArray) (gn:Int):Option ClaimD:=wonO sv (claimsV I au) dgCl (selB2 au gn rightIt I) gn
theorem gk {sv:Nat} {I:List ItemD} {au:ByteArray} {gn:Int} {c:ClaimD} (h:wonK sv I au gn=some c):c∈claimsV I au∧c.gen=gn:=by
 have h1:=List.find?_some h
 rw [wonB,Zp,Zw] at h1
 exact ⟨List.mem_of_find?_eq_some h,h1.1⟩
theorem qV {I:List ItemD} {au:ByteArray} {c:ClaimD} (h:c∈claimsV I au):claimR c=true:=by
 rw [claimsV,selC] at h
 obtain ⟨i,hi,rfl⟩:=QI.1 h
 have h1:=(QM.1 hi).2
 rw [selBC,Zp,wantC,Zp,Zw] at h1
 rcases de h1.2 with h2|h2|h2|h2
 · rw [h1.1.1] at h2;exact absurd h2.1 (by decide)
 · exact h2.2
 · rw [h1.1.1] at h2;exact absurd h2.1 (by decide)
 · rw [h1.1.1] at h2;exact absurd h2.1 (by decide)
def lnone (f:Nat→Option ClaimD):Nat→Nat→Nat
 | 0,g=>g
 | n+1,g=>match f g with
  | none=>g
  | some _=>lnone f n (g+1)
theorem nS (f:Nat→Option ClaimD):∀ n g i,g≤i→i<lnone f n g→(f i).isSome=true
 | 0,g,i,h1,h2=>by rw [lnone] at h2;omega
 | n+1,g,i,h1,h2=>by
  rw [lnone] at h2
  cases hf:f g with
  | none=>rw [hf] at h2;simp only at h2;omega
  | some c =>
   rw [hf] at h2
   simp only at h2
   rcases Nat.lt_or_eq_of_le h1 with h3|rfl
   · exact nS f n (g+1) i h3 h2
   · rw [hf];rfl
theorem nR (f:Nat→Option ClaimD):∀ n g,lnone f n g<g+n→f (lnone f n g)=none
 | 0,g,h=>by rw [lnone] at h;omega
 | n+1,g,h=>by
  rw [lnone] at h ⊢
  cases hf:f g with
  | none=>exact hf
  | some c =>
   rw [hf] at h
   simp only at h ⊢
   exact nR f n (g+1) aa
def genB (sv:Nat) (I:List ItemD) (au:ByteArray):Nat:=lnone (fun g=>wonK sv I au (g:Nat)) ((claimsV I au).length+1) 0
theorem qO (sv:Nat) (I:List ItemD) (au:ByteArray):genB sv I au≤(claimsV I au).length:=by
 have h:=kK (n:=genB sv I au) (l:=(claimsV I au).map ClaimD.gen) fun i hi=>by
  have h1:=nS (fun g=>wonK sv I au (g:Nat)) _ 0 i (Z4 _) hi
  cases hw:wonK sv I au (i:Nat) with
  | none=>rw [hw] at h1;cases h1
  | some c =>
   obtain ⟨h2,h3⟩:=gk hw
   exact QI.2 ⟨c,h2,h3⟩
 simpa using h
theorem yN (sv:Nat) (I:List ItemD) (au:ByteArray):wonK sv I au (genB sv I au:Nat)=none :=
 nR (fun g=>wonK sv I au (g:Nat)) ((claimsV I au).length+1) 0 (by have:=qO sv I au;rw [genB] at this;omega)
def OfWK (sv:Nat) (I:List ItemD) (au:ByteArray):OfW:=⟨[],au,fun g=>bif decide (g<genB sv I au) then wonK sv I au (g:Nat) else none,sgnC,dgCl,verV,genB sv I au⟩
theorem FE {sv:Nat} {I:List ItemD} {au:ByteArray} {g:Nat} (hg:g≤genB sv I au):(OfWK sv I au).won g=wonK sv I au (g:Nat):=by
 show (bif decide (g<genB sv I au) then _ else _)=_
 rcases Nat.lt_or_eq_of_le hg with h|rfl
 · rw [Zd h,Zf]
 · rw [Zc (Nat.lt_irrefl _),Ze,yN]
theorem fb {sv:Nat} {I:List ItemD} {au:ByteArray} {g:Nat} {c:ClaimD} (h:(OfWK sv I au).won g=some c):g<genB sv I au∧wonK sv I au (g:Nat)=some c:=by
 change (bif decide (g<genB sv I au) then wonK sv I au (g:Nat) else none)=some c at h
 cases hd:decide (g<genB sv I au) with
 | true=>rw [hd] at h;exact ⟨aG hd,h⟩
 | false=>rw [hd] at h;cases h
theorem BM (hso:∀ n,n≤1000000→SortA n) (ks ki:SlV) {L:List Int} {I:List ItemD} (h:KnR L I) (au:ByteArray) :
  OfHyp ks ki (OfWK L.length I au) (fun A=>A.Perm (selA au rightIt I)) (fun w=>Ints w ks L∧Items w ki I):=by
 have hR:∀ it∈I,Pu Tryz.prog 73 #[it.v] (fun w=>it.at_ w) (.bool (rightIt it)):=fun it hi=>dM it
 have hD:∀ it∈I,Pu Tryz.prog 18 #[it.v] (fun w=>it.at_ w∧Glob w) (.string (digIt it)):=fun it hi=>dw it (h.rng it hi) (h.dn it hi)
 have hI:I.length≤1000:=ZY h.len (by decide)
 have hcl:(claimsV I au).length≤I.length:=by rw [claimsV,selC,ZF];exact Qa _ _
 have hgl:=qO L.length I au
 have hlen:=h.len
 have hdc:∀ c∈claimsV I au,Pu Tryz.prog 18 #[(ofClaimI c).v] Glob (.string (dgCl c)):=fun c hc =>
  qB (dw (ofClaimI c) zn rfl) fun w hw=>⟨⟨⟨aY w 1,aY w 5⟩,aY w 1⟩,hw⟩
 have hmem:∀ A:List ActD,A.Perm (selA au rightIt I)→∀ a∈A,∃ i∈I,i.act=a:=fun A hA a ha=>by
  have h1:=hA.subset ha
  rw [selA] at h1
  obtain ⟨i,hi,e⟩:=QI.1 h1
  exact ⟨i,(QM.1 hi).1,e⟩
 exact {
  acts:=Ej (qL ks ki I au rightIt digIt hR hD hI (hso _ aa)) fun w hw=>⟨hw.1.2,hw.2⟩
  ok:=fun A hA=>⟨⟨fun a ha=>by obtain ⟨i,hi,rfl⟩:=hmem A hA a ha;exact h.rng i hi,fun a ha=>by obtain ⟨i,hi,rfl⟩:=hmem A hA a ha;exact h.sm i hi⟩,by
   rw [hA.length_eq,selA,ZF]
   have:=Qa (selB au rightIt) I
   omega⟩
  bB:=by show genB L.length I au≤_;omega
  won:=fun g hg=>by
   rw [FE hg]
   exact FD ks ki L I au (g:Nat) (claimsV I au) (selB2 au (g:Nat) rightIt I) dgCl (by rw [selB2,ZF];have:=Qa (selBB au (g:Nat) rightIt) I;omega) (by have:=h.sv;omega)
    (lX ks ki I au rightIt digIt hR hD hI (srtC h au)) (kR ks ki I au (g:Nat) rightIt digIt hR hD hI (srtB h au _)) hdc
  bnd:=fun g c hw=>(fb hw).1
  clm:=fun g c hw p=>qB (vb p c (qV (gk (fb hw).2).1)) fun w hw=>hw.2
  dg:=fun g c hw=>qB (hdc c (gk (fb hw).2).1) fun w hw=>hw.2
  ver:=fun A hA a ha p=>by
   obtain ⟨i,hi,rfl⟩:=hmem A hA a ha
   exact rl p i.act (h.rng i hi) }
theorem F7 (hso:∀ n,n≤1000000→SortA n) (ks ki:SlV) {L:List Int} {I:List ItemD} (h:KnR L I) (au:ByteArray) :
  Mk Tryz.prog 27 #[.agg #[ks.v,ki.v],.string au] (fun w=>(Ints w ks L∧Items w ki I)∧Glob w) (OfAt19 (OfWK L.length I au) fun A=>A.Perm (selA au rightIt I)) :=
 D9 ks ki (OfWK L.length I au) _ _ (BM hso ks ki h au)
end Go.Proofs.YtaolfiikahlmkaaGreatDoor
namespace Go.Proofs.YtaolfiikahlmkaaGreatDoor
open Go Go.Proofs Sy SrG
namespace SrA
def p22 (i:Nat):Nat:=i*22
theorem dP (i:Nat):p22 i=i*22:=rfl
attribute [irreducible] p22
structure FndX where
 rank:Int
 dg:ByteArray
 r:List Value
 hr:r.length=20
 h1:r.all (·.oneCell')=true
def FndX.cells (f:FndX):List Value:=.int .i64 f.rank::.string f.dg::f.r
theorem FndX.len (f:FndX):f.cells.length=22:=by simp [FndX.cells,f.hr]
theorem FndX.one (f:FndX):f.cells.all (·.oneCell')=true:=by rw [FndX.cells,List.all_cons,List.all_cons,f.h1];rfl
theorem cellsF (P:List FndX):∀ r∈P.map FndX.cells,r.length=22:=fun r hr=>by
 obtain ⟨c,_,rfl⟩:=QI.1 hr
 exact c.len
abbrev postR (s:SlV) (P:List FndX):Res:=orow 243 22 (.slice s.p s.n s.c) s.n (P.map FndX.cells).flatten
theorem dk:∀ (L:List FndX) (p:Nat) (x:FndX),p<L.length→(L.map FndX.cells).flatten.take (p*22)++x.cells++(L.map FndX.cells).flatten.drop (p*22+22)=((L.set p x).map FndX.cells).flatten
 | [],p,x,h=>absurd h (by simp)
 | c::L,0,x,h=>by
  have h6:c.cells.length=22:=c.len
  rw [List.set_cons_zero,Z1,Z1,Qb,Qb,Nat.zero_mul,ZU,List.take_zero,ZL,List.drop_append,h6,Qw (by omega)]
  rfl
 | c::L,p+1,x,h=>by
  have h6:c.cells.length=22:=c.len
  have ih:=dk L p x (by simpa using h)
  rw [List.set_cons_succ,Z1,Z1,Qb,Qb,←ih,List.take_append,List.drop_append,h6,Qf aa,Qw aa,
   show (p+1)*22-22=p*22 from by omega,show (p+1)*22+22-22=p*22+22 from by omega,ZL,ZC,ZC,ZC]
theorem eD {P:List FndX} {i j:Nat} {x y:FndX} (hi:P[i]?=some x) (hj:P[j]?=some y):((P.set i y).set j x).Perm P:=by
 obtain ⟨h1,rfl⟩:=QJ.1 hi
 obtain ⟨h2,rfl⟩:=QJ.1 hj
 exact List.set_set_perm h1 h2
section
variable {N:Nat} {av bor:List Nat} {w0:World} {st:St} {ty:TypeId} {x y:Operand} {E:Env} {loc:List Res} {X:World→Prop} {ops:Array Oper} {kk:St→Prop} {pos:String} {af:Array Edge} {g:Option (Nat×Bool)} {rest:List Oper} {bb want:Bool}
theorem ci {A:Option Addr} {m c i:Nat} {P:List FndX} {p:FndX} (hx:ev st.env x=some (elP A (p22 i))) (hm:orow 243 22 (.slice A m c) m (P.map FndX.cells).flatten∈st.loc) (hn:m=P.length) (hi:P[i]?=some p) :
  Sy.Yields Tryz.prog N av bor w0 st (.load 243 x) ty (.agg p.cells.toArray):=ib (xs:=P.map FndX.cells) (cs:=p.cells) (dP i▸hx) hm (by simp [hn]) (cellsF P) (by simp [hi])
theorem cQ {d:Option Tmp} {loc':List Res} {A:Option Addr} {m c i:Nat} {P:List FndX} {p:FndX} (hx:ev E x=some (elP A (p22 i)):=by rfl) (hy:ev E y=some (.agg p.cells.toArray):=by rfl) (hi:i<m:=by omega) (hn:m=P.length)
  (hA:At (orow 243 22 (.slice A m c) m (P.map FndX.cells).flatten) (orow 243 22 (.slice A m c) m ((P.set i p).map FndX.cells).flatten) loc loc':=by (repeat (first|exact At.here _|apply At.there))) (hg:gdB ops E g=some (bb,want):=by rfl) (hb:bb=want:=by exact am) (hd:inB N d=true:=by rfl)
  (h:Sw Tryz.prog N av bor w0 ops rest ⟨putE E d undef,loc',X⟩ kk):Sw Tryz.prog N av bor w0 ops (⟨d,.store 243 x y,ty,pos,af,g⟩::rest) ⟨E,loc,X⟩ kk :=
 qg (i:=i) (size:=22) (vs:=p.cells) ae (dP i▸hx) hy rfl p.one p.len hi (dk P i p aa) hA hg hb hd h
end
def PermAt (s:SlV) (P:List FndX) (u:Value) (R:List Res) (X:World→Prop):Prop:=u=.tuple #[]∧∃ Q:List FndX,Q.Perm P∧R=[postR s Q]
structure PermI (P:List FndX) (n:Nat) where
 k:Nat
 hk:k≤n
 Q:List FndX
 hQ:Q.Perm P
theorem cG (s:SlV) (P:List FndX) (a b n:Nat) (fv:Value) (hs:s.n=P.length) (hm:s.n≤1000000) (ha:a+n≤s.n) (hb:b+n≤s.n) :
  Ct Tryz.prog 311 #[s.v,.int .i64 (a:Nat),.int .i64 (b:Nat),.int .i64 (n:Nat),fv] [postR s P] (fun _=>True) (PermAt s P):=by
 refine bQ (args:=[_,_,_,_,_]) _ Tryz.func311 rfl Tryz.ntmps311 rfl fun av bor w0=>?_
 refine cK (r:=postR s P) ax (p:=0<s.n→s.p.isSome=true) (fun w h hn=>cA h hn) fun hp=>?_
 repeat' (first|refine gs ?_|fail)
 refine ar (ι:=PermI P n) (fun i=>⟨[(0,s.v),(1,.int .i64 (a:Nat)),(2,.int .i64 (b:Nat)),(3,.int .i64 (n:Nat)),(10,.int .i64 (i.k:Nat))],[postR s i.Q],fun _=>True⟩) (fun i=>n-i.k) ⟨0,Z4 _,P,Qn _⟩ (aj qZq9 (al _) fun _ h=>h) fun i=>?_
 obtain ⟨k,hk,Q,hQ⟩:=i
 simp only
 have hl:=hQ.length_eq
 repeat' (first|refine gs ?_|(refine gp ?_ ?_<;>intro hx_ this)|fail)
 · have hlt:k<n:=by omega
   have hp':=hp aa
   obtain ⟨x,hx⟩:∃ x,Q[a+k]?=some x:=⟨_,Zb aa⟩
   obtain ⟨y,hy⟩:∃ y,Q[b+k]?=some y:=⟨_,Zb aa⟩
   (refine aq ⟨[0,1,2,3,4,5,6,7,8,9,10,11,12,14,15,16,17,18],[(13,⟨[],[(19,⟨[20],[(21,⟨[22],[(23,⟨[],[]⟩)]⟩)]⟩)]⟩),(19,⟨[],[(13,⟨[20],[(21,⟨[22],[(23,⟨[],[]⟩)]⟩)]⟩)]⟩)]⟩ [] (fun _=>True) (h:=?_))
   all_goals repeat' (first|refine gd ?_|refine ay (hy:=by first|(apply aC (q:=p22 (a+k));rfl;rfl;omega;omega;assumption;(rw [dP];omega))|(apply aC (q:=p22 (b+k));rfl;rfl;omega;omega;assumption;(rw [dP];omega))) ?_|refine az ?_ (h':=?_)|exact aA|(refine ai (ci (i:=a+k) (P:=Q) rfl ax aa hx) rfl rfl rfl ?_)|(refine ai (ci (i:=b+k) (P:=Q) rfl ax aa hy) rfl rfl rfl ?_)|((refine cQ (i:=a+k) (p:=y) rfl rfl aa (by first|omega|(simp only [Z9];omega)) (At.here _) rfl am rfl ?_))|((refine cQ (i:=b+k) (p:=x) rfl rfl aa (by first|omega|(simp only [Z9];omega)) (At.here _) rfl am rfl ?_))|(refine gq ?_ ?_<;>intro hx_ this)|fail)
   all_goals
    repeat' (first|refine gs ?_|(refine gp ?_ ?_<;>intro hx_ this)|fail)
    exact ⟨(⟨k+1,hlt,(Q.set (a+k) y).set (b+k) x,(eD hx hy).trans hQ⟩:PermI P n),(by show n-(k+1)<n-k;omega),aj qZq9 (al _) fun _ h=>h⟩
 · exact bK (bu rfl) ⟨rfl,Q,hQ,rfl⟩
section
variable {N:Nat} {av bor:List Nat} {w0:World} {ops:Array Oper} {rest:List Oper} {k:St→Prop} {E:Env} {X:World→Prop} {d:Option Tmp} {ty:TypeId} {pos:String} {af:Array Edge} {g:Option (Nat×Bool)} {bb want:Bool}
theorem cS {x:Operand} {xs:List Operand} {ats:Array TypeId} {f:FuncId} {args:List Value} {s:SlV} {Q:List FndX}
  (hx:ev E x=some (.func (.func f) #[] #[]):=by rfl) (ha:evs E xs=some args:=by rfl) (hg:gdB ops E g=some (bb,want):=by rfl) (hb:bb=want:=by exact am) (hd:inB N d=true:=by rfl) (hf:FnBody Tryz.prog f:=by infer_instance)
  (hc:Ct Tryz.prog f args.toArray [postR s Q] (fun _=>True) (PermAt s Q))
  (h:∀ Q':List FndX,Q'.Perm Q→Sw Tryz.prog N av bor w0 ops rest ⟨putE E d (.tuple #[]),[postR s Q'],X⟩ k) :
  Sw Tryz.prog N av bor w0 ops (⟨d,.call ⟨.value x,xs.toArray,ats⟩,ty,pos,af,g⟩::rest) ⟨E,[postR s Q],X⟩ k :=
 cj (pre:=[postR s Q]) (fr:=[]) (first:=#[]) (caps:=#[]) (Post:=PermAt s Q) hx ha rfl hg hb hd hf (by simpa using hc) (fun _ _=>trivial) fun u R X' ⟨h1,Q',h2,h3⟩=>by
  subst h1
  subst h3
  refine jC (fun a w ok=>?_) (h Q' h2)
  exact ok.via fun M G=>G.imp fun _ h=>h.1
end
structure RotI (P:List FndX) (p q:Nat) where
 i:Nat
 j:Nat
 h1:1≤i
 h2:i≤p
 h3:1≤j
 h4:j≤q
 Q:List FndX
 hQ:Q.Perm P
theorem gz (s:SlV) (P:List FndX) (a m b:Nat) (fv:Value) (hs:s.n=P.length) (hm:s.n≤1000000) (ha:a<m) (hb:m<b) (hbs:b≤s.n) :
  Ct Tryz.prog 295 #[s.v,.int .i64 (a:Nat),.int .i64 (m:Nat),.int .i64 (b:Nat),fv] [postR s P] (fun _=>True) (PermAt s P):=by
 refine bQ (args:=[_,_,_,_,_]) _ Tryz.func295 rfl Tryz.ntmps295 rfl fun av bor w0=>?_
 repeat' (first|refine bp (hq:=by omega) ?_|refine gs ?_|(refine gp ?_ ?_<;>intro hx_ this)|fail)
 refine ar (ι:=RotI P (m-a) (b-m)) (fun r=>⟨[(0,s.v),(2,.int .i64 (m:Nat)),(4,fv),(10,.int .i64 (r.i:Nat)),(11,.int .i64 (r.j:Nat))],[postR s r.Q],fun _=>True⟩) (fun r=>r.i+r.j) ⟨m-a,b-m,by omega,by omega,by omega,by omega,P,Qn _⟩ (aj qZq9 (al _) fun _ h=>h) fun r=>?_
 obtain ⟨i,j,h1,h2,h3,h4,Q,hQ⟩:=r
 simp only
 have hl:=hQ.length_eq
 by_cases hij:i=j
 · repeat' (first|refine gI (hab:=by omega) ?_|refine bp (hq:=by omega) ?_|refine gs ?_|(refine cS (hc:=cG s Q (m-i) m i fv aa hm aa aa) (h:=fun Q2 hQ2=>?_))|(refine gp ?_ ?_<;>intro hx_ this)|fail)
   exact bK (bu rfl) ⟨rfl,Q2,hQ2.trans hQ,rfl⟩
 · repeat' (first|refine bp (hq:=by omega) ?_|refine aV (hq:=by omega) ?_|refine gs ?_|(refine cS (hc:=cG s Q (m-i) m j fv aa hm aa aa) (h:=fun Q2 hQ2=>?_))|(refine cS (hc:=cG s Q (m-i) (m+j-i) i fv aa hm aa aa) (h:=fun Q2 hQ2=>?_))|(refine gp ?_ ?_<;>intro hx_ this)|fail)
   · exact ⟨(⟨i-j,j,by omega,by omega,h3,h4,Q2,hQ2.trans hQ⟩:RotI P (m-a) (b-m)),(by show i-j+j<i+j;omega),aj qZq9 (al _) fun _ h=>h⟩
   · exact ⟨(⟨i,j-i,h1,h2,by omega,by omega,Q2,hQ2.trans hQ⟩:RotI P (m-a) (b-m)),(by show i+(j-i)<i+j;omega),aj qZq9 (al _) fun _ h=>h⟩
   · have h9:(i:Int)=(j:Int):=by simpa using hx_
     exact absurd (show i=j by omega) hij
def cmpX (x y:FndX):Int:=cmp2 x.rank y.rank x.dg y.dg
theorem eN (x y:FndX):Pu Tryz.prog 184 #[.agg x.cells.toArray,.agg y.cells.toArray] (fun _=>True) (.int .i64 (cmpX x y)):=by
 refine ak (args:=[_,_]) _ Tryz.func184 rfl Tryz.ntmps184 rfl fun av bor w0=>?_
 have h1:=iG x.rank y.rank
 have h2:=g6 x.dg y.dg
 rw [cmpX,cmp2]
 generalize cmpI x.rank y.rank=k at *
 generalize SrG.cmpB_g x.dg y.dg=l at *
 have h3:=fun s=>uM s k l
 repeat' (first|refine gs ?_|refine gs1 fun _=>?_|(refine gp ?_ ?_<;>intro hx_ this)|fail)
 rename_i b2 b3
 (refine aq ⟨[0,1,2,3,5,6,7,8],[(4,⟨[],[(9,⟨[],[(10,⟨[],[(11,⟨[12],[]⟩)]⟩)]⟩)]⟩)]⟩ [cel b3 243 y.cells,cel b2 243 x.cells] (fun _=>True) (h:=?_))
 all_goals repeat' (first|(refine ab (hc:=h1) (hX:=fun _ _=>trivial) ?_)|(refine ab (hc:=h2) (hX:=fun _ _=>trivial) ?_)|(refine ab (hc:=h3 ⟨some ⟨bs,0,none⟩,2,2⟩) (hX:=fun w h=>bt (xs:=[[.int .i64 k],[.int .i64 l]]) h.2 rfl (by decide) (by simp)) ?_)|refine gdz ?_|refine az ?_ (h':=?_)|exact aA|((refine cR (len:=2) (vs:=[.int .i64 k,.int .i64 l]) fun bs=>?_;refine bL ?_))|refine gs1 fun _=>?_|(refine gq ?_ ?_<;>intro hx_ this)|fail)
 all_goals
  repeat' (first|refine gs ?_|refine gs1 fun _=>?_|(refine gp ?_ ?_<;>intro hx_ this)|fail)
  exact ad (ag rfl rfl) rfl
def cmpF:Value:=.func (.func 184) #[] #[]
def Srt (P:List FndX):Prop:=∀ (i j:Nat) (x y:FndX),i<j→P[i]?=some x→P[j]?=some y→¬ cmpX y x<0
def Rel (P Q:List FndX):Prop:=Q.Perm P∧(Srt P→Q=P)
theorem Rel.refl (P:List FndX):Rel P P:=⟨Qn _,fun _=>rfl⟩
theorem Rel.trans {P Q R:List FndX} (h:Rel P Q) (k:Rel Q R):Rel P R:=⟨k.1.trans h.1,fun hs=>by rw [k.2 (h.2 hs▸hs),h.2 hs]⟩
theorem Rel.swap {P Q:List FndX} (h:Rel P Q) {i j:Nat} {x y:FndX} (hi:Q[i]?=some x) (hj:Q[j]?=some y) (hno:Srt P→False):Rel P ((Q.set i y).set j x):=⟨(eD hi hj).trans h.1,fun hs=>(hno hs).elim⟩
theorem Rel.srt {P Q:List FndX} (h:Rel P Q) (hs:Srt P):Srt Q:=by rw [h.2 hs];exact hs
theorem Rel.perm {P Q Q':List FndX} (h:Rel P Q) (k:Q'.Perm Q) (hno:Srt P→False):Rel P Q':=⟨k.trans h.1,fun hs=>(hno hs).elim⟩
def RelAt (s:SlV) (P:List FndX) (u:Value) (R:List Res) (X:World→Prop):Prop:=u=.tuple #[]∧∃ Q:List FndX,Rel P Q∧R=[postR s Q]
end SrA
namespace SrA
structure InsI (P:List FndX) (a b:Nat) where
 k:Nat
 h1:a+1≤k
 h2:k≤b∨k=a+1
 Q:List FndX
 hQ:Rel P Q
structure InsJ (P:List FndX) (a k:Nat) where
 j:Nat
 h1:a≤j
 h2:j≤k
 Q:List FndX
 hQ:Rel P Q
theorem dj (s:SlV) (P:List FndX) (a b:Nat) (hs:s.n=P.length) (hm:s.n≤1000000) (ha:a≤s.n) (hb:b≤s.n) :
  Ct Tryz.prog 282 #[s.v,.int .i64 (a:Nat),.int .i64 (b:Nat),cmpF] [postR s P] (fun _=>True) (RelAt s P):=by
 refine bQ (args:=[_,_,_,_]) _ Tryz.func282 rfl Tryz.ntmps282 rfl fun av bor w0=>?_
 refine cK (r:=postR s P) ax (p:=0<s.n→s.p.isSome=true) (fun w h hn=>cA h hn) fun hp=>?_
 repeat' (first|refine aV (q:=1) (hq:=by omega) ?_|refine gs ?_|(refine gp ?_ ?_<;>intro hx_ this)|fail)
 refine ar (ι:=InsI P a b) (fun i=>⟨[(0,s.v),(1,.int .i64 (a:Nat)),(2,.int .i64 (b:Nat)),(3,cmpF),(8,.int .i64 (i.k:Nat))],[postR s i.Q],fun _=>True⟩) (fun i=>b-i.k) ⟨a+1,ZX _,.inr rfl,P,Rel.refl _⟩ (aj qZq9 (al _) fun _ h=>h) fun i=>?_
 obtain ⟨k,h1,h2,Q,hQ⟩:=i
 simp only
 have hl:=hQ.1.length_eq
 repeat' (first|refine gs ?_|(refine gp ?_ ?_<;>intro hx_ this)|fail)
 · have hkb:k<b:=by omega
   refine ar (ι:=InsJ P a k) (fun i=>⟨[(0,s.v),(1,.int .i64 (a:Nat)),(2,.int .i64 (b:Nat)),(3,cmpF),(8,.int .i64 (k:Nat)),(9,.int .i64 (i.j:Nat))],[postR s i.Q],fun _=>True⟩) (fun i=>i.j) ⟨k,by omega,ZX _,Q,hQ⟩ (aj qZq9 (al _) fun _ h=>h) fun i=>?_
   obtain ⟨j,h3,h4,Q2,hQ2⟩:=i
   simp only
   have hl2:=hQ2.1.length_eq
   have hp':=hp aa
   by_cases hja:a<j
   · obtain ⟨x,hx⟩:∃ x,Q2[j]?=some x:=⟨_,Zb aa⟩
     obtain ⟨y,hy⟩:∃ y,Q2[j-1]?=some y:=⟨_,Zb aa⟩
     have hcm:=eN x y
     have hsx:Srt P→¬ cmpX x y<0:=fun hs=>hQ2.srt hs (j-1) j y x aa hy hx
     generalize cmpX x y=z at *
     apply QQ
     apply QQ
     unfold cmpF
     (refine aq ⟨[0,1,2,3,4,5,6,7,9,10,11,12],[(8,⟨[],[(13,⟨[],[(14,⟨[15,16],[]⟩)]⟩)]⟩),(13,⟨[],[(8,⟨[],[(14,⟨[15,16],[]⟩)]⟩)]⟩)]⟩ [] (fun _=>True) (h:=?_))
     all_goals repeat' (first|refine ay (hy:=by first|(apply y_gtrT_g;rfl;rfl;omega)) ?_|(refine ab (hc:=hcm) (hX:=fun _ _=>trivial) ?_)|refine gd ?_|refine ay (hy:=by first|(apply aC (q:=p22 (j));rfl;rfl;omega;omega;assumption;(rw [dP];omega))|(apply aC (q:=p22 (j-1));rfl;rfl;omega;omega;assumption;(rw [dP];omega))) ?_|refine az ?_ (h':=?_)|exact aA|(refine ai (ci (i:=j) (P:=Q2) rfl ax aa hx) rfl rfl rfl ?_)|(refine ai (ci (i:=j-1) (P:=Q2) rfl ax aa hy) rfl rfl rfl ?_)|(refine gq ?_ ?_<;>intro hx_ this)|fail)
     all_goals
      repeat' (first|refine gs ?_|(refine gp ?_ ?_<;>intro hx_ this)|fail)
      · (refine aq ⟨[0,1,2,3,4,5,6,7,8,10,11,12],[(9,⟨[],[(13,⟨[14],[(15,⟨[16],[(17,⟨[],[]⟩)]⟩)]⟩)]⟩),(13,⟨[],[(9,⟨[14],[(15,⟨[16],[(17,⟨[],[]⟩)]⟩)]⟩)]⟩)]⟩ [] (fun _=>True) (h:=?_))
        all_goals repeat' (first|refine gd ?_|refine ay (hy:=by first|(apply aC (q:=p22 (j));rfl;rfl;omega;omega;assumption;(rw [dP];omega))|(apply aC (q:=p22 (j-1));rfl;rfl;omega;omega;assumption;(rw [dP];omega))) ?_|refine az ?_ (h':=?_)|exact aA|(refine ai (ci (i:=j) (P:=Q2) rfl ax aa hx) rfl rfl rfl ?_)|(refine ai (ci (i:=j-1) (P:=Q2) rfl ax aa hy) rfl rfl rfl ?_)|((refine cQ (i:=j) (p:=y) rfl rfl aa (by first|omega|(simp only [Z9];omega)) (At.here _) rfl am rfl ?_))|((refine cQ (i:=j-1) (p:=x) rfl rfl aa (by first|omega|(simp only [Z9];omega)) (At.here _) rfl am rfl ?_))|(refine gq ?_ ?_<;>intro hx_ this)|fail)
        all_goals
         repeat' (first|refine bp (q:=1) (hq:=by omega) ?_|refine gs ?_|(refine gp ?_ ?_<;>intro hx_ this)|fail)
         exact ⟨(⟨j-1,by omega,by omega,(Q2.set j y).set (j-1) x,hQ2.swap hx hy (fun hs=>hsx hs (by first|assumption|omega))⟩:InsJ P a k),(by show j-1<j;omega),aj qZq9 (al _) fun _ h=>h⟩
      · repeat' (first|refine aV (q:=1) (hq:=by omega) ?_|refine gs ?_|(refine gp ?_ ?_<;>intro hx_ this)|fail)
        exact ⟨(⟨k+1,by omega,by omega,Q2,hQ2⟩:InsI P a b),(by show b-(k+1)<b-k;omega),aj qZq9 (al _) fun _ h=>h⟩
   · apply QQ
     apply QQ
     unfold cmpF
     (refine aq ⟨[0,1,2,3,4,5,6,7,9,10,11,12],[(8,⟨[],[(13,⟨[],[(14,⟨[15,16],[]⟩)]⟩)]⟩),(13,⟨[],[(8,⟨[],[(14,⟨[15,16],[]⟩)]⟩)]⟩)]⟩ [] (fun _=>True) (h:=?_))
     all_goals repeat' (first|refine ay (hy:=by first|(apply y_gtrF_g;rfl;rfl;omega)) ?_|refine gd ?_|refine az ?_ (h':=?_)|exact aA|(refine gq ?_ ?_<;>intro hx_ this)|fail)
     all_goals
      repeat' (first|refine aV (q:=1) (hq:=by omega) ?_|refine gs ?_|(refine gp ?_ ?_<;>intro hx_ this)|fail)
      exact ⟨(⟨k+1,by omega,by omega,Q2,hQ2⟩:InsI P a b),(by show b-(k+1)<b-k;omega),aj qZq9 (al _) fun _ h=>h⟩
 · exact bK (bu rfl) ⟨rfl,Q,hQ,rfl⟩
section
variable {N:Nat} {av bor:List Nat} {w0:World} {ops:Array Oper} {rest:List Oper} {k:St→Prop} {E:Env} {X:World→Prop} {d:Option Tmp} {ty:TypeId} {pos:String} {af:Array Edge} {g:Option (Nat×Bool)} {bb want:Bool}
theorem ig {x:Operand} {xs:List Operand} {ats:Array TypeId} {f:FuncId} {args:List Value} {s:SlV} {Q:List FndX}
  (hx:ev E x=some (.func (.func f) #[] #[]):=by rfl) (ha:evs E xs=some args:=by rfl) (hg:gdB ops E g=some (bb,want):=by rfl) (hb:bb=want:=by exact am) (hd:inB N d=true:=by rfl) (hf:FnBody Tryz.prog f:=by infer_instance)
  (hc:Ct Tryz.prog f args.toArray [postR s Q] (fun _=>True) (RelAt s Q))
  (h:∀ Q':List FndX,Rel Q Q'→Sw Tryz.prog N av bor w0 ops rest ⟨putE E d (.tuple #[]),[postR s Q'],X⟩ k) :
  Sw Tryz.prog N av bor w0 ops (⟨d,.call ⟨.value x,xs.toArray,ats⟩,ty,pos,af,g⟩::rest) ⟨E,[postR s Q],X⟩ k :=
 cj (pre:=[postR s Q]) (fr:=[]) (first:=#[]) (caps:=#[]) (Post:=RelAt s Q) hx ha rfl hg hb hd hf (by simpa using hc) (fun _ _=>trivial) fun u R X' ⟨h1,Q',h2,h3⟩=>by
  subst h1
  subst h3
  refine jC (fun a w ok=>?_) (h Q' h2)
  exact ok.via fun M G=>G.imp fun _ h=>h.1
theorem cH {x:Operand} {xs:List Operand} {ats:Array TypeId} {f:FuncId} {args:List Value} {s:SlV} {P Q:List FndX} (hQ:Rel P Q)
  (hx:ev E x=some (.func (.func f) #[] #[]):=by rfl) (ha:evs E xs=some args:=by rfl) (hg:gdB ops E g=some (bb,want):=by rfl) (hb:bb=want:=by exact am) (hd:inB N d=true:=by rfl) (hf:FnBody Tryz.prog f:=by infer_instance)
  (hc:∀ Q:List FndX,Rel P Q→Ct Tryz.prog f args.toArray [postR s Q] (fun _=>True) (RelAt s Q))
  (h:∀ Q':List FndX,Rel P Q'→Sw Tryz.prog N av bor w0 ops rest ⟨putE E d (.tuple #[]),[postR s Q'],X⟩ k) :
  Sw Tryz.prog N av bor w0 ops (⟨d,.call ⟨.value x,xs.toArray,ats⟩,ty,pos,af,g⟩::rest) ⟨E,[postR s Q],X⟩ k:=ig hx ha hg hb hd hf (hc Q hQ) fun Q' h1=>h Q' (hQ.trans h1)
theorem jD {x:Operand} {xs:List Operand} {ats:Array TypeId} {f:FuncId} {args:List Value} {s:SlV} {P Q:List FndX} (hQ:Rel P Q) (hno:Srt P→False)
  (hx:ev E x=some (.func (.func f) #[] #[]):=by rfl) (ha:evs E xs=some args:=by rfl) (hg:gdB ops E g=some (bb,want):=by rfl) (hb:bb=want:=by exact am) (hd:inB N d=true:=by rfl) (hf:FnBody Tryz.prog f:=by infer_instance)
  (hc:∀ Q:List FndX,Rel P Q→Ct Tryz.prog f args.toArray [postR s Q] (fun _=>True) (PermAt s Q))
  (h:∀ Q':List FndX,Rel P Q'→Sw Tryz.prog N av bor w0 ops rest ⟨putE E d (.tuple #[]),[postR s Q'],X⟩ k) :
  Sw Tryz.prog N av bor w0 ops (⟨d,.call ⟨.value x,xs.toArray,ats⟩,ty,pos,af,g⟩::rest) ⟨E,[postR s Q],X⟩ k:=cS hx ha hg hb hd hf (hc Q hQ) fun Q' h1=>h Q' (hQ.perm h1 hno)
end
structure BinL (P:List FndX) (lo hi:Nat) extends BinI_g lo hi where
 hs:Srt P→i=lo
structure BinR (P:List FndX) (lo hi:Nat) extends BinI_g lo hi where
 hs:Srt P→j=hi
structure MerO (P:List FndX) (a m b mid:Nat) extends MerI_g a m b mid where
 hs:Srt P→j=(if mid<m then mid else m)
structure UpI (P:List FndX) (a:Nat) where
 k:Nat
 h1:a≤k
 Q:List FndX
 hQ:Rel P Q
structure DownI (P:List FndX) (i m:Nat) where
 k:Nat
 h1:i≤k
 h2:k≤m
 Q:List FndX
 hQ:Rel P Q
set_option maxRecDepth 20000 in
theorem cN:∀ (d:Nat) (s:SlV) (P:List FndX) (a m b:Nat),b-a≤d→s.n=P.length→s.n≤1000000→a<m→m<b→b≤s.n →
  Ct Tryz.prog 283 #[s.v,.int .i64 (a:Nat),.int .i64 (m:Nat),.int .i64 (b:Nat),cmpF] [postR s P] (fun _=>True) (RelAt s P)
 | 0,s,P,a,m,b,hd,hs,hm,ha,hb,hbs=>absurd hd aa
 | d+1,s,P,a,m,b,hd,hs,hm,ha,hb,hbs=>by
  have ih:=cN d
  have hP:Rel P P:=Rel.refl P
  refine bQ (args:=[_,_,_,_,_]) _ Tryz.func283 rfl Tryz.ntmps283 rfl fun av bor w0=>?_
  refine cK (r:=postR s P) ax (p:=0<s.n→s.p.isSome=true) (fun w h hn=>cA h hn) fun hp=>?_
  have hp':=hp aa
  by_cases hA:m-a=1
  · repeat' (first|refine bp (hq:=by omega) ?_|refine aP (hab:=by omega) ?_|refine gs ?_|(refine gp ?_ ?_<;>intro hx_ this)|fail)
    refine ar (ι:=BinL P m b) (fun r=>⟨[(0,s.v),(1,.int .i64 (a:Nat)),(4,cmpF),(10,.int .i64 (r.i:Nat)),(11,.int .i64 (r.j:Nat))],[postR s P],fun _=>True⟩) (fun r=>r.j-r.i) ⟨⟨m,b,by omega,by omega,by omega⟩,fun _=>rfl⟩ (aj qZq9 (al _) fun _ h=>h) fun r=>?_
    obtain ⟨⟨i,j,h1,h2,h3⟩,hso⟩:=r
    simp only at hso
    simp only
    repeat' (first|refine aV (hq:=by omega) ?_|refine sy_toU_g (hq:=by omega) ?_|refine da ?_|refine sy_toI_g (hq:=by omega) ?_|refine gs ?_|(refine gp ?_ ?_<;>intro hx_ this)|fail)
    · have hlt:i<j:=by omega
      obtain ⟨x,hx⟩:∃ x,P[(i+j)/2]?=some x:=⟨_,Zb aa⟩
      obtain ⟨y,hy⟩:∃ y,P[a]?=some y:=⟨_,Zb aa⟩
      have hcm:=eN x y
      have hsx:Srt P→¬ cmpX x y<0:=fun hs=>hs a ((i+j)/2) y x aa hy hx
      generalize cmpX x y=z at *
      unfold cmpF
      (refine aq ⟨[0,1,2,3,5,6,7],[(4,⟨[],[(8,⟨[],[(9,⟨[10],[]⟩)]⟩)]⟩),(8,⟨[],[(4,⟨[],[(9,⟨[10],[]⟩)]⟩)]⟩)]⟩ [] (fun _=>True) (h:=?_))
      all_goals repeat' (first|(refine ab (hc:=hcm) (hX:=fun _ _=>trivial) ?_)|refine gd ?_|refine ay (hy:=by first|(apply aC (q:=p22 (((i+j)/2)));rfl;rfl;omega;omega;assumption;(rw [dP];omega))|(apply aC (q:=p22 (a));rfl;rfl;omega;omega;assumption;(rw [dP];omega))) ?_|refine az ?_ (h':=?_)|exact aA|(refine ai (ci (i:=(i+j)/2) (P:=P) rfl ax aa hx) rfl rfl rfl ?_)|(refine ai (ci (i:=a) (P:=P) rfl ax aa hy) rfl rfl rfl ?_)|(refine gq ?_ ?_<;>intro hx_ this)|fail)
      all_goals
       repeat' (first|refine aV (q:=1) (hq:=by omega) ?_|refine gs ?_|(refine gp ?_ ?_<;>intro hx_ this)|fail)
       · exact ⟨(⟨⟨(i+j)/2+1,j,by omega,by omega,h3⟩,fun hs=>absurd (show z<0 by first|assumption|omega|(simp_all;done)) (hsx hs)⟩:BinL P m b),(by show j-((i+j)/2+1)<j-i;omega),aj qZq9 (al _) fun _ h=>h⟩
       · exact ⟨(⟨⟨i,(i+j)/2,h1,by omega,by omega⟩,hso⟩:BinL P m b),(by show (i+j)/2-i<j-i;omega),aj qZq9 (al _) fun _ h=>h⟩
    · refine ar (ι:=UpI P a) (fun r=>⟨[(0,s.v),(10,.int .i64 (i:Nat)),(13,.int .i64 (r.k:Nat))],[postR s r.Q],fun _=>True⟩) (fun r=>i-r.k) ⟨a,ZX _,P,hP⟩ (aj qZq9 (al _) fun _ h=>h) fun r=>?_
      obtain ⟨k,h4,Q,hQ⟩:=r
      simp only
      have hl:=hQ.1.length_eq
      repeat' (first|refine bp (q:=1) (hq:=by omega) ?_|refine gs ?_|(refine gp ?_ ?_<;>intro hx_ this)|fail)
      · have hlt:k+1<i:=by omega
        obtain ⟨x,hx⟩:∃ x,Q[k]?=some x:=⟨_,Zb aa⟩
        obtain ⟨y,hy⟩:∃ y,Q[k+1]?=some y:=⟨_,Zb aa⟩
        (refine aq ⟨[0,1,2,3,4,5,6,7,8,10,11,12],[(9,⟨[],[(13,⟨[14],[(15,⟨[16],[(17,⟨[],[]⟩)]⟩)]⟩)]⟩),(13,⟨[],[(9,⟨[14],[(15,⟨[16],[(17,⟨[],[]⟩)]⟩)]⟩)]⟩)]⟩ [] (fun _=>True) (h:=?_))
        all_goals repeat' (first|refine gd ?_|refine ay (hy:=by first|(apply aC (q:=p22 (k));rfl;rfl;omega;omega;assumption;(rw [dP];omega))|(apply aC (q:=p22 (k+1));rfl;rfl;omega;omega;assumption;(rw [dP];omega))) ?_|refine az ?_ (h':=?_)|exact aA|(refine ai (ci (i:=k) (P:=Q) rfl ax aa hx) rfl rfl rfl ?_)|(refine ai (ci (i:=k+1) (P:=Q) rfl ax aa hy) rfl rfl rfl ?_)|((refine cQ (i:=k) (p:=y) rfl rfl aa (by first|omega|(simp only [Z9];omega)) (At.here _) rfl am rfl ?_))|((refine cQ (i:=k+1) (p:=x) rfl rfl aa (by first|omega|(simp only [Z9];omega)) (At.here _) rfl am rfl ?_))|(refine gq ?_ ?_<;>intro hx_ this)|fail)
        all_goals
         repeat' (first|refine aV (q:=1) (hq:=by omega) ?_|refine gs ?_|(refine gp ?_ ?_<;>intro hx_ this)|fail)
         exact ⟨(⟨k+1,by omega,(Q.set k y).set (k+1) x,hQ.swap hx hy (fun hs=>by have:=hso hs;omega)⟩:UpI P a),(by show i-(k+1)<i-k;omega),aj qZq9 (al _) fun _ h=>h⟩
      · exact ad (bu rfl) ⟨rfl,Q,hQ,rfl⟩
  · by_cases hB:b-m=1
    · repeat' (first|refine bp (hq:=by omega) ?_|refine aP (hab:=by omega) ?_|refine aL (hab:=by omega) ?_|refine gs ?_|(refine gp ?_ ?_<;>intro hx_ this)|fail)
      refine ar (ι:=BinR P a m) (fun r=>⟨[(0,s.v),(2,.int .i64 (m:Nat)),(4,cmpF),(14,.int .i64 (r.i:Nat)),(15,.int .i64 (r.j:Nat))],[postR s P],fun _=>True⟩) (fun r=>r.j-r.i) ⟨⟨a,m,by omega,by omega,by omega⟩,fun _=>rfl⟩ (aj qZq9 (al _) fun _ h=>h) fun r=>?_
      obtain ⟨⟨i,j,h1,h2,h3⟩,hso⟩:=r
      simp only at hso
      simp only
      repeat' (first|refine aV (hq:=by omega) ?_|refine sy_toU_g (hq:=by omega) ?_|refine da ?_|refine sy_toI_g (hq:=by omega) ?_|refine gs ?_|(refine gp ?_ ?_<;>intro hx_ this)|fail)
      · have hlt:i<j:=by omega
        obtain ⟨x,hx⟩:∃ x,P[m]?=some x:=⟨_,Zb aa⟩
        obtain ⟨y,hy⟩:∃ y,P[(i+j)/2]?=some y:=⟨_,Zb aa⟩
        have hcm:=eN x y
        have hsx:Srt P→¬ cmpX x y<0:=fun hs=>hs ((i+j)/2) m y x aa hy hx
        generalize cmpX x y=z at *
        unfold cmpF
        (refine aq ⟨[0,1,2,3,5,6,7],[(4,⟨[],[(8,⟨[],[(9,⟨[10,11],[]⟩)]⟩)]⟩),(8,⟨[],[(4,⟨[],[(9,⟨[10,11],[]⟩)]⟩)]⟩)]⟩ [] (fun _=>True) (h:=?_))
        all_goals repeat' (first|(refine ab (hc:=hcm) (hX:=fun _ _=>trivial) ?_)|refine gd ?_|refine ay (hy:=by first|(apply aC (q:=p22 (m));rfl;rfl;omega;omega;assumption;(rw [dP];omega))|(apply aC (q:=p22 (((i+j)/2)));rfl;rfl;omega;omega;assumption;(rw [dP];omega))) ?_|refine az ?_ (h':=?_)|exact aA|(refine ai (ci (i:=m) (P:=P) rfl ax aa hx) rfl rfl rfl ?_)|(refine ai (ci (i:=(i+j)/2) (P:=P) rfl ax aa hy) rfl rfl rfl ?_)|(refine gq ?_ ?_<;>intro hx_ this)|fail)
        all_goals
         repeat' (first|refine aV (q:=1) (hq:=by omega) ?_|refine gs ?_|(refine gp ?_ ?_<;>intro hx_ this)|fail)
         · exact ⟨(⟨⟨(i+j)/2+1,j,by omega,by omega,h3⟩,hso⟩:BinR P a m),(by show j-((i+j)/2+1)<j-i;omega),aj qZq9 (al _) fun _ h=>h⟩
         · exact ⟨(⟨⟨i,(i+j)/2,h1,by omega,by omega⟩,fun hs=>absurd (show z<0 by first|assumption|omega|(simp_all;done)) (hsx hs)⟩:BinR P a m),(by show (i+j)/2-i<j-i;omega),aj qZq9 (al _) fun _ h=>h⟩
      · refine ar (ι:=DownI P i m) (fun r=>⟨[(0,s.v),(14,.int .i64 (i:Nat)),(17,.int .i64 (r.k:Nat))],[postR s r.Q],fun _=>True⟩) (fun r=>r.k) ⟨m,by omega,ZX _,P,hP⟩ (aj qZq9 (al _) fun _ h=>h) fun r=>?_
        obtain ⟨k,h4,h5,Q,hQ⟩:=r
        simp only
        have hl:=hQ.1.length_eq
        repeat' (first|refine gs ?_|(refine gp ?_ ?_<;>intro hx_ this)|fail)
        · have hlt:i<k:=by omega
          obtain ⟨x,hx⟩:∃ x,Q[k]?=some x:=⟨_,Zb aa⟩
          obtain ⟨y,hy⟩:∃ y,Q[k-1]?=some y:=⟨_,Zb aa⟩
          (refine aq ⟨[0,1,2,3,4,5,6,7,8,10,11,12],[(9,⟨[],[(13,⟨[14],[(15,⟨[16],[(17,⟨[],[]⟩)]⟩)]⟩)]⟩),(13,⟨[],[(9,⟨[14],[(15,⟨[16],[(17,⟨[],[]⟩)]⟩)]⟩)]⟩)]⟩ [] (fun _=>True) (h:=?_))
          all_goals repeat' (first|refine gd ?_|refine ay (hy:=by first|(apply aC (q:=p22 (k));rfl;rfl;omega;omega;assumption;(rw [dP];omega))|(apply aC (q:=p22 (k-1));rfl;rfl;omega;omega;assumption;(rw [dP];omega))) ?_|refine az ?_ (h':=?_)|exact aA|(refine ai (ci (i:=k) (P:=Q) rfl ax aa hx) rfl rfl rfl ?_)|(refine ai (ci (i:=k-1) (P:=Q) rfl ax aa hy) rfl rfl rfl ?_)|((refine cQ (i:=k) (p:=y) rfl rfl aa (by first|omega|(simp only [Z9];omega)) (At.here _) rfl am rfl ?_))|((refine cQ (i:=k-1) (p:=x) rfl rfl aa (by first|omega|(simp only [Z9];omega)) (At.here _) rfl am rfl ?_))|(refine gq ?_ ?_<;>intro hx_ this)|fail)
          all_goals
           repeat' (first|refine bp (q:=1) (hq:=by omega) ?_|refine gs ?_|(refine gp ?_ ?_<;>intro hx_ this)|fail)
           exact ⟨(⟨k-1,by omega,by omega,(Q.set k y).set (k-1) x,hQ.swap hx hy (fun hs=>by have:=hso hs;omega)⟩:DownI P i m),(by show k-1<k;omega),aj qZq9 (al _) fun _ h=>h⟩
        · exact ad (bu rfl) ⟨rfl,Q,hQ,rfl⟩
    · obtain ⟨mid,hmid⟩:∃ mid,mid=(a+b)/2:=⟨_,rfl⟩
      have hm1:a<mid:=by omega
      have hm2:mid<b:=by omega
      have hm3:2*mid≤a+b:=by omega
      have hm4:a+b≤2*mid+1:=by omega
      by_cases hmm:mid<m
      all_goals
       repeat' (first|refine aL (hab:=by omega) ?_|refine fP (hab:=by omega) ?_|refine eY (hab:=by omega) ?_|refine bp (q:=1) (hq:=by omega) ?_|refine bp (hq:=by omega) ?_|refine aV (hq:=by omega) ?_|refine sy_toU_g (hq:=by omega) ?_|refine da ?_|refine sy_toI_g (hq:=by omega) ?_|refine gs ?_|(refine gp ?_ ?_<;>intro hx_ this)|fail)
       rw [←hmid]
       first
        | refine ar (ι:=MerO P a m b mid) (fun r=>⟨[(0,s.v),(1,.int .i64 (a:Nat)),(2,.int .i64 (m:Nat)),(3,.int .i64 (b:Nat)),(4,cmpF),(18,.int .i64 (mid:Nat)),(19,.int .i64 ((mid+m:Nat):Int)),(20,.int .i64 (r.i:Nat)),(21,.int .i64 (r.j:Nat)),(22,.int .i64 ((mid+m-1:Nat):Int))],[postR s P],fun _=>True⟩) (fun r=>r.j-r.i) ⟨⟨mid+m-b,mid,by omega,by omega,by omega⟩,fun _=>by rw [ZO (by assumption)]⟩ (aj qZq9 (al _) fun _ h=>h) fun r=>?_
        | refine ar (ι:=MerO P a m b mid) (fun r=>⟨[(0,s.v),(1,.int .i64 (a:Nat)),(2,.int .i64 (m:Nat)),(3,.int .i64 (b:Nat)),(4,cmpF),(18,.int .i64 (mid:Nat)),(19,.int .i64 ((mid+m:Nat):Int)),(20,.int .i64 (r.i:Nat)),(21,.int .i64 (r.j:Nat)),(22,.int .i64 ((mid+m-1:Nat):Int))],[postR s P],fun _=>True⟩) (fun r=>r.j-r.i) ⟨⟨a,m,by omega,by omega,by omega⟩,fun _=>by rw [ZP (by assumption)]⟩ (aj qZq9 (al _) fun _ h=>h) fun r=>?_
       obtain ⟨⟨i,j,h1,h2,h3⟩,hso⟩:=r
       simp only at hso
       simp only
       have hk1:a≤i:=by omega
       have hk2:j≤m:=by omega
       have hk3:i≤mid+m:=by omega
       by_cases hij:i<j
       · have hk4:(i+j)/2<j:=by omega
         have hk5:i≤(i+j)/2:=by omega
         have hk6:(i+j)/2≤mid+m-1:=by omega
         have hk7:mid+m-1-(i+j)/2<b:=by omega
         repeat' (first|refine sy_lssT_g (hab:=by omega) ?_|refine aV (hq:=by omega) ?_|refine sy_toU_g (hq:=by omega) ?_|refine da ?_|refine sy_toI_g (hq:=by omega) ?_|refine gs ?_|(refine gp ?_ ?_<;>intro hx_ this)|fail)
         obtain ⟨x,hx⟩:∃ x,P[mid+m-1-(i+j)/2]?=some x:=⟨_,Zb aa⟩
         obtain ⟨y,hy⟩:∃ y,P[(i+j)/2]?=some y:=⟨_,Zb aa⟩
         have hcm:=eN x y
         have hsx:Srt P→¬ cmpX x y<0:=fun hs=>hs ((i+j)/2) (mid+m-1-(i+j)/2) y x aa hy hx
         generalize cmpX x y=z at *
         unfold cmpF
         (refine aq ⟨[0,1,2,3,4,5,7,8,9],[(6,⟨[],[(10,⟨[],[(11,⟨[12,13],[]⟩)]⟩)]⟩),(10,⟨[],[(6,⟨[],[(11,⟨[12,13],[]⟩)]⟩)]⟩)]⟩ [] (fun _=>True) (h:=?_))
         all_goals repeat' (first|(refine ab (hc:=hcm) (hX:=fun _ _=>trivial) ?_)|refine gd ?_|refine ay (hy:=by first|(apply aC (q:=p22 ((mid+m-1-(i+j)/2)));rfl;rfl;omega;omega;assumption;(rw [dP];omega))|(apply aC (q:=p22 (((i+j)/2)));rfl;rfl;omega;omega;assumption;(rw [dP];omega))) ?_|refine az ?_ (h':=?_)|exact aA|(refine ai (ci (i:=mid+m-1-(i+j)/2) (P:=P) rfl ax aa hx) rfl rfl rfl ?_)|(refine ai (ci (i:=(i+j)/2) (P:=P) rfl ax aa hy) rfl rfl rfl ?_)|(refine gq ?_ ?_<;>intro hx_ this)|fail)
         all_goals
          repeat' (first|refine aV (q:=1) (hq:=by omega) ?_|refine gs ?_|(refine gp ?_ ?_<;>intro hx_ this)|fail)
          · exact ⟨(⟨⟨(i+j)/2+1,j,by omega,by omega,by omega⟩,hso⟩:MerO P a m b mid),(by show j-((i+j)/2+1)<j-i;omega),aj qZq9 (al _) fun _ h=>h⟩
          · exact ⟨(⟨⟨i,(i+j)/2,by omega,by omega,by omega⟩,fun hs=>absurd (show z<0 by first|assumption|omega|(simp_all;done)) (hsx hs)⟩:MerO P a m b mid),(by show (i+j)/2-i<j-i;omega),aj qZq9 (al _) fun _ h=>h⟩
       · have hk8:mid+m-i≤b:=by omega
         have hnl:¬ (i:Int)<(j:Int):=by omega
         repeat' (first|refine sy_lssF_g (hab:=by first|exact hnl|omega) ?_|refine sy_lssT_g (hab:=by omega) ?_|refine bp (hq:=by omega) ?_|refine gs ?_|(refine jD (P:=P) (hQ:=by assumption) (hno:=fun hs=>by have:=hso hs;split at this<;>omega) (hc:=fun Q hQ=>gz s Q i m (mid+m-i) cmpF (hs.trans hQ.1.length_eq.symm) hm aa aa aa) (h:=fun Q2 hQ2=>?_))|(refine cH (P:=P) (hQ:=by assumption) (hc:=fun Q hQ=>ih s Q a i mid aa (hs.trans hQ.1.length_eq.symm) hm aa aa aa) (h:=fun Q2 hQ2=>?_))|(refine cH (P:=P) (hQ:=by assumption) (hc:=fun Q hQ=>ih s Q mid (mid+m-i) b aa (hs.trans hQ.1.length_eq.symm) hm aa aa aa) (h:=fun Q2 hQ2=>?_))|(refine gp ?_ ?_<;>intro hx_ this)|fail)
         all_goals
          refine bK (bu rfl) ⟨rfl,_,?_,rfl⟩
          assumption
end SrA
namespace SrA
structure StaI (P:List FndX) (n w:Nat) where
 a:Nat
 b:Nat
 h1:a≤n
 h2:b=a+w
 Q:List FndX
 hQ:Rel P Q
structure StaO (P:List FndX) (n:Nat) where
 z:Nat
 h1:1≤z
 h2:z≤2*n+20
 Q:List FndX
 hQ:Rel P Q
set_option maxRecDepth 20000 in
theorem gu (s:SlV) (P:List FndX) (hs:s.n=P.length) (hm:s.n≤1000000):Ct Tryz.prog 250 #[s.v,.int .i64 (s.n:Nat),cmpF] [postR s P] (fun _=>True) (RelAt s P):=by
 have hP:Rel P P:=Rel.refl P
 refine bQ (args:=[_,_,_]) _ Tryz.func250 rfl Tryz.ntmps250 rfl fun av bor w0=>?_
 repeat' (first|refine gs ?_|fail)
 refine ar (ι:=StaI P s.n 20) (fun r=>⟨[(0,s.v),(1,.int .i64 (s.n:Nat)),(2,cmpF),(6,.int .i64 20),(7,.int .i64 (r.a:Nat)),(8,.int .i64 (r.b:Nat))],[postR s r.Q],fun _=>True⟩) (fun r=>s.n-r.a) ⟨0,20,Z4 _,rfl,P,hP⟩ (aj qZq9 (al _) fun _ h=>h) fun r=>?_
 obtain ⟨a,b,h1,h2,Q,hQ⟩:=r
 simp only
 repeat' (first|refine aV (q:=20) (hq:=by omega) ?_|refine gs ?_|(refine cH (P:=P) (hQ:=by assumption) (hc:=fun Q hQ=>dj s Q a b (hs.trans hQ.1.length_eq.symm) hm aa aa) (h:=fun Q2 hQ2=>?_))|(refine cH (P:=P) (hQ:=by assumption) (hc:=fun Q hQ=>dj s Q a s.n (hs.trans hQ.1.length_eq.symm) hm aa aa) (h:=fun Q2 hQ2=>?_))|(refine gp ?_ ?_<;>intro hx_ this)|fail)
 · exact ⟨(⟨b,b+20,by omega,rfl,Q2,hQ2⟩:StaI P s.n 20),(by show s.n-b<s.n-a;omega),aj qZq9 (al _) fun _ h=>h⟩
 · refine ar (ι:=StaO P s.n) (fun r=>⟨[(0,s.v),(1,.int .i64 (s.n:Nat)),(2,cmpF),(6,.int .i64 (r.z:Nat))],[postR s r.Q],fun _=>True⟩) (fun r=>s.n-r.z) ⟨20,by omega,by omega,Q2,hQ2⟩ (aj qZq9 (al _) fun _ h=>h) fun r=>?_
   clear h1 h2 hQ hQ2
   obtain ⟨z,h1,h2,Q,hQ⟩:=r
   simp only
   repeat' (first|refine dZ (p:=2) (hq:=by omega) ?_|refine gs ?_|(refine gp ?_ ?_<;>intro hx_ this)|fail)
   · have hzn:z<s.n:=by omega
     refine ar (ι:=StaI P s.n (2*z)) (fun r=>⟨[(0,s.v),(1,.int .i64 (s.n:Nat)),(2,cmpF),(6,.int .i64 (z:Nat)),(7,.int .i64 (r.a:Nat)),(8,.int .i64 (r.b:Nat))],[postR s r.Q],fun _=>True⟩) (fun r=>s.n-r.a) ⟨0,2*z,Z4 _,(ZU _).symm,Q,hQ⟩ (aj qZq9 (al _) fun _ h=>h) fun r=>?_
     obtain ⟨a,b,h3,h4,Q3,hQ3⟩:=r
     simp only
     repeat' (first|refine aV (hq:=by omega) ?_|refine dZ (p:=2) (hq:=by omega) ?_|refine dZ (q:=2) (hq:=by omega) ?_|refine gs ?_|(refine cH (P:=P) (hQ:=by assumption) (hc:=fun Q hQ=>cN (b-a) s Q a (a+z) b (ZX _) (hs.trans hQ.1.length_eq.symm) hm aa aa aa) (h:=fun Q2 hQ2=>?_))|(refine cH (P:=P) (hQ:=by assumption) (hc:=fun Q hQ=>cN (s.n-a) s Q a (a+z) s.n (ZX _) (hs.trans hQ.1.length_eq.symm) hm aa aa aa) (h:=fun Q2 hQ2=>?_))|(refine gp ?_ ?_<;>intro hx_ this)|fail)
     · exact ⟨(⟨b,b+2*z,by omega,rfl,Q2,hQ2⟩:StaI P s.n (2*z)),(by show s.n-b<s.n-a;omega),aj qZq9 (al _) fun _ h=>h⟩
     all_goals
      refine ⟨(⟨z*2,by omega,by omega,_,?_⟩:StaO P s.n),(by show s.n-z*2<s.n-z;omega),aj qZq9 (al _) fun _ h=>h⟩
      assumption
   · exact bK (bu rfl) ⟨rfl,Q,hQ,rfl⟩
theorem sortStable_ct (s:SlV) (P:List FndX) (hs:s.n=P.length) (hm:s.n≤1000000):Ct Tryz.prog 183 #[s.v,cmpF] [postR s P] (fun _=>True) (RelAt s P):=by
 have hP:Rel P P:=Rel.refl P
 refine bQ (args:=[_,_]) _ Tryz.func183 rfl Tryz.ntmps183 rfl fun av bor w0=>?_
 repeat' (first|refine gs ?_|(refine cH (P:=P) (hQ:=by assumption) (hc:=fun Q hQ=>gu s Q (hs.trans hQ.1.length_eq.symm) hm) (h:=fun Q2 hQ2=>?_))|(refine gp ?_ ?_<;>intro hx_ this)|fail)
 exact bK (bu rfl) ⟨rfl,Q2,hQ2,rfl⟩
end SrA
end Go.Proofs.YtaolfiikahlmkaaGreatDoor
namespace Go.Proofs.YtaolfiikahlmkaaGreatDoor
open Go Go.Proofs Sy
theorem Bv {α β:Type} {f:α→β} {P:List α} {Q:List β} (h:Q.Perm (P.map f)):∃ Q':List α,Q'.Perm P∧Q'.map f=Q:=by
 generalize e:P.map f=R at h
 induction h generalizing P with
 | nil =>
  cases P with
  | nil=>exact ⟨[],Qn _,rfl⟩
  | cons a P=>cases e
 | cons x h ih =>
  cases P with
  | nil=>cases e
  | cons a P =>
   rw [Z1,List.cons.injEq] at e
   obtain ⟨Q',h1,h2⟩:=ih e.2
   exact ⟨a::Q',h1.cons a,by rw [Z1,h2,e.1]⟩
 | swap x y l =>
  cases P with
  | nil=>cases e
  | cons a P =>
   cases P with
   | nil=>cases e
   | cons b P =>
    rw [Z1,Z1,List.cons.injEq,List.cons.injEq] at e
    exact ⟨b::a::P,List.Perm.swap _ _ _,by rw [Z1,Z1,e.1,e.2.1,e.2.2]⟩
 | trans h1 h2 ih1 ih2 =>
  obtain ⟨Q2,p2,e2⟩:=ih2 e
  obtain ⟨Q1,p1,e1⟩:=ih1 e2
  exact ⟨Q1,p1.trans p2,e1⟩
def fndX (f:FndA):SrA.FndX:=⟨f.rank,f.dg,f.a.cells,rfl,rfl⟩
theorem oi (P:List FndA):(P.map fndX).map SrA.FndX.cells=P.map FndA.cells:=by rw [Z0];rfl
theorem xS (n:Nat) (hn:n≤1000000):SortA n:=fun s P hs hl=>by
 have h:=SrA.sortStable_ct s (P.map fndX) (by rw [ZF];exact hs) aa
 have e:SrA.postR s (P.map fndX)=fndR s P:=by
  show orow _ 22 _ _ ((P.map fndX).map SrA.FndX.cells).flatten=orow _ 22 _ _ (P.map FndA.cells).flatten
  rw [oi]
 rw [e] at h
 refine h.mono fun u R X' ⟨h1,Q,h2,h3⟩=>?_
 obtain ⟨Q',p,rfl⟩:=Bv h2.1
 refine ⟨h1,Q',p,?_⟩
 rw [h3]
 show [orow _ 22 _ _ ((Q'.map fndX).map SrA.FndX.cells).flatten]=[orow _ 22 _ _ (Q'.map FndA.cells).flatten]
 rw [oi]
def cutK (kl:List KeyD) (q:Nat):List KeyD:=kl.filter fun k=>decide (k.from_≤(q:Int))
def movN (l:List ActD):Nat:=(l.filter fun a=>decide (a.kind=18)).length
structure CutJ (kl:List KeyD) (q:Nat) where
 k:Nat
 hk:k≤kl.length
 n:Nat
 hn:n=(cutK (kl.take k) q).length
 A:Option Addr
 c:Nat
 xs:List Value
 hxs:xs=((cutK (kl.take k) q).map KeyD.cells).flatten
structure GenJ (l:List ActD) (q n:Nat) where
 k:Nat
 hk:k≤q
 g:Int
 hg:g=(n:Int)-1-(movN (l.take k):Nat)
def keyF (kl:List KeyD) (i:Int):Nat→Option KeyD
 | 0=>none
 | j+1=>bif decide ((kl.getD j KeyD.zero).from_≤i) then some (kl.getD j KeyD.zero) else keyF kl i j
structure KeyI (kl:List KeyD) (i:Int) where
 k:Nat
 hk:k≤kl.length
 hs:keyF kl i kl.length=keyF kl i k
theorem kT {c c':ChainD} {a:ActD} {pl:Option Nat} (h1:c.id=c'.id) (h2:c.acts.n=c'.acts.n) (h3:c.prev=c'.prev) (h4:c.actsL=c'.actsL):fitsV c a pl=fitsV c' a pl:=by
 have e:∀ p,atK c pl p=atK c' pl p:=fun p=>by
  cases pl with
  | none=>rfl
  | some j=>show p (c.actsL.getD j ActD.zero).kind=p (c'.actsL.getD j ActD.zero).kind;rw [h4]
 rw [fitsV,fitsV,h1,h2,h3,e,e]
theorem gA {W:OfW} {st s:ChS} (h:regS W st=some s):∃ c i,W.won st.gen=some c∧c.base=(st.acts.length:Int)∧c.prev=st.prev∧setI st.acts st.acts.length=some i∧W.clm (st.acts.getD i ActD.zero).m c=true∧s=⟨st.acts,st.keys++[⟨(st.acts.length:Nat),c.pub,c.home⟩],W.dgC c,st.gen+1⟩:=by
 rw [regS] at h
 cases hw:W.won st.gen with
 | none=>rw [hw] at h;cases h
 | some c =>
  rw [hw] at h
  simp only at h
  cases hb:decide (c.base=(st.acts.length:Int))&&seqB c.prev st.prev with
  | false=>rw [hb] at h;cases h
  | true =>
   rw [hb] at h
   rw [Zp,Zw,seqB_iff] at hb
   cases hs:setI st.acts st.acts.length with
   | none=>rw [hs] at h;cases h
   | some i =>
    rw [hs] at h
    simp only [Zf] at h
    cases hc:W.clm (st.acts.getD i ActD.zero).m c with
    | false=>rw [hc] at h;cases h
    | true =>
     rw [hc,Zf,ZM] at h
     exact ⟨c,i,rfl,hb.1,hb.2,rfl,hc,h.symm⟩
theorem fe {W:OfW} {st s:ChS} (h:stepS W st=some s):regS W st=some s∨regS W st=none∧∃ a,candL W st=[a]∧s=addS st a:=by
 rw [stepS] at h
 cases hr:regS W st with
 | some s'=>rw [hr] at h;exact .inl h
 | none =>
  rw [hr] at h
  cases ho:oneA (candL W st) with
  | none=>rw [ho] at h;cases h
  | some a =>
   rw [ho,Option.map_some,ZM] at h
   exact .inr ⟨rfl,a,iV ho,h.symm⟩
theorem qq {W:OfW} {P:ChS→Prop} (hst:∀ st s,P st→stepS W st=some s→P s):∀ (n:Nat) (st:ChS),P st→P (runS W n st)
 | 0,st,h=>h
 | n+1,st,h=>by
  cases hs:stepS W st with
  | none=>rw [fK hs];exact h
  | some s=>rw [eK hs];exact qq hst n s (hst st s h hs)
theorem pa {α:Type} (l:List α) (a:α) (i:Nat) (h:i≤l.length):(l++[a]).take i=l.take i:=by
 rw [List.take_append,show i-l.length=0 from by omega,List.take_zero,ZJ]
theorem tw {α:Type} {l:List α} {a x:α} {i:Nat} (h:(l++[a])[i]?=some x):l[i]?=some x∧i<l.length∨i=l.length∧x=a:=by
 rcases Nat.lt_trichotomy i l.length with hi|rfl|hi
 · rw [ZG hi] at h
   exact .inl ⟨h,hi⟩
 · rw [ZV (ZX _),Nat.sub_self] at h
   exact .inr ⟨rfl,(Option.some.inj h).symm⟩
 · rw [ZV aa,List.getElem?_singleton,ZP (by omega)] at h
   cases h
structure ChFit (W:OfW) (st:ChS):Prop where
 mem:∀ a∈st.acts,a∈W.L
 seq:∀ (i:Nat) (x:ActD),st.acts[i]?=some x→x.seq=(i:Int)
 fit:∀ (i:Nat) (x:ActD),st.acts[i]?=some x→1≤i→fitsV ((⟨st.acts.take i,[],x.prev,0⟩:ChS).ch W.id) x (idxV (st.acts.take i) x.object)=true
 key0:∃ k r,st.keys=k::r∧k.from_=0
theorem Ci {W:OfW} {st s:ChS} (h:ChFit W st) (hs:stepS W st=some s):ChFit W s:=by
 obtain ⟨k,r,hk,hk0⟩:=h.key0
 rcases fe hs with h1|⟨h1,a,h2,rfl⟩
 · obtain ⟨c,i,e1,e2,e3,e4,e5,rfl⟩:=gA h1
   exact ⟨h.mem,h.seq,h.fit,k,r++[_],by rw [hk];rfl,hk0⟩
 · have ha:a∈candL W st:=by rw [h2];exact Z5.2 rfl
   obtain ⟨m1,m2,m3⟩:=km ha
   have hp:a.prev=st.prev:=by
    rw [candL,QM,QM,posB,Zp,seqB_iff] at ha
    exact ha.1.2.2
   refine ⟨fun x hx=>?_,fun i x hx=>?_,fun i x hx h0=>?_,?_⟩
   · rcases Qy.1 (show x∈st.acts++[a] from hx) with hx|hx
     · exact h.mem x hx
     · rw [Z5.1 hx];exact m1
   · rcases tw (show (st.acts++[a])[i]?=some x from hx) with ⟨h3,_⟩|⟨rfl,rfl⟩
     · exact h.seq i x h3
     · exact m2
   · rcases tw (show (st.acts++[a])[i]?=some x from hx) with ⟨h3,h4⟩|⟨rfl,rfl⟩
     · have:=h.fit i x h3 h0
       rw [show (addS st a).acts.take i=st.acts.take i from pa _ _ _ (by omega)]
       exact this
     · rw [show (addS st x).acts.take st.acts.length=st.acts from by rw [show (addS st x).acts=st.acts++[x] from rfl,pa _ _ _ (ZX _),Qh]]
       rw [candB,Zp] at m3
       rw [←m3.1]
       exact kT rfl rfl hp rfl
   · show ∃ k r,(bif decide (a.kind=18) then st.keys++[_] else st.keys)=k::r∧k.from_=0
     cases decide (a.kind=18) with
     | true=>exact ⟨k,r++[_],by rw [hk];rfl,hk0⟩
     | false=>exact ⟨k,r,hk,hk0⟩
theorem CF {W:OfW} {a:ActD} (ha:a∈firstL W):begS a=⟨[a],[⟨0,a.n,a.m⟩],digV a,0⟩∧a∈W.L∧a.seq=0∧a.prev=⟨#[]⟩∧a.kind=0∧idV a.n=W.id∧W.ver a.n a=true:=by
 rw [firstL,QM,QM] at ha
 have h2:=ha.1.2
 simp only [posB,Zp,Zw,seqB_iff] at h2
 have h3:=ha.2
 simp only [firstB,Zp,Zw,seqB_iff] at h3
 exact ⟨by rw [begS,addS,h3.1.1];rfl,ha.1.1,h2.1,h2.2,h3.1.1,h3.1.2,h3.2⟩
theorem E0 {W:OfW} {a:ActD} (ha:a∈firstL W):ChFit W (begS a):=by
 obtain ⟨e,h1,h2,h3,h4,h5,h6⟩:=CF ha
 rw [e]
 refine ⟨fun x hx=>by rw [Z5.1 hx];exact h1,fun i x hx=>?_,fun i x hx h0=>?_,_,[],rfl,rfl⟩
 · rw [List.getElem?_singleton] at hx
   split at hx
   · rename_i hi
     subst hi
     rw [←Option.some.inj hx,h2];rfl
   · cases hx
 · rw [List.getElem?_singleton,ZP (by omega)] at hx
   cases hx
theorem EK {W:OfW} {a:ActD} (ha:a∈firstL W):ChFit W (finS W a):=qq (P:=ChFit W) (fun st s h hs=>Ci h hs) _ _ (E0 ha)
structure SameC (a b:ChainD):Prop where
 id:a.id=b.id
 prev:a.prev=b.prev
 gen:a.gen=b.gen
 fork:a.fork=b.fork
 acts:b.actsL.map ActD.can=a.actsL.map ActD.can
def authI (I:List ItemD):List ByteArray:=(I.filter fun i=>decide (i.kind=0)).map fun i=>i.act.author
inductive All2 {α β:Type} (R:α→β→Prop):List α→List β→Prop
 | nil:All2 R [] []
 | cons {a:α} {b:β} {l:List α} {m:List β}:R a b→All2 R l m→All2 R (a::l) (b::m)
abbrev ChK:=ChainD×List KeyD
def neK (p:ChK):Bool:=decide (0<p.1.actsL.length)
def OfQ (Q:ByteArray→ChainD→List KeyD→Prop) (au:ByteArray) (u:Value) (X:World→Prop):Prop:=∃ (c:ChainD) (kl:List KeyD),Q au c kl∧u=c.v∧∀ w,X w→c.at_ w∧Keyz w c.keys kl
structure IdsI (I:List ItemD) where
 k:Nat
 hk:k≤I.length
 A:Option Addr
 c:Nat
 n:Nat
 hn:n=(authI (I.take k)).length
 xs:List Value
 hxs:xs=(authI (I.take k)).map encB
structure ChsI (Q:ByteArray→ChainD→List KeyD→Prop) (ids:List ByteArray) where
 k:Nat
 hk:k≤ids.length
 M:List ChK
 hM:All2 (fun id p=>Q id p.1 p.2) (ids.take k) M
 A:Option Addr
 c:Nat
 n:Nat
 hn:n=(M.filter neK).length
 xs:List Value
 hxs:xs=(((M.filter neK).map Prod.fst).map ChainD.cells).flatten
theorem Items.keep {w w':World} {s:SlV} {l:List ItemD} (h:Items w s l) (hs:∀ k,k<w.heap.size→w'.heap[k]?=w.heap[k]?):Items w' s l :=
 ⟨RowsD.keep h.1 hs,fun i hi=>⟨⟨RowsD.keep (h.2 i hi).1.1 hs,RowsD.keep (h.2 i hi).1.2 hs⟩,RowsD.keep (h.2 i hi).2 hs⟩⟩
theorem ri {α:Type} {f:α→ByteArray} {I:List α} (h:Asc (I.map f)) {x y:α} (hx:x∈I) (hy:y∈I) (e:f x=f y):x=y:=by
 obtain ⟨p,hp⟩:=QO.1 hx
 obtain ⟨q,hq⟩:=QO.1 hy
 have key:∀ {a b:Nat} {u v:α},I[a]?=some u→I[b]?=some v→f u=f v→¬ a<b:=fun {a b u v} h1 h2 e hab=>by
  have:=mn h hab (x:=f u) (y:=f v) (by rw [Z7,h1];rfl) (by rw [Z7,h2];rfl)
  rw [e,dF] at this
  cases this
 rcases Nat.lt_trichotomy p q with h1|rfl|h1
 · exact absurd h1 (key hp hq e)
 · exact Option.some.inj (hp.symm.trans hq)
 · exact absurd h1 (key hq hp e.symm)
theorem il {I:List ItemD} {au:ByteArray} {a:ActD} (h:a∈selA au rightIt I):∃ i∈I,i.act=a∧i.kind=0∧rightIt i=true∧digIt i=digV a∧a.author=au:=by
 rw [selA] at h
 obtain ⟨i,hi,rfl⟩:=QI.1 h
 obtain ⟨h1,h2⟩:=QM.1 hi
 rw [selB,Zp,wantA,Zp,Zw,seqB_iff] at h2
 exact ⟨i,h1,rfl,h2.1.1,h2.2,yY h2.1.1 h2.2,h2.1.2⟩
theorem ER {L:List Int} {I:List ItemD} (h:KnR L I) {au au':ByteArray} {a b:ActD} (ha:a∈selA au rightIt I) (hb:b∈selA au' rightIt I) (e:digV a=digV b):a=b:=by
 obtain ⟨i,hi,rfl,_,_,e1,_⟩:=il ha
 obtain ⟨j,hj,rfl,_,_,e2,_⟩:=il hb
 rw [ri h.asc hi hj (by rw [e1,e2,e])]
theorem B4 {l:List ActD} (hd:∀ a∈l,∀ b∈l,digV a=digV b→a=b) (hs:∀ (i:Nat) (x:ActD),l[i]?=some x→x.seq=(i:Int)) {n:Nat} {x:ActD} (hx:l[n]?=some x):idxV l (digV x)=some n:=by
 obtain ⟨hn,e⟩:=QJ.1 hx
 rw [idxV,QC]
 refine ⟨hn,by rw [e];exact cW _,fun j hj hc=>?_⟩
 have h1:=seqB_iff.1 hc
 have h2:=hd _ (ZQ aa) x (Z6 hx) h1
 have h3:=hs j _ (Zb aa)
 have h4:=hs n x hx
 rw [h2] at h3
 omega
theorem mi {P:Program} {f:FuncId} {args:Array Value} {X:World→Prop} {Φ Ψ:Value→(World→Prop)→Prop} (h:Mk P f args X Φ) (hi:∀ u X',Φ u X'→Ψ u X'):Mk P f args X Ψ:=by
 unfold Mk at *
 exact h.mono fun u R X' h1=>⟨hi u X' h1.1,h1.2⟩
def QK (L:List Int) (I:List ItemD) (au:ByteArray) (c:ChainD) (kl:List KeyD):Prop :=
 ∃ (A:List ActD) (sa sk:SlV) (st:ChS) (fork:Bool),A.Perm (selA au rightIt I)∧OfRes ((OfWK L.length I au).at A) st fork∧c=⟨au,sa,sk,st.prev,(st.gen:Nat),fork,st.acts⟩∧kl=st.keys
theorem jX (ks ki:SlV) {L:List Int} {I:List ItemD} (h:KnR L I) (au:ByteArray) :
  Mk Tryz.prog 27 #[.agg #[ks.v,ki.v],.string au] (fun w=>(Ints w ks L∧Items w ki I)∧Glob w) (OfQ (QK L I) au) :=
 mi (F7 xS ks ki h au) fun u X ⟨A,sa,sk,st,fork,h1,h2,h3,h4⟩=>⟨⟨au,sa,sk,st.prev,(st.gen:Nat),fork,st.acts⟩,st.keys,⟨A,sa,sk,st,fork,h1,h2,rfl,rfl⟩,h3,h4⟩
structure ChGood (c:ChainD) (kl:List KeyD):Prop where
 ok:ActsOk c.actsL
 len:c.actsL.length≤100
 klen:kl.length≤1000
 seq:∀ (i:Nat) (x:ActD),c.actsL[i]?=some x→x.seq=(i:Int)
 fit:∀ (n:Nat) (x:ActD),1≤n→c.actsL[n]?=some x→∀ d:ChainD,d.id=c.id→d.acts.n=n→d.prev=x.prev→d.actsL=c.actsL.take n→fitsV d x (idxV d.actsL x.object)=true
 key0:0<c.actsL.length→∃ k r,kl=k::r∧k.from_=0
 own:∀ (n:Nat) (x:ActD),c.actsL[n]?=some x→idxV c.actsL (digV x)=some n
theorem wB {W:OfW} (hB:∀ g c,W.won g=some c→g<W.B) {a:ActD} (ha:a∈firstL W):InvS W (finS W a) :=
 qq (P:=InvS W) (fun st s h hs=>(jH hB h hs).1) _ _ (ra ha).1
theorem Bb (au:ByteArray) (I:List ItemD):(selA au rightIt I).length≤I.length:=by rw [selA,ZF];exact Qa _ _
theorem fS {L:List Int} {I:List ItemD} (h:KnR L I) {au:ByteArray} {c:ChainD} {kl:List KeyD} (q:QK L I au c kl):ChGood c kl:=by
 obtain ⟨A,sa,sk,st,fork,hA,hR,rfl,rfl⟩:=q
 have hAl:A.length≤100:=by have h1:=hA.length_eq;have h2:=Bb au I;have h3:=h.len;omega
 have hAm:∀ a∈A,a∈selA au rightIt I:=fun a ha=>hA.subset ha
 rw [OfRes] at hR
 cases ho:oneA (firstL ((OfWK L.length I au).at A)) with
 | none =>
  rw [ho] at hR
  obtain ⟨rfl,rfl⟩:=hR
  exact ⟨⟨fun a ha=>absurd ha (by simp),fun a ha=>absurd ha (by simp)⟩,by simp,by simp,fun i x hx=>by simp at hx,fun n x _ hx=>by simp at hx,fun hl=>by simp at hl,fun n x hx=>by simp at hx⟩
 | some a =>
  rw [ho] at hR
  obtain ⟨rfl,rfl⟩:=hR
  have ha:a∈firstL ((OfWK L.length I au).at A):=by rw [iV ho];exact Z5.2 rfl
  have hF:=EK ha
  have hB:∀ g c,((OfWK L.length I au).at A).won g=some c→g<((OfWK L.length I au).at A).B:=fun g c hw=>(fb hw).1
  have hI:=wB hB ha
  have hg:=qO L.length I au
  have hcl:(claimsV I au).length≤I.length:=by rw [claimsV,selC,ZF];exact Qa _ _
  have hIl:=h.len
  have h1:=hI.len
  have h2:=hI.keyn
  have h3:(finS ((OfWK L.length I au).at A) a).gen≤genB L.length I au:=hI.gen
  have h4:(finS ((OfWK L.length I au).at A) a).acts.length≤A.length:=h1
  have hmem:∀ x∈(finS ((OfWK L.length I au).at A) a).acts,x∈selA au rightIt I:=fun x hx=>hAm x (hF.mem x hx)
  refine ⟨⟨fun x hx=>?_,fun x hx=>?_⟩,by show (finS ((OfWK L.length I au).at A) a).acts.length≤100;omega,by omega,hF.seq,fun n x hn hx d e1 e2 e3 e4=>?_,fun _=>hF.key0,fun n x hx=>?_⟩
  · obtain ⟨i,hi,rfl,_⟩:=il (hmem x hx)
    exact h.rng i hi
  · obtain ⟨i,hi,rfl,_⟩:=il (hmem x hx)
    exact h.sm i hi
  · have h5:=hF.fit n x hx hn
    rw [e4]
    rw [←h5]
    refine kT e1 ?_ e3 e4
    rw [e2]
    show n=((finS ((OfWK L.length I au).at A) a).acts.take n).length
    rw [Qi]
    obtain ⟨hlt,_⟩:=QJ.1 hx
    change n<(finS ((OfWK L.length I au).at A) a).acts.length at hlt
    omega
  · exact B4 (fun x hx y hy e=>ER h (hmem x hx) (hmem y hy) e) hF.seq hx
theorem py {l m:List ActD} (h:l.Perm m):oneA l=oneA m:=by
 have hl:=h.length_eq
 match l,m,h,hl with
 | [],m,h,_=>rw [List.Perm.nil_eq h]
 | [a],m,h,_=>rw [List.singleton_perm.1 h]
 | a::b::r,[],h,hl=>cases hl
 | a::b::r,[c],h,hl=>cases hl
 | a::b::r,c::d::s,h,_=>rfl
theorem oz (W:OfW) {A B:List ActD} (h:A.Perm B) (st:ChS):(candL (W.at A) st).Perm (candL (W.at B) st):=(h.filter _).filter _
theorem um (W:OfW) {A B:List ActD} (h:A.Perm B) (st:ChS):stepS (W.at A) st=stepS (W.at B) st:=by
 have h1:regS (W.at A) st=regS (W.at B) st:=rfl
 rw [stepS,stepS,h1,py (oz W h st)]
theorem pr (W:OfW) {A B:List ActD} (h:A.Perm B):∀ n st,runS (W.at A) n st=runS (W.at B) n st
 | 0,st=>rfl
 | n+1,st=>by
  rw [runS,runS,um W h st]
  cases stepS (W.at B) st with
  | none=>rfl
  | some s=>exact pr W h n s
theorem lM (W:OfW) {A B:List ActD} (h:A.Perm B):(firstL (W.at A)).Perm (firstL (W.at B)):=(h.filter _).filter _
theorem yR (W:OfW) {A B:List ActD} (h:A.Perm B) (a:ActD):finS (W.at A) a=finS (W.at B) a:=by
 rw [finS,finS,show (W.at A).L.length=(W.at B).L.length from h.length_eq]
 exact pr W h _ _
theorem fM (W:OfW) {A B:List ActD} (h:A.Perm B) {st:ChS} {fork:Bool} (r:OfRes (W.at A) st fork):OfRes (W.at B) st fork:=by
 rw [OfRes] at r ⊢
 rw [←py (lM W h)]
 cases ho:oneA (firstL (W.at A)) with
 | none =>
  rw [ho] at r
  exact ⟨r.1,by rw [r.2,(lM W h).length_eq]⟩
 | some a =>
  rw [ho] at r
  simp only at r ⊢
  rw [←yR W h a,←(oz W h _).length_eq]
  exact r
theorem yy {W:OfW} {st st':ChS} {f f':Bool} (r:OfRes W st f) (r':OfRes W st' f'):st=st'∧f=f':=by
 rw [OfRes] at r r'
 cases ho:oneA (firstL W) with
 | none =>
  rw [ho] at r r'
  exact ⟨r.1.trans r'.1.symm,r.2.trans r'.2.symm⟩
 | some a =>
  rw [ho] at r r'
  exact ⟨r.1.trans r'.1.symm,r.2.trans r'.2.symm⟩
def EvS (W:OfW) (s:ChS):Prop:=(∃ x∈W.L,s.prev=digV x)∨∃ g c,g<s.gen∧W.won g=some c∧s.prev=W.dgC c
theorem EN {W:OfW} {st s:ChS} (hs:stepS W st=some s):EvS W s:=by
 rcases fe hs with h1|⟨h1,a,h2,rfl⟩
 · obtain ⟨c,i,e1,e2,e3,e4,e5,rfl⟩:=gA h1
   exact .inr ⟨st.gen,c,Nat.lt_succ_self _,e1,rfl⟩
 · have ha:a∈candL W st:=by rw [h2];exact Z5.2 rfl
   exact .inl ⟨a,(km ha).1,rfl⟩
theorem io {W:OfW}:∀ (n:Nat) (s:ChS),runS W n s=s∨s.acts.length<(runS W n s).acts.length ∨
  s.acts.length=(runS W n s).acts.length∧∃ g c,s.gen≤g∧(runS W n s).gen=g+1∧W.won g=some c∧(runS W n s).prev=W.dgC c
 | 0,s=>.inl rfl
 | n+1,s=>by
  cases hs:stepS W s with
  | none=>exact .inl (fK hs _)
  | some s1 =>
   rw [eK hs]
   have ih:=io (W:=W) n s1
   rcases fe hs with h1|⟨h1,a,h2,rfl⟩
   · obtain ⟨c,i,e1,e2,e3,e4,e5,e6⟩:=gA h1
     have ea:s1.acts=s.acts:=by rw [e6]
     have eg:s1.gen=s.gen+1:=by rw [e6]
     have ep:s1.prev=W.dgC c:=by rw [e6]
     rw [ea] at ih
     rcases ih with ih|ih|⟨ih,g,c',i1,i2,i3,i4⟩
     · rw [ih]
       exact .inr (.inr ⟨by rw [ea],s.gen,c,ZX _,eg,e1,ep⟩)
     · exact .inr (.inl ih)
     · exact .inr (.inr ⟨ih,g,c',by omega,i2,i3,i4⟩)
   · have el:(addS s a).acts.length=s.acts.length+1:=by simp [addS]
     right;left
     rcases ih with ih|ih|⟨ih,_⟩
     · rw [ih];omega
     · omega
     · omega
structure DistS (W:OfW):Prop where
 ac:∀ x∈W.L,∀ g c,W.won g=some c→digV x≠W.dgC c
 cc:∀ g g' c c',W.won g=some c→W.won g'=some c'→W.dgC c=W.dgC c'→g=g'
theorem BN {W:OfW} (hD:DistS W) {n:Nat} {s s1:ChS} (hE:EvS W s) (hs:stepS W s=some s1):¬ ((runS W n s1).acts.length=s.acts.length∧(runS W n s1).prev=s.prev):=by
 rintro ⟨h1,h2⟩
 have hg:=io (W:=W) (n+1) s
 rw [eK hs] at hg
 rcases hg with hg|hg|⟨_,g,c,g1,g2,g3,g4⟩
 · have hg1:=io (W:=W) n s1
   rcases fe hs with k1|⟨k1,a,k2,rfl⟩
   · obtain ⟨c,i,e1,e2,e3,e4,e5,e6⟩:=gA k1
     have eg:s1.gen=s.gen+1:=by rw [e6]
     have ea:s1.acts=s.acts:=by rw [e6]
     rcases hg1 with q|q|⟨q,g,c',q1,q2,_⟩
     · rw [q] at hg
       rw [hg] at eg
       omega
     · rw [hg,ea] at q
       omega
     · rw [hg] at q2
       omega
   · have el:(addS s a).acts.length=s.acts.length+1:=by simp [addS]
     rcases hg1 with q|q|⟨q,_⟩
     · rw [q] at h1;omega
     · omega
     · omega
 · omega
 · rw [h2] at g4
   rcases hE with ⟨x,hx,e⟩|⟨g',c',l1,l2,l3⟩
   · exact hD.ac x hx g c g3 (e.symm.trans g4)
   · have:=hD.cc g' g c' c l2 g3 (l3.symm.trans g4)
     omega
theorem vR {W:OfW} {A:List ActD} {a:ActD} (hD:DistS (W.at A)):∀ (n:Nat) (s:ChS),EvS (W.at A) s→stepS (W.at A) (runS (W.at A) n s)=none→a.seq=((runS (W.at A) n s).acts.length:Int)→a.prev=(runS (W.at A) n s).prev →
  ∃ k,k≤n∧∀ m,runS (W.at (a::A)) (k+m) s=runS (W.at (a::A)) m (runS (W.at A) n s)
 | 0,s,hE,hf,h1,h2=>⟨0,ZX _,fun m=>by rw [ZU];rfl⟩
 | n+1,s,hE,hf,h1,h2=>by
  cases hs:stepS (W.at A) s with
  | none =>
   rw [fK hs] at *
   exact ⟨0,Z4 _,fun m=>by rw [ZU]⟩
  | some s1 =>
   have hno:=BN hD (n:=n) hE hs
   rw [eK hs] at *
   have hpos:posB s.acts.length s.prev a=false:=by
    cases hp:posB s.acts.length s.prev a with
    | false=>rfl
    | true =>
     rw [posB,Zp,Zw,seqB_iff] at hp
     exact absurd ⟨by have:=hp.1;omega,by rw [←h2];exact hp.2⟩ hno
   have hst:stepS (W.at (a::A)) s=some s1:=by
    rw [←hs]
    have e:candL (W.at (a::A)) s=candL (W.at A) s:=by
     show (List.filter (posB s.acts.length s.prev) (a::A)).filter _=_
     rw [List.filter_cons_of_neg (by rw [hpos];decide)]
     rfl
    have e1:regS (W.at (a::A)) s=regS (W.at A) s:=rfl
    rw [stepS,stepS,e,e1]
   obtain ⟨k,hk,hr⟩:=vR hD n s1 (EN hs) hf h1 h2
   exact ⟨k+1,by omega,fun m=>by rw [Nat.add_right_comm,eK hst];exact hr m⟩
theorem vS {W:OfW} (hB:∀ g c,W.won g=some c→g<W.B):∀ (n:Nat) (s:ChS),InvS W s→muS W s≤n→stepS W (runS W n s)=none
 | 0,s,hI,hm=>by
  cases hs:stepS W s with
  | none=>exact hs
  | some s1=>have:=(jH hB hI hs).2;omega
 | n+1,s,hI,hm=>by
  cases hs:stepS W s with
  | none=>rw [fK hs];exact hs
  | some s1 =>
   obtain ⟨h1,h2⟩:=jH hB hI hs
   rw [eK hs]
   exact vS hB n s1 h1 aa
theorem Cj {W:OfW} (hB:∀ g c,W.won g=some c→g<W.B) {a:ActD} (ha:a∈firstL W):stepS W (finS W a)=none:=by
 obtain ⟨h1,h2⟩:=ra ha
 exact vS hB _ _ h1 aa
theorem vT {W:OfW}:∀ (n:Nat) (s:ChS),∃ M K,(runS W n s).acts=s.acts++M∧(runS W n s).keys=s.keys++K∧∀ k∈K,(s.acts.length:Int)≤k.from_
 | 0,s=>⟨[],[],(ZJ _).symm,(ZJ _).symm,fun k hk=>(Qk hk).elim⟩
 | n+1,s=>by
  cases hs:stepS W s with
  | none=>rw [fK hs];exact ⟨[],[],(ZJ _).symm,(ZJ _).symm,fun k hk=>(Qk hk).elim⟩
  | some s1 =>
   rw [eK hs]
   obtain ⟨M,K,h1,h2,h3⟩:=vT (W:=W) n s1
   rcases fe hs with k1|⟨k1,a,k2,rfl⟩
   · obtain ⟨c,i,e1,e2,e3,e4,e5,rfl⟩:=gA k1
     refine ⟨M,⟨(s.acts.length:Nat),c.pub,c.home⟩::K,h1,by rw [h2];simp,fun k hk=>?_⟩
     rcases ZI.1 hk with rfl|hk
     · exact Int.le_refl _
     · exact h3 k hk
   · have hl:((addS s a).acts.length:Int)=(s.acts.length:Int)+1:=by simp [addS]
     refine ⟨a::M,(bif decide (a.kind=18) then [⟨((s.acts.length+1:Nat):Int),a.n,a.m⟩] else [])++K,by rw [h1];simp [addS],?_,fun k hk=>?_⟩
     · rw [h2]
       show (bif decide (a.kind=18) then s.keys++[_] else s.keys)++K=_
       cases decide (a.kind=18)<;>simp
     · rcases Qy.1 hk with hk|hk
       · cases hd:decide (a.kind=18) with
         | true =>
          rw [hd,Zf] at hk
          rw [Z5.1 hk]
          show (s.acts.length:Int)≤((s.acts.length+1:Nat):Int)
          omega
         | false =>
          rw [hd,Ze] at hk
          exact (Qk hk).elim
       · have:=h3 k hk
         omega
theorem EM {W:OfW} {A:List ActD} {a b:ActD} (hD:DistS (W.at A)) (hB:∀ g c,W.won g=some c→g<W.B) (hb:oneA (firstL (W.at A))=some b) {st st':ChS} {f f':Bool}
  (r:OfRes (W.at A) st f) (r':OfRes (W.at (a::A)) st' f') (h1:a.seq=(st.acts.length:Int)) (h2:a.prev=st.prev) :
  bif !f&&candB (W.at A) st a then f=false∧∃ m,st'=runS (W.at (a::A)) m (addS st a) else st'=st∧f'=f:=by
 have hbm:b∈firstL (W.at A):=by rw [iV hb];exact Z5.2 rfl
 have hI:=wB (W:=W.at A) hB hbm
 have hst:st=finS (W.at A) b∧f=decide (1<(candL (W.at A) (finS (W.at A) b)).length):=by
  rw [OfRes,hb] at r
  exact r
 obtain ⟨rfl,hf⟩:=hst
 have hone:=hI.one
 have hfl:firstL (W.at (a::A))=firstL (W.at A):=by
  have hp:posB 0 ⟨#[]⟩ a=false:=by
   rw [posB,Zc (by rw [h1];omega)]
   rfl
  show (List.filter (posB 0 ⟨#[]⟩) (a::A)).filter _=_
  rw [List.filter_cons_of_neg (by rw [hp];decide)]
  rfl
 have hst':st'=finS (W.at (a::A)) b∧f'=decide (1<(candL (W.at (a::A)) (finS (W.at (a::A)) b)).length):=by
  rw [OfRes,hfl,hb] at r'
  exact r'
 obtain ⟨rfl,hf'⟩:=hst'
 have hstop:=Cj (W:=W.at A) hB hbm
 have hE:EvS (W.at A) (begS b):=by
  obtain ⟨e,m1,_⟩:=CF hbm
  exact .inl ⟨b,m1,by rw [e]⟩
 obtain ⟨k,hk,hr⟩:=vR hD _ (begS b) hE hstop h1 h2
 change ∀ m,runS (W.at (a::A)) (k+m) (begS b)=runS (W.at (a::A)) m (finS (W.at A) b) at hr
 obtain ⟨m,hm⟩:∃ m,(a::A).length+W.B=k+(m+1):=⟨(a::A).length+W.B-k-1,by rw [ZB];have:k≤A.length+W.B:=hk;omega⟩
 have hfin:finS (W.at (a::A)) b=runS (W.at (a::A)) (m+1) (finS (W.at A) b):=by
  rw [←hr,←hm]
  rfl
 have hpos:posB (finS (W.at A) b).acts.length (finS (W.at A) b).prev a=true:=by
  rw [posB,Zd h1,h2,cW]
  rfl
 have hcl:candL (W.at (a::A)) (finS (W.at A) b)=if candB (W.at A) (finS (W.at A) b) a=true then a::candL (W.at A) (finS (W.at A) b) else candL (W.at A) (finS (W.at A) b):=by
  show (List.filter (posB (finS (W.at A) b).acts.length (finS (W.at A) b).prev) (a::A)).filter (candB (W.at A) (finS (W.at A) b))=_
  rw [List.filter_cons_of_pos (by rw [hpos]),List.filter_cons]
  rfl
 have hreg:regS (W.at A) (finS (W.at A) b)=none∧oneA (candL (W.at A) (finS (W.at A) b))=none:=by
  rw [stepS] at hstop
  cases hr:regS (W.at A) (finS (W.at A) b) with
  | some s=>rw [hr] at hstop;cases hstop
  | none =>
   rw [hr] at hstop
   exact ⟨rfl,by simpa using hstop⟩
 have hregA:regS (W.at (a::A)) (finS (W.at A) b)=none:=hreg.1
 have hstay:oneA (candL (W.at (a::A)) (finS (W.at A) b))=none→finS (W.at (a::A)) b=finS (W.at A) b:=fun ho=>by
  rw [hfin]
  refine fK ?_ _
  rw [stepS,hregA,ho]
  rfl
 cases hc:candB (W.at A) (finS (W.at A) b) a with
 | false =>
  rw [hc,ZP (by decide)] at hcl
  have hs:=hstay (by rw [hcl];exact hreg.2)
  rw [Zk,Ze]
  refine ⟨hs,?_⟩
  rw [hf',hs,hcl,hf]
 | true =>
  rw [hc,ZO rfl] at hcl
  cases hff:f with
  | true =>
   rw [hff] at hf
   have hl:=aG hf.symm
   have ho:oneA (a::candL (W.at A) (finS (W.at A) b))=none:=by
    cases hcc:candL (W.at A) (finS (W.at A) b) with
    | nil=>rw [hcc] at hl;simp at hl
    | cons x r=>rfl
   have hs:=hstay (by rw [hcl];exact ho)
   refine ⟨hs,?_⟩
   rw [hf',hs,hcl,ZB]
   exact Zd aa
  | false =>
   rw [hff] at hf
   have hl:=aQ hf.symm
   have hnil:candL (W.at A) (finS (W.at A) b)=[]:=by
    have h3:=hreg.2
    cases hcc:candL (W.at A) (finS (W.at A) b) with
    | nil=>rfl
    | cons x r =>
     rw [hcc] at hl h3
     cases r with
     | nil=>cases h3
     | cons y r=>simp at hl
   rw [hnil] at hcl
   refine ⟨rfl,m,?_⟩
   rw [hfin]
   refine eK ?_
   rw [stepS,hregA,hcl]
   rfl
theorem yX {i:ItemD} (h:i.kind=1) (hr:rightIt i=true):digIt i=dgCl i.claim:=by
 have h1:claimR i.claim=true:=by
  rcases de hr with h2|h2|h2|h2
  · rw [h] at h2;exact absurd h2.1 (by decide)
  · exact h2.2
  · rw [h] at h2;exact absurd h2.1 (by decide)
  · rw [h] at h2;exact absurd h2.1 (by decide)
 have h2:rightIt (ofClaimI i.claim)=true:=by
  have h3:rightIt (ofClaimI i.claim)=(claimR i.claim&&sameIZ ItemD.zero):=rfl
  rw [h3,h1]
  decide +kernel
 have e:bytesIt i=bytesIt (ofClaimI i.claim):=by
  rw [bytesIt,bytesIt,hr,h2,Zf,Zf,bodyIt,h]
  rfl
 rw [digIt,dgCl,digIt,e]
theorem iI {I:List ItemD} {au:ByteArray} {c:ClaimD} (h:c∈claimsV I au):∃ i∈I,i.kind=1∧i.claim=c∧digIt i=dgCl c:=by
 rw [claimsV,selC] at h
 obtain ⟨i,hi,rfl⟩:=QI.1 h
 obtain ⟨h1,h2⟩:=QM.1 hi
 rw [selBC,Zp,wantC,Zp,Zw] at h2
 exact ⟨i,h1,h2.1.1,rfl,yX h2.1.1 h2.2⟩
theorem EP {L:List Int} {I:List ItemD} (h:KnR L I) {au:ByteArray} {A:List ActD} (hA:A.Perm (selA au rightIt I)):DistS ((OfWK L.length I au).at A):=by
 refine ⟨fun x hx g c hw e=>?_,fun g g' c c' hw hw' e=>?_⟩
 · obtain ⟨i,hi,e1,e2,_,e3,_⟩:=il (hA.subset hx)
   obtain ⟨j,hj,e4,e5,e6⟩:=iI (gk (fb hw).2).1
   have:=ri h.asc hi hj (by rw [e3,e6];exact e)
   rw [this,e4] at e2
   exact absurd e2 (by decide)
 · obtain ⟨m1,m2⟩:=gk (fb hw).2
   obtain ⟨m3,m4⟩:=gk (fb hw').2
   obtain ⟨i,hi,e1,e2,e3⟩:=iI m1
   obtain ⟨j,hj,e4,e5,e6⟩:=iI m3
   have:=ri h.asc hi hj (by rw [e3,e6];exact e)
   subst this
   rw [e2] at e5
   have h9:c.gen=c'.gen:=by rw [e5]
   rw [m2,m4] at h9
   omega
def gtB (a b:ByteArray):Bool:=!(Op.bytesLess a.toList b.toList||seqB a b)
def addAt (dI:ItemD→ByteArray) (d:ByteArray) (I:List ItemD) (k:Nat):Nat:=((I.take k).findIdx? fun x=>gtB (dI x) d).getD I.length
def addV (dI:ItemD→ByteArray) (it:ItemD) (I:List ItemD):List ItemD:=I.take (addAt dI (dI it) I I.length)++it::I.drop (addAt dI (dI it) I I.length)
theorem CR (dI:ItemD→ByteArray) (d:ByteArray) (I:List ItemD) (k:Nat) (hk:k≤I.length):addAt dI d I k<k∨addAt dI d I k=I.length:=by
 rw [addAt]
 cases h:(I.take k).findIdx? fun x=>gtB (dI x) d with
 | none=>exact .inr rfl
 | some j =>
  rw [QC] at h
  obtain ⟨h1,_⟩:=h
  rw [Qi] at h1
  exact .inl (by show j<k;omega)
theorem vm (dI:ItemD→ByteArray) (d:ByteArray) (I:List ItemD) (k:Nat) (x:ItemD) (hx:I[k]?=some x):addAt dI d I (k+1)=bif gtB (dI x) d&&decide (addAt dI d I k=I.length) then k else addAt dI d I k:=by
 have hk:k<I.length:=(QJ.1 hx).1
 rw [addAt,addAt,Qg,hx,Qu,List.findIdx?_append]
 cases h:(I.take k).findIdx? fun x=>gtB (dI x) d with
 | none =>
  rw [List.findIdx?_singleton]
  cases hg:gtB (dI x) d with
  | true=>simp [Qi];omega
  | false=>simp
 | some j =>
  rw [QC] at h
  obtain ⟨h1,_⟩:=h
  rw [Qi] at h1
  have:¬ j=I.length:=by omega
  simp [this]
section
variable {P:Program} {N:Nat} {av bor:List Nat} {w0:World} {x y:Operand} {t t2:TypeId} {ty:TypeId} {st:St}
theorem mc {a b:ByteArray} (v:Bool) (hx:ev st.env x=some (.string a)) (hy:ev st.env y=some (.string b)) (hv:gtB a b=v):Sy.Yields P N av bor w0 st (.binOp .gtr t x y t2) ty (.bool v):=hv▸zp hx hy
end
structure AddI (I:List ItemD) where
 k:Nat
 hk:k≤I.length
theorem E3 (Y:World→Prop) (ks ki:SlV) (I:List ItemD) (it:ItemD) (rI:ItemD→Bool) (dI:ItemD→ByteArray)
  (hR:Pu Tryz.prog 73 #[it.v] (fun w=>it.at_ w) (.bool true))
  (hS:Pu Tryz.prog 74 #[ks.v,it.v] (fun w=>(Y w∧it.at_ w)∧Glob w) (.bool true))
  (hD0:Pu Tryz.prog 18 #[it.v] (fun w=>it.at_ w∧Glob w) (.string (dI it)))
  (hD:∀ x∈I,Pu Tryz.prog 18 #[x.v] (fun w=>x.at_ w∧Glob w) (.string (dI x)))
  (hI:I.length≤1000) (hnew:∀ x∈I,seqB (dI x) (dI it)=false) :
  Mk Tryz.prog 35 #[.agg #[ks.v,ki.v],it.v] (fun w=>((Y w∧Items w ki I)∧it.at_ w)∧Glob w)
   (fun u X'=>∃ s:SlV,u=.tuple #[.agg #[ks.v,s.v],.bool true]∧∀ w,X' w→Items w s (addV dI it I)):=by
 refine bZ (args:=[_,_]) _ Tryz.func35 rfl Tryz.ntmps35 rfl fun av bor w0=>?_
 refine aM (p:=ki.n=I.length∧ki.n≤maxLen∧(0<I.length→ki.p.isSome=true)∧ki.n≤ki.c) (fun w h=>⟨h.1.1.2.len_,h.1.1.2.max_,h.1.1.2.some_,RowsD.cap h.1.1.2.1⟩) fun ⟨hkn,hkm,hkp,hkc⟩=>?_
 simp only [maxLen] at hkm
 obtain ⟨d,hd⟩:∃ d,dI it=d:=⟨_,rfl⟩
 rw [hd] at hD0 hnew
 repeat' (first|(refine ab (hc:=hR) (hX:=fun w h=>h.1.2) ?_)|(refine ab (hc:=hS) (hX:=fun w h=>⟨⟨h.1.1.1,h.1.2⟩,h.2⟩) ?_)|(refine ab (hc:=hD0) (hX:=fun w h=>⟨h.1.2,h.2⟩) ?_)|refine gs ?_|refine gs1 fun _=>?_|(refine gp ?_ ?_<;>intro hx_ this)|fail)
 rename_i b2 b3 b4
 refine ar (ι:=AddI I) (fun i=>⟨[(2,.pointer (some ⟨b2,0,none⟩)),(3,.pointer (some ⟨b3,0,none⟩)),(4,.pointer (some ⟨b4,0,none⟩)),(6,.string d),(7,.int .i64 (addAt dI d I i.k:Nat)),(29,ki.v),(30,.int .i64 (ki.n:Nat)),(31,.int .i64 (i.k:Nat))],[cel b4 25 [.slice none 0 0,.slice none 0 0],cel b3 60 it.cells,cel b2 25 [ks.v,ki.v]],fun w=>((Y w∧Items w ki I)∧it.at_ w)∧Glob w⟩) (fun i=>I.length-i.k) ⟨0,Z4 _⟩ (aj ⟨rfl,rfl,rfl,rfl,(by show some (Value.int .i64 (ki.n:Nat))=_;rw [hkn];rfl),rfl,rfl,rfl,trivial⟩ (al _) fun _ h=>h) fun i=>?_
 obtain ⟨k,hk⟩:=i
 simp only
 repeat' (first|refine gs ?_|refine gs1 fun _=>?_|(refine gp ?_ ?_<;>intro hx_ this)|fail)
 · have hlt:k<I.length:=by omega
   have hkp':=hkp aa
   obtain ⟨x,hx⟩:∃ x,I[k]?=some x:=⟨_,Zb hlt⟩
   have hxm:=Z6 hx
   have hne:=hnew x hxm
   have hst:=vm dI d I k x hx
   generalize addAt dI d I k=at0 at *
   cases hg:gtB (dI x) d with
   | false =>
    rw [hg] at hst
    have hst:addAt dI d I (k+1)=at0:=hst
    have hat:decide ((at0:Int)=(ki.n:Int))=decide ((at0:Int)=(ki.n:Int)):=rfl
    repeat' (first|refine ai (dA false rfl rfl hne) rfl am rfl ?_|refine ai (mc _ rfl rfl hg) rfl am rfl ?_|refine ai (dS _ rfl rfl hat) rfl am rfl ?_|(refine ab (hc:=hD x hxm) (hX:=fun w h=>⟨h.1.1.2.2 x hxm,h.2⟩) ?_)|refine gs ?_|refine gs1 fun _=>?_|(refine aO (q:=k*49) ?_)|(refine ca (cs:=x.cells) (hF:=fun w h=>h.1.1.2.get hx) ?_)|(refine gp ?_ ?_<;>intro hx_ this)|fail)
    exact ⟨(⟨k+1,hlt⟩:AddI I),(by show I.length-(k+1)<I.length-k;omega),aj ⟨rfl,rfl,rfl,rfl,(by show _=some (Value.int .i64 (addAt dI d I (k+1):Nat));rw [hst];rfl),rfl,rfl,rfl,trivial⟩ (.cons _ (al _)) fun _ h=>h⟩
   | true =>
    by_cases ha:at0=I.length
    · rw [hg,Zd ha] at hst
      have hst:addAt dI d I (k+1)=k:=hst
      have hat:decide ((at0:Int)=(ki.n:Int))=true:=Zd aa
      repeat' (first|refine ai (dA false rfl rfl hne) rfl am rfl ?_|refine ai (mc _ rfl rfl hg) rfl am rfl ?_|refine ai (dS _ rfl rfl hat) rfl am rfl ?_|(refine ab (hc:=hD x hxm) (hX:=fun w h=>⟨h.1.1.2.2 x hxm,h.2⟩) ?_)|refine gs ?_|refine gs1 fun _=>?_|(refine aO (q:=k*49) ?_)|(refine ca (cs:=x.cells) (hF:=fun w h=>h.1.1.2.get hx) ?_)|(refine gp ?_ ?_<;>intro hx_ this)|fail)
      exact ⟨(⟨k+1,hlt⟩:AddI I),(by show I.length-(k+1)<I.length-k;omega),aj ⟨rfl,rfl,rfl,rfl,(by show _=some (Value.int .i64 (addAt dI d I (k+1):Nat));rw [hst];rfl),rfl,rfl,rfl,trivial⟩ (.cons _ (al _)) fun _ h=>h⟩
    · rw [hg,Zc ha] at hst
      have hst:addAt dI d I (k+1)=at0:=hst
      have hat:decide ((at0:Int)=(ki.n:Int))=false:=Zc aa
      repeat' (first|refine ai (dA false rfl rfl hne) rfl am rfl ?_|refine ai (mc _ rfl rfl hg) rfl am rfl ?_|refine ai (dS _ rfl rfl hat) rfl am rfl ?_|(refine ab (hc:=hD x hxm) (hX:=fun w h=>⟨h.1.1.2.2 x hxm,h.2⟩) ?_)|refine gs ?_|refine gs1 fun _=>?_|(refine aO (q:=k*49) ?_)|(refine ca (cs:=x.cells) (hF:=fun w h=>h.1.1.2.get hx) ?_)|(refine gp ?_ ?_<;>intro hx_ this)|fail)
      exact ⟨(⟨k+1,hlt⟩:AddI I),(by show I.length-(k+1)<I.length-k;omega),aj ⟨rfl,rfl,rfl,rfl,(by show _=some (Value.int .i64 (addAt dI d I (k+1):Nat));rw [hst];rfl),rfl,rfl,rfl,trivial⟩ (.cons _ (al _)) fun _ h=>h⟩
 have hkE:k=I.length:=by omega
 have hV:addV dI it I=I.take (addAt dI d I k)++it::I.drop (addAt dI d I k):=by rw [addV,hd,hkE]
 have hal:addAt dI d I k≤I.length:=by
  rcases CR dI d I k hk with h|h
  · omega
  · omega
 rw [hV]
 generalize addAt dI d I k=a0 at *
 have hones:∀ (J:List ItemD),∀ cs∈J.map ItemD.cells,cs.all (·.oneCell')=true:=fun J cs hcs=>by
  obtain ⟨x,_,rfl⟩:=QI.1 hcs
  rfl
 have hs1:∀ w,(((Y w∧Items w ki I)∧it.at_ w)∧Glob w)→Src Tryz.prog w 49 (.slice ki.p a0 ki.c) a0 ((I.take a0).map ItemD.cells).flatten:=fun w h=>by
  have h1:=RowsD.take (n:=a0) h.1.1.2.1 (by simpa using hal)
  rw [←List.map_take] at h1
  exact gw h1 (hones _)
 have hs2:∀ w,(((Y w∧Items w ki I)∧it.at_ w)∧Glob w)→Src Tryz.prog w 49 (ki.from 49 a0).v (ki.from 49 a0).n ((I.drop a0).map ItemD.cells).flatten:=fun w h=>by
  have h1:=RowsD.drop (n:=a0) h.1.1.2.1 (by simpa using hal)
  rw [←List.map_drop] at h1
  exact gw h1 (hones _)
 have hfn:(ki.from 49 a0).n=ki.n-a0:=rfl
 refine iR (c:=ki.n+1) (hm:=Nat.ble_eq_true_of_le aa) (hm2:=Nat.ble_eq_true_of_le aa) fun bv=>?_
 repeat' (first|refine gs ?_|refine gs1 fun _=>?_|(refine ai (tV rfl rfl aa aa) rfl rfl rfl ?_)|(refine gp ?_ ?_<;>intro hx_ this)|fail)
 refine aN (size:=49) (news:=((I.take a0).map ItemD.cells).flatten) (q:=a0) rfl rfl rfl rfl (fun _=>At.here _) (fun w G=>hs1 w G.keep.now) aa (by simp only [maxLen];omega) rfl ?_ rfl ?_
 · (first|with_reducible rfl|with_reducible assumption|with_reducible exact Zl|with_reducible exact Zn)
 intro A1 c1
 repeat' (first|refine du (size:=49) (vs:=[it.v]) (css:=it.cells) (hsz:=by rfl) (hcs:=by rfl) fun _=>?_|refine gs ?_|refine gs1 fun _=>?_|(refine gp ?_ ?_<;>intro hx_ this)|fail)
 refine aN (size:=49) (news:=it.cells) (q:=1) rfl rfl rfl rfl (fun _=>At.there _ (At.here _)) (fun w G=>bX G ax rfl rfl 1) aa (by simp only [maxLen];omega) rfl ?_ rfl ?_
 · (first|with_reducible rfl|with_reducible assumption|with_reducible exact Zl|with_reducible exact Zn)
 intro A2 c2
 repeat' (first|refine gs ?_|refine gs1 fun _=>?_|(refine ai (Fv (s:=ki) rfl rfl aa aa) rfl rfl rfl ?_)|(refine gp ?_ ?_<;>intro hx_ this)|fail)
 refine aN (size:=49) (news:=((I.drop a0).map ItemD.cells).flatten) (q:=ki.n-a0) rfl rfl rfl rfl (fun _=>At.there _ (At.here _)) (fun w G=>hs2 w G.keep.now) aa (by simp only [maxLen];omega) rfl ?_ rfl ?_
 · (first|with_reducible rfl|with_reducible assumption|with_reducible exact Zl|with_reducible exact Zn)
 intro A3 c3
 repeat' (first|refine gs ?_|refine gs1 fun _=>?_|(refine aF (cs:=[ks.v,.slice A3 (0+a0+1+(ki.n-a0)) c3]) (hf:=by rfl) ?_)|(refine gp ?_ ?_<;>intro hx_ this)|fail)
 refine ad (fi rfl rfl rfl bz (by rfl)) ⟨⟨A3,0+a0+1+(ki.n-a0),c3⟩,rfl,fun w h=>?_⟩
 have hr:=h.2 (orow 60 49 (.slice A3 (0+a0+1+(ki.n-a0)) c3) (0+a0+1+(ki.n-a0)) ([]++((I.take a0).map ItemD.cells).flatten++it.cells++((I.drop a0).map ItemD.cells).flatten)) bz
 refine ⟨ck (e:=60) (xs:=(I.take a0++it::I.drop a0).map ItemD.cells) ?_ (by simp [hkn];omega) fun r hr=>?_,fun x hx=>?_⟩
 · have e:((I.take a0++it::I.drop a0).map ItemD.cells).flatten=[]++((I.take a0).map ItemD.cells).flatten++it.cells++((I.drop a0).map ItemD.cells).flatten:=by simp
   rw [e]
   exact hr
 · obtain ⟨x,_,rfl⟩:=QI.1 hr
   rfl
 · rcases Qy.1 hx with hx|hx
   · exact h.1.1.1.2.2 x (List.mem_of_mem_take hx)
   · rcases ZI.1 hx with rfl|hx
     · exact h.1.1.2
     · exact h.1.1.1.2.2 x (List.mem_of_mem_drop hx)
end Go.Proofs.YtaolfiikahlmkaaGreatDoor
