/- Joined by program out of: Jt Jw Jx Zx ZlA ZmA ZnA Zy. -/
import Derived.Test.YtcdilibijnboeaaGreatDoorU10
set_option linter.unusedVariables false
set_option linter.unusedSimpArgs false
namespace Go.Proofs.YtcdilibijnboeaaGreatDoor
open Go Go.Proofs Sy
def actsFor (L:List ActD) (k:PosK):List ActD:=L.filter fun a=>decide (a.seq=k.1)&&seqB a.prev k.2
structure NextD (q:Nat) (G:List (PosK×SlV)) (L:List ActD) (w:World):Prop where
 map:SMapAt Tryz.prog 89 w q (G.map fun g=>(g.1,g.2.v))
 rows:∀ k,Acts w ((dget G k).getD ⟨none,0,0⟩) (actsFor L k)
theorem gy {κ β γ:Type} [DecidableEq κ] (f:β→γ):∀ (l:List (κ×β)) (k:κ),dget (l.map fun p=>(p.1,f p.2)) k=(dget l k).map f
 | [],_=>rfl
 | (k',v')::r,k=>by
  simp only [Qt,dget,gy f r k]
  cases decide (k=k')<;>rfl
theorem yd {st:ChS} {h:BldH} {sa sk:SlV} {id:ByteArray} (hid:h.id=id) (hn:sa.n=st.acts.length) (a:ActD) (pl:Option Nat):fitsV ⟨h.id,sa,sk,st.prev,(st.gen:Nat),h.fork,st.acts⟩ a pl=fitsV (st.ch id) a pl:=by
 subst hid
 obtain ⟨p,n,c⟩:=sa
 simp only at hn
 subst hn
 rfl
theorem mN (l:List KeyD):∀ r∈l.map KeyD.cells,r.length=3:=fun r hr=>by
 obtain ⟨c,_,rfl⟩:=List.mem_map.1 hr
 rfl
theorem mH {l:List ActD} (h:l.length≠1):oneA l=none:=by
 match l,h with
 | [],_=>rfl
 | [x],h=>exact absurd rfl h
 | x::y::r,_=>rfl
structure CanI (M:List ActD) (B:ActD→Bool) where
 k:Nat
 hk:k≤M.length
 A:Option Addr
 c:Nat
 n:Nat
 hn:n=((M.take k).filter B).length
 xs:List Value
 hxs:xs=(((M.take k).filter B).map ActD.cells).flatten
set_option maxHeartbeats 16000000 in
theorem og (b:Nat) (h:BldH) (sa sk:SlV) (st:ChS) (pl:List (ByteArray×Value)) (ok:BldOk sa sk st pl) (W:OfW) (G:List (PosK×SlV)) (hI:InvS W st) (hid:h.id=W.id)
  (hok:ActsOk W.L) (hL:W.L.length≤100000) (hB:W.B≤100000)
  (hver:∀ a∈W.L,∀ p:Int,Pu Tryz.prog 24 #[.int .i64 p,a.v] (fun w=>a.at_ w∧Glob w) (.bool (W.ver p a))) :
  Ct Tryz.prog 35 #[.pointer (some ⟨b,0,none⟩)] (bldR b h sa sk st pl) (fun w=>(NextD h.q1 G W.L w∧∀ a∈W.L,a.at_ w)∧Glob w)
   (fun u R _=>(∀ a,oneA (candL W st)=some a→BldAt b h (addS st a) (.bool true) u R)∧(oneA (candL W st)=none→BldAt b { h with fork:=decide (1<(candL W st).length) } st (.bool false) u R)):=by
 have hlen:=hI.len
 have hkn:=hI.keyn
 have hgen:=hI.gen
 have ok':=ok
 obtain ⟨hn,hk,hp⟩:=ok
 refine d7 (args:=[_]) _ Tryz.func35 rfl Tryz.ntmps35 rfl fun av bor w0=>?_
 obtain ⟨K,hK⟩:∃ K,st.keys[st.keys.length-1]?=some K:=⟨_,Zm (by have:=hI.key;omega)⟩
 have hKey:st.key=K.public_:=by rw [ChS.key,ZL,hK];rfl
 have hk0:=hI.key
 obtain ⟨M,hM⟩:∃ M,actsFor W.L ((sa.n:Int),st.prev)=M:=⟨_,rfl⟩
 have hcand:candL W st=M.filter (candB W st):=by rw [candL,←hM,actsFor,hn];rfl
 have hMm:∀ a∈M,a∈W.L:=fun a ha=>by rw [←hM] at ha;exact (List.mem_filter.1 ha).1
 have hMl:M.length≤W.L.length:=by rw [←hM];exact List.length_filter_le _ _
 obtain ⟨s,hs⟩:∃ s,(dget G ((sa.n:Int),st.prev)).getD ⟨none,0,0⟩=s:=⟨_,rfl⟩
 have hgl:∃ o,dget (G.map fun g=>(g.1,g.2.v)) ((sa.n:Int),st.prev)=o∧o.getD (.slice none 0 0)=s.v:=by
  refine ⟨_,rfl,?_⟩
  rw [gy,←hs]
  cases dget G ((sa.n:Int),st.prev)<;>rfl
 obtain ⟨o,ho,hov⟩:=hgl
 refine bI (p:=s.n=M.length∧s.n≤maxLen∧(0<M.length→s.p.isSome=true)) (fun w h=>by
  have h1:=h.1.1.rows ((sa.n:Int),st.prev)
  rw [hs,hM] at h1
  exact ⟨h1.len_,h1.max_,h1.some_⟩) fun ⟨hsn,hsm,hsp⟩=>?_
 simp only [maxLen] at hsm
 have hro:∀ w,((NextD h.q1 G W.L w∧∀ a∈W.L,a.at_ w)∧Glob w)→Acts w s M:=fun w h=>by
  have h1:=h.1.1.rows ((sa.n:Int),st.prev)
  rwa [hs,hM] at h1
 unfold bldR keyR actR
 refine cN (r:=orow 35 3 (.slice sk.p sk.n sk.c) sk.n (st.keys.map KeyD.cells).flatten) bX (p:=sk.p.isSome=true) (fun w h=>cE h ae) fun hkp=>?_
 repeat' (first|apply ab|apply Qu|apply Qv|refine ad ?_|refine cu ?_|refine aA ?_|refine az ?_|refine aN fun _=>?_|fail)
 rename_i b1
 have hLOC:True:=trivial
 (refine aU [cel b1 83 [.pointer (some ⟨b,0,none⟩)],cel b 87 (bldC h sa sk st.prev (st.gen:Nat)),orow 46 20 (.slice sa.p sa.n sa.c) sa.n (st.acts.map ActD.cells).flatten,orow 35 3 (.slice sk.p sk.n sk.c) sk.n (st.keys.map KeyD.cells).flatten,mapr h.q2 pl] (fun w=>(NextD h.q1 G W.L w∧∀ a∈W.L,a.at_ w)∧Glob w) ak ?_)
 all_goals refine ap 0 ?_<;>refine ap 1 ?_<;>refine ap 2 ?_<;>refine ap 3 ?_<;>refine ap 4 ?_<;>refine ap 5 ?_<;>refine ap 6 ?_<;>refine ap 7 ?_<;>refine ap 8 ?_<;>refine ap 9 ?_<;>(refine ap 10 (hy:=by (apply aL (q:=(sk.n-1)*3);rfl;rfl;omega;omega;assumption;omega)) ?_)<;>(refine ap 11 (hy:=by (apply cV;rfl;assumption;rfl)) ?_)<;>(refine ap 12 (hy:=by (apply fR (xs:=st.keys.map KeyD.cells) (cs:=K.cells) (i:=sk.n-1) (j:=1) (u:=.int .i64 K.public_);rfl;(repeat (first|exact aI|apply ZS));(simp [hk]);exact mN st.keys;(simp [hk,hK]);rfl)) ?_)<;>refine ap 13 ?_<;>(refine ax ?_)
 repeat' (first|apply ab|apply Qu|apply Qv|refine ad ?_|(refine dU ?_)|fail)
 (refine aU [cel b1 83 [.pointer (some ⟨b,0,none⟩)],cel b 87 (bldC h sa sk st.prev (st.gen:Nat)),orow 46 20 (.slice sa.p sa.n sa.c) sa.n (st.acts.map ActD.cells).flatten,orow 35 3 (.slice sk.p sk.n sk.c) sk.n (st.keys.map KeyD.cells).flatten,mapr h.q2 pl] (fun w=>(NextD h.q1 G W.L w∧∀ a∈W.L,a.at_ w)∧Glob w) ak ?_)
 all_goals refine ap 0 ?_<;>refine ap 1 ?_<;>refine ap 2 ?_<;>refine ap 3 ?_<;>refine ap 4 ?_<;>refine ap 5 ?_<;>refine ap 6 ?_<;>refine ap 7 ?_<;>refine ap 8 ?_<;>refine ap 9 ?_<;>refine ap 10 ?_<;>refine ap 11 ?_<;>refine ap 12 ?_<;>(refine ap 13 (hy:=by (apply cd (cs:=[.int .i64 (sa.n:Nat),.string st.prev]);rfl;rfl)) ?_)<;>refine ap 16 ?_<;>(refine ag 14 ?_;(refine am (mq (κ:=PosK) (kk:=((sa.n:Int),st.prev)) (z:=.slice none 0 0) (o:=o) (v:=s.v) rfl rfl (oR fun w h=>h.1.1.map) ho hov) rfl rfl rfl ?_);apply ab;refine dT ?_)<;>refine ap 15 ?_<;>(refine ax ?_)
 apply Qw
 refine cU 46 20 ?_
 refine aT (ι:=CanI M (candB W st)) (fun i=>⟨[(1,.pointer (some ⟨b1,0,none⟩)),(3,.pointer (some ⟨b,2,none⟩)),(4,.int .i64 K.public_),(5,.func (.func 66) #[] #[.pointer (some ⟨b1,0,none⟩)]),(6,.slice i.A i.n i.c),(40,s.v),(41,.int .i64 (s.n:Nat)),(42,.int .i64 (i.k:Nat))],[orow 46 20 (.slice i.A i.n i.c) i.n i.xs,cel b1 83 [.pointer (some ⟨b,0,none⟩)],cel b 87 (bldC h sa sk st.prev (st.gen:Nat)),orow 46 20 (.slice sa.p sa.n sa.c) sa.n (st.acts.map ActD.cells).flatten,orow 35 3 (.slice sk.p sk.n sk.c) sk.n (st.keys.map KeyD.cells).flatten,mapr h.q2 pl],(fun w=>(NextD h.q1 G W.L w∧∀ a∈W.L,a.at_ w)∧Glob w)⟩) (fun i=>M.length-i.k) ⟨0,Nat.zero_le _,none,0,0,rfl,[],rfl⟩ (aw ⟨rfl,rfl,rfl,rfl,rfl,rfl,rfl,rfl,trivial⟩ (aE _) fun _ h=>h) fun i=>?_
 obtain ⟨k,hk',A,cc,n,hn',xs,hxs⟩:=i
 simp only
 have hnl:n≤100000:=by have h1:=List.length_filter_le (candB W st) (M.take k);rw [←hn',List.length_take] at h1;omega
 repeat' (first|apply ab|apply Qu|apply Qv|refine aj ?_|refine ad ?_|refine cu ?_|refine aA ?_|refine dJ ?_|refine bj ?_|refine cK ?_|refine aY ?_|refine bc ?_|apply Qx|apply Qw|apply ar|apply aQ|(refine aG (ht:=?_) (hf:=?_);all_goals (intro hx_;first|have:=aP hx_|have:=aS hx_|skip)))
 · have hlt:k<M.length:=by omega
   have hsp':=hsp ae
   obtain ⟨a,ha⟩:∃ a,M[k]?=some a:=⟨_,Zm hlt⟩
   have ham:a∈M:=List.mem_of_getElem? ha
   repeat' (first|apply ab|apply Qu|refine aM fun _=>?_|refine aJ ?_|(refine bu (q:=k*20) ?_)|(refine co (cs:=a.cells) (hF:=fun w h=>Acts.get (hro w h) ha) ?_)|fail)
   rename_i b8
   have hf:=sU ⟨h.id,sa,sk,st.prev,(st.gen:Nat),h.fork,st.acts⟩ a 66 [.pointer (some ⟨b1,0,none⟩)] (idxV st.acts a.object) _ (yr b b1 h sa sk st pl hp a.object) (fun j hj=>sP hj)
   rw [yd hid hn] at hf
   have hXf:∀ w,((NextD h.q1 G W.L w∧∀ a∈W.L,a.at_ w)∧Glob w)→(∀ r∈[cel b8 46 a.cells,orow 46 20 (.slice A n cc) n xs,cel b1 83 [.pointer (some ⟨b,0,none⟩)],cel b 87 (bldC h sa sk st.prev (st.gen:Nat)),orow 46 20 (.slice sa.p sa.n sa.c) sa.n (st.acts.map ActD.cells).flatten,orow 35 3 (.slice sk.p sk.n sk.c) sk.n (st.keys.map KeyD.cells).flatten,mapr h.q2 pl],r.F w)→(ChainD.at_ w ⟨h.id,sa,sk,st.prev,(st.gen:Nat),h.fork,st.acts⟩∧a.at_ w∧CelD b1 [.pointer (some ⟨b,0,none⟩)] w∧CelD b (bldC h sa sk st.prev (st.gen:Nat)) w∧MapAt w h.q2 pl):=fun w hw hr =>
    ⟨eX (hr _ (.tail _ (.tail _ (.tail _ (.tail _ (.head _)))))) hn (fun x hx=>hw.1.2 x (hI.mem x hx)),hw.1.2 a (hMm a ham),eW (hr _ (.tail _ (.tail _ (.head _)))),eW (hr _ (.tail _ (.tail _ (.tail _ (.head _))))),hr _ (.tail _ (.tail _ (.tail _ (.tail _ (.tail _ (.tail _ (.head _)))))))⟩
   have hv:=hver a (hMm a ham) K.public_
   have htk:((M.take (k+1)).filter (candB W st))=(M.take k).filter (candB W st)++(bif candB W st a then [a] else []):=by
    rw [List.take_add_one,ha,List.filter_append,Option.toList_some]
    congr 1
   have hcb:candB W st a=(fitsV (st.ch W.id) a (idxV st.acts a.object)&&W.ver K.public_ a):=by rw [candB,hKey]
   cases hfv:fitsV (st.ch W.id) a (idxV st.acts a.object) with
   | false =>
    rw [hfv] at hf hcb
    have hno:(M.take (k+1)).filter (candB W st)=(M.take k).filter (candB W st):=by simp [htk,hcb]
    (refine aU [cel b8 46 a.cells,orow 46 20 (.slice A n cc) n xs,cel b1 83 [.pointer (some ⟨b,0,none⟩)],cel b 87 (bldC h sa sk st.prev (st.gen:Nat)),orow 46 20 (.slice sa.p sa.n sa.c) sa.n (st.acts.map ActD.cells).flatten,orow 35 3 (.slice sk.p sk.n sk.c) sk.n (st.keys.map KeyD.cells).flatten,mapr h.q2 pl] (fun w=>(NextD h.q1 G W.L w∧∀ a∈W.L,a.at_ w)∧Glob w) ak ?_)
    all_goals refine ap 0 ?_<;>refine ap 1 ?_<;>(refine ap 2 (hy:=by (apply cF (vs:=[.string h.id,.slice sa.p sa.n sa.c,.slice sk.p sk.n sk.c,.string st.prev,.int .i64 (st.gen:Nat),.bool h.fork]);rfl;(repeat (first|exact aI|apply ZS));rfl;rfl)) ?_)<;>refine ap 3 ?_<;>refine ap 4 ?_<;>(refine ag 5 ?_;(refine kU (hc:=hf) (hX:=hXf) ?_);apply ab;refine dT ?_)<;>refine ap 6 ?_<;>refine mX 7 ?_<;>refine mX 8 ?_<;>(refine ag 9 ?_;(refine aK ?_);apply ab;refine dT ?_)<;>refine ap 10 ?_<;>(refine ax ?_)
    all_goals
     repeat' (first|apply ab|apply Qv|refine aj ?_|refine be (h:=?_)|refine Qz ?_|apply Qx|fail)
     exact ⟨(⟨k+1,hlt,A,cc,n,by rw [hno];exact hn',xs,by rw [hno];exact hxs⟩:CanI M (candB W st)),(by show M.length-(k+1)<M.length-k;omega),aw ⟨rfl,rfl,rfl,rfl,rfl,rfl,rfl,rfl,trivial⟩ (List.Sublist.cons _ (aE _)) fun _ h=>h⟩
   | true =>
    rw [hfv] at hf hcb
    cases hve:W.ver K.public_ a with
    | false =>
     rw [hve] at hv hcb
     have hno:(M.take (k+1)).filter (candB W st)=(M.take k).filter (candB W st):=by simp [htk,hcb]
     (refine aU [cel b8 46 a.cells,orow 46 20 (.slice A n cc) n xs,cel b1 83 [.pointer (some ⟨b,0,none⟩)],cel b 87 (bldC h sa sk st.prev (st.gen:Nat)),orow 46 20 (.slice sa.p sa.n sa.c) sa.n (st.acts.map ActD.cells).flatten,orow 35 3 (.slice sk.p sk.n sk.c) sk.n (st.keys.map KeyD.cells).flatten,mapr h.q2 pl] (fun w=>(NextD h.q1 G W.L w∧∀ a∈W.L,a.at_ w)∧Glob w) ak ?_)
     all_goals refine ap 0 ?_<;>refine ap 1 ?_<;>(refine ap 2 (hy:=by (apply cF (vs:=[.string h.id,.slice sa.p sa.n sa.c,.slice sk.p sk.n sk.c,.string st.prev,.int .i64 (st.gen:Nat),.bool h.fork]);rfl;(repeat (first|exact aI|apply ZS));rfl;rfl)) ?_)<;>refine ap 3 ?_<;>refine ap 4 ?_<;>(refine ag 5 ?_;(refine kU (hc:=hf) (hX:=hXf) ?_);apply ab;refine dT ?_)<;>refine ap 6 ?_<;>refine ap 7 ?_<;>refine ap 8 ?_<;>(refine ag 9 ?_;(refine ao (hc:=hv) (hX:=fun w h=>⟨h.1.2 a (hMm a ham),h.2⟩) ?_);apply ab;refine dT ?_)<;>refine ap 10 ?_<;>(refine ax ?_)
     all_goals
      repeat' (first|apply ab|apply Qv|refine aj ?_|refine be (h:=?_)|refine Qz ?_|apply Qx|fail)
      exact ⟨(⟨k+1,hlt,A,cc,n,by rw [hno];exact hn',xs,by rw [hno];exact hxs⟩:CanI M (candB W st)),(by show M.length-(k+1)<M.length-k;omega),aw ⟨rfl,rfl,rfl,rfl,rfl,rfl,rfl,rfl,trivial⟩ (List.Sublist.cons _ (aE _)) fun _ h=>h⟩
    | true =>
     rw [hve] at hv hcb
     have hyes:(M.take (k+1)).filter (candB W st)=(M.take k).filter (candB W st)++[a]:=by rw [htk,hcb];rfl
     (refine aU [cel b8 46 a.cells,orow 46 20 (.slice A n cc) n xs,cel b1 83 [.pointer (some ⟨b,0,none⟩)],cel b 87 (bldC h sa sk st.prev (st.gen:Nat)),orow 46 20 (.slice sa.p sa.n sa.c) sa.n (st.acts.map ActD.cells).flatten,orow 35 3 (.slice sk.p sk.n sk.c) sk.n (st.keys.map KeyD.cells).flatten,mapr h.q2 pl] (fun w=>(NextD h.q1 G W.L w∧∀ a∈W.L,a.at_ w)∧Glob w) ak ?_)
     all_goals refine ap 0 ?_<;>refine ap 1 ?_<;>(refine ap 2 (hy:=by (apply cF (vs:=[.string h.id,.slice sa.p sa.n sa.c,.slice sk.p sk.n sk.c,.string st.prev,.int .i64 (st.gen:Nat),.bool h.fork]);rfl;(repeat (first|exact aI|apply ZS));rfl;rfl)) ?_)<;>refine ap 3 ?_<;>refine ap 4 ?_<;>(refine ag 5 ?_;(refine kU (hc:=hf) (hX:=hXf) ?_);apply ab;refine dT ?_)<;>refine ap 6 ?_<;>refine ap 7 ?_<;>refine ap 8 ?_<;>(refine ag 9 ?_;(refine ao (hc:=hv) (hX:=fun w h=>⟨h.1.2 a (hMm a ham),h.2⟩) ?_);apply ab;refine dT ?_)<;>refine ap 10 ?_<;>(refine ax ?_)
     all_goals
      repeat' (first|refine bF (size:=20) (vs:=[a.v]) (css:=a.cells) (hsz:=by rfl) (hcs:=by rfl) fun _=>?_|apply Qv|refine aj ?_|refine aH ?_|refine Qy ?_|fail)
      refine aV (size:=20) (news:=a.cells) (q:=1) rfl rfl rfl rfl (fun _=>At.there _ (At.there _ (At.here _))) (fun w G=>bo G aI rfl rfl 1) ae (by simp only [maxLen];omega) rfl ?_ rfl ?_
      · (with_reducible rfl)
      intro A2 c2
      repeat' (first|apply ab|apply Qv|refine aj ?_|refine ad ?_|refine be (h:=?_)|fail)
      exact ⟨(⟨k+1,hlt,A2,c2,n+1,by rw [hyes,ZX,←hn'];rfl,xs++a.cells,by rw [hyes,hxs];simp⟩:CanI M (candB W st)),(by show M.length-(k+1)<M.length-k;omega),aw ⟨rfl,rfl,rfl,rfl,rfl,rfl,rfl,rfl,trivial⟩ (List.Sublist.cons _ (List.Sublist.cons _ (aE _))) fun _ h=>h⟩
 have hkE:k=M.length:=by omega
 have hfin:candL W st=(M.take k).filter (candB W st):=by rw [hcand,hkE,List.take_length]
 have hnc:n=(candL W st).length:=by rw [hfin];exact hn'
 · have hn1:n≠1:=by
    intro e
    rw [e] at hx_
    exact absurd hx_ (by decide)
   have hone:oneA (candL W st)=none:=mH ae
   have hdc:decide ((1:Int)<(n:Int))=decide (1<(candL W st).length):=by
    rw [←hnc]
    by_cases h1:1<n
    · rw [ZA h1,ZA (by omega)]
    · rw [Zn h1,Zn (by omega)]
   refine al (aq rfl rfl) ⟨bldR b { h with fork:=decide ((1:Int)<(n:Int)) } sa sk st pl,List.Sublist.cons _ (List.Sublist.cons _ (aE _)),fun a ha=>?_,fun _=>?_⟩
   · rw [hone] at ha
     cases ha
   · rw [←hdc]
     exact ⟨rfl,sa,sk,pl,ok',rfl⟩
 have hkE:k=M.length:=by omega
 have hfin:candL W st=(M.take k).filter (candB W st):=by rw [hcand,hkE,List.take_length]
 have hnc:n=(candL W st).length:=by rw [hfin];exact hn'
 have hn1:n=1:=by
  by_cases e:n=1
  · exact e
  · exact absurd hx_ (by simp;omega)
 obtain ⟨a,ha⟩:∃ a,candL W st=[a]:=List.length_eq_one_iff.1 ae
 have ham:a∈W.L:=(iE (show a∈candL W st from by rw [ha];exact List.mem_singleton.2 rfl)).1
 have hxa:xs=a.cells:=by rw [hxs,←hfin,ha];simp
 subst hxa
 subst hn1
 refine cN (r:=orow 46 20 (.slice A 1 cc) 1 a.cells) bX (p:=A.isSome=true) (fun w h=>cE h (by decide)) fun hAp=>?_
 have had:=yB b h sa sk st pl ok' a (hok.rng a ham) (hok.sm a ham) ae ae
 (refine aU [] (fun _=>True) ak ?_)
 all_goals refine aa 1 ?_<;>(refine aa 2 (hy:=by (apply aL (q:=0);rfl;rfl;omega;omega;assumption;rfl)) ?_)<;>(refine bx 0 3 (h:=?_) (h':=?_);(focus (((refine az ?_);apply ab;refine ai ?_);all_goals ((refine ag 3 ?_;(refine am (fQ (size:=20) (m:=1) (i:=0) (xs:=[a.cells]) (cs:=a.cells) rfl (by exact aI) rfl (fun r hr=>by rw [List.mem_singleton.1 hr];rfl) rfl) rfl rfl rfl ?_);apply ab;refine ai ?_);all_goals (refine ag 4 ?_;(refine dB (l:=bldR b h sa sk st pl++[orow 46 20 (.slice A 1 cc) 1 a.cells,cel b1 83 [.pointer (some ⟨b,0,none⟩)]]) (List.perm_append_comm (l₁:=[orow 46 20 (.slice A 1 cc) 1 a.cells,cel b1 83 [.pointer (some ⟨b,0,none⟩)]]) (l₂:=bldR b h sa sk st pl)) ?_;refine cG (pre:=bldR b h sa sk st pl) (fr:=[orow 46 20 (.slice A 1 cc) 1 a.cells,cel b1 83 [.pointer (some ⟨b,0,none⟩)]]) (first:=#[]) (caps:=#[]) (hc:=had) (hX:=fun w hw=>⟨hw.1.2 a ham,hw.2⟩) (h:=?_);rintro v R X' ⟨rfl,sa2,sk2,pl2,ok2,rfl⟩;simp only [bldR,Qa,Qb]);apply ab;refine ai ?_);all_goals (refine ax ?_))));rotate_right;(focus (((refine am (fQ (size:=20) (m:=1) (i:=0) (xs:=[a.cells]) (cs:=a.cells) rfl (by exact aI) rfl (fun r hr=>by rw [List.mem_singleton.1 hr];rfl) rfl) rfl rfl rfl ?_);apply ab;refine ai ?_);all_goals ((refine ag 0 ?_;(refine az ?_);apply ab;refine ai ?_);all_goals (refine ag 4 ?_;(refine dB (l:=bldR b h sa sk st pl++[orow 46 20 (.slice A 1 cc) 1 a.cells,cel b1 83 [.pointer (some ⟨b,0,none⟩)]]) (List.perm_append_comm (l₁:=[orow 46 20 (.slice A 1 cc) 1 a.cells,cel b1 83 [.pointer (some ⟨b,0,none⟩)]]) (l₂:=bldR b h sa sk st pl)) ?_;refine cG (pre:=bldR b h sa sk st pl) (fr:=[orow 46 20 (.slice A 1 cc) 1 a.cells,cel b1 83 [.pointer (some ⟨b,0,none⟩)]]) (first:=#[]) (caps:=#[]) (hc:=had) (hX:=fun w hw=>⟨hw.1.2 a ham,hw.2⟩) (h:=?_);rintro v R X' ⟨rfl,sa2,sk2,pl2,ok2,rfl⟩;simp only [bldR,Qa,Qb]);apply ab;refine ai ?_);all_goals (refine ax ?_)))))
 all_goals
  repeat' (first|apply ab|apply Qu|apply Qv|refine ad ?_|apply ar|fail)
  refine al (aq rfl rfl) ⟨bldR b h sa2 sk2 (addS st a) pl2,List.sublist_append_left _ _,fun a' ha'=>?_,fun ho=>?_⟩
  · rw [ha,oneA,Qc] at ha'
    subst ha'
    exact ⟨rfl,sa2,sk2,pl2,ok2,rfl⟩
  · rw [ha] at ho
    cases ho
end Go.Proofs.YtcdilibijnboeaaGreatDoor
namespace Go.Proofs.YtcdilibijnboeaaGreatDoor
open Go Go.Proofs Sy
structure Grp where
 s:SlV
 l:List ActD
def grpR (g:PosK×Grp):Res:=actR g.2.s g.2.l
theorem p6 {κ β γ:Type} [DecidableEq κ] (f:β→γ):∀ (l:List (κ×β)) (k:κ) (v:β),(dput l k v).map (fun p=>(p.1,f p.2))=dput (l.map fun p=>(p.1,f p.2)) k (f v)
 | [],_,_=>rfl
 | (k',v')::r,k,v=>by
  simp only [dput,Qt,←p6 f r k v]
  cases decide (k=k')<;>rfl
theorem pT {κ β:Type} [DecidableEq κ] (R:κ×β→Res):∀ (G:List (κ×β)) (k:κ),∃ rest:List Res,(∀ g',((dput G k g').map R).Perm (R (k,g')::rest))∧(∀ g,dget G k=some g→(G.map R).Perm (R (k,g)::rest))∧(dget G k=none→rest=G.map R)
 | [],k=>⟨[],fun g'=>List.Perm.refl _,fun g h=>(by cases h),fun _=>rfl⟩
 | (k',v')::r,k=>by
  by_cases e:k=k'
  · subst e
    refine ⟨r.map R,fun g'=>?_,fun g h=>?_,fun h=>?_⟩
    · simp [dput]
    · simp only [dget,ZQ,ZC,Qc] at h
      subst h
      exact List.Perm.refl _
    · simp [dget] at h
  · obtain ⟨rest,h1,h2,h3⟩:=pT R r k
    refine ⟨R (k',v')::rest,fun g'=>?_,fun g h=>?_,fun h=>?_⟩
    · have:=(h1 g').cons (R (k',v'))
      simp only [dput,e,ZO,ZB,Qt]
      exact this.trans (List.Perm.swap _ _ _)
    · simp only [dget,e,ZO,ZB] at h
      exact ((h2 g h).cons (R (k',v'))).trans (List.Perm.swap _ _ _)
    · simp only [dget,e,ZO,ZB] at h
      rw [h3 h]
      rfl
theorem permG {x O:Res} {C rest R:List Res} (h:R.Perm (O::rest)):(x::O::(C++rest)).Perm (x::(C++R)):=((List.perm_middle.symm).trans (h.symm.append_left C)).cons x
theorem permH {c m sm c4:Res} {R:List Res}:([c,m,sm,c4]++R).Perm ((sm::R)++[c,m,c4]):=(List.perm_middle (l₁:=[c,m])).trans (List.Perm.cons sm (List.perm_append_comm (l₁:=[c,m,c4])))
theorem permK {an kb o c m c4:Res}:[an,kb,o,c,m,c4].Perm [c,an,kb,m,o,c4]:=(List.perm_middle (l₁:=[an,kb,o])).trans (.cons _ (.cons _ (.cons _ (.swap _ _ _))))
def grpL (o:Option Grp):List ActD:=(o.map Grp.l).getD []
def grpS (o:Option Grp):SlV:=(o.map Grp.s).getD ⟨none,0,0⟩
structure GrpOk (G:List (PosK×Grp)) (L:List ActD):Prop where
 all:∀ k,grpL (dget G k)=actsFor L k
 len:∀ k g,dget G k=some g→g.s.n=g.l.length
theorem ox (L:List ActD) (a:ActD) (k:PosK):actsFor (L++[a]) k=actsFor L k++(bif decide (k=((a.seq,a.prev):PosK)) then [a] else []):=by
 rw [actsFor,actsFor,List.filter_append]
 congr 1
 obtain ⟨n,p⟩:=k
 by_cases h1:a.seq=n
 · by_cases h2:a.prev=p
   · subst h1;subst h2;simp [List.filter,bL]
   · have hb:seqB a.prev p=false:=by
      cases h:seqB a.prev p with
      | false=>rfl
      | true=>exact absurd (seqB_iff.1 h) h2
     have hne:¬ ((n,p):PosK)=(a.seq,a.prev):=fun e=>h2 (congrArg Prod.snd e).symm
     simp [List.filter,hb,hne]
 · have hne:¬ ((n,p):PosK)=(a.seq,a.prev):=fun e=>h1 (congrArg Prod.fst e).symm
   simp [List.filter,h1,hne]
theorem GrpOk.step {G:List (PosK×Grp)} {L:List ActD} (h:GrpOk G L) (a:ActD) (s':SlV) (hs:s'.n=(grpL (dget G ((a.seq,a.prev):PosK))).length+1) :
  GrpOk (dput G ((a.seq,a.prev):PosK) ⟨s',grpL (dget G ((a.seq,a.prev):PosK))++[a]⟩) (L++[a]):=by
 refine ⟨fun k=>?_,fun k g hg=>?_⟩
 · rw [ox,jn]
   by_cases e:k=((a.seq,a.prev):PosK)
   · subst e
     simp only [ZQ,ZC]
     rw [←h.all]
     rfl
   · rw [Zn e,ZB,ZB,Z9]
     exact h.all k
 · rw [jn] at hg
   by_cases e:k=((a.seq,a.prev):PosK)
   · subst e
     simp only [ZQ,ZC,Qc] at hg
     subst hg
     rw [ZX]
     exact hs
   · rw [Zn e,ZB] at hg
     exact h.len k g hg
namespace Sy
section
variable {P:Program} {N:Nat} {av bor:List Nat} {w0:World} {E:Env} {loc:List Res} {X:World→Prop} {K:Exit→St→Prop} {c:Code}
theorem Gam.giveL {w:World}:∀ (L:List Res) {X:World→Prop},Gam av bor w0 (L++loc) X w→Gam av bor w0 loc (fun w=>X w∧∀ r∈L,r.F w) w
  | [],X,G=>G.imp fun _ h=>⟨h,by simp⟩
  | r :: L,X,G=>(Gam.giveL L (Gam.give (r:=r) (loc:=L++loc) G)).imp fun w h=>⟨h.1.1,fun q hq=>by
      rcases List.mem_cons.1 hq with rfl|hq
      · exact h.1.2
      · exact h.2 q hq⟩
theorem wT {ops:Array Oper} {rest:List Oper} {k:St→Prop} (L:List Res) (h:Sw P N av bor w0 ops rest ⟨E,loc,fun w=>X w∧∀ r∈L,r.F w⟩ k):Sw P N av bor w0 ops rest ⟨E,L++loc,X⟩ k:=Sw.mk fun a w ok=>h.run a w (ok.via fun M G=>by
 rw [ZZ] at G
 exact G.giveL L)
theorem yp {b e:Nat} {cs:List Value} (size m:Nat) (hl:cs.length=m*size:=by rfl) (hm:m≤maxLen) (h:Cw P N av bor w0 c ⟨E,orow e size (.slice (some ⟨b,0,none⟩) m m) m cs::loc,X⟩ K):Cw P N av bor w0 c ⟨E,cel b e cs::loc,X⟩ K:=Cw.mk fun a w ok=>h.run a w (ok.via fun M G=>G.orow hl hm)
theorem lO {l:List Res} (hs:loc.Perm l) (h:Cw P N av bor w0 c ⟨E,l,X⟩ K):Cw P N av bor w0 c ⟨E,loc,X⟩ K:=Cw.mk fun a w ok=>h.run a w (ok.via fun M G=>G.perm (hs.append_right M))
end
end Sy
section
variable {N:Nat} {av bor:List Nat} {w0:World} {E:Env} {X:World→Prop} {K:Exit→St→Prop} {c:Code}
theorem Ci {G:List (PosK×Grp)} {k:PosK} {rest:List Res} (C:List Res) (h2:∀ g,dget G k=some g→(G.map grpR).Perm (grpR (k,g)::rest)) (h3:dget G k=none→rest=G.map grpR)
  (h:Cw Tryz.prog N av bor w0 c ⟨E,actR (grpS (dget G k)) (grpL (dget G k))::(C++rest),X⟩ K):Cw Tryz.prog N av bor w0 c ⟨E,C++G.map grpR,X⟩ K:=by
 cases hd:dget G k with
 | none =>
  rw [hd,h3 hd] at h
  exact cU 46 20 h
 | some g =>
  rw [hd] at h
  exact lO (((h2 g hd).append_left C).trans List.perm_middle) h
end
theorem zY {q:Nat} {G:List (PosK×Grp)} {L:List ActD} (h:GrpOk G L) {w:World} (hm:SMapAt Tryz.prog 89 w q (G.map fun g=>(g.1,g.2.s.v))) (hr:∀ r∈G.map grpR,r.F w) (ha:∀ a∈L,a.at_ w) :
  NextD q (G.map fun g=>(g.1,g.2.s)) L w:=by
 refine ⟨by rw [Qs];exact hm,fun k=>?_⟩
 rw [gy,←h.all k]
 have hsub:∀ a∈grpL (dget G k),a.at_ w:=fun a h1=>by
  rw [h.all k] at h1
  exact ha a (List.mem_filter.1 h1).1
 cases hd:dget G k with
 | none=>exact ⟨cD w 20,fun a h=>by cases h⟩
 | some g =>
  rw [hd] at hsub
  have hg:=hr (grpR (k,g)) (List.mem_map_of_mem (p7 hd))
  exact eX hg (h.len k g hd) hsub
end Go.Proofs.YtcdilibijnboeaaGreatDoor
namespace Go.Proofs.YtcdilibijnboeaaGreatDoor
open Go Go.Proofs Sy
def OfW.at (W:OfW) (L:List ActD):OfW:={ W with L:=L }
def OfRes (W:OfW) (st:ChS) (fork:Bool):Prop:=match oneA (firstL W) with
 | some a=>st=finS W a∧fork=decide (1<(candL W (finS W a)).length)
 | none=>st=⟨[],[],⟨#[]⟩,0⟩∧fork=decide (1<(firstL W).length)
def OfAt19 (W:OfW) (PL:List ActD→Prop) (u:Value) (X:World→Prop):Prop:=∃ (L:List ActD) (sa sk:SlV) (st:ChS) (fork:Bool),PL L∧OfRes (W.at L) st fork∧u=(⟨W.id,sa,sk,st.prev,(st.gen:Nat),fork,st.acts⟩:ChainD).v∧∀ w,X w→Acts w sa st.acts∧Keyz w sk st.keys
structure OfHyp (ks ki:SlV) (W:OfW) (PL:List ActD→Prop) (Y:World→Prop):Prop where
 acts:Mk Tryz.prog 26 #[.agg #[ks.v,ki.v],.string W.id] (fun w=>Y w∧Glob w) (fun u X'=>∃ (s:SlV) (L:List ActD),u=s.v∧PL L∧∀ w,X' w→Acts w s L)
 ok:∀ L,PL L→ActsOk L∧L.length≤100000
 bB:W.B≤100000
 won:∀ g:Nat,g≤W.B→Pu Tryz.prog 51 #[.agg #[ks.v,ki.v],.string W.id,.int .i64 (g:Nat)] (fun w=>Y w∧Glob w) (.tuple #[((W.won g).getD ClaimD.zero).v,.bool (W.won g).isSome])
 bnd:∀ g c,W.won g=some c→g<W.B
 clm:∀ g c,W.won g=some c→∀ p:Int,Pu Tryz.prog 52 #[.int .i64 p,c.v] (fun w=>Y w∧Glob w) (.bool (W.clm p c))
 dg:∀ g c,W.won g=some c→Pu Tryz.prog 14 #[(ofClaimI c).v] (fun w=>Y w∧Glob w) (.string (W.dgC c))
 ver:∀ L,PL L→∀ a∈L,∀ p:Int,Pu Tryz.prog 24 #[.int .i64 p,a.v] (fun w=>a.at_ w∧Glob w) (.bool (W.ver p a))
def chZ (id:ByteArray):List Value:=[.string id,.slice none 0 0,.slice none 0 0,.string ⟨#[]⟩,.int .i64 0,.bool false]
def bldH0 (ks ki:SlV) (id:ByteArray) (q1 q2:Nat):BldH:=⟨ks,ki,id,false,q1,q2,ClaimD.zero,false⟩
structure GroI (L:List ActD) where
 k:Nat
 hk:k≤L.length
 G:List (PosK×Grp)
 hG:GrpOk G (L.take k)
theorem pu {ks ki:SlV} {W:OfW} {PL:List ActD→Prop} {Y:World→Prop} (H:OfHyp ks ki W PL Y) (L:List ActD) (b q1 q2:Nat) (sa sk:SlV) (st:ChS) (pl:List (ByteArray×Value)) (ok:BldOk sa sk st pl)
  (hl:st.acts.length≤1000000) (hl2:st.keys.length≤1000000) :
  Ct Tryz.prog 34 #[.pointer (some ⟨b,0,none⟩)] (bldR b ((bldH0 ks ki W.id q1 q2).look (W.won st.gen)) sa sk st pl) (fun w=>Y w∧Glob w)
   (fun u R _=>(∀ s,regS (W.at L) st=some s→BldAt b ((bldH0 ks ki W.id q1 q2).look (W.won s.gen)) s (.bool true) u R)∧(regS (W.at L) st=none→BldAt b ((bldH0 ks ki W.id q1 q2).look (W.won st.gen)) st (.bool false) u R)):=by
 have hwA:(W.at L).won=W.won:=rfl
 cases hw:W.won st.gen with
 | none =>
  refine (l8 b ((bldH0 ks ki W.id q1 q2).look none) sa sk st pl ok rfl _).mono fun v R X' h=>⟨fun s hs=>?_,fun _=>h⟩
  rw [regS,hwA,hw] at hs
  cases hs
 | some c =>
  have hg:=H.bnd _ _ hw
  have hB:=H.bB
  refine (l5 b ((bldH0 ks ki W.id q1 q2).look (some c)) sa sk st pl ok (W.at L) c hw rfl rfl Y hl hl2 ae (H.clm _ _ hw) (H.dg _ _ hw) (H.won (st.gen+1) hg)).mono fun v R X' h=>⟨fun s hs=>?_,h.2⟩
  obtain ⟨_,_,_,e,_⟩:=mE hs
  rw [e]
  exact h.1 s hs
structure RunI (W:OfW) (a:ActD) where
 st:ChS
 sa:SlV
 sk:SlV
 pl:List (ByteArray×Value)
 ok:BldOk sa sk st pl
 inv:InvS W st
 j:Nat
 hj:muS W st≤j
 hr:runS W j st=finS W a
theorem RunI.next {W:OfW} (hB:∀ g c,W.won g=some c→g<W.B) {a:ActD} {st s:ChS} {j:Nat} (hI:InvS W st) (hj:muS W st≤j) (hr:runS W j st=finS W a) (hs:stepS W st=some s):InvS W s∧muS W s<muS W st∧muS W s≤j-1∧runS W (j-1) s=finS W a:=by
 obtain ⟨h1,h2⟩:=ig hB hI hs
 cases j with
 | zero=>omega
 | succ j=>exact ⟨h1,by omega,by rw [Nat.add_sub_cancel];omega,by rw [k7 hs] at hr;exact hr⟩
set_option maxHeartbeats 16000000 in
theorem zW (ks ki:SlV) (W:OfW) (PL:List ActD→Prop) (Y:World→Prop) (H:OfHyp ks ki W PL Y) :
  Mk Tryz.prog 9 #[.agg #[ks.v,ki.v],.string W.id] (fun w=>Y w∧Glob w) (OfAt19 W PL):=by
 refine cA (args:=[_,_]) _ Tryz.func9 rfl Tryz.ntmps9 rfl fun av bor w0=>?_
 repeat' (first|refine br (cs:=chZ W.id) (hf:=by rfl) ?_|apply ab|apply Qu|apply Qv|refine aj ?_|refine aH ?_|refine aM fun _=>?_|refine aN fun _=>?_|fail)
 refine oO PosK 89 (h:=fun q1=>?_)
 refine kV ByteArray (h:=fun q2=>?_)
 repeat' (first|refine br (cs:=bldC (bldH0 ks ki W.id q1 q2) ⟨none,0,0⟩ ⟨none,0,0⟩ ⟨#[]⟩ ((0:Nat):Int)) (hf:=by rfl) ?_|apply ab|apply Qu|apply Qv|refine aj ?_|refine ad ?_|refine aH ?_|refine aY ?_|refine aN fun _=>?_|apply Qw|(refine dA (hc:=H.acts) (hX:=fun w h=>h) fun v1 X1 h1=>?_;obtain ⟨s,L,rfl,hPL,hw1⟩:=h1)|fail)
 rename_i b2 b4 b
 refine bI (p:=s.n=L.length∧s.n≤maxLen∧(0<L.length→s.p.isSome=true)) (fun w h=>⟨(hw1 w h.2).len_,(hw1 w h.2).max_,(hw1 w h.2).some_⟩) fun ⟨hsn,hsm,hsp⟩=>?_
 simp only [maxLen] at hsm
 obtain ⟨hok,hL⟩:=H.ok L hPL
 refine aT (ι:=GroI L) (fun i=>⟨[(1,.string W.id),(4,.pointer (some ⟨b4,0,none⟩)),(5,.pointer (some ⟨b,0,none⟩)),(21,s.v),(22,.int .i64 (s.n:Nat)),(23,.int .i64 (i.k:Nat))],[cel b 87 (bldC (bldH0 ks ki W.id q1 q2) ⟨none,0,0⟩ ⟨none,0,0⟩ ⟨#[]⟩ ((0:Nat):Int)),mapr q2 ([]:List (ByteArray×Value)),smapr Tryz.prog 89 q1 (i.G.map fun g=>(g.1,g.2.s.v)),cel b4 31 (chZ ⟨#[]⟩)]++i.G.map grpR,fun w=>(Y w∧Glob w)∧X1 w⟩) (fun i=>L.length-i.k) ⟨0,Nat.zero_le _,[],⟨fun _=>rfl,fun _ _ h=>by cases h⟩⟩ ?_ fun i=>?_
 · exact aw ⟨rfl,rfl,rfl,rfl,rfl,rfl,trivial⟩ (.cons_cons _ (.cons_cons _ (.cons_cons _ (.cons_cons _ (ZR _))))) fun _ h=>h
 obtain ⟨k,hk,G,hG⟩:=i
 simp only
 repeat' (first|apply ab|apply Qu|apply Qv|refine aj ?_|refine ad ?_|refine cu ?_|refine aA ?_|refine az ?_|refine bj ?_|apply Qx|apply Qw|apply aQ|(refine aG (ht:=?_) (hf:=?_);all_goals (intro hx_;first|have:=aP hx_|have:=aS hx_)))
 · have hlt:k<L.length:=by omega
   have hsp':=hsp ae
   obtain ⟨a,ha⟩:∃ a,L[k]?=some a:=⟨_,Zm hlt⟩
   have ham:=List.mem_of_getElem? ha
   repeat' (first|apply ab|apply Qu|apply Qv|refine aA ?_|refine az ?_|refine aM fun _=>?_|refine aJ ?_|(refine bu (q:=k*20) ?_)|(refine co (cs:=a.cells) (hF:=fun w h=>Acts.get (hw1 w h.2) ha) ?_)|(refine br (cs:=[.int .i64 a.seq,.string a.prev]) (hf:=by rfl) ?_)|fail)
   rename_i b7 b8
   obtain ⟨rest,hp1,hp2,hp3⟩:=pT grpR G ((a.seq,a.prev):PosK)
   obtain ⟨l,hl⟩:∃ l,grpL (dget G ((a.seq,a.prev):PosK))=l:=⟨_,rfl⟩
   have hns:(grpS (dget G ((a.seq,a.prev):PosK))).n=l.length:=by
    rw [←hl]
    cases hd:dget G ((a.seq,a.prev):PosK) with
    | none=>rfl
    | some g=>exact hG.len _ g hd
   have hll:l.length≤100000:=by
    rw [←hl,hG.all]
    have h1:=List.length_filter_le (fun x:ActD=>decide (x.seq=a.seq)&&seqB x.prev a.prev) (L.take k)
    rw [List.length_take] at h1
    exact Qq h1 ae
   have hof:(dget (G.map fun g=>(g.1,g.2.s.v)) ((a.seq,a.prev):PosK)).getD (.slice none 0 0)=(grpS (dget G ((a.seq,a.prev):PosK))).v:=by
    rw [gy (fun g:Grp=>g.s.v)]
    cases dget G ((a.seq,a.prev):PosK)<;>rfl
   have hst:=fun (s':SlV) (h:s'.n=l.length+1)=>hG.step a s' (by rw [hl];exact h)
   rw [hl] at hst
   obtain ⟨⟨A,n,c⟩,hs⟩:∃ s',grpS (dget G ((a.seq,a.prev):PosK))=s':=⟨_,rfl⟩
   rw [hs] at hns hof
   simp only at hns
   refine Ci (k:=((a.seq,a.prev):PosK)) (rest:=rest) [cel b8 89 [.int .i64 a.seq,.string a.prev],cel b7 46 a.cells,cel b 87 (bldC (bldH0 ks ki W.id q1 q2) ⟨none,0,0⟩ ⟨none,0,0⟩ ⟨#[]⟩ ((0:Nat):Int)),mapr q2 ([]:List (ByteArray×Value)),smapr Tryz.prog 89 q1 (G.map fun g=>(g.1,g.2.s.v)),cel b4 31 (chZ ⟨#[]⟩)] hp2 hp3 ?_
   rw [hs,hl]
   unfold actR
   simp only [Qa,Qb]
   (refine aU [cel b8 89 [.int .i64 a.seq,.string a.prev],cel b7 46 a.cells,cel b 87 (bldC (bldH0 ks ki W.id q1 q2) ⟨none,0,0⟩ ⟨none,0,0⟩ ⟨#[]⟩ ((0:Nat):Int))] (fun w=>(Y w∧Glob w)∧X1 w) ak ?_)
   all_goals refine aa 0 ?_<;>refine aa 1 ?_<;>refine aa 2 ?_<;>refine aa 3 ?_<;>refine aa 4 ?_<;>refine aa 5 ?_<;>(refine ag 6 ?_;(refine bF (size:=20) (vs:=[a.v]) (css:=a.cells) (hsz:=by rfl) (hcs:=by rfl) fun _=>?_);apply ab;refine ai ?_)<;>(refine ag 7 ?_;(refine nw (κ:=PosK) (kk:=((a.seq,a.prev):PosK)) (z:=.slice none 0 0) (u:=.slice A n c) rfl rfl rfl hof (fun _=>At.there _ (At.there _ (At.there _ (At.there _ (At.there _ (At.there _ (At.here _))))))) rfl rfl rfl (fun _=>?_));apply ab;refine ai ?_)<;>refine aa 8 ?_<;>refine aa 10 ?_<;>(refine ag 9 ?_;(refine aV (size:=20) (news:=a.cells) (q:=1) rfl rfl rfl rfl (fun _=>At.there _ (At.here _)) (fun w G=>bo G aI rfl rfl 1) ae (by simp only [maxLen];omega) rfl ?_ rfl ?_;(with_reducible rfl);intro A2 c2);apply ab;refine ai ?_)<;>(refine ag 11 ?_;(refine kW (κ:=PosK) (kk:=((a.seq,a.prev):PosK)) rfl rfl rfl (At.there _ (At.there _ (At.there _ (At.there _ (At.there _ (At.there _ (At.here _))))))) rfl rfl rfl ?_);apply ab;refine ai ?_)<;>(refine ax ?_)
   all_goals
    have hmp:dput (dput (G.map fun g=>(g.1,g.2.s.v)) ((a.seq,a.prev):PosK) (.slice A n c)) ((a.seq,a.prev):PosK) (.slice A2 (n+1) c2)=(dput G ((a.seq,a.prev):PosK) ⟨⟨A2,n+1,c2⟩,l++[a]⟩).map (fun g=>(g.1,g.2.s.v)):=by
     rw [jk]
     exact (p6 (fun g:Grp=>g.s.v) G ((a.seq,a.prev):PosK) ⟨⟨A2,n+1,c2⟩,l++[a]⟩).symm
    have hfl:((l++[a]).map ActD.cells).flatten=(l.map ActD.cells).flatten++a.cells:=by simp
    rw [hmp,←hfl]
    refine lO (permG (C:=[cel b8 89 [.int .i64 a.seq,.string a.prev],cel b7 46 a.cells,cel b 87 (bldC (bldH0 ks ki W.id q1 q2) ⟨none,0,0⟩ ⟨none,0,0⟩ ⟨#[]⟩ ((0:Nat):Int)),mapr q2 ([]:List (ByteArray×Value)),smapr Tryz.prog 89 q1 ((dput G ((a.seq,a.prev):PosK) ⟨⟨A2,n+1,c2⟩,l++[a]⟩).map (fun g=>(g.1,g.2.s.v))),cel b4 31 (chZ ⟨#[]⟩)]) (hp1 ⟨⟨A2,n+1,c2⟩,l++[a]⟩)) ?_
    repeat' (first|apply ab|apply Qv|refine aj ?_|refine be (h:=?_)|fail)
    exact ⟨(⟨k+1,hlt,dput G ((a.seq,a.prev):PosK) ⟨⟨A2,n+1,c2⟩,l++[a]⟩,by rw [List.take_add_one,ha];exact hst _ (by show n+1=_;rw [hns])⟩:GroI L),(by show L.length-(k+1)<L.length-k;omega),aw ⟨rfl,rfl,rfl,rfl,rfl,rfl,trivial⟩ (.cons _ (.cons _ (.cons _ (aE _)))) fun w h=>h⟩
 have hkE:k=L.length:=by omega
 rw [hkE,List.take_length] at hG
 refine dB permH ?_
 refine wT _ ?_
 refine cS (X':=fun w=>(Y w∧Glob w)∧(NextD q1 (G.map fun g=>(g.1,g.2.s)) L w∧∀ a∈L,a.at_ w)) (fun w h=>⟨h.1.1,zY hG (h.2 _ (.head _)) (fun r hr=>h.2 r (.tail _ hr)) (hw1 w h.1.2).2,(hw1 w h.1.2).2⟩) ?_
 clear hsp hsn hk
 obtain ⟨M,hM⟩:∃ M,actsFor L ((0:Int),⟨#[]⟩)=M:=⟨_,rfl⟩
 have hfl:firstL (W.at L)=M.filter (firstB (W.at L)):=by rw [←hM];rfl
 have hMm:∀ a∈M,a∈L:=fun a ha=>by rw [←hM] at ha;exact (List.mem_filter.1 ha).1
 have hMl:M.length≤L.length:=by rw [←hM];exact List.length_filter_le _ _
 obtain ⟨G',hG'⟩:∃ G',(G.map fun g=>(g.1,g.2.s))=G':=⟨_,rfl⟩
 rw [hG']
 obtain ⟨s0,hs0⟩:∃ s0,(dget G' ((0:Int),⟨#[]⟩)).getD ⟨none,0,0⟩=s0:=⟨_,rfl⟩
 have hgl:∃ o,dget (G'.map fun g=>(g.1,g.2.v)) ((0:Int),⟨#[]⟩)=o∧o.getD (.slice none 0 0)=s0.v:=by
  refine ⟨_,rfl,?_⟩
  rw [gy,←hs0]
  cases dget G' ((0:Int),⟨#[]⟩)<;>rfl
 obtain ⟨o,ho,hov⟩:=hgl
 have hro:∀ w,((Y w∧Glob w)∧(NextD q1 G' L w∧∀ a∈L,a.at_ w))→Acts w s0 M:=fun w h=>by
  have h1:=h.2.1.rows ((0:Int),⟨#[]⟩)
  rwa [hs0,hM] at h1
 repeat' (first|apply ab|refine aj ?_|refine aY ?_|apply Qw|(refine br (cs:=[.int .i64 0,.string ⟨#[]⟩]) (hf:=by rfl) ?_)|(refine am (mq (κ:=PosK) (kk:=((0:Int),⟨#[]⟩)) (z:=.slice none 0 0) (o:=o) (v:=s0.v) rfl rfl (oR fun w h=>h.2.1.map) ho hov) rfl rfl rfl ?_)|fail)
 refine bI (p:=s0.n=M.length∧s0.n≤maxLen∧(0<M.length→s0.p.isSome=true)) (fun w h=>⟨(hro w h).len_,(hro w h).max_,(hro w h).some_⟩) fun ⟨hsn,hsm,hsp⟩=>?_
 simp only [maxLen] at hsm
 refine cU 46 20 ?_
 refine aT (ι:=CanI M (firstB (W.at L))) (fun i=>⟨[(1,.string W.id),(4,.pointer (some ⟨b4,0,none⟩)),(5,.pointer (some ⟨b,0,none⟩)),(9,.slice i.A i.n i.c),(49,s0.v),(50,.int .i64 (s0.n:Nat)),(51,.int .i64 (i.k:Nat))],[orow 46 20 (.slice i.A i.n i.c) i.n i.xs,cel b 87 (bldC (bldH0 ks ki W.id q1 q2) ⟨none,0,0⟩ ⟨none,0,0⟩ ⟨#[]⟩ ((0:Nat):Int)),mapr q2 ([]:List (ByteArray×Value)),cel b4 31 (chZ ⟨#[]⟩)],fun w=>(Y w∧Glob w)∧(NextD q1 G' L w∧∀ a∈L,a.at_ w)⟩) (fun i=>M.length-i.k) ⟨0,Nat.zero_le _,none,0,0,rfl,[],rfl⟩ (aw ⟨rfl,rfl,rfl,rfl,rfl,rfl,rfl,trivial⟩ (aE _) fun _ h=>h) fun i=>?_
 clear hkE this
 obtain ⟨k,hk',A,cc,n,hn',xs,hxs⟩:=i
 simp only
 have hnl:n≤100000:=by have h1:=List.length_filter_le (firstB (W.at L)) (M.take k);rw [←hn',List.length_take] at h1;omega
 repeat' (first|apply ab|apply Qu|apply Qv|refine aj ?_|refine cu ?_|refine aA ?_|refine dJ ?_|refine bj ?_|refine cK ?_|refine aY ?_|refine bc ?_|apply Qx|apply Qw|apply aQ|(refine aG (ht:=?_) (hf:=?_);all_goals (intro hx_;first|have:=aP hx_|have:=aS hx_|skip)))
 · have hlt:k<M.length:=by omega
   have hsp':=hsp ae
   obtain ⟨a,ha⟩:∃ a,M[k]?=some a:=⟨_,Zm hlt⟩
   have ham:a∈M:=List.mem_of_getElem? ha
   have hamL:=hMm a ham
   have hnn:a.n<9223372036854775808:=(hok.rng a hamL).ints.2.2.2.2.2.1
   have hv:=H.ver L hPL a hamL a.n
   have htk:((M.take (k+1)).filter (firstB (W.at L)))=(M.take k).filter (firstB (W.at L))++(bif firstB (W.at L) a then [a] else []):=by
    rw [List.take_add_one,ha,List.filter_append,Option.toList_some]
    congr 1
   have hfb:firstB (W.at L) a=(decide (a.kind=0)&&seqB (idV a.n) W.id&&W.ver a.n a):=rfl
   by_cases h0:a.kind=0
   · cases hid:seqB (idV a.n) W.id with
     | false =>
      have hno:(M.take (k+1)).filter (firstB (W.at L))=(M.take k).filter (firstB (W.at L)):=by simp [htk,hfb,hid]
      repeat' (first|refine bm (hab:=h0) ?_|refine am (dj _ rfl rfl hid) rfl aB rfl ?_|apply ab|apply Qu|apply Qv|refine aj ?_|refine aA ?_|refine az ?_|refine aD ?_|refine aF ?_|refine be (h:=?_)|refine aK ?_|refine aM fun _=>?_|refine aJ ?_|refine Qz ?_|apply Qx|(refine bu (q:=k*20) ?_)|(refine co (cs:=a.cells) (hF:=fun w h=>Acts.get (hro w h) ha) ?_)|(refine ao (hc:=ga a.n hnn) (hX:=fun w h=>h.1.2) ?_)|fail)
      exact ⟨(⟨k+1,hlt,A,cc,n,by rw [hno];exact hn',xs,by rw [hno];exact hxs⟩:CanI M (firstB (W.at L))),(by show M.length-(k+1)<M.length-k;omega),aw ⟨rfl,rfl,rfl,rfl,rfl,rfl,rfl,trivial⟩ (List.Sublist.cons _ (aE _)) fun _ h=>h⟩
     | true =>
      cases hve:W.ver a.n a with
      | false =>
       rw [hve] at hv
       have hno:(M.take (k+1)).filter (firstB (W.at L))=(M.take k).filter (firstB (W.at L)):=by simp [htk,hfb,hve]
       repeat' (first|refine bm (hab:=h0) ?_|refine am (dj _ rfl rfl hid) rfl aB rfl ?_|apply ab|apply Qu|apply Qv|refine aj ?_|refine aA ?_|refine az ?_|refine aH ?_|refine aD ?_|refine be (h:=?_)|refine aM fun _=>?_|refine aJ ?_|refine Qz ?_|apply Qx|(refine bu (q:=k*20) ?_)|(refine co (cs:=a.cells) (hF:=fun w h=>Acts.get (hro w h) ha) ?_)|(refine ao (hc:=ga a.n hnn) (hX:=fun w h=>h.1.2) ?_)|(refine ao (hc:=hv) (hX:=fun w h=>⟨h.2.2 a hamL,h.1.2⟩) ?_)|fail)
       exact ⟨(⟨k+1,hlt,A,cc,n,by rw [hno];exact hn',xs,by rw [hno];exact hxs⟩:CanI M (firstB (W.at L))),(by show M.length-(k+1)<M.length-k;omega),aw ⟨rfl,rfl,rfl,rfl,rfl,rfl,rfl,trivial⟩ (List.Sublist.cons _ (aE _)) fun _ h=>h⟩
      | true =>
       rw [hve] at hv
       have hyes:(M.take (k+1)).filter (firstB (W.at L))=(M.take k).filter (firstB (W.at L))++[a]:=by rw [htk,hfb,hid,hve,ZA h0];rfl
       repeat' (first|refine bF (size:=20) (vs:=[a.v]) (css:=a.cells) (hsz:=by rfl) (hcs:=by rfl) fun _=>?_|refine bm (hab:=h0) ?_|refine am (dj _ rfl rfl hid) rfl aB rfl ?_|apply ab|apply Qu|apply Qv|refine aj ?_|refine aA ?_|refine az ?_|refine aH ?_|refine aD ?_|refine aM fun _=>?_|refine aJ ?_|refine Qy ?_|(refine bu (q:=k*20) ?_)|(refine co (cs:=a.cells) (hF:=fun w h=>Acts.get (hro w h) ha) ?_)|(refine ao (hc:=ga a.n hnn) (hX:=fun w h=>h.1.2) ?_)|(refine ao (hc:=hv) (hX:=fun w h=>⟨h.2.2 a hamL,h.1.2⟩) ?_)|fail)
       refine aV (size:=20) (news:=a.cells) (q:=1) rfl rfl rfl rfl (fun _=>At.there _ (At.there _ (At.here _))) (fun w G=>bo G aI rfl rfl 1) ae (by simp only [maxLen];omega) rfl ?_ rfl ?_
       · (with_reducible rfl)
       intro A2 c2
       repeat' (first|apply ab|apply Qv|refine aj ?_|refine ad ?_|refine be (h:=?_)|fail)
       exact ⟨(⟨k+1,hlt,A2,c2,n+1,by rw [hyes,ZX,←hn'];rfl,xs++a.cells,by rw [hyes,hxs];simp⟩:CanI M (firstB (W.at L))),(by show M.length-(k+1)<M.length-k;omega),aw ⟨rfl,rfl,rfl,rfl,rfl,rfl,rfl,trivial⟩ (List.Sublist.cons _ (List.Sublist.cons _ (aE _))) fun _ h=>h⟩
   · have hno:(M.take (k+1)).filter (firstB (W.at L))=(M.take k).filter (firstB (W.at L)):=by simp [htk,hfb,h0]
     repeat' (first|refine bt (hab:=h0) ?_|apply ab|apply Qu|apply Qv|refine aj ?_|refine aA ?_|refine az ?_|refine aF ?_|refine be (h:=?_)|refine aK ?_|refine aM fun _=>?_|refine aJ ?_|refine Qz ?_|apply Qx|(refine bu (q:=k*20) ?_)|(refine co (cs:=a.cells) (hF:=fun w h=>Acts.get (hro w h) ha) ?_)|fail)
     exact ⟨(⟨k+1,hlt,A,cc,n,by rw [hno];exact hn',xs,by rw [hno];exact hxs⟩:CanI M (firstB (W.at L))),(by show M.length-(k+1)<M.length-k;omega),aw ⟨rfl,rfl,rfl,rfl,rfl,rfl,rfl,trivial⟩ (List.Sublist.cons _ (aE _)) fun _ h=>h⟩
 have hkE:k=M.length:=by omega
 have hfin:firstL (W.at L)=(M.take k).filter (firstB (W.at L)):=by rw [hfl,hkE,List.take_length]
 have hnc:n=(firstL (W.at L)).length:=by rw [hfin];exact hn'
 · have hn1:n≠1:=by
    intro e
    rw [e] at hx_
    exact absurd hx_ (by decide)
   have hone:oneA (firstL (W.at L))=none:=mH ae
   have hdc:decide ((1:Int)<(n:Int))=decide (1<(firstL (W.at L)).length):=by
    rw [←hnc]
    by_cases h1:1<n
    · rw [ZA h1,ZA (by omega)]
    · rw [Zn h1,Zn (by omega)]
   repeat' (first|apply ab|refine aJ ?_|apply ar|(refine aW (vs:=[.string W.id,.slice none 0 0,.slice none 0 0,.string ⟨#[]⟩,.int .i64 0,.bool (decide ((1:Int)<(n:Int)))]) (hv:=rfl) ?_)|fail)
   exact al (dm rfl rfl bX (by rfl)) ⟨L,⟨none,0,0⟩,⟨none,0,0⟩,⟨[],[],⟨#[]⟩,0⟩,decide ((1:Int)<(n:Int)),hPL,(by rw [OfRes,hone];exact ⟨rfl,hdc⟩),rfl,fun w h=>⟨⟨cD w 20,fun a h=>by cases h⟩,cD w 3⟩⟩
 have hkE:k=M.length:=by omega
 have hfin:firstL (W.at L)=(M.take k).filter (firstB (W.at L)):=by rw [hfl,hkE,List.take_length]
 have hnc:n=(firstL (W.at L)).length:=by rw [hfin];exact hn'
 have hn1:n=1:=by
  by_cases e:n=1
  · exact e
  · exact absurd hx_ (by simp;omega)
 obtain ⟨a,ha⟩:∃ a,firstL (W.at L)=[a]:=List.length_eq_one_iff.1 ae
 have ham:a∈firstL (W.at L):=by rw [ha];exact List.mem_singleton.2 rfl
 have hamL:a∈L:=hMm a (by rw [hfl] at ham;exact (List.mem_filter.1 ham).1)
 have hxa:xs=a.cells:=by rw [hxs,←hfin,ha];simp
 subst hxa
 subst hn1
 refine cN (r:=orow 46 20 (.slice A 1 cc) 1 a.cells) bX (p:=A.isSome=true) (fun w h=>cE h (by decide)) fun hAp=>?_
 have hcr:orow 46 20 (.slice A 1 cc) 1 a.cells∈[orow 46 20 (.slice A 1 cc) 1 a.cells]:=.head _
 (refine aU [orow 46 20 (.slice A 1 cc) 1 a.cells] (fun w=>(Y w∧Glob w)∧(NextD q1 G' L w∧∀ a∈L,a.at_ w)) ak ?_)
 all_goals refine aa 0 ?_<;>refine aa 1 ?_<;>(refine aa 2 (hy:=by (apply aL (q:=0);rfl;rfl;omega;omega;assumption;rfl)) ?_)<;>(refine aa 3 (hy:=by (apply cV;rfl;assumption;rfl)) ?_)<;>(refine aa 4 (hy:=by (apply fR (size:=20) (i:=0) (j:=16) (xs:=[a.cells]) (cs:=a.cells) (u:=.int .i64 a.n);rfl;exact .head _;rfl;exact (fun r hr=>by rw [List.mem_singleton.1 hr];rfl);rfl;rfl)) ?_)<;>refine aa 5 ?_<;>(refine aa 6 (hy:=by (apply aL (q:=0);rfl;rfl;omega;omega;assumption;rfl)) ?_)<;>(refine aa 7 (hy:=by (apply cV;rfl;assumption;rfl)) ?_)<;>(refine aa 8 (hy:=by (apply fR (size:=20) (i:=0) (j:=17) (xs:=[a.cells]) (cs:=a.cells) (u:=.int .i64 a.m);rfl;exact .head _;rfl;exact (fun r hr=>by rw [List.mem_singleton.1 hr];rfl);rfl;rfl)) ?_)<;>(refine aa 9 (hy:=by (apply cd (cs:=KeyD.cells ⟨0,a.n,a.m⟩);rfl;rfl)) ?_)<;>(refine ag 10 ?_;(refine bF (size:=3) (vs:=[KeyD.v ⟨0,a.n,a.m⟩]) (css:=KeyD.cells ⟨0,a.n,a.m⟩) (hsz:=by rfl) (hcs:=by rfl) fun bk=>?_);apply ab;refine ai ?_)<;>refine aa 11 ?_<;>refine aa 12 ?_<;>refine aa 13 ?_<;>(refine ag 14 ?_;(refine bc ?_);apply ab;refine ai ?_)<;>(refine ax ?_)
 refine yp 3 1 rfl (by decide) ?_
 refine cU 46 20 ?_
 refine lO permK ?_
 have hadd:=yB b (bldH0 ks ki W.id q1 q2) ⟨none,0,0⟩ ⟨some ⟨bk,0,none⟩,1,1⟩ (⟨[],[⟨0,a.n,a.m⟩],⟨#[]⟩,0⟩:ChS) [] ⟨rfl,rfl,fun d=>rfl⟩ a (hok.rng a hamL) (hok.sm a hamL) (by simp) (by simp)
 repeat' (first|apply Qu|apply Qv|refine aj ?_|(refine bu (q:=0) ?_)|(refine am (fQ (size:=20) (m:=1) (i:=0) (xs:=[a.cells]) (cs:=a.cells) rfl (.tail _ (.tail _ (.tail _ (.tail _ (.head _))))) rfl (fun r hr=>by rw [List.mem_singleton.1 hr];rfl) rfl) rfl rfl rfl ?_)|fail)
 refine cG (pre:=bldR b (bldH0 ks ki W.id q1 q2) ⟨none,0,0⟩ ⟨some ⟨bk,0,none⟩,1,1⟩ (⟨[],[⟨0,a.n,a.m⟩],⟨#[]⟩,0⟩:ChS) []) (fr:=[orow 46 20 (.slice A 1 cc) 1 a.cells,cel b4 31 (chZ ⟨#[]⟩)]) (first:=#[]) (caps:=#[]) (hc:=hadd) (hX:=fun w h=>⟨h.2.2 a hamL,h.1.2⟩) (h:=?_)
 rintro v R X' ⟨rfl,sa,sk,pl,ok,rfl⟩
 refine cS (X':=fun w=>(Y w∧Glob w)∧(NextD q1 G' L w∧∀ a∈L,a.at_ w)) (fun w h=>h.1) ?_
 repeat' (first|apply ab|apply Qu|apply Qv|refine aj ?_|fail)
 have hlook:=sK b (bldH0 ks ki W.id q1 q2) sa sk (begS a) (W.won 0) (fun w=>Y w∧Glob w) (H.won 0 (Nat.zero_le _))
 refine cG (pre:=[bldCel b (bldH0 ks ki W.id q1 q2) sa sk (begS a)]) (fr:=[actR sa (begS a).acts,keyR sk (begS a).keys,mapr q2 pl,orow 46 20 (.slice A 1 cc) 1 a.cells,cel b4 31 (chZ ⟨#[]⟩)]) (first:=#[]) (caps:=#[]) (hc:=hlook) (hX:=fun w h=>h.1) (h:=?_)
 rintro v R X' ⟨rfl,rfl⟩
 repeat' (first|apply ab|apply Qu|apply Qw|fail)
 have hbI:=oq ham
 refine aT (ι:=RunI (W.at L) a) (fun i=>⟨[(4,.pointer (some ⟨b4,0,none⟩)),(5,.pointer (some ⟨b,0,none⟩))],bldR b ((bldH0 ks ki W.id q1 q2).look (W.won i.st.gen)) i.sa i.sk i.st i.pl++[cel b4 31 (chZ ⟨#[]⟩)],fun w=>(Y w∧Glob w)∧(NextD q1 G' L w∧∀ a∈L,a.at_ w)⟩) (fun i=>muS (W.at L) i.st) ⟨begS a,sa,sk,pl,ok,hbI.1,L.length+W.B,Nat.le_of_succ_le hbI.2,rfl⟩ (aw ⟨rfl,rfl,trivial⟩ (.cons_cons _ (.cons_cons _ (.cons_cons _ (.cons_cons _ (.cons _ (aE _)))))) fun w h=>h.1) fun i=>?_
 clear ok hlook hadd
 obtain ⟨st,sa2,sk2,pl2,ok2,inv,j,hj,hr⟩:=i
 simp only
 have hlen:=inv.len
 have hlen':st.acts.length≤L.length:=hlen
 have hkn:=inv.keyn
 have hgn:st.gen≤W.B:=inv.gen
 have hbB:=H.bB
 have hreg:=pu H L b q1 q2 sa2 sk2 st pl2 ok2 ae ae
 repeat' (first|apply Qu|apply Qv|refine aj ?_|fail)
 refine cG (pre:=bldR b ((bldH0 ks ki W.id q1 q2).look (W.won st.gen)) sa2 sk2 st pl2) (fr:=[cel b4 31 (chZ ⟨#[]⟩)]) (first:=#[]) (caps:=#[]) (hc:=hreg) (hX:=fun w h=>h.1) (h:=?_)
 rintro v R X' ⟨h1,h2⟩
 refine cS (X':=fun w=>(Y w∧Glob w)∧(NextD q1 G' L w∧∀ a∈L,a.at_ w)) (fun w h=>h.1) ?_
 cases hrg:regS (W.at L) st with
 | some s1 =>
  obtain ⟨rfl,sa3,sk3,pl3,ok3,rfl⟩:=h1 s1 hrg
  have hstep:stepS (W.at L) st=some s1:=by rw [stepS,hrg]
  obtain ⟨n1,n2,n3,n4⟩:=RunI.next (W:=W.at L) H.bnd inv hj hr hstep
  repeat' (first|apply ab|refine aj ?_|refine aD ?_|refine cb ?_|refine Qy ?_|apply Qx|apply Qw|fail)
  exact ⟨(⟨s1,sa3,sk3,pl3,ok3,n1,j-1,n3,n4⟩:RunI (W.at L) a),n2,aw ⟨rfl,rfl,trivial⟩ (aE _) fun w h=>h⟩
 | none =>
  obtain ⟨rfl,sa3,sk3,pl3,ok3,rfl⟩:=h2 hrg
  have hct:=og b ((bldH0 ks ki W.id q1 q2).look (W.won st.gen)) sa3 sk3 st pl3 ok3 (W.at L) G' inv rfl hok hL H.bB (H.ver L hPL)
  repeat' (first|refine aj ?_|fail)
  refine cG (pre:=bldR b ((bldH0 ks ki W.id q1 q2).look (W.won st.gen)) sa3 sk3 st pl3) (fr:=[cel b4 31 (chZ ⟨#[]⟩)]) (first:=#[]) (caps:=#[]) (hc:=hct) (hX:=fun w h=>⟨h.2,h.1.2⟩) (h:=?_)
  rintro v R X' ⟨g1,g2⟩
  refine cS (X':=fun w=>(Y w∧Glob w)∧(NextD q1 G' L w∧∀ a∈L,a.at_ w)) (fun w h=>h.1) ?_
  cases ho2:oneA (candL (W.at L) st) with
  | some a2 =>
   obtain ⟨rfl,sa4,sk4,pl4,ok4,rfl⟩:=g1 a2 ho2
   have hstep:stepS (W.at L) st=some (addS st a2):=by rw [stepS,hrg,ho2];rfl
   obtain ⟨n1,n2,n3,n4⟩:=RunI.next (W:=W.at L) H.bnd inv hj hr hstep
   repeat' (first|apply ab|refine aF ?_|refine Qy ?_|apply Qx|apply Qw|fail)
   exact ⟨(⟨addS st a2,sa4,sk4,pl4,ok4,n1,j-1,n3,n4⟩:RunI (W.at L) a),n2,aw ⟨rfl,rfl,trivial⟩ (aE _) fun w h=>h⟩
  | none =>
   obtain ⟨rfl,sa4,sk4,pl4,ok4,rfl⟩:=g2 ho2
   have hstep:stepS (W.at L) st=none:=by rw [stepS,hrg,ho2];rfl
   rw [k0 hstep] at hr
   repeat' (first|apply ab|apply Qu|apply Qv|refine aj ?_|refine cu ?_|refine aA ?_|refine aF ?_|refine aJ ?_|refine Qz ?_|apply ar|apply aQ|(refine aW (vs:=[.string W.id,.slice sa4.p sa4.n sa4.c,.slice sk4.p sk4.n sk4.c,.string st.prev,.int .i64 (st.gen:Nat),.bool (decide (1<(candL (W.at L) st).length))]) (hv:=rfl) ?_)|fail)
   refine al (dm rfl rfl bX (by rfl)) ⟨L,sa4,sk4,st,decide (1<(candL (W.at L) st).length),hPL,?_,rfl,fun w h=>⟨?_,?_⟩⟩
   · rw [OfRes,show oneA (firstL (W.at L))=some a from by rw [ha];rfl]
     exact ⟨hr,by rw [←hr]⟩
   · exact eX (h.2 (actR sa4 st.acts) (.tail _ (.head _))) ok4.hn fun x hx=>h.1.2.2 x (inv.mem x hx)
   · exact cj (h.2 (keyR sk4 st.keys) (.tail _ (.tail _ (.head _)))) (by rw [Z3];exact ok4.hk) (mN _)
structure KnR (L:List Int) (I:List ItemD):Prop where
 sv:L.length≤20
 len:I.length≤100
 rng:∀ i∈I,i.act.Rng
 sm:∀ i∈I,i.act.Sm
 dn:∀ i∈I,i.dec.to.n=i.dec.toL.length
 right:∀ i∈I,rightIt i=true
 asc:Asc (I.map digIt)
theorem tb {P:Program} {f:FuncId} {args:Array Value} {pre:List Res} {X X':World→Prop} {Post:Value→List Res→(World→Prop)→Prop} (h:Ct P f args pre X Post) (hx:∀ w,X' w→X w):Ct P f args pre X' Post :=
 Ct.mk fun w av G=>h.run w av (G.imp hx)
theorem nN {P:Program} {f:FuncId} {args:Array Value} {X X':World→Prop} {v:Value} (h:Pu P f args X v) (hx:∀ w,X' w→X w):Pu P f args X' v:=by
 unfold Pu at *
 exact tb h hx
theorem Ad {P:Program} {f:FuncId} {args:Array Value} {X X':World→Prop} {Φ:Value→(World→Prop)→Prop} (h:Mk P f args X Φ) (hx:∀ w,X' w→X w):Mk P f args X' Φ:=by
 unfold Mk at *
 exact tb h hx
theorem vr:ActD.zero.Rng:=⟨by decide,fun w hw=>(List.not_mem_nil hw).elim,rfl,rfl⟩
theorem td {x y:ByteArray} (h:ltB x y=true):¬ SrG.cmp2 0 0 y x<0:=by
 have h1:ltB y x=false:=by
  cases hh:ltB y x with
  | false=>rfl
  | true =>
   have:=jd h hh
   rw [fU] at this
   cases this
 have h2:Op.bytesLess y.toList x.toList=false:=h1
 rw [SrG.cmp2,SrG.cmpI_self]
 show ¬ SrG.cmpB_g y x<0
 rw [SrG.cmpB_g,h2]
 cases seqB y x<;>decide
theorem ow {l:List ByteArray} (h:Asc l) {i j:Nat} {x y:ByteArray} (hij:i<j) (hi:l[i]?=some x) (hj:l[j]?=some y):ltB x y=true:=by
 obtain ⟨h1,rfl⟩:=List.getElem?_eq_some_iff.1 hi
 obtain ⟨h2,rfl⟩:=List.getElem?_eq_some_iff.1 hj
 exact List.pairwise_iff_getElem.1 h i j h1 h2 hij
theorem ti {l m:List ByteArray} (h:Asc l) (hs:m.Sublist l):Asc m:=List.Pairwise.sublist hs h
theorem srtC {L:List Int} {I:List ItemD} (h:KnR L I) (au:ByteArray):SrC.Srt (selFC au rightIt digIt I):=by
 have ha:Asc ((selFC au rightIt digIt I).map FndC.dg):=by
  rw [selFC,Qs]
  exact ti h.asc (List.filter_sublist.map digIt)
 have hr:∀ x∈selFC au rightIt digIt I,x.rank=0:=fun x hx=>by
  rw [selFC] at hx
  obtain ⟨i,_,rfl⟩:=List.mem_map.1 hx
  rfl
 intro i j x y hij hi hj
 rw [SrC.cmpX,hr x (List.mem_of_getElem? hi),hr y (List.mem_of_getElem? hj)]
 exact td (ow ha hij (by rw [List.getElem?_map,hi];rfl) (by rw [List.getElem?_map,hj];rfl))
theorem srtB {L:List Int} {I:List ItemD} (h:KnR L I) (au:ByteArray) (gn:Int):SrB.Srt (selFB au gn rightIt digIt I):=by
 have ha:Asc ((selFB au gn rightIt digIt I).map FndB.dg):=by
  rw [selFB,Qs]
  exact ti h.asc (List.filter_sublist.map digIt)
 have hr:∀ x∈selFB au gn rightIt digIt I,x.rank=0:=fun x hx=>by
  rw [selFB] at hx
  obtain ⟨i,_,rfl⟩:=List.mem_map.1 hx
  rfl
 intro i j x y hij hi hj
 rw [SrB.cmpX,hr x (List.mem_of_getElem? hi),hr y (List.mem_of_getElem? hj)]
 exact td (ow ha hij (by rw [List.getElem?_map,hi];rfl) (by rw [List.getElem?_map,hj];rfl))
def claimsV (I:List ItemD) (au:ByteArray):List ClaimD:=selC au rightIt I
def dgCl (c:ClaimD):ByteArray:=digIt (ofClaimI c)
def wonK (sv:Nat) (I:List ItemD) (au:ByteArray) (gn:Int):Option ClaimD:=wonO sv (claimsV I au) dgCl (selB2 au gn rightIt I) gn
theorem ka {sv:Nat} {I:List ItemD} {au:ByteArray} {gn:Int} {c:ClaimD} (h:wonK sv I au gn=some c):c∈claimsV I au∧c.gen=gn:=by
 have h1:=List.find?_some h
 rw [wonB,ZM,ZT] at h1
 exact ⟨List.mem_of_find?_eq_some h,h1.1⟩
theorem oi {I:List ItemD} {au:ByteArray} {c:ClaimD} (h:c∈claimsV I au):claimR c=true:=by
 rw [claimsV,selC] at h
 obtain ⟨i,hi,rfl⟩:=List.mem_map.1 h
 have h1:=(List.mem_filter.1 hi).2
 rw [selBC,ZM,wantC,ZM,ZT] at h1
 rcases d4 h1.2 with h2|h2|h2|h2
 · rw [h1.1.1] at h2;exact absurd h2.1 (by decide)
 · exact h2.2
 · rw [h1.1.1] at h2;exact absurd h2.1 (by decide)
 · rw [h1.1.1] at h2;exact absurd h2.1 (by decide)
def lnone (f:Nat→Option ClaimD):Nat→Nat→Nat
 | 0,g=>g
 | n+1,g=>match f g with
  | none=>g
  | some _=>lnone f n (g+1)
theorem lz (f:Nat→Option ClaimD):∀ n g i,g≤i→i<lnone f n g→(f i).isSome=true
 | 0,g,i,h1,h2=>by rw [lnone] at h2;omega
 | n+1,g,i,h1,h2=>by
  rw [lnone] at h2
  cases hf:f g with
  | none=>rw [hf] at h2;simp only at h2;omega
  | some c =>
   rw [hf] at h2
   simp only at h2
   rcases Nat.lt_or_eq_of_le h1 with h3|rfl
   · exact lz f n (g+1) i h3 h2
   · rw [hf];rfl
theorem lw (f:Nat→Option ClaimD):∀ n g,lnone f n g<g+n→f (lnone f n g)=none
 | 0,g,h=>by rw [lnone] at h;omega
 | n+1,g,h=>by
  rw [lnone] at h ⊢
  cases hf:f g with
  | none=>exact hf
  | some c =>
   rw [hf] at h
   simp only at h ⊢
   exact lw f n (g+1) ae
def genB (sv:Nat) (I:List ItemD) (au:ByteArray):Nat:=lnone (fun g=>wonK sv I au (g:Nat)) ((claimsV I au).length+1) 0
theorem od (sv:Nat) (I:List ItemD) (au:ByteArray):genB sv I au≤(claimsV I au).length:=by
 have h:=jb (n:=genB sv I au) (l:=(claimsV I au).map ClaimD.gen) fun i hi=>by
  have h1:=lz (fun g=>wonK sv I au (g:Nat)) _ 0 i (Nat.zero_le _) hi
  cases hw:wonK sv I au (i:Nat) with
  | none=>rw [hw] at h1;cases h1
  | some c =>
   obtain ⟨h2,h3⟩:=ka hw
   exact List.mem_map.2 ⟨c,h2,h3⟩
 simpa using h
theorem u7 (sv:Nat) (I:List ItemD) (au:ByteArray):wonK sv I au (genB sv I au:Nat)=none :=
 lw (fun g=>wonK sv I au (g:Nat)) ((claimsV I au).length+1) 0 (by have:=od sv I au;rw [genB] at this;omega)
def OfWK (sv:Nat) (I:List ItemD) (au:ByteArray):OfW:=⟨[],au,fun g=>bif decide (g<genB sv I au) then wonK sv I au (g:Nat) else none,sgnC,dgCl,verV,genB sv I au⟩
theorem Bw {sv:Nat} {I:List ItemD} {au:ByteArray} {g:Nat} (hg:g≤genB sv I au):(OfWK sv I au).won g=wonK sv I au (g:Nat):=by
 show (bif decide (g<genB sv I au) then _ else _)=_
 rcases Nat.lt_or_eq_of_le hg with h|rfl
 · rw [ZA h,ZC]
 · rw [Zn (Nat.lt_irrefl _),ZB,u7]
theorem fB {sv:Nat} {I:List ItemD} {au:ByteArray} {g:Nat} {c:ClaimD} (h:(OfWK sv I au).won g=some c):g<genB sv I au∧wonK sv I au (g:Nat)=some c:=by
 change (bif decide (g<genB sv I au) then wonK sv I au (g:Nat) else none)=some c at h
 cases hd:decide (g<genB sv I au) with
 | true=>rw [hd] at h;exact ⟨aP hd,h⟩
 | false=>rw [hd] at h;cases h
theorem pH (hso:∀ n,n≤1000000→SortA n) (ks ki:SlV) {L:List Int} {I:List ItemD} (h:KnR L I) (au:ByteArray) :
  OfHyp ks ki (OfWK L.length I au) (fun A=>A.Perm (selA au rightIt I)) (fun w=>Ints w ks L∧Items w ki I):=by
 have hR:∀ it∈I,Pu Tryz.prog 44 #[it.v] (fun w=>it.at_ w) (.bool (rightIt it)):=fun it hi=>gN it
 have hD:∀ it∈I,Pu Tryz.prog 14 #[it.v] (fun w=>it.at_ w∧Glob w) (.string (digIt it)):=fun it hi=>fi it (h.rng it hi) (h.dn it hi)
 have hI:I.length≤1000:=Qq h.len (by decide)
 have hcl:(claimsV I au).length≤I.length:=by rw [claimsV,selC,Z3];exact List.length_filter_le _ _
 have hgl:=od L.length I au
 have hlen:=h.len
 have hdc:∀ c∈claimsV I au,Pu Tryz.prog 14 #[(ofClaimI c).v] Glob (.string (dgCl c)):=fun c hc =>
  nN (fi (ofClaimI c) vr rfl) fun w hw=>⟨⟨⟨cD w 1,cD w 5⟩,cD w 1⟩,hw⟩
 have hmem:∀ A:List ActD,A.Perm (selA au rightIt I)→∀ a∈A,∃ i∈I,i.act=a:=fun A hA a ha=>by
  have h1:=hA.subset ha
  rw [selA] at h1
  obtain ⟨i,hi,e⟩:=List.mem_map.1 h1
  exact ⟨i,(List.mem_filter.1 hi).1,e⟩
 exact {
  acts:=Ad (nZ ks ki I au rightIt digIt hR hD hI (hso _ ae)) fun w hw=>⟨hw.1.2,hw.2⟩
  ok:=fun A hA=>⟨⟨fun a ha=>by obtain ⟨i,hi,rfl⟩:=hmem A hA a ha;exact h.rng i hi,fun a ha=>by obtain ⟨i,hi,rfl⟩:=hmem A hA a ha;exact h.sm i hi⟩,by
   rw [hA.length_eq,selA,Z3]
   have:=List.length_filter_le (selB au rightIt) I
   omega⟩
  bB:=by show genB L.length I au≤_;omega
  won:=fun g hg=>by
   rw [Bw hg]
   exact Bv ks ki L I au (g:Nat) (claimsV I au) (selB2 au (g:Nat) rightIt I) dgCl (by rw [selB2,Z3];have:=List.length_filter_le (selBB au (g:Nat) rightIt) I;omega) (by have:=h.sv;omega)
    (jS ks ki I au rightIt digIt hR hD hI (srtC h au)) (je ks ki I au (g:Nat) rightIt digIt hR hD hI (srtB h au _)) hdc
  bnd:=fun g c hw=>(fB hw).1
  clm:=fun g c hw p=>nN (rs p c (oi (ka (fB hw).2).1)) fun w hw=>hw.2
  dg:=fun g c hw=>nN (hdc c (ka (fB hw).2).1) fun w hw=>hw.2
  ver:=fun A hA a ha p=>by
   obtain ⟨i,hi,rfl⟩:=hmem A hA a ha
   exact iK p i.act (h.rng i hi) }
theorem BV (hso:∀ n,n≤1000000→SortA n) (ks ki:SlV) {L:List Int} {I:List ItemD} (h:KnR L I) (au:ByteArray) :
  Mk Tryz.prog 9 #[.agg #[ks.v,ki.v],.string au] (fun w=>(Ints w ks L∧Items w ki I)∧Glob w) (OfAt19 (OfWK L.length I au) fun A=>A.Perm (selA au rightIt I)) :=
 zW ks ki (OfWK L.length I au) _ _ (pH hso ks ki h au)
end Go.Proofs.YtcdilibijnboeaaGreatDoor
namespace Go.Proofs.YtcdilibijnboeaaGreatDoor
open Go Go.Proofs Sy SrG
namespace SrA
def p22 (i:Nat):Nat:=i*22
theorem cv (i:Nat):p22 i=i*22:=rfl
attribute [irreducible] p22
structure FndX where
 rank:Int
 dg:ByteArray
 r:List Value
 hr:r.length=20
 h1:r.all (·.oneCell')=true
def FndX.cells (f:FndX):List Value:=.int .i64 f.rank::.string f.dg::f.r
theorem FndX.len (f:FndX):f.cells.length=22:=by simp [FndX.cells,f.hr]
theorem FndX.one (f:FndX):f.cells.all (·.oneCell')=true:=by rw [FndX.cells,List.all_cons,List.all_cons,f.h1];rfl
theorem cellsF (P:List FndX):∀ r∈P.map FndX.cells,r.length=22:=fun r hr=>by
 obtain ⟨c,_,rfl⟩:=List.mem_map.1 hr
 exact c.len
abbrev postR (s:SlV) (P:List FndX):Res:=orow 159 22 (.slice s.p s.n s.c) s.n (P.map FndX.cells).flatten
theorem cQ:∀ (L:List FndX) (p:Nat) (x:FndX),p<L.length→(L.map FndX.cells).flatten.take (p*22)++x.cells++(L.map FndX.cells).flatten.drop (p*22+22)=((L.set p x).map FndX.cells).flatten
 | [],p,x,h=>absurd h (by simp)
 | c::L,0,x,h=>by
  have h6:c.cells.length=22:=c.len
  rw [List.set_cons_zero,Qt,Qt,List.flatten_cons,List.flatten_cons,Nat.zero_mul,Ql,List.take_zero,Qb,List.drop_append,h6,List.drop_of_length_le (by omega)]
  rfl
 | c::L,p+1,x,h=>by
  have h6:c.cells.length=22:=c.len
  have ih:=cQ L p x (by simpa using h)
  rw [List.set_cons_succ,Qt,Qt,List.flatten_cons,List.flatten_cons,←ih,List.take_append,List.drop_append,h6,List.take_of_length_le ae,List.drop_of_length_le ae,
   show (p+1)*22-22=p*22 from by omega,show (p+1)*22+22-22=p*22+22 from by omega,Qb,ZZ,ZZ,ZZ]
theorem d2 {P:List FndX} {i j:Nat} {x y:FndX} (hi:P[i]?=some x) (hj:P[j]?=some y):((P.set i y).set j x).Perm P:=by
 obtain ⟨h1,rfl⟩:=List.getElem?_eq_some_iff.1 hi
 obtain ⟨h2,rfl⟩:=List.getElem?_eq_some_iff.1 hj
 exact List.set_set_perm h1 h2
section
variable {N:Nat} {av bor:List Nat} {w0:World} {st:St} {ty:TypeId} {x y:Operand} {E:Env} {loc:List Res} {X:World→Prop} {ops:Array Oper} {kk:St→Prop} {pos:String} {af:Array Edge} {g:Option (Nat×Bool)} {rest:List Oper} {bb want:Bool}
theorem bq {A:Option Addr} {m c i:Nat} {P:List FndX} {p:FndX} (hx:ev st.env x=some (elP A (p22 i))) (hm:orow 159 22 (.slice A m c) m (P.map FndX.cells).flatten∈st.loc) (hn:m=P.length) (hi:P[i]?=some p) :
  Sy.Yields Tryz.prog N av bor w0 st (.load 159 x) ty (.agg p.cells.toArray):=fQ (xs:=P.map FndX.cells) (cs:=p.cells) (cv i▸hx) hm (by simp [hn]) (cellsF P) (by simp [hi])
theorem bO {d:Option Tmp} {loc':List Res} {A:Option Addr} {m c i:Nat} {P:List FndX} {p:FndX} (hx:ev E x=some (elP A (p22 i)):=by rfl) (hy:ev E y=some (.agg p.cells.toArray):=by rfl) (hi:i<m:=by omega) (hn:m=P.length)
  (hA:At (orow 159 22 (.slice A m c) m (P.map FndX.cells).flatten) (orow 159 22 (.slice A m c) m ((P.set i p).map FndX.cells).flatten) loc loc':=by (repeat (first|exact At.here _|apply At.there))) (hg:gdB ops E g=some (bb,want):=by rfl) (hb:bb=want:=by exact aB) (hd:inB N d=true:=by rfl)
  (h:Sw Tryz.prog N av bor w0 ops rest ⟨putE E d undef,loc',X⟩ kk):Sw Tryz.prog N av bor w0 ops (⟨d,.store 159 x y,ty,pos,af,g⟩::rest) ⟨E,loc,X⟩ kk :=
 nu (i:=i) (size:=22) (vs:=p.cells) ak (cv i▸hx) hy rfl p.one p.len hi (cQ P i p ae) hA hg hb hd h
end
def PermAt (s:SlV) (P:List FndX) (u:Value) (R:List Res) (X:World→Prop):Prop:=u=.tuple #[]∧∃ Q:List FndX,Q.Perm P∧R=[postR s Q]
structure PermI (P:List FndX) (n:Nat) where
 k:Nat
 hk:k≤n
 Q:List FndX
 hQ:Q.Perm P
set_option maxHeartbeats 4000000 in
theorem cL (s:SlV) (P:List FndX) (a b n:Nat) (fv:Value) (hs:s.n=P.length) (hm:s.n≤1000000) (ha:a+n≤s.n) (hb:b+n≤s.n) :
  Ct Tryz.prog 257 #[s.v,.int .i64 (a:Nat),.int .i64 (b:Nat),.int .i64 (n:Nat),fv] [postR s P] (fun _=>True) (PermAt s P):=by
 refine cf (args:=[_,_,_,_,_]) _ Tryz.func257 rfl Tryz.ntmps257 rfl fun av bor w0=>?_
 refine cN (r:=postR s P) aI (p:=0<s.n→s.p.isSome=true) (fun w h hn=>cE h hn) fun hp=>?_
 repeat' (first|apply ab|apply Qu|apply Qv|refine ad ?_|apply Qw|fail)
 refine aT (ι:=PermI P n) (fun i=>⟨[(0,s.v),(1,.int .i64 (a:Nat)),(2,.int .i64 (b:Nat)),(3,.int .i64 (n:Nat)),(10,.int .i64 (i.k:Nat))],[postR s i.Q],fun _=>True⟩) (fun i=>n-i.k) ⟨0,Nat.zero_le _,P,List.Perm.refl _⟩ (aw ⟨rfl,rfl,rfl,rfl,rfl,trivial⟩ (aE _) fun _ h=>h) fun i=>?_
 obtain ⟨k,hk,Q,hQ⟩:=i
 simp only
 have hl:=hQ.length_eq
 repeat' (first|apply ab|apply Qu|apply Qv|refine aj ?_|refine bj ?_|apply Qx|apply Qw|apply aQ|(refine aG (ht:=?_) (hf:=?_);all_goals (intro hx_;first|have:=aP hx_|have:=aS hx_)))
 · have hlt:k<n:=by omega
   have hp':=hp ae
   obtain ⟨x,hx⟩:∃ x,Q[a+k]?=some x:=⟨_,Zm ae⟩
   obtain ⟨y,hy⟩:∃ y,Q[b+k]?=some y:=⟨_,Zm ae⟩
   (refine aU [] (fun _=>True) ak ?_)
   all_goals refine aa 0 ?_<;>refine aa 1 ?_<;>refine aa 2 ?_<;>refine aa 3 ?_<;>refine aa 4 ?_<;>refine aa 5 ?_<;>refine aa 6 ?_<;>refine aa 7 ?_<;>refine aa 8 ?_<;>refine aa 9 ?_<;>refine aa 10 ?_<;>refine aa 11 ?_<;>(refine aa 12 (hy:=by (apply aL (q:=p22 (b+k));rfl;rfl;omega;omega;assumption;(rw [cv];omega))) ?_)<;>refine aa 14 ?_<;>refine aa 15 ?_<;>refine aa 16 ?_<;>refine aa 17 ?_<;>(refine aa 18 (hy:=by (apply aL (q:=p22 (a+k));rfl;rfl;omega;omega;assumption;(rw [cv];omega))) ?_)<;>(refine bx 13 19 (h:=?_) (h':=?_);(focus (((refine am (bq (i:=b+k) (P:=Q) rfl aI ae hy) rfl rfl rfl ?_);apply ab;refine ai ?_);all_goals ((refine ag 19 ?_;(refine am (bq (i:=a+k) (P:=Q) rfl aI ae hx) rfl rfl rfl ?_);apply ab;refine ai ?_);all_goals (refine aa 20 (hy:=by (apply aL (q:=p22 (a+k));rfl;rfl;omega;omega;assumption;(rw [cv];omega))) ?_);all_goals (refine ag 21 ?_;(refine bO (i:=a+k) (p:=y) rfl rfl ae ae (At.here _) rfl aB rfl ?_);apply ab;refine ai ?_);all_goals (refine aa 22 (hy:=by (apply aL (q:=p22 (b+k));rfl;rfl;omega;omega;assumption;(rw [cv];omega))) ?_);all_goals (refine ag 23 ?_;(refine bO (i:=b+k) (p:=x) rfl rfl ae (by (simp only [List.length_set];omega)) (At.here _) rfl aB rfl ?_);apply ab;refine ai ?_);all_goals (refine ax ?_))));rotate_right;(focus (((refine am (bq (i:=a+k) (P:=Q) rfl aI ae hx) rfl rfl rfl ?_);apply ab;refine ai ?_);all_goals ((refine ag 13 ?_;(refine am (bq (i:=b+k) (P:=Q) rfl aI ae hy) rfl rfl rfl ?_);apply ab;refine ai ?_);all_goals (refine aa 20 (hy:=by (apply aL (q:=p22 (a+k));rfl;rfl;omega;omega;assumption;(rw [cv];omega))) ?_);all_goals (refine ag 21 ?_;(refine bO (i:=a+k) (p:=y) rfl rfl ae ae (At.here _) rfl aB rfl ?_);apply ab;refine ai ?_);all_goals (refine aa 22 (hy:=by (apply aL (q:=p22 (b+k));rfl;rfl;omega;omega;assumption;(rw [cv];omega))) ?_);all_goals (refine ag 23 ?_;(refine bO (i:=b+k) (p:=x) rfl rfl ae (by (simp only [List.length_set];omega)) (At.here _) rfl aB rfl ?_);apply ab;refine ai ?_);all_goals (refine ax ?_)))))
   all_goals
    repeat' (first|apply ab|apply Qv|refine aj ?_|refine ad ?_|refine be (h:=?_)|fail)
    exact ⟨(⟨k+1,hlt,(Q.set (a+k) y).set (b+k) x,(d2 hx hy).trans hQ⟩:PermI P n),(by show n-(k+1)<n-k;omega),aw ⟨rfl,rfl,rfl,rfl,rfl,trivial⟩ (aE _) fun _ h=>h⟩
 · exact bY (bJ rfl) ⟨rfl,Q,hQ,rfl⟩
section
variable {N:Nat} {av bor:List Nat} {w0:World} {ops:Array Oper} {rest:List Oper} {k:St→Prop} {E:Env} {X:World→Prop} {d:Option Tmp} {ty:TypeId} {pos:String} {af:Array Edge} {g:Option (Nat×Bool)} {bb want:Bool}
theorem cT {x:Operand} {xs:List Operand} {ats:Array TypeId} {f:FuncId} {args:List Value} {s:SlV} {Q:List FndX}
  (hx:ev E x=some (.func (.func f) #[] #[]):=by rfl) (ha:evs E xs=some args:=by rfl) (hg:gdB ops E g=some (bb,want):=by rfl) (hb:bb=want:=by exact aB) (hd:inB N d=true:=by rfl) (hf:FnBody Tryz.prog f:=by infer_instance)
  (hc:Ct Tryz.prog f args.toArray [postR s Q] (fun _=>True) (PermAt s Q))
  (h:∀ Q':List FndX,Q'.Perm Q→Sw Tryz.prog N av bor w0 ops rest ⟨putE E d (.tuple #[]),[postR s Q'],X⟩ k) :
  Sw Tryz.prog N av bor w0 ops (⟨d,.call ⟨.value x,xs.toArray,ats⟩,ty,pos,af,g⟩::rest) ⟨E,[postR s Q],X⟩ k :=
 cG (pre:=[postR s Q]) (fr:=[]) (first:=#[]) (caps:=#[]) (Post:=PermAt s Q) hx ha rfl hg hb hd hf (by simpa using hc) (fun _ _=>trivial) fun u R X' ⟨h1,Q',h2,h3⟩=>by
  subst h1
  subst h3
  refine ib (fun a w ok=>?_) (h Q' h2)
  exact ok.via fun M G=>G.imp fun _ h=>h.1
end
structure RotI (P:List FndX) (p q:Nat) where
 i:Nat
 j:Nat
 h1:1≤i
 h2:i≤p
 h3:1≤j
 h4:j≤q
 Q:List FndX
 hQ:Q.Perm P
set_option maxHeartbeats 4000000 in
theorem fI (s:SlV) (P:List FndX) (a m b:Nat) (fv:Value) (hs:s.n=P.length) (hm:s.n≤1000000) (ha:a<m) (hb:m<b) (hbs:b≤s.n) :
  Ct Tryz.prog 234 #[s.v,.int .i64 (a:Nat),.int .i64 (m:Nat),.int .i64 (b:Nat),fv] [postR s P] (fun _=>True) (PermAt s P):=by
 refine cf (args:=[_,_,_,_,_]) _ Tryz.func234 rfl Tryz.ntmps234 rfl fun av bor w0=>?_
 repeat' (first|refine bE (hq:=by omega) ?_|apply ab|apply Qu|apply Qv|refine aj ?_|refine ad ?_|apply Qw|fail)
 refine aT (ι:=RotI P (m-a) (b-m)) (fun r=>⟨[(0,s.v),(2,.int .i64 (m:Nat)),(4,fv),(10,.int .i64 (r.i:Nat)),(11,.int .i64 (r.j:Nat))],[postR s r.Q],fun _=>True⟩) (fun r=>r.i+r.j) ⟨m-a,b-m,by omega,by omega,by omega,by omega,P,List.Perm.refl _⟩ (aw ⟨rfl,rfl,rfl,rfl,rfl,trivial⟩ (aE _) fun _ h=>h) fun r=>?_
 obtain ⟨i,j,h1,h2,h3,h4,Q,hQ⟩:=r
 simp only
 have hl:=hQ.length_eq
 by_cases hij:i=j
 · repeat' (first|refine eR (hab:=by omega) ?_|refine bE (hq:=by omega) ?_|apply ab|apply Qu|apply Qv|refine aj ?_|refine Qz ?_|apply aQ|(refine cT (hc:=cL s Q (m-i) m i fv ae hm ae ae) (h:=fun Q2 hQ2=>?_))|fail)
   exact bY (bJ rfl) ⟨rfl,Q2,hQ2.trans hQ,rfl⟩
 · repeat' (first|refine bE (hq:=by omega) ?_|refine bp (hq:=by omega) ?_|apply ab|apply Qu|apply Qv|refine aj ?_|refine ad ?_|refine dJ ?_|refine cK ?_|apply Qx|apply Qw|apply aQ|(refine cT (hc:=cL s Q (m-i) m j fv ae hm ae ae) (h:=fun Q2 hQ2=>?_))|(refine cT (hc:=cL s Q (m-i) (m+j-i) i fv ae hm ae ae) (h:=fun Q2 hQ2=>?_))|(refine aG (ht:=?_) (hf:=?_);all_goals (intro hx_;first|have:=aP hx_|have:=aS hx_|skip)))
   · exact ⟨(⟨i-j,j,by omega,by omega,h3,h4,Q2,hQ2.trans hQ⟩:RotI P (m-a) (b-m)),(by show i-j+j<i+j;omega),aw ⟨rfl,rfl,rfl,rfl,rfl,trivial⟩ (aE _) fun _ h=>h⟩
   · exact ⟨(⟨i,j-i,h1,h2,by omega,by omega,Q2,hQ2.trans hQ⟩:RotI P (m-a) (b-m)),(by show i+(j-i)<i+j;omega),aw ⟨rfl,rfl,rfl,rfl,rfl,trivial⟩ (aE _) fun _ h=>h⟩
   · have h9:(i:Int)=(j:Int):=by simpa using hx_
     exact absurd (show i=j by omega) hij
def cmpX (x y:FndX):Int:=cmp2 x.rank y.rank x.dg y.dg
theorem eC (x y:FndX):Pu Tryz.prog 96 #[.agg x.cells.toArray,.agg y.cells.toArray] (fun _=>True) (.int .i64 (cmpX x y)):=by
 refine ay (args:=[_,_]) _ Tryz.func96 rfl Tryz.ntmps96 rfl fun av bor w0=>?_
 have h1:=gz x.rank y.rank
 have h2:=gc x.dg y.dg
 rw [cmpX,cmp2]
 generalize cmpI x.rank y.rank=k at *
 generalize SrG.cmpB_g x.dg y.dg=l at *
 have h3:=fun s=>qX s k l
 repeat' (first|apply ab|apply Qu|apply Qv|refine ad ?_|refine aN fun _=>?_|fail)
 rename_i b2 b3
 (refine aU [cel b3 159 y.cells,cel b2 159 x.cells] (fun _=>True) ak ?_)
 all_goals refine aa 0 ?_<;>refine aa 1 ?_<;>refine aa 2 ?_<;>refine aa 3 ?_<;>refine aa 5 ?_<;>refine aa 6 ?_<;>refine aa 7 ?_<;>refine aa 8 ?_<;>(refine ag 4 ?_;(refine ao (hc:=h1) (hX:=fun _ _=>trivial) ?_);apply ab;refine ai ?_)<;>(refine ag 9 ?_;(refine ao (hc:=h2) (hX:=fun _ _=>trivial) ?_);apply ab;refine ai ?_)<;>(refine ag 10 ?_;(refine bU (len:=2) (vs:=[.int .i64 k,.int .i64 l]) fun bs=>?_;refine cq ?_);apply ab;refine ai ?_)<;>(refine ag 11 ?_;(refine ao (hc:=h3 ⟨some ⟨bs,0,none⟩,2,2⟩) (hX:=fun w h=>bQ (xs:=[[.int .i64 k],[.int .i64 l]]) h.2 rfl (by decide) (by simp)) ?_);apply ab;refine ai ?_)<;>refine aa 12 ?_<;>(refine ax ?_)
 all_goals
  repeat' (first|apply ar|fail)
  exact al (aq rfl rfl) rfl
def cmpF:Value:=.func (.func 96) #[] #[]
def Srt (P:List FndX):Prop:=∀ (i j:Nat) (x y:FndX),i<j→P[i]?=some x→P[j]?=some y→¬ cmpX y x<0
def Rel (P Q:List FndX):Prop:=Q.Perm P∧(Srt P→Q=P)
theorem Rel.refl (P:List FndX):Rel P P:=⟨List.Perm.refl _,fun _=>rfl⟩
theorem Rel.trans {P Q R:List FndX} (h:Rel P Q) (k:Rel Q R):Rel P R:=⟨k.1.trans h.1,fun hs=>by rw [k.2 (h.2 hs▸hs),h.2 hs]⟩
theorem Rel.swap {P Q:List FndX} (h:Rel P Q) {i j:Nat} {x y:FndX} (hi:Q[i]?=some x) (hj:Q[j]?=some y) (hno:Srt P→False):Rel P ((Q.set i y).set j x):=⟨(d2 hi hj).trans h.1,fun hs=>(hno hs).elim⟩
theorem Rel.srt {P Q:List FndX} (h:Rel P Q) (hs:Srt P):Srt Q:=by rw [h.2 hs];exact hs
theorem Rel.perm {P Q Q':List FndX} (h:Rel P Q) (k:Q'.Perm Q) (hno:Srt P→False):Rel P Q':=⟨k.trans h.1,fun hs=>(hno hs).elim⟩
def RelAt (s:SlV) (P:List FndX) (u:Value) (R:List Res) (X:World→Prop):Prop:=u=.tuple #[]∧∃ Q:List FndX,Rel P Q∧R=[postR s Q]
end SrA
namespace SrA
structure InsI (P:List FndX) (a b:Nat) where
 k:Nat
 h1:a+1≤k
 h2:k≤b∨k=a+1
 Q:List FndX
 hQ:Rel P Q
structure InsJ (P:List FndX) (a k:Nat) where
 j:Nat
 h1:a≤j
 h2:j≤k
 Q:List FndX
 hQ:Rel P Q
set_option maxHeartbeats 60000000 in
theorem dp (s:SlV) (P:List FndX) (a b:Nat) (hs:s.n=P.length) (hm:s.n≤1000000) (ha:a≤s.n) (hb:b≤s.n) :
  Ct Tryz.prog 202 #[s.v,.int .i64 (a:Nat),.int .i64 (b:Nat),cmpF] [postR s P] (fun _=>True) (RelAt s P):=by
 refine cf (args:=[_,_,_,_]) _ Tryz.func202 rfl Tryz.ntmps202 rfl fun av bor w0=>?_
 refine cN (r:=postR s P) aI (p:=0<s.n→s.p.isSome=true) (fun w h hn=>cE h hn) fun hp=>?_
 repeat' (first|refine bp (q:=1) (hq:=by omega) ?_|apply ab|apply Qu|apply Qv|refine aj ?_|refine ad ?_|apply Qw|fail)
 refine aT (ι:=InsI P a b) (fun i=>⟨[(0,s.v),(1,.int .i64 (a:Nat)),(2,.int .i64 (b:Nat)),(3,cmpF),(8,.int .i64 (i.k:Nat))],[postR s i.Q],fun _=>True⟩) (fun i=>b-i.k) ⟨a+1,Qp _,.inr rfl,P,Rel.refl _⟩ (aw ⟨rfl,rfl,rfl,rfl,rfl,trivial⟩ (aE _) fun _ h=>h) fun i=>?_
 obtain ⟨k,h1,h2,Q,hQ⟩:=i
 simp only
 have hl:=hQ.1.length_eq
 repeat' (first|apply ab|apply Qu|apply Qv|refine aj ?_|refine ad ?_|refine bj ?_|apply Qx|apply Qw|apply aQ|(refine aG (ht:=?_) (hf:=?_);all_goals (intro hx_;first|have:=aP hx_|have:=aS hx_)))
 · have hkb:k<b:=by omega
   refine aT (ι:=InsJ P a k) (fun i=>⟨[(0,s.v),(1,.int .i64 (a:Nat)),(2,.int .i64 (b:Nat)),(3,cmpF),(8,.int .i64 (k:Nat)),(9,.int .i64 (i.j:Nat))],[postR s i.Q],fun _=>True⟩) (fun i=>i.j) ⟨k,by omega,Qp _,Q,hQ⟩ (aw ⟨rfl,rfl,rfl,rfl,rfl,rfl,trivial⟩ (aE _) fun _ h=>h) fun i=>?_
   obtain ⟨j,h3,h4,Q2,hQ2⟩:=i
   simp only
   have hl2:=hQ2.1.length_eq
   have hp':=hp ae
   by_cases hja:a<j
   · obtain ⟨x,hx⟩:∃ x,Q2[j]?=some x:=⟨_,Zm ae⟩
     obtain ⟨y,hy⟩:∃ y,Q2[j-1]?=some y:=⟨_,Zm ae⟩
     have hcm:=eC x y
     have hsx:Srt P→¬ cmpX x y<0:=fun hs=>hQ2.srt hs (j-1) j y x ae hy hx
     generalize cmpX x y=z at *
     apply Qu
     apply Qu
     unfold cmpF
     (refine aU [] (fun _=>True) ak ?_)
     all_goals refine aa 0 ?_<;>refine aa 1 ?_<;>(refine aa 2 (hy:=by (apply y_gtrT_g;rfl;rfl;omega)) ?_)<;>refine aa 3 ?_<;>refine aa 4 ?_<;>refine aa 5 ?_<;>refine aa 6 ?_<;>(refine aa 7 (hy:=by (apply aL (q:=p22 (j));rfl;rfl;omega;omega;assumption;(rw [cv];omega))) ?_)<;>refine aa 9 ?_<;>refine aa 10 ?_<;>refine aa 11 ?_<;>(refine aa 12 (hy:=by (apply aL (q:=p22 (j-1));rfl;rfl;omega;omega;assumption;(rw [cv];omega))) ?_)<;>(refine bx 8 13 (h:=?_) (h':=?_);(focus (((refine am (bq (i:=j) (P:=Q2) rfl aI ae hx) rfl rfl rfl ?_);apply ab;refine ai ?_);all_goals ((refine ag 13 ?_;(refine am (bq (i:=j-1) (P:=Q2) rfl aI ae hy) rfl rfl rfl ?_);apply ab;refine ai ?_);all_goals (refine ag 14 ?_;(refine ao (hc:=hcm) (hX:=fun _ _=>trivial) ?_);apply ab;refine ai ?_);all_goals (refine aa 15 ?_);all_goals (refine aa 16 ?_);all_goals (refine ax ?_))));rotate_right;(focus (((refine am (bq (i:=j-1) (P:=Q2) rfl aI ae hy) rfl rfl rfl ?_);apply ab;refine ai ?_);all_goals ((refine ag 8 ?_;(refine am (bq (i:=j) (P:=Q2) rfl aI ae hx) rfl rfl rfl ?_);apply ab;refine ai ?_);all_goals (refine ag 14 ?_;(refine ao (hc:=hcm) (hX:=fun _ _=>trivial) ?_);apply ab;refine ai ?_);all_goals (refine aa 15 ?_);all_goals (refine aa 16 ?_);all_goals (refine ax ?_)))))
     all_goals
      repeat' (first|apply ab|apply Qu|apply Qv|refine aj ?_|refine ad ?_|refine be (h:=?_)|apply Qx|apply Qw|apply aQ|(refine aG (ht:=?_) (hf:=?_);all_goals (intro hx_;first|have:=aP hx_|have:=aS hx_)))
      · (refine aU [] (fun _=>True) ak ?_)
        all_goals refine aa 0 ?_<;>refine aa 1 ?_<;>refine aa 2 ?_<;>refine aa 3 ?_<;>refine aa 4 ?_<;>refine aa 5 ?_<;>refine aa 6 ?_<;>refine aa 7 ?_<;>(refine aa 8 (hy:=by (apply aL (q:=p22 (j-1));rfl;rfl;omega;omega;assumption;(rw [cv];omega))) ?_)<;>refine aa 10 ?_<;>refine aa 11 ?_<;>(refine aa 12 (hy:=by (apply aL (q:=p22 (j));rfl;rfl;omega;omega;assumption;(rw [cv];omega))) ?_)<;>(refine bx 9 13 (h:=?_) (h':=?_);(focus (((refine am (bq (i:=j-1) (P:=Q2) rfl aI ae hy) rfl rfl rfl ?_);apply ab;refine ai ?_);all_goals ((refine ag 13 ?_;(refine am (bq (i:=j) (P:=Q2) rfl aI ae hx) rfl rfl rfl ?_);apply ab;refine ai ?_);all_goals (refine aa 14 (hy:=by (apply aL (q:=p22 (j));rfl;rfl;omega;omega;assumption;(rw [cv];omega))) ?_);all_goals (refine ag 15 ?_;(refine bO (i:=j) (p:=y) rfl rfl ae ae (At.here _) rfl aB rfl ?_);apply ab;refine ai ?_);all_goals (refine aa 16 (hy:=by (apply aL (q:=p22 (j-1));rfl;rfl;omega;omega;assumption;(rw [cv];omega))) ?_);all_goals (refine ag 17 ?_;(refine bO (i:=j-1) (p:=x) rfl rfl ae (by (simp only [List.length_set];omega)) (At.here _) rfl aB rfl ?_);apply ab;refine ai ?_);all_goals (refine ax ?_))));rotate_right;(focus (((refine am (bq (i:=j) (P:=Q2) rfl aI ae hx) rfl rfl rfl ?_);apply ab;refine ai ?_);all_goals ((refine ag 9 ?_;(refine am (bq (i:=j-1) (P:=Q2) rfl aI ae hy) rfl rfl rfl ?_);apply ab;refine ai ?_);all_goals (refine aa 14 (hy:=by (apply aL (q:=p22 (j));rfl;rfl;omega;omega;assumption;(rw [cv];omega))) ?_);all_goals (refine ag 15 ?_;(refine bO (i:=j) (p:=y) rfl rfl ae ae (At.here _) rfl aB rfl ?_);apply ab;refine ai ?_);all_goals (refine aa 16 (hy:=by (apply aL (q:=p22 (j-1));rfl;rfl;omega;omega;assumption;(rw [cv];omega))) ?_);all_goals (refine ag 17 ?_;(refine bO (i:=j-1) (p:=x) rfl rfl ae (by (simp only [List.length_set];omega)) (At.here _) rfl aB rfl ?_);apply ab;refine ai ?_);all_goals (refine ax ?_)))))
        all_goals
         repeat' (first|refine bE (q:=1) (hq:=by omega) ?_|apply ab|apply Qv|refine aj ?_|refine ad ?_|fail)
         exact ⟨(⟨j-1,by omega,by omega,(Q2.set j y).set (j-1) x,hQ2.swap hx hy (fun hs=>hsx hs (by assumption))⟩:InsJ P a k),(by show j-1<j;omega),aw ⟨rfl,rfl,rfl,rfl,rfl,rfl,trivial⟩ (aE _) fun _ h=>h⟩
      · repeat' (first|refine bp (q:=1) (hq:=by omega) ?_|fail)
        exact ⟨(⟨k+1,by omega,by omega,Q2,hQ2⟩:InsI P a b),(by show b-(k+1)<b-k;omega),aw ⟨rfl,rfl,rfl,rfl,rfl,trivial⟩ (aE _) fun _ h=>h⟩
   · apply Qu
     apply Qu
     unfold cmpF
     (refine aU [] (fun _=>True) ak ?_)
     all_goals refine aa 0 ?_<;>refine aa 1 ?_<;>(refine aa 2 (hy:=by (apply y_gtrF_g;rfl;rfl;omega)) ?_)<;>refine aa 3 ?_<;>refine aC 4 ?_<;>refine aC 5 ?_<;>refine aC 6 ?_<;>refine aC 7 ?_<;>refine aC 9 ?_<;>refine aC 10 ?_<;>refine aC 11 ?_<;>refine aC 12 ?_<;>(refine bx 8 13 (h:=?_) (h':=?_);(focus (((refine aK ?_);apply ab;refine ai ?_);all_goals ((refine ag 13 ?_;(refine aK ?_);apply ab;refine ai ?_);all_goals (refine ag 14 ?_;(refine aK ?_);apply ab;refine ai ?_);all_goals (refine aC 15 ?_);all_goals (refine aa 16 ?_);all_goals (refine ax ?_))));rotate_right;(focus (((refine aK ?_);apply ab;refine ai ?_);all_goals ((refine ag 8 ?_;(refine aK ?_);apply ab;refine ai ?_);all_goals (refine ag 14 ?_;(refine aK ?_);apply ab;refine ai ?_);all_goals (refine aC 15 ?_);all_goals (refine aa 16 ?_);all_goals (refine ax ?_)))))
     all_goals
      repeat' (first|refine bp (q:=1) (hq:=by omega) ?_|apply ab|apply Qv|refine aj ?_|refine ad ?_|refine Qz ?_|apply aQ|fail)
      exact ⟨(⟨k+1,by omega,by omega,Q2,hQ2⟩:InsI P a b),(by show b-(k+1)<b-k;omega),aw ⟨rfl,rfl,rfl,rfl,rfl,trivial⟩ (aE _) fun _ h=>h⟩
 · exact bY (bJ rfl) ⟨rfl,Q,hQ,rfl⟩
section
variable {N:Nat} {av bor:List Nat} {w0:World} {ops:Array Oper} {rest:List Oper} {k:St→Prop} {E:Env} {X:World→Prop} {d:Option Tmp} {ty:TypeId} {pos:String} {af:Array Edge} {g:Option (Nat×Bool)} {bb want:Bool}
theorem gj {x:Operand} {xs:List Operand} {ats:Array TypeId} {f:FuncId} {args:List Value} {s:SlV} {Q:List FndX}
  (hx:ev E x=some (.func (.func f) #[] #[]):=by rfl) (ha:evs E xs=some args:=by rfl) (hg:gdB ops E g=some (bb,want):=by rfl) (hb:bb=want:=by exact aB) (hd:inB N d=true:=by rfl) (hf:FnBody Tryz.prog f:=by infer_instance)
  (hc:Ct Tryz.prog f args.toArray [postR s Q] (fun _=>True) (RelAt s Q))
  (h:∀ Q':List FndX,Rel Q Q'→Sw Tryz.prog N av bor w0 ops rest ⟨putE E d (.tuple #[]),[postR s Q'],X⟩ k) :
  Sw Tryz.prog N av bor w0 ops (⟨d,.call ⟨.value x,xs.toArray,ats⟩,ty,pos,af,g⟩::rest) ⟨E,[postR s Q],X⟩ k :=
 cG (pre:=[postR s Q]) (fr:=[]) (first:=#[]) (caps:=#[]) (Post:=RelAt s Q) hx ha rfl hg hb hd hf (by simpa using hc) (fun _ _=>trivial) fun u R X' ⟨h1,Q',h2,h3⟩=>by
  subst h1
  subst h3
  refine ib (fun a w ok=>?_) (h Q' h2)
  exact ok.via fun M G=>G.imp fun _ h=>h.1
theorem cM {x:Operand} {xs:List Operand} {ats:Array TypeId} {f:FuncId} {args:List Value} {s:SlV} {P Q:List FndX} (hQ:Rel P Q)
  (hx:ev E x=some (.func (.func f) #[] #[]):=by rfl) (ha:evs E xs=some args:=by rfl) (hg:gdB ops E g=some (bb,want):=by rfl) (hb:bb=want:=by exact aB) (hd:inB N d=true:=by rfl) (hf:FnBody Tryz.prog f:=by infer_instance)
  (hc:∀ Q:List FndX,Rel P Q→Ct Tryz.prog f args.toArray [postR s Q] (fun _=>True) (RelAt s Q))
  (h:∀ Q':List FndX,Rel P Q'→Sw Tryz.prog N av bor w0 ops rest ⟨putE E d (.tuple #[]),[postR s Q'],X⟩ k) :
  Sw Tryz.prog N av bor w0 ops (⟨d,.call ⟨.value x,xs.toArray,ats⟩,ty,pos,af,g⟩::rest) ⟨E,[postR s Q],X⟩ k:=gj hx ha hg hb hd hf (hc Q hQ) fun Q' h1=>h Q' (hQ.trans h1)
theorem ic {x:Operand} {xs:List Operand} {ats:Array TypeId} {f:FuncId} {args:List Value} {s:SlV} {P Q:List FndX} (hQ:Rel P Q) (hno:Srt P→False)
  (hx:ev E x=some (.func (.func f) #[] #[]):=by rfl) (ha:evs E xs=some args:=by rfl) (hg:gdB ops E g=some (bb,want):=by rfl) (hb:bb=want:=by exact aB) (hd:inB N d=true:=by rfl) (hf:FnBody Tryz.prog f:=by infer_instance)
  (hc:∀ Q:List FndX,Rel P Q→Ct Tryz.prog f args.toArray [postR s Q] (fun _=>True) (PermAt s Q))
  (h:∀ Q':List FndX,Rel P Q'→Sw Tryz.prog N av bor w0 ops rest ⟨putE E d (.tuple #[]),[postR s Q'],X⟩ k) :
  Sw Tryz.prog N av bor w0 ops (⟨d,.call ⟨.value x,xs.toArray,ats⟩,ty,pos,af,g⟩::rest) ⟨E,[postR s Q],X⟩ k:=cT hx ha hg hb hd hf (hc Q hQ) fun Q' h1=>h Q' (hQ.perm h1 hno)
end
structure BinL (P:List FndX) (lo hi:Nat) extends BinI_g lo hi where
 hs:Srt P→i=lo
structure BinR (P:List FndX) (lo hi:Nat) extends BinI_g lo hi where
 hs:Srt P→j=hi
structure MerO (P:List FndX) (a m b mid:Nat) extends MerI_g a m b mid where
 hs:Srt P→j=(if mid<m then mid else m)
structure UpI (P:List FndX) (a:Nat) where
 k:Nat
 h1:a≤k
 Q:List FndX
 hQ:Rel P Q
structure DownI (P:List FndX) (i m:Nat) where
 k:Nat
 h1:i≤k
 h2:k≤m
 Q:List FndX
 hQ:Rel P Q
set_option maxRecDepth 20000 in
set_option maxHeartbeats 60000000 in
theorem cR:∀ (d:Nat) (s:SlV) (P:List FndX) (a m b:Nat),b-a≤d→s.n=P.length→s.n≤1000000→a<m→m<b→b≤s.n →
  Ct Tryz.prog 203 #[s.v,.int .i64 (a:Nat),.int .i64 (m:Nat),.int .i64 (b:Nat),cmpF] [postR s P] (fun _=>True) (RelAt s P)
 | 0,s,P,a,m,b,hd,hs,hm,ha,hb,hbs=>absurd hd ae
 | d+1,s,P,a,m,b,hd,hs,hm,ha,hb,hbs=>by
  have ih:=cR d
  have hP:Rel P P:=Rel.refl P
  refine cf (args:=[_,_,_,_,_]) _ Tryz.func203 rfl Tryz.ntmps203 rfl fun av bor w0=>?_
  refine cN (r:=postR s P) aI (p:=0<s.n→s.p.isSome=true) (fun w h hn=>cE h hn) fun hp=>?_
  have hp':=hp ae
  by_cases hA:m-a=1
  · repeat' (first|refine bE (hq:=by omega) ?_|refine bm (hab:=by omega) ?_|apply ab|apply Qu|apply Qv|refine aj ?_|refine ad ?_|refine Qy ?_|apply Qw|fail)
    refine aT (ι:=BinL P m b) (fun r=>⟨[(0,s.v),(1,.int .i64 (a:Nat)),(4,cmpF),(10,.int .i64 (r.i:Nat)),(11,.int .i64 (r.j:Nat))],[postR s P],fun _=>True⟩) (fun r=>r.j-r.i) ⟨⟨m,b,by omega,by omega,by omega⟩,fun _=>rfl⟩ (aw ⟨rfl,rfl,rfl,rfl,rfl,trivial⟩ (aE _) fun _ h=>h) fun r=>?_
    obtain ⟨⟨i,j,h1,h2,h3⟩,hso⟩:=r
    simp only at hso
    simp only
    repeat' (first|refine bp (hq:=by omega) ?_|refine sy_toU_g (hq:=by omega) ?_|refine di ?_|refine sy_toI_g (hq:=by omega) ?_|apply ab|apply Qu|apply Qv|refine aj ?_|refine ad ?_|refine bj ?_|apply Qx|apply Qw|apply aQ|(refine aG (ht:=?_) (hf:=?_);all_goals (intro hx_;first|have:=aP hx_|have:=aS hx_)))
    · have hlt:i<j:=by omega
      obtain ⟨x,hx⟩:∃ x,P[(i+j)/2]?=some x:=⟨_,Zm ae⟩
      obtain ⟨y,hy⟩:∃ y,P[a]?=some y:=⟨_,Zm ae⟩
      have hcm:=eC x y
      have hsx:Srt P→¬ cmpX x y<0:=fun hs=>hs a ((i+j)/2) y x ae hy hx
      generalize cmpX x y=z at *
      unfold cmpF
      (refine aU [] (fun _=>True) ak ?_)
      all_goals refine aa 0 ?_<;>refine aa 1 ?_<;>refine aa 2 ?_<;>(refine aa 3 (hy:=by (apply aL (q:=p22 (((i+j)/2)));rfl;rfl;omega;omega;assumption;(rw [cv];omega))) ?_)<;>refine aa 5 ?_<;>refine aa 6 ?_<;>(refine aa 7 (hy:=by (apply aL (q:=p22 (a));rfl;rfl;omega;omega;assumption;(rw [cv];omega))) ?_)<;>(refine bx 4 8 (h:=?_) (h':=?_);(focus (((refine am (bq (i:=(i+j)/2) (P:=P) rfl aI ae hx) rfl rfl rfl ?_);apply ab;refine ai ?_);all_goals ((refine ag 8 ?_;(refine am (bq (i:=a) (P:=P) rfl aI ae hy) rfl rfl rfl ?_);apply ab;refine ai ?_);all_goals (refine ag 9 ?_;(refine ao (hc:=hcm) (hX:=fun _ _=>trivial) ?_);apply ab;refine ai ?_);all_goals (refine aa 10 ?_);all_goals (refine ax ?_))));rotate_right;(focus (((refine am (bq (i:=a) (P:=P) rfl aI ae hy) rfl rfl rfl ?_);apply ab;refine ai ?_);all_goals ((refine ag 4 ?_;(refine am (bq (i:=(i+j)/2) (P:=P) rfl aI ae hx) rfl rfl rfl ?_);apply ab;refine ai ?_);all_goals (refine ag 9 ?_;(refine ao (hc:=hcm) (hX:=fun _ _=>trivial) ?_);apply ab;refine ai ?_);all_goals (refine aa 10 ?_);all_goals (refine ax ?_)))))
      all_goals
       repeat' (first|refine bp (q:=1) (hq:=by omega) ?_|apply ab|apply Qv|refine aj ?_|refine ad ?_|(refine aG (ht:=?_) (hf:=?_);all_goals (intro hx_;first|have:=aP hx_|have:=aS hx_)))
       · exact ⟨(⟨⟨(i+j)/2+1,j,by omega,by omega,h3⟩,fun hs=>absurd (show z<0 by assumption) (hsx hs)⟩:BinL P m b),(by show j-((i+j)/2+1)<j-i;omega),aw ⟨rfl,rfl,rfl,rfl,rfl,trivial⟩ (aE _) fun _ h=>h⟩
       · exact ⟨(⟨⟨i,(i+j)/2,h1,by omega,by omega⟩,hso⟩:BinL P m b),(by show (i+j)/2-i<j-i;omega),aw ⟨rfl,rfl,rfl,rfl,rfl,trivial⟩ (aE _) fun _ h=>h⟩
    · refine aT (ι:=UpI P a) (fun r=>⟨[(0,s.v),(10,.int .i64 (i:Nat)),(13,.int .i64 (r.k:Nat))],[postR s r.Q],fun _=>True⟩) (fun r=>i-r.k) ⟨a,Qp _,P,hP⟩ (aw ⟨rfl,rfl,rfl,trivial⟩ (aE _) fun _ h=>h) fun r=>?_
      obtain ⟨k,h4,Q,hQ⟩:=r
      simp only
      have hl:=hQ.1.length_eq
      repeat' (first|refine bE (q:=1) (hq:=by omega) ?_|apply ab|apply Qu|apply Qv|refine aj ?_|refine bj ?_|apply Qx|apply Qw|apply ar|apply aQ|(refine aG (ht:=?_) (hf:=?_);all_goals (intro hx_;first|have:=aP hx_|have:=aS hx_)))
      · have hlt:k+1<i:=by omega
        obtain ⟨x,hx⟩:∃ x,Q[k]?=some x:=⟨_,Zm ae⟩
        obtain ⟨y,hy⟩:∃ y,Q[k+1]?=some y:=⟨_,Zm ae⟩
        (refine aU [] (fun _=>True) ak ?_)
        all_goals refine aa 0 ?_<;>refine aa 1 ?_<;>refine aa 2 ?_<;>refine aa 3 ?_<;>refine aa 4 ?_<;>refine aa 5 ?_<;>refine aa 6 ?_<;>refine aa 7 ?_<;>(refine aa 8 (hy:=by (apply aL (q:=p22 (k+1));rfl;rfl;omega;omega;assumption;(rw [cv];omega))) ?_)<;>refine aa 10 ?_<;>refine aa 11 ?_<;>(refine aa 12 (hy:=by (apply aL (q:=p22 (k));rfl;rfl;omega;omega;assumption;(rw [cv];omega))) ?_)<;>(refine bx 9 13 (h:=?_) (h':=?_);(focus (((refine am (bq (i:=k+1) (P:=Q) rfl aI ae hy) rfl rfl rfl ?_);apply ab;refine ai ?_);all_goals ((refine ag 13 ?_;(refine am (bq (i:=k) (P:=Q) rfl aI ae hx) rfl rfl rfl ?_);apply ab;refine ai ?_);all_goals (refine aa 14 (hy:=by (apply aL (q:=p22 (k));rfl;rfl;omega;omega;assumption;(rw [cv];omega))) ?_);all_goals (refine ag 15 ?_;(refine bO (i:=k) (p:=y) rfl rfl ae ae (At.here _) rfl aB rfl ?_);apply ab;refine ai ?_);all_goals (refine aa 16 (hy:=by (apply aL (q:=p22 (k+1));rfl;rfl;omega;omega;assumption;(rw [cv];omega))) ?_);all_goals (refine ag 17 ?_;(refine bO (i:=k+1) (p:=x) rfl rfl ae (by (simp only [List.length_set];omega)) (At.here _) rfl aB rfl ?_);apply ab;refine ai ?_);all_goals (refine ax ?_))));rotate_right;(focus (((refine am (bq (i:=k) (P:=Q) rfl aI ae hx) rfl rfl rfl ?_);apply ab;refine ai ?_);all_goals ((refine ag 9 ?_;(refine am (bq (i:=k+1) (P:=Q) rfl aI ae hy) rfl rfl rfl ?_);apply ab;refine ai ?_);all_goals (refine aa 14 (hy:=by (apply aL (q:=p22 (k));rfl;rfl;omega;omega;assumption;(rw [cv];omega))) ?_);all_goals (refine ag 15 ?_;(refine bO (i:=k) (p:=y) rfl rfl ae ae (At.here _) rfl aB rfl ?_);apply ab;refine ai ?_);all_goals (refine aa 16 (hy:=by (apply aL (q:=p22 (k+1));rfl;rfl;omega;omega;assumption;(rw [cv];omega))) ?_);all_goals (refine ag 17 ?_;(refine bO (i:=k+1) (p:=x) rfl rfl ae (by (simp only [List.length_set];omega)) (At.here _) rfl aB rfl ?_);apply ab;refine ai ?_);all_goals (refine ax ?_)))))
        all_goals
         repeat' (first|refine bp (q:=1) (hq:=by omega) ?_|apply ab|apply Qv|refine aj ?_|refine ad ?_|fail)
         exact ⟨(⟨k+1,by omega,(Q.set k y).set (k+1) x,hQ.swap hx hy (fun hs=>by have:=hso hs;omega)⟩:UpI P a),(by show i-(k+1)<i-k;omega),aw ⟨rfl,rfl,rfl,trivial⟩ (aE _) fun _ h=>h⟩
      · exact al (bJ rfl) ⟨rfl,Q,hQ,rfl⟩
  · by_cases hB:b-m=1
    · repeat' (first|refine bE (hq:=by omega) ?_|refine bm (hab:=by omega) ?_|refine bt (hab:=by omega) ?_|apply ab|apply Qu|apply Qv|refine aj ?_|refine ad ?_|refine Qy ?_|refine Qz ?_|apply Qx|apply Qw|fail)
      refine aT (ι:=BinR P a m) (fun r=>⟨[(0,s.v),(2,.int .i64 (m:Nat)),(4,cmpF),(14,.int .i64 (r.i:Nat)),(15,.int .i64 (r.j:Nat))],[postR s P],fun _=>True⟩) (fun r=>r.j-r.i) ⟨⟨a,m,by omega,by omega,by omega⟩,fun _=>rfl⟩ (aw ⟨rfl,rfl,rfl,rfl,rfl,trivial⟩ (aE _) fun _ h=>h) fun r=>?_
      obtain ⟨⟨i,j,h1,h2,h3⟩,hso⟩:=r
      simp only at hso
      simp only
      repeat' (first|refine bp (hq:=by omega) ?_|refine sy_toU_g (hq:=by omega) ?_|refine di ?_|refine sy_toI_g (hq:=by omega) ?_|apply ab|apply Qu|apply Qv|refine aj ?_|refine ad ?_|refine bj ?_|apply Qx|apply Qw|apply aQ|(refine aG (ht:=?_) (hf:=?_);all_goals (intro hx_;first|have:=aP hx_|have:=aS hx_)))
      · have hlt:i<j:=by omega
        obtain ⟨x,hx⟩:∃ x,P[m]?=some x:=⟨_,Zm ae⟩
        obtain ⟨y,hy⟩:∃ y,P[(i+j)/2]?=some y:=⟨_,Zm ae⟩
        have hcm:=eC x y
        have hsx:Srt P→¬ cmpX x y<0:=fun hs=>hs ((i+j)/2) m y x ae hy hx
        generalize cmpX x y=z at *
        unfold cmpF
        (refine aU [] (fun _=>True) ak ?_)
        all_goals refine aa 0 ?_<;>refine aa 1 ?_<;>refine aa 2 ?_<;>(refine aa 3 (hy:=by (apply aL (q:=p22 (m));rfl;rfl;omega;omega;assumption;(rw [cv];omega))) ?_)<;>refine aa 5 ?_<;>refine aa 6 ?_<;>(refine aa 7 (hy:=by (apply aL (q:=p22 (((i+j)/2)));rfl;rfl;omega;omega;assumption;(rw [cv];omega))) ?_)<;>(refine bx 4 8 (h:=?_) (h':=?_);(focus (((refine am (bq (i:=m) (P:=P) rfl aI ae hx) rfl rfl rfl ?_);apply ab;refine ai ?_);all_goals ((refine ag 8 ?_;(refine am (bq (i:=(i+j)/2) (P:=P) rfl aI ae hy) rfl rfl rfl ?_);apply ab;refine ai ?_);all_goals (refine ag 9 ?_;(refine ao (hc:=hcm) (hX:=fun _ _=>trivial) ?_);apply ab;refine ai ?_);all_goals (refine aa 10 ?_);all_goals (refine aa 11 ?_);all_goals (refine ax ?_))));rotate_right;(focus (((refine am (bq (i:=(i+j)/2) (P:=P) rfl aI ae hy) rfl rfl rfl ?_);apply ab;refine ai ?_);all_goals ((refine ag 4 ?_;(refine am (bq (i:=m) (P:=P) rfl aI ae hx) rfl rfl rfl ?_);apply ab;refine ai ?_);all_goals (refine ag 9 ?_;(refine ao (hc:=hcm) (hX:=fun _ _=>trivial) ?_);apply ab;refine ai ?_);all_goals (refine aa 10 ?_);all_goals (refine aa 11 ?_);all_goals (refine ax ?_)))))
        all_goals
         repeat' (first|refine bp (q:=1) (hq:=by omega) ?_|apply ab|apply Qv|refine aj ?_|refine ad ?_|(refine aG (ht:=?_) (hf:=?_);all_goals (intro hx_;skip)))
         · exact ⟨(⟨⟨(i+j)/2+1,j,by omega,by omega,h3⟩,hso⟩:BinR P a m),(by show j-((i+j)/2+1)<j-i;omega),aw ⟨rfl,rfl,rfl,rfl,rfl,trivial⟩ (aE _) fun _ h=>h⟩
         · exact ⟨(⟨⟨i,(i+j)/2,h1,by omega,by omega⟩,fun hs=>absurd (show z<0 by (simp_all;done)) (hsx hs)⟩:BinR P a m),(by show (i+j)/2-i<j-i;omega),aw ⟨rfl,rfl,rfl,rfl,rfl,trivial⟩ (aE _) fun _ h=>h⟩
      · refine aT (ι:=DownI P i m) (fun r=>⟨[(0,s.v),(14,.int .i64 (i:Nat)),(17,.int .i64 (r.k:Nat))],[postR s r.Q],fun _=>True⟩) (fun r=>r.k) ⟨m,by omega,Qp _,P,hP⟩ (aw ⟨rfl,rfl,rfl,trivial⟩ (aE _) fun _ h=>h) fun r=>?_
        obtain ⟨k,h4,h5,Q,hQ⟩:=r
        simp only
        have hl:=hQ.1.length_eq
        repeat' (first|apply ab|apply Qu|apply Qv|refine aj ?_|refine cK ?_|apply Qx|apply Qw|apply ar|apply aQ|(refine aG (ht:=?_) (hf:=?_);all_goals (intro hx_;first|have:=aP hx_|have:=aS hx_)))
        · have hlt:i<k:=by omega
          obtain ⟨x,hx⟩:∃ x,Q[k]?=some x:=⟨_,Zm ae⟩
          obtain ⟨y,hy⟩:∃ y,Q[k-1]?=some y:=⟨_,Zm ae⟩
          (refine aU [] (fun _=>True) ak ?_)
          all_goals refine aa 0 ?_<;>refine aa 1 ?_<;>refine aa 2 ?_<;>refine aa 3 ?_<;>refine aa 4 ?_<;>refine aa 5 ?_<;>refine aa 6 ?_<;>refine aa 7 ?_<;>(refine aa 8 (hy:=by (apply aL (q:=p22 (k-1));rfl;rfl;omega;omega;assumption;(rw [cv];omega))) ?_)<;>refine aa 10 ?_<;>refine aa 11 ?_<;>(refine aa 12 (hy:=by (apply aL (q:=p22 (k));rfl;rfl;omega;omega;assumption;(rw [cv];omega))) ?_)<;>(refine bx 9 13 (h:=?_) (h':=?_);(focus (((refine am (bq (i:=k-1) (P:=Q) rfl aI ae hy) rfl rfl rfl ?_);apply ab;refine ai ?_);all_goals ((refine ag 13 ?_;(refine am (bq (i:=k) (P:=Q) rfl aI ae hx) rfl rfl rfl ?_);apply ab;refine ai ?_);all_goals (refine aa 14 (hy:=by (apply aL (q:=p22 (k));rfl;rfl;omega;omega;assumption;(rw [cv];omega))) ?_);all_goals (refine ag 15 ?_;(refine bO (i:=k) (p:=y) rfl rfl ae ae (At.here _) rfl aB rfl ?_);apply ab;refine ai ?_);all_goals (refine aa 16 (hy:=by (apply aL (q:=p22 (k-1));rfl;rfl;omega;omega;assumption;(rw [cv];omega))) ?_);all_goals (refine ag 17 ?_;(refine bO (i:=k-1) (p:=x) rfl rfl ae (by (simp only [List.length_set];omega)) (At.here _) rfl aB rfl ?_);apply ab;refine ai ?_);all_goals (refine ax ?_))));rotate_right;(focus (((refine am (bq (i:=k) (P:=Q) rfl aI ae hx) rfl rfl rfl ?_);apply ab;refine ai ?_);all_goals ((refine ag 9 ?_;(refine am (bq (i:=k-1) (P:=Q) rfl aI ae hy) rfl rfl rfl ?_);apply ab;refine ai ?_);all_goals (refine aa 14 (hy:=by (apply aL (q:=p22 (k));rfl;rfl;omega;omega;assumption;(rw [cv];omega))) ?_);all_goals (refine ag 15 ?_;(refine bO (i:=k) (p:=y) rfl rfl ae ae (At.here _) rfl aB rfl ?_);apply ab;refine ai ?_);all_goals (refine aa 16 (hy:=by (apply aL (q:=p22 (k-1));rfl;rfl;omega;omega;assumption;(rw [cv];omega))) ?_);all_goals (refine ag 17 ?_;(refine bO (i:=k-1) (p:=x) rfl rfl ae (by (simp only [List.length_set];omega)) (At.here _) rfl aB rfl ?_);apply ab;refine ai ?_);all_goals (refine ax ?_)))))
          all_goals
           repeat' (first|refine bE (q:=1) (hq:=by omega) ?_|apply ab|apply Qv|refine aj ?_|refine ad ?_|fail)
           exact ⟨(⟨k-1,by omega,by omega,(Q.set k y).set (k-1) x,hQ.swap hx hy (fun hs=>by have:=hso hs;omega)⟩:DownI P i m),(by show k-1<k;omega),aw ⟨rfl,rfl,rfl,trivial⟩ (aE _) fun _ h=>h⟩
        · exact al (bJ rfl) ⟨rfl,Q,hQ,rfl⟩
    · obtain ⟨mid,hmid⟩:∃ mid,mid=(a+b)/2:=⟨_,rfl⟩
      have hm1:a<mid:=by omega
      have hm2:mid<b:=by omega
      have hm3:2*mid≤a+b:=by omega
      have hm4:a+b≤2*mid+1:=by omega
      by_cases hmm:mid<m
      all_goals
       repeat' (first|refine bt (hab:=by omega) ?_|refine jV (hab:=by omega) ?_|refine g9 (hab:=by omega) ?_|refine bE (q:=1) (hq:=by omega) ?_|refine bE (hq:=by omega) ?_|refine bp (hq:=by omega) ?_|refine sy_toU_g (hq:=by omega) ?_|refine di ?_|refine sy_toI_g (hq:=by omega) ?_|apply ab|apply Qu|apply Qv|refine aj ?_|refine ad ?_|refine Qy ?_|refine Qz ?_|apply Qx|apply Qw|fail)
       rw [←hmid]
       first
        | refine aT (ι:=MerO P a m b mid) (fun r=>⟨[(0,s.v),(1,.int .i64 (a:Nat)),(2,.int .i64 (m:Nat)),(3,.int .i64 (b:Nat)),(4,cmpF),(18,.int .i64 (mid:Nat)),(19,.int .i64 ((mid+m:Nat):Int)),(20,.int .i64 (r.i:Nat)),(21,.int .i64 (r.j:Nat)),(22,.int .i64 ((mid+m-1:Nat):Int))],[postR s P],fun _=>True⟩) (fun r=>r.j-r.i) ⟨⟨mid+m-b,mid,by omega,by omega,by omega⟩,fun _=>by rw [Qf (by assumption)]⟩ (aw ⟨rfl,rfl,rfl,rfl,rfl,rfl,rfl,rfl,rfl,rfl,trivial⟩ (aE _) fun _ h=>h) fun r=>?_
        | refine aT (ι:=MerO P a m b mid) (fun r=>⟨[(0,s.v),(1,.int .i64 (a:Nat)),(2,.int .i64 (m:Nat)),(3,.int .i64 (b:Nat)),(4,cmpF),(18,.int .i64 (mid:Nat)),(19,.int .i64 ((mid+m:Nat):Int)),(20,.int .i64 (r.i:Nat)),(21,.int .i64 (r.j:Nat)),(22,.int .i64 ((mid+m-1:Nat):Int))],[postR s P],fun _=>True⟩) (fun r=>r.j-r.i) ⟨⟨a,m,by omega,by omega,by omega⟩,fun _=>by rw [Qg (by assumption)]⟩ (aw ⟨rfl,rfl,rfl,rfl,rfl,rfl,rfl,rfl,rfl,rfl,trivial⟩ (aE _) fun _ h=>h) fun r=>?_
       obtain ⟨⟨i,j,h1,h2,h3⟩,hso⟩:=r
       simp only at hso
       simp only
       have hk1:a≤i:=by omega
       have hk2:j≤m:=by omega
       have hk3:i≤mid+m:=by omega
       by_cases hij:i<j
       · have hk4:(i+j)/2<j:=by omega
         have hk5:i≤(i+j)/2:=by omega
         have hk6:(i+j)/2≤mid+m-1:=by omega
         have hk7:mid+m-1-(i+j)/2<b:=by omega
         repeat' (first|refine sy_lssT_g (hab:=by omega) ?_|refine bp (hq:=by omega) ?_|refine sy_toU_g (hq:=by omega) ?_|refine di ?_|refine sy_toI_g (hq:=by omega) ?_|apply ab|apply Qu|apply Qv|refine aj ?_|refine ad ?_|refine Qy ?_|apply Qx|apply Qw|fail)
         obtain ⟨x,hx⟩:∃ x,P[mid+m-1-(i+j)/2]?=some x:=⟨_,Zm ae⟩
         obtain ⟨y,hy⟩:∃ y,P[(i+j)/2]?=some y:=⟨_,Zm ae⟩
         have hcm:=eC x y
         have hsx:Srt P→¬ cmpX x y<0:=fun hs=>hs ((i+j)/2) (mid+m-1-(i+j)/2) y x ae hy hx
         generalize cmpX x y=z at *
         unfold cmpF
         (refine aU [] (fun _=>True) ak ?_)
         all_goals refine aa 0 ?_<;>refine aa 1 ?_<;>refine aa 2 ?_<;>refine aa 3 ?_<;>refine aa 4 ?_<;>(refine aa 5 (hy:=by (apply aL (q:=p22 ((mid+m-1-(i+j)/2)));rfl;rfl;omega;omega;assumption;(rw [cv];omega))) ?_)<;>refine aa 7 ?_<;>refine aa 8 ?_<;>(refine aa 9 (hy:=by (apply aL (q:=p22 (((i+j)/2)));rfl;rfl;omega;omega;assumption;(rw [cv];omega))) ?_)<;>(refine bx 6 10 (h:=?_) (h':=?_);(focus (((refine am (bq (i:=mid+m-1-(i+j)/2) (P:=P) rfl aI ae hx) rfl rfl rfl ?_);apply ab;refine ai ?_);all_goals ((refine ag 10 ?_;(refine am (bq (i:=(i+j)/2) (P:=P) rfl aI ae hy) rfl rfl rfl ?_);apply ab;refine ai ?_);all_goals (refine ag 11 ?_;(refine ao (hc:=hcm) (hX:=fun _ _=>trivial) ?_);apply ab;refine ai ?_);all_goals (refine aa 12 ?_);all_goals (refine aa 13 ?_);all_goals (refine ax ?_))));rotate_right;(focus (((refine am (bq (i:=(i+j)/2) (P:=P) rfl aI ae hy) rfl rfl rfl ?_);apply ab;refine ai ?_);all_goals ((refine ag 6 ?_;(refine am (bq (i:=mid+m-1-(i+j)/2) (P:=P) rfl aI ae hx) rfl rfl rfl ?_);apply ab;refine ai ?_);all_goals (refine ag 11 ?_;(refine ao (hc:=hcm) (hX:=fun _ _=>trivial) ?_);apply ab;refine ai ?_);all_goals (refine aa 12 ?_);all_goals (refine aa 13 ?_);all_goals (refine ax ?_)))))
         all_goals
          repeat' (first|refine bp (q:=1) (hq:=by omega) ?_|apply ab|apply Qv|refine aj ?_|refine ad ?_|(refine aG (ht:=?_) (hf:=?_);all_goals (intro hx_;skip)))
          · exact ⟨(⟨⟨(i+j)/2+1,j,by omega,by omega,by omega⟩,hso⟩:MerO P a m b mid),(by show j-((i+j)/2+1)<j-i;omega),aw ⟨rfl,rfl,rfl,rfl,rfl,rfl,rfl,rfl,rfl,rfl,trivial⟩ (aE _) fun _ h=>h⟩
          · exact ⟨(⟨⟨i,(i+j)/2,by omega,by omega,by omega⟩,fun hs=>absurd (show z<0 by (simp_all;done)) (hsx hs)⟩:MerO P a m b mid),(by show (i+j)/2-i<j-i;omega),aw ⟨rfl,rfl,rfl,rfl,rfl,rfl,rfl,rfl,rfl,rfl,trivial⟩ (aE _) fun _ h=>h⟩
       · have hk8:mid+m-i≤b:=by omega
         have hnl:¬ (i:Int)<(j:Int):=by omega
         repeat' (first|refine sy_lssF_g (hab:=by first|exact hnl|omega) ?_|refine sy_lssT_g (hab:=by omega) ?_|refine bE (hq:=by omega) ?_|apply ab|apply Qu|apply Qv|refine aj ?_|refine ad ?_|refine aD ?_|refine aF ?_|refine bj ?_|refine aK ?_|refine Qy ?_|refine Qz ?_|apply Qx|apply aQ|(refine ic (P:=P) (hQ:=by assumption) (hno:=fun hs=>by have:=hso hs;split at this<;>omega) (hc:=fun Q hQ=>fI s Q i m (mid+m-i) cmpF (hs.trans hQ.1.length_eq.symm) hm ae ae ae) (h:=fun Q2 hQ2=>?_))|(refine cM (P:=P) (hQ:=by assumption) (hc:=fun Q hQ=>ih s Q a i mid ae (hs.trans hQ.1.length_eq.symm) hm ae ae ae) (h:=fun Q2 hQ2=>?_))|(refine cM (P:=P) (hQ:=by assumption) (hc:=fun Q hQ=>ih s Q mid (mid+m-i) b ae (hs.trans hQ.1.length_eq.symm) hm ae ae ae) (h:=fun Q2 hQ2=>?_))|((fail_if_success (refine aZ ?_));refine aR (ht:=?_) (hf:=?_);all_goals (intro hx_;first|have:=aP hx_|have:=aS hx_))|(refine aG (ht:=?_) (hf:=?_);all_goals (intro hx_;first|have:=aP hx_|have:=aS hx_)))
         all_goals
          refine bY (bJ rfl) ⟨rfl,_,?_,rfl⟩
          assumption
end SrA
namespace SrA
structure StaI (P:List FndX) (n w:Nat) where
 a:Nat
 b:Nat
 h1:a≤n
 h2:b=a+w
 Q:List FndX
 hQ:Rel P Q
structure StaO (P:List FndX) (n:Nat) where
 z:Nat
 h1:1≤z
 h2:z≤2*n+20
 Q:List FndX
 hQ:Rel P Q
set_option maxRecDepth 20000 in
set_option maxHeartbeats 8000000 in
theorem fE (s:SlV) (P:List FndX) (hs:s.n=P.length) (hm:s.n≤1000000):Ct Tryz.prog 161 #[s.v,.int .i64 (s.n:Nat),cmpF] [postR s P] (fun _=>True) (RelAt s P):=by
 have hP:Rel P P:=Rel.refl P
 refine cf (args:=[_,_,_]) _ Tryz.func161 rfl Tryz.ntmps161 rfl fun av bor w0=>?_
 repeat' (first|apply ab|apply Qu|apply Qv|refine aj ?_|refine ad ?_|apply Qw|fail)
 refine aT (ι:=StaI P s.n 20) (fun r=>⟨[(0,s.v),(1,.int .i64 (s.n:Nat)),(2,cmpF),(6,.int .i64 20),(7,.int .i64 (r.a:Nat)),(8,.int .i64 (r.b:Nat))],[postR s r.Q],fun _=>True⟩) (fun r=>s.n-r.a) ⟨0,20,Nat.zero_le _,rfl,P,hP⟩ (aw ⟨rfl,rfl,rfl,rfl,rfl,rfl,trivial⟩ (aE _) fun _ h=>h) fun r=>?_
 obtain ⟨a,b,h1,h2,Q,hQ⟩:=r
 simp only
 repeat' (first|refine bp (q:=20) (hq:=by omega) ?_|apply ab|apply Qu|apply Qv|refine aj ?_|refine ad ?_|refine cB ?_|apply Qx|apply Qw|apply aQ|(refine cM (P:=P) (hQ:=by assumption) (hc:=fun Q hQ=>dp s Q a b (hs.trans hQ.1.length_eq.symm) hm ae ae) (h:=fun Q2 hQ2=>?_))|(refine cM (P:=P) (hQ:=by assumption) (hc:=fun Q hQ=>dp s Q a s.n (hs.trans hQ.1.length_eq.symm) hm ae ae) (h:=fun Q2 hQ2=>?_))|(refine aG (ht:=?_) (hf:=?_);all_goals (intro hx_;first|have:=aP hx_|have:=aS hx_)))
 · exact ⟨(⟨b,b+20,by omega,rfl,Q2,hQ2⟩:StaI P s.n 20),(by show s.n-b<s.n-a;omega),aw ⟨rfl,rfl,rfl,rfl,rfl,rfl,trivial⟩ (aE _) fun _ h=>h⟩
 · refine aT (ι:=StaO P s.n) (fun r=>⟨[(0,s.v),(1,.int .i64 (s.n:Nat)),(2,cmpF),(6,.int .i64 (r.z:Nat))],[postR s r.Q],fun _=>True⟩) (fun r=>s.n-r.z) ⟨20,by omega,by omega,Q2,hQ2⟩ (aw ⟨rfl,rfl,rfl,rfl,trivial⟩ (aE _) fun _ h=>h) fun r=>?_
   clear h1 h2 hQ hQ2
   obtain ⟨z,h1,h2,Q,hQ⟩:=r
   simp only
   repeat' (first|refine dZ (p:=2) (hq:=by omega) ?_|apply ab|apply Qu|apply Qv|refine aj ?_|refine ad ?_|refine bj ?_|apply Qx|apply Qw|apply aQ|(refine aG (ht:=?_) (hf:=?_);all_goals (intro hx_;first|have:=aP hx_|have:=aS hx_)))
   · have hzn:z<s.n:=by omega
     refine aT (ι:=StaI P s.n (2*z)) (fun r=>⟨[(0,s.v),(1,.int .i64 (s.n:Nat)),(2,cmpF),(6,.int .i64 (z:Nat)),(7,.int .i64 (r.a:Nat)),(8,.int .i64 (r.b:Nat))],[postR s r.Q],fun _=>True⟩) (fun r=>s.n-r.a) ⟨0,2*z,Nat.zero_le _,(Ql _).symm,Q,hQ⟩ (aw ⟨rfl,rfl,rfl,rfl,rfl,rfl,trivial⟩ (aE _) fun _ h=>h) fun r=>?_
     obtain ⟨a,b,h3,h4,Q3,hQ3⟩:=r
     simp only
     repeat' (first|refine bp (hq:=by omega) ?_|refine dZ (p:=2) (hq:=by omega) ?_|refine dZ (q:=2) (hq:=by omega) ?_|apply ab|apply Qu|apply Qv|refine aj ?_|refine ad ?_|refine bj ?_|refine cB ?_|apply Qx|apply Qw|apply aQ|(refine cM (P:=P) (hQ:=by assumption) (hc:=fun Q hQ=>cR (b-a) s Q a (a+z) b (Qp _) (hs.trans hQ.1.length_eq.symm) hm ae ae ae) (h:=fun Q2 hQ2=>?_))|(refine cM (P:=P) (hQ:=by assumption) (hc:=fun Q hQ=>cR (s.n-a) s Q a (a+z) s.n (Qp _) (hs.trans hQ.1.length_eq.symm) hm ae ae ae) (h:=fun Q2 hQ2=>?_))|(refine aG (ht:=?_) (hf:=?_);all_goals (intro hx_;first|have:=aP hx_|have:=aS hx_)))
     · exact ⟨(⟨b,b+2*z,by omega,rfl,Q2,hQ2⟩:StaI P s.n (2*z)),(by show s.n-b<s.n-a;omega),aw ⟨rfl,rfl,rfl,rfl,rfl,rfl,trivial⟩ (aE _) fun _ h=>h⟩
     all_goals
      refine ⟨(⟨z*2,by omega,by omega,_,?_⟩:StaO P s.n),(by show s.n-z*2<s.n-z;omega),aw ⟨rfl,rfl,rfl,rfl,trivial⟩ (aE _) fun _ h=>h⟩
      assumption
   · exact bY (bJ rfl) ⟨rfl,Q,hQ,rfl⟩
theorem sortStable_ct (s:SlV) (P:List FndX) (hs:s.n=P.length) (hm:s.n≤1000000):Ct Tryz.prog 95 #[s.v,cmpF] [postR s P] (fun _=>True) (RelAt s P):=by
 have hP:Rel P P:=Rel.refl P
 refine cf (args:=[_,_]) _ Tryz.func95 rfl Tryz.ntmps95 rfl fun av bor w0=>?_
 repeat' (first|apply ab|apply Qv|refine aj ?_|refine aY ?_|(refine cM (P:=P) (hQ:=by assumption) (hc:=fun Q hQ=>fE s Q (hs.trans hQ.1.length_eq.symm) hm) (h:=fun Q2 hQ2=>?_))|fail)
 exact bY (bJ rfl) ⟨rfl,Q2,hQ2,rfl⟩
end SrA
end Go.Proofs.YtcdilibijnboeaaGreatDoor
namespace Go.Proofs.YtcdilibijnboeaaGreatDoor
open Go Go.Proofs Sy
theorem xq {α β:Type} {f:α→β} {P:List α} {Q:List β} (h:Q.Perm (P.map f)):∃ Q':List α,Q'.Perm P∧Q'.map f=Q:=by
 generalize e:P.map f=R at h
 induction h generalizing P with
 | nil =>
  cases P with
  | nil=>exact ⟨[],List.Perm.refl _,rfl⟩
  | cons a P=>cases e
 | cons x h ih =>
  cases P with
  | nil=>cases e
  | cons a P =>
   rw [Qt,List.cons.injEq] at e
   obtain ⟨Q',h1,h2⟩:=ih e.2
   exact ⟨a::Q',h1.cons a,by rw [Qt,h2,e.1]⟩
 | swap x y l =>
  cases P with
  | nil=>cases e
  | cons a P =>
   cases P with
   | nil=>cases e
   | cons b P =>
    rw [Qt,Qt,List.cons.injEq,List.cons.injEq] at e
    exact ⟨b::a::P,List.Perm.swap _ _ _,by rw [Qt,Qt,e.1,e.2.1,e.2.2]⟩
 | trans h1 h2 ih1 ih2 =>
  obtain ⟨Q2,p2,e2⟩:=ih2 e
  obtain ⟨Q1,p1,e1⟩:=ih1 e2
  exact ⟨Q1,p1.trans p2,e1⟩
def fndX (f:FndA):SrA.FndX:=⟨f.rank,f.dg,f.a.cells,rfl,rfl⟩
theorem lH (P:List FndA):(P.map fndX).map SrA.FndX.cells=P.map FndA.cells:=by rw [Qs];rfl
theorem mx (n:Nat) (hn:n≤1000000):SortA n:=fun s P hs hl=>by
 have h:=SrA.sortStable_ct s (P.map fndX) (by rw [Z3];exact hs) ae
 have e:SrA.postR s (P.map fndX)=fndR s P:=by
  show orow _ 22 _ _ ((P.map fndX).map SrA.FndX.cells).flatten=orow _ 22 _ _ (P.map FndA.cells).flatten
  rw [lH]
 rw [e] at h
 refine h.mono fun u R X' ⟨h1,Q,h2,h3⟩=>?_
 obtain ⟨Q',p,rfl⟩:=xq h2.1
 refine ⟨h1,Q',p,?_⟩
 rw [h3]
 show [orow _ 22 _ _ ((Q'.map fndX).map SrA.FndX.cells).flatten]=[orow _ 22 _ _ (Q'.map FndA.cells).flatten]
 rw [lH]
end Go.Proofs.YtcdilibijnboeaaGreatDoor
