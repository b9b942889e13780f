/- Joined by program out of: Up Uq Vc Vd Uw Ve Vf Rz Vg Vk Uy Vp. -/
import Derived.Test.YtfnjklhjngphmaaGreatDoorQ7
set_option linter.unusedVariables false
set_option linter.unusedSimpArgs false
namespace Go.Proofs.YtfnjklhjngphmaaGreatDoor
open Go Go.Proofs Sy
set_option maxRecDepth 20000 in
theorem j1 (a:ActD) (hs:a.Str):Pu Tryz.prog 141 #[itemV 0 a] (ActD.at_ · a) (.bool (rightB a)):=by
 refine aN (args:=[_]) _ Tryz.func141 rfl Tryz.ntmps141 rfl fun av bor w0=>?_
 have c1:=qF a
 have c2:=jC a hs
 have c3:=qL
 repeat' (first|(refine lf (h0:=by intro _;kernel_rfl) ?_)|apply ab|apply aj|apply ai|refine ae ?_|refine ac ?_|refine aM ?_|refine aL ?_|refine aJ ?_|refine aH ?_|refine aW ?_|refine aT fun _=>?_|refine aE ?_|apply aw|apply aA|(refine aC (hc:=c1) (hX:=fun _ _=>trivial) ?_)|(refine aC (hc:=c2) (hX:=fun w h=>h) ?_)|(refine aC (hc:=c3) (hX:=fun _ _=>trivial) ?_)|(refine bV (cs:=ActD.zero.cells) (hf:=by rfl) ?_)|(refine bV (cs:=claimZero) (hf:=by rfl) ?_)|(refine bV (cs:=ballotZero) (hf:=by rfl) ?_)|(refine bV (cs:=decZero) (hf:=by rfl) ?_)|(refine bZ (vs:=a.cells) (hv:=rfl) ?_)|(refine bZ (vs:=claimZero) (hv:=rfl) ?_)|(refine bZ (vs:=ballotZero) (hv:=rfl) ?_)|(refine bZ (vs:=decZero) (hv:=rfl) ?_)|((fail_if_success (refine bA ?_));refine bj (ht:=?_) (hf:=?_);all_goals (intro hx_;skip))|fail)
 all_goals exact aq (aB rfl rfl) (by rw [hx_])
theorem j3 (a:ActD) (hs:a.Str) (hr:a.Rng):Pu Tryz.prog 145 #[itemV 0 a] (ActD.at_ · a) (.string (bytesV a)):=by
 have c1:=j1 a hs
 have c2:=lz a hs (dz hr) ⟨hr.ints.2.2.2.2.2.2.2.1,hr.ints.2.2.2.2.2.2.2.2⟩
 have hsz:=ft hr
 have hn0:=bw 0
 rw [bytesV]
 cases hrB:rightB a with
 | false =>
  rw [hrB] at c1
  refine aN (args:=[_]) _ Tryz.func145 rfl Tryz.ntmps145 rfl fun av bor w0=>?_
  repeat' (first|apply ab|apply aj|apply ai|refine ae ?_|refine ac ?_|refine aG ?_|refine bE ?_|refine aT fun _=>?_|refine aE ?_|apply aA|(refine aC (hc:=c1) (hX:=fun w h=>h) ?_)|fail)
  exact aq (aB rfl rfl) rfl
 | true =>
 rw [hrB] at c1
 refine aN (args:=[_]) _ Tryz.func145 rfl Tryz.ntmps145 rfl fun av bor w0=>?_
 have c3:=cQ 0 ag
 repeat' (first|refine bM ?_|apply ab|apply aj|apply ai|refine ae ?_|refine ac ?_|refine aM ?_|refine aL ?_|refine aG ?_|refine bE ?_|refine aT fun _=>?_|refine aE ?_|refine aD ?_|apply ay|apply aw|(refine aC (hc:=c1) (hX:=fun w h=>h) ?_)|(refine aC (hc:=c3) (hX:=fun _ _=>trivial) ?_)|(refine aC (hc:=c2) (hX:=fun w h=>h) ?_)|(refine bZ (vs:=a.cells) (hv:=rfl) ?_)|fail)
 refine ax (cA rfl rfl ag) rfl aR rfl ?_
 repeat' (first|apply ab|refine ac ?_|apply aA|fail)
 all_goals exact aq (aB rfl rfl) rfl
theorem gp (a:ActD) (hs:a.Str) (hr:a.Rng):Pu Tryz.prog 84 #[itemV 0 a] (ActD.at_ · a) (.string (digV a)):=by
 have c1:=j3 a hs hr
 have hsz:=jV hr
 have c2:=uT (bytesV a) ag
 rw [digV]
 cases hB:seqB (bytesV a) ⟨#[]⟩ with
 | true =>
  refine aN (args:=[_]) _ Tryz.func84 rfl Tryz.ntmps84 rfl fun av bor w0=>?_
  repeat' (first|apply ab|apply aj|apply ai|refine ae ?_|refine ac ?_|refine aG ?_|refine co ?_|refine aT fun _=>?_|refine aE ?_|apply aA|(refine aC (hc:=c1) (hX:=fun w h=>h) ?_)|fail)
  all_goals first
   | (rw [hB] at hx_;exact absurd hx_ (by decide))
   | (refine aq (aB rfl rfl) ?_;simp only [cond_true,cond_false];done)
 | false =>
  refine aN (args:=[_]) _ Tryz.func84 rfl Tryz.ntmps84 rfl fun av bor w0=>?_
  repeat' (first|apply ab|apply aj|apply ai|refine ae ?_|refine ac ?_|refine aG ?_|refine co ?_|refine aT fun _=>?_|refine aD ?_|apply ay|apply aA|(refine aC (hc:=c1) (hX:=fun w h=>h) ?_)|(refine aC (hc:=c2) (hX:=fun _ _=>trivial) ?_)|fail)
  all_goals first
   | (rw [hB] at hx_;exact absurd hx_ (by decide))
   | (refine aq (aB rfl rfl) ?_;simp only [cond_true,cond_false];done)
theorem jD (a:ActD):Pu Tryz.prog 271 #[a.v] (fun _=>True) (itemV 0 a):=by
 refine aN (args:=[_]) _ Tryz.func271 rfl Tryz.ntmps271 rfl fun av bor w0=>?_
 repeat' (first|apply ab|apply aj|apply ai|refine aG ?_|refine aP fun _=>?_|refine aT fun _=>?_|refine aK ?_|apply aA|(refine bV (cs:=itemCells 0 a) (hf:=by rfl) ?_)|fail)
 apply aq;refine bT rfl rfl bF ?_
 all_goals first
  | rfl
theorem lv (a:ActD) (hs:a.Str) (hr:a.Rng):Pu Tryz.prog 214 #[a.v] (ActD.at_ · a) (.string (digV a)):=by
 have c1:=jD a
 have c2:=gp a hs hr
 refine aN (args:=[_]) _ Tryz.func214 rfl Tryz.ntmps214 rfl fun av bor w0=>?_
 repeat' (first|apply ab|apply aj|apply ai|refine ac ?_|refine aG ?_|refine aT fun _=>?_|apply aA|(refine aC (hc:=c1) (hX:=fun _ _=>trivial) ?_)|(refine aC (hc:=c2) (hX:=fun w h=>h) ?_)|fail)
 all_goals first
  | exact aq (aB rfl rfl) rfl
def undF (l:List ActD):Nat→Bool
 | 0=>false
 | k+1=>undF l k||decide ((l.getD k ActD.zero).kind=6)
theorem mu {l:List ActD} {i:Nat} {x:ActD} (hx:l[i]?=some x) (h6:x.kind=6):∀ k,i<k→undF l k=true
 | 0,h=>absurd h (Nat.not_lt_zero _)
 | k+1,h=>by
  rw [undF]
  rcases Nat.lt_succ_iff_lt_or_eq.1 h with h|rfl
  · rw [mu hx h6 k h,Bool.true_or]
  · rw [List.getD_eq_getElem?_getD,hx,Option.getD_some,h6];exact Bool.or_true _
def dgsR (l:List ActD):List ByteArray:=bif undF l l.length then l.map digV else []
structure DgsI (l:List ActD) where
 k:Nat
 hk:k≤l.length
 A:Option Addr
 c:Nat
 xs:List Value
 hxs:xs=(strs ((l.take k).map digV)).flatten
set_option maxHeartbeats 4000000 in
theorem on (c:ChainD) (hs:∀ a∈c.actsL,a.Str∧a.Rng) (hl:c.actsL.length≤1000000):Mk Tryz.prog 276 #[c.v] (fun w=>c.at_ w) (StrsAt (dgsR c.actsL)):=by
 refine bL (args:=[_]) _ Tryz.func276 rfl Tryz.ntmps276 rfl fun av bor w0=>?_
 refine bt (p:=c.acts.n=c.actsL.length∧c.acts.n≤maxLen∧(0<c.actsL.length→c.acts.p.isSome=true)) (fun w h=>⟨h.len_,h.max_,h.some_⟩) fun ⟨hn,hm,hp⟩=>?_
 simp only [maxLen] at hm
 refine cf 9 1 ?_
 repeat' (first|apply ab|apply aj|apply ai|refine ac ?_|refine aT fun _=>?_|apply aw|fail)
 rename_i b1
 refine be (ι:=Kth c.actsL.length) (fun i=>⟨[(1,.pointer (some ⟨b1,0,none⟩)),(3,.slice none 0 0),(4,.bool (undF c.actsL i.k)),(5,.int .i64 (i.k:Nat))],[cel b1 31 c.cells,orow 9 1 (.slice none 0 0) 0 []],fun w=>c.at_ w⟩) (fun i=>c.actsL.length-i.k) ⟨0,Nat.zero_le _⟩ (aF ⟨rfl,rfl,rfl,rfl,trivial⟩ (aQ _) fun _ h=>h) fun i=>?_
 obtain ⟨k,hk⟩:=i
 simp only
 obtain ⟨u,hu⟩:∃ u,undF c.actsL k=u:=⟨_,rfl⟩
 rw [hu]
 by_cases hlt:k<c.actsL.length
 · have hp':=hp ag
   obtain ⟨a,ha⟩:∃ a,c.actsL[k]?=some a:=⟨_,List.getElem?_eq_getElem hlt⟩
   have hun:undF c.actsL (k+1)=(u||decide (a.kind=6)):=by rw [undF,hu,List.getD_eq_getElem?_getD,ha];rfl
   cases u with
   | true =>
    repeat' (first|refine ax (bK true rfl rfl (decide_eq_true ag)) rfl aR rfl ?_|apply ab|apply aj|apply ai|refine ae ?_|refine ac ?_|refine aM ?_|refine aL ?_|refine aJ ?_|refine bg ?_|refine bm (h:=?_)|refine bI ?_|refine aE ?_|apply ay|apply aw|fail)
    exact ⟨(⟨k+1,hlt⟩:Kth c.actsL.length),(by show c.actsL.length-(k+1)<c.actsL.length-k;omega),aF ⟨rfl,rfl,by rw [hun];rfl,rfl,trivial⟩ (aQ _) fun _ h=>h⟩
   | false =>
    repeat' (first|refine ax (bK true rfl rfl (decide_eq_true ag)) rfl aR rfl ?_|apply ab|apply aj|apply ai|refine ae ?_|refine ac ?_|refine aM ?_|refine aL ?_|refine aH ?_|refine bR ?_|refine bg ?_|refine bm (h:=?_)|refine aE ?_|apply ay|apply aw|(refine bf (q:=k*20) ?_)|(refine cT ?_)|(refine bU (q:=k*20+3) (u:=.int .i64 a.kind) (hF:=fun w h=>(Acts.get h ha).2.2 3 _ rfl) ?_)|fail)
    exact ⟨(⟨k+1,hlt⟩:Kth c.actsL.length),(by show c.actsL.length-(k+1)<c.actsL.length-k;omega),aF ⟨rfl,rfl,by rw [hun];rfl,rfl,trivial⟩ (aQ _) fun _ h=>h⟩
 have hkE:k=c.actsL.length:=by omega
 subst hkE
 rw [dgsR,hu]
 cases u with
 | false =>
  repeat' (first|refine ax (bK false rfl rfl (decide_eq_false ag)) rfl aR rfl ?_|apply ab|apply aj|apply ai|refine ae ?_|refine ac ?_|refine aM ?_|refine aL ?_|refine bg ?_|refine aD ?_|apply aw|apply aV|fail)
  refine be (ι:=Unit) (fun _=>⟨[(1,.pointer (some ⟨b1,0,none⟩)),(3,.slice none 0 0),(4,.bool false),(6,.int .i64 0)],[cel b1 31 c.cells],fun w=>c.at_ w⟩) (fun _=>0) () (aF ⟨rfl,rfl,rfl,rfl,trivial⟩ (.cons_cons _ (List.nil_sublist _)) fun _ h=>h) fun _=>?_
  repeat' (first|apply ab|apply aj|apply ai|refine ae ?_|refine ac ?_|refine aM ?_|refine aL ?_|refine aJ ?_|refine aH ?_|refine bu ?_|refine bg ?_|refine aW ?_|refine aD ?_|apply aA|apply aV|((fail_if_success (refine bA ?_));refine bj (ht:=?_) (hf:=?_);all_goals (intro hx_;first|have:=aY hx_|have:=aZ hx_))|fail)
  all_goals exact aq (aB rfl rfl) ⟨⟨none,0,0⟩,rfl,fun w _=>bz w 1⟩
 | true =>
  repeat' (first|refine ax (bK false rfl rfl (decide_eq_false ag)) rfl aR rfl ?_|apply ab|apply aj|apply ai|refine ae ?_|refine ac ?_|refine aM ?_|refine aL ?_|refine bg ?_|refine aD ?_|apply aw|apply aV|fail)
  refine be (ι:=DgsI c.actsL) (fun i=>⟨[(1,.pointer (some ⟨b1,0,none⟩)),(3,.slice i.A i.k i.c),(4,.bool true),(6,.int .i64 (i.k:Nat))],[cel b1 31 c.cells,orow 9 1 (.slice i.A i.k i.c) i.k i.xs],fun w=>c.at_ w⟩) (fun i=>c.actsL.length-i.k) ⟨0,Nat.zero_le _,none,0,[],rfl⟩ (aF ⟨rfl,rfl,rfl,rfl,trivial⟩ (aQ _) fun _ h=>h) fun i=>?_
  obtain ⟨k,hk,A,cp,xs,hxs⟩:=i
  simp only
  by_cases hlt:k<c.actsL.length
  · have hp':=hp ag
    obtain ⟨a,ha⟩:∃ a,c.actsL[k]?=some a:=⟨_,List.getElem?_eq_getElem hlt⟩
    have ham:=List.mem_of_getElem? ha
    have ht:(c.actsL.take (k+1)).map digV=(c.actsL.take k).map digV++[digV a]:=by rw [List.take_add_one,ha,Option.toList_some,List.map_append];rfl
    have c1:=jD a
    have c2:=gp a (hs a ham).1 (hs a ham).2
    repeat' (first|refine ax (bK true rfl rfl (decide_eq_true ag)) rfl aR rfl ?_|apply ab|apply aj|apply ai|refine ae ?_|refine ac ?_|refine aM ?_|refine aL ?_|refine aJ ?_|refine bg ?_|refine bm (h:=?_)|refine ca fun _=>?_|refine aE ?_|apply ay|apply aw|(refine bf (q:=k*20) ?_)|(refine bD (cs:=a.cells) (hF:=fun w h=>Acts.get h ha) ?_)|(refine aC (hc:=c1) (hX:=fun _ _=>trivial) ?_)|(refine aC (hc:=c2) (hX:=fun w h=>h.2 a ham) ?_)|(refine aS (size:=1) (z:=.string ⟨#[]⟩) (news:=[encB (digV a)]) (q:=1) rfl rfl rfl rfl (fun _=>At.there _ (At.there _ (At.here _))) (fun w G=>bq G aU rfl rfl 1) ag (by simp only [maxLen];omega) rfl ?_ rfl ?_;(with_reducible rfl);intro A2 c2)|fail)
    exact ⟨(⟨k+1,hlt,A2,c2,xs++[encB (digV a)],by rw [ht,hxs,strs,strs,List.map_append,List.flatten_append];rfl⟩:DgsI c.actsL),(by show c.actsL.length-(k+1)<c.actsL.length-k;omega),aF ⟨rfl,rfl,rfl,rfl,trivial⟩ (List.Sublist.cons _ (aQ _)) fun _ h=>h⟩
  have hkE:k=c.actsL.length:=by omega
  subst hkE
  repeat' (first|refine ax (bK false rfl rfl (decide_eq_false ag)) rfl aR rfl ?_|apply ab|apply aj|apply ai|refine ae ?_|refine ac ?_|refine aM ?_|refine aL ?_|refine aH ?_|refine bg ?_|refine aW ?_|refine aD ?_|apply aA|apply aV|fail)
  rw [List.take_length] at hxs
  subst hxs
  exact aq (aB rfl rfl) ⟨⟨A,c.actsL.length,cp⟩,rfl,fun w h=>bJ (h.2 _ (.tail _ (.head _))) (by simp [strs]) (eW _)⟩
theorem ic (s:SlV) (ks:List ByteArray) (x:ByteArray) (hn:ks.Nodup) (hl:ks.length≤1000000):Mk Tryz.prog 312 #[s.v,.string x] (fun w=>Strs w s (sortB ks)) (StrsAt (sortB (sput ks x))):=by
 rw [←tw hn];exact tz s _ x (by rw [eQ];exact hl)
theorem gR (s:SlV) (ks:List ByteArray) (x:ByteArray) (hn:ks.Nodup) (hl:ks.length≤1000000):Mk Tryz.prog 313 #[s.v,.string x] (fun w=>Strs w s (sortB ks)) (StrsAt (sortB (sdel ks x))):=by
 rw [←zk hn];exact ny s _ x (by rw [eQ];exact hl)
structure AftX (c:ChainD) (sl:SlV) (ds:List ByteArray) (s1 s2 s3 s4:SlV) (t:TieS) (w:World):Prop where
 c:c.at_ w
 d:Strs w sl ds
 f:Strs w s1 (sortB t.f)
 a:Strs w s2 (sortB t.a)
 b:Strs w s3 (sortB t.b)
 m:Strs w s4 (sortB t.m)
structure TLen (t:TieS):Prop where
 f:t.f.length≤1000000
 a:t.a.length≤1000000
 b:t.b.length≤1000000
 m:t.m.length≤1000000
set_option maxHeartbeats 8000000 in
set_option maxRecDepth 20000 in
theorem rC (c:ChainD) (i:Nat) (x:ActD) (hx:c.actsL[i]?=some x) (sl:SlV) (ds:List ByteArray) (hds:x.kind=6→ds=c.actsL.map digV) (s1 s2 s3 s4:SlV) (t:TieS) (hT:TNdR t) (hL:TLen t) :
  Mk Tryz.prog 277 #[.agg #[s1.v,s2.v,s3.v,s4.v],c.v,.int .i64 (i:Nat),sl.v] (AftX c sl ds s1 s2 s3 s4 t) (TiesAt (stepT c.actsL i t x)):=by
 refine bL (args:=[_,_,_,_]) _ Tryz.func277 rfl Tryz.ntmps277 rfl fun av bor w0=>?_
 refine bt (p:=c.acts.n=c.actsL.length∧c.acts.n≤maxLen∧(0<c.actsL.length→c.acts.p.isSome=true)) (fun w h=>⟨h.c.len_,h.c.max_,h.c.some_⟩) fun ⟨hn,hm,hp⟩=>?_
 simp only [maxLen] at hm
 have hlt:i<c.actsL.length:=(List.getElem?_eq_some_iff.1 hx).1
 have hp':=hp ag
 by_cases h7:x.kind=7
 · have hst:stepT c.actsL i t x={ t with f:=sput t.f x.target }:=by simp [stepT,h7]
   repeat' (first|refine bM (hab:=by omega) ?_|apply ab|apply aj|apply ai|refine ae ?_|refine ac ?_|refine aM ?_|refine aL ?_|refine aG ?_|refine aP fun _=>?_|refine aT fun _=>?_|refine br ?_|refine aK ?_|refine aE ?_|apply aw|apply aA|(refine bf (q:=i*20) ?_)|(refine bD (cs:=x.cells) (hF:=fun w h=>Acts.get h.c hx) ?_)|(refine bN (hc:=ic s1 t.f x.target hT.f (hL.f)) (hX:=fun w h=>h.f) fun v X' h'=>?_;obtain ⟨z,rfl,hz⟩:=h';refine dr (X':=AftX c sl ds z s2 s3 s4 { t with f:=sput t.f x.target }) (fun w h=>⟨h.1.c,h.1.d,hz w h.2,h.1.a,h.1.b,h.1.m⟩) ?_)|fail)
   exact aq (bT rfl rfl bF (by rfl)) ⟨z,s2,s3,s4,rfl,fun w h=>by rw [hst];exact ⟨h.1.f,h.1.a,h.1.b,h.1.m⟩⟩
 by_cases h8:x.kind=8
 · have hst:stepT c.actsL i t x={ t with a:=sput t.a x.target }:=by simp [stepT,h8]
   repeat' (first|refine bM (hab:=by omega) ?_|refine bQ (hab:=by omega) ?_|apply ab|apply aj|apply ai|refine ae ?_|refine ac ?_|refine aM ?_|refine aL ?_|refine aG ?_|refine aP fun _=>?_|refine aT fun _=>?_|refine br ?_|refine aK ?_|refine aE ?_|refine aD ?_|apply aw|apply aA|(refine bf (q:=i*20) ?_)|(refine bD (cs:=x.cells) (hF:=fun w h=>Acts.get h.c hx) ?_)|(refine bN (hc:=ic s2 t.a x.target hT.a (hL.a)) (hX:=fun w h=>h.a) fun v X' h'=>?_;obtain ⟨z,rfl,hz⟩:=h';refine dr (X':=AftX c sl ds s1 z s3 s4 { t with a:=sput t.a x.target }) (fun w h=>⟨h.1.c,h.1.d,h.1.f,hz w h.2,h.1.b,h.1.m⟩) ?_)|fail)
   exact aq (bT rfl rfl bF (by rfl)) ⟨s1,z,s3,s4,rfl,fun w h=>by rw [hst];exact ⟨h.1.f,h.1.a,h.1.b,h.1.m⟩⟩
 by_cases h9:x.kind=9
 · have hst:stepT c.actsL i t x={ t with a:=sdel t.a x.target }:=by simp [stepT,h9]
   repeat' (first|refine bM (hab:=by omega) ?_|refine bQ (hab:=by omega) ?_|apply ab|apply aj|apply ai|refine ae ?_|refine ac ?_|refine aM ?_|refine aL ?_|refine aG ?_|refine aP fun _=>?_|refine aT fun _=>?_|refine br ?_|refine aK ?_|refine aE ?_|refine aD ?_|apply aw|apply aA|(refine bf (q:=i*20) ?_)|(refine bD (cs:=x.cells) (hF:=fun w h=>Acts.get h.c hx) ?_)|(refine bN (hc:=gR s2 t.a x.target hT.a (hL.a)) (hX:=fun w h=>h.a) fun v X' h'=>?_;obtain ⟨z,rfl,hz⟩:=h';refine dr (X':=AftX c sl ds s1 z s3 s4 { t with a:=sdel t.a x.target }) (fun w h=>⟨h.1.c,h.1.d,h.1.f,hz w h.2,h.1.b,h.1.m⟩) ?_)|fail)
   exact aq (bT rfl rfl bF (by rfl)) ⟨s1,z,s3,s4,rfl,fun w h=>by rw [hst];exact ⟨h.1.f,h.1.a,h.1.b,h.1.m⟩⟩
 by_cases h10:x.kind=10
 · have hst:stepT c.actsL i t x={ t with b:=sput t.b x.target,f:=sdel t.f x.target,a:=sdel t.a x.target }:=by simp [stepT,h10]
   repeat' (first|refine bM (hab:=by omega) ?_|refine bQ (hab:=by omega) ?_|apply ab|apply aj|apply ai|refine ae ?_|refine ac ?_|refine aM ?_|refine aL ?_|refine aG ?_|refine aP fun _=>?_|refine aT fun _=>?_|refine br ?_|refine aK ?_|refine aE ?_|refine aD ?_|apply aw|apply aA|(refine bf (q:=i*20) ?_)|(refine bD (cs:=x.cells) (hF:=fun w h=>Acts.get h.c hx) ?_)|(refine bN (hc:=ic s3 t.b x.target hT.b (hL.b)) (hX:=fun w h=>h.b) fun v X' h'=>?_;obtain ⟨z,rfl,hz⟩:=h';refine dr (X':=AftX c sl ds s1 s2 z s4 { t with b:=sput t.b x.target }) (fun w h=>⟨h.1.c,h.1.d,h.1.f,h.1.a,hz w h.2,h.1.m⟩) ?_)|(refine bN (hc:=gR s1 t.f x.target hT.f (hL.f)) (hX:=fun w h=>h.f) fun v X' h'=>?_;obtain ⟨y1,rfl,hy1⟩:=h';refine dr (X':=AftX c sl ds y1 s2 z s4 { t with b:=sput t.b x.target,f:=sdel t.f x.target }) (fun w h=>⟨h.1.c,h.1.d,hy1 w h.2,h.1.a,h.1.b,h.1.m⟩) ?_)|(refine bN (hc:=gR s2 t.a x.target hT.a (hL.a)) (hX:=fun w h=>h.a) fun v X' h'=>?_;obtain ⟨y2,rfl,hy2⟩:=h';refine dr (X':=AftX c sl ds y1 y2 z s4 { t with b:=sput t.b x.target,f:=sdel t.f x.target,a:=sdel t.a x.target }) (fun w h=>⟨h.1.c,h.1.d,h.1.f,hy2 w h.2,h.1.b,h.1.m⟩) ?_)|fail)
   exact aq (bT rfl rfl bF (by rfl)) ⟨y1,y2,z,s4,rfl,fun w h=>by rw [hst];exact ⟨h.1.f,h.1.a,h.1.b,h.1.m⟩⟩
 by_cases h11:x.kind=11
 · have hst:stepT c.actsL i t x={ t with m:=sput t.m x.target }:=by simp [stepT,h11]
   repeat' (first|refine bM (hab:=by omega) ?_|refine bQ (hab:=by omega) ?_|apply ab|apply aj|apply ai|refine ae ?_|refine ac ?_|refine aM ?_|refine aL ?_|refine aG ?_|refine aP fun _=>?_|refine aT fun _=>?_|refine br ?_|refine aK ?_|refine aE ?_|refine aD ?_|apply aw|apply aA|(refine bf (q:=i*20) ?_)|(refine bD (cs:=x.cells) (hF:=fun w h=>Acts.get h.c hx) ?_)|(refine bN (hc:=ic s4 t.m x.target hT.m (hL.m)) (hX:=fun w h=>h.m) fun v X' h'=>?_;obtain ⟨z,rfl,hz⟩:=h';refine dr (X':=AftX c sl ds s1 s2 s3 z { t with m:=sput t.m x.target }) (fun w h=>⟨h.1.c,h.1.d,h.1.f,h.1.a,h.1.b,hz w h.2⟩) ?_)|fail)
   exact aq (bT rfl rfl bF (by rfl)) ⟨s1,s2,s3,z,rfl,fun w h=>by rw [hst];exact ⟨h.1.f,h.1.a,h.1.b,h.1.m⟩⟩
 by_cases h6:x.kind=6
 · have hd:=hds h6
   have hix:=q7 sl ds x.object
   rw [hd,rc,←hd] at hix
   have hst6:stepT c.actsL i t x=(match idxV c.actsL x.object with|some j=>bif decide ((j:Int)<(i:Int)) then undoT t (c.actsL.getD j ActD.zero) else t|none=>t):=by rw [stepT,h6];rfl
   cases ho:idxV c.actsL x.object with
   | none =>
    rw [ho] at hix hst6
    have hst:stepT c.actsL i t x=t:=hst6
    simp only at hix
    repeat' (first|refine bM (hab:=by omega) ?_|refine bQ (hab:=by omega) ?_|refine ax (bK true rfl rfl (by decide)) rfl aR rfl ?_|apply ab|apply aj|apply ai|refine ae ?_|refine ac ?_|refine aM ?_|refine aL ?_|refine aG ?_|refine aJ ?_|refine bI ?_|refine aP fun _=>?_|refine aT fun _=>?_|refine aK ?_|refine aE ?_|refine aD ?_|apply aw|apply aA|(refine bf (q:=i*20) ?_)|(refine bD (cs:=x.cells) (hF:=fun w h=>Acts.get h.c hx) ?_)|(refine aC (hc:=hix) (hX:=fun w h=>h.d) ?_)|fail)
    exact aq (bT rfl rfl bF (by rfl)) ⟨s1,s2,s3,s4,rfl,fun w h=>by rw [hst];exact ⟨h.1.f,h.1.a,h.1.b,h.1.m⟩⟩
   | some j =>
    rw [ho] at hix hst6
    simp only at hix hst6
    have hjl:j<c.actsL.length:=iI ho
    by_cases hji:j<i
    · obtain ⟨y,hy⟩:∃ y,c.actsL[j]?=some y:=⟨_,List.getElem?_eq_getElem hjl⟩
      have hgy:c.actsL.getD j ActD.zero=y:=by rw [List.getD_eq_getElem?_getD,hy];rfl
      rw [hgy,decide_eq_true ag,cond_true] at hst6
      by_cases g7:y.kind=7
      · have hst:stepT c.actsL i t x={ t with f:=sdel t.f y.target }:=by rw [hst6];simp [undoT,g7]
        repeat' (first|refine bM (hab:=by omega) ?_|refine bQ (hab:=by omega) ?_|refine ax (bK false rfl rfl (decide_eq_false ag)) rfl aR rfl ?_|refine ax (dl false rfl rfl (decide_eq_false ag)) rfl aR rfl ?_|apply ab|apply aj|apply ai|refine ae ?_|refine ac ?_|refine aM ?_|refine aL ?_|refine aG ?_|refine aH ?_|refine aP fun _=>?_|refine aT fun _=>?_|refine br ?_|refine aK ?_|refine aE ?_|refine aD ?_|apply ay|apply aw|apply aA|(refine bf (q:=i*20) ?_)|(refine bD (cs:=x.cells) (hF:=fun w h=>Acts.get h.c hx) ?_)|(refine aC (hc:=hix) (hX:=fun w h=>h.d) ?_)|(refine bf (q:=j*20) ?_)|(refine bD (cs:=y.cells) (hF:=fun w h=>Acts.get h.c hy) ?_)|(refine bN (hc:=gR s1 t.f y.target hT.f (hL.f)) (hX:=fun w h=>h.f) fun v X' h'=>?_;obtain ⟨z,rfl,hz⟩:=h';refine dr (X':=AftX c sl ds z s2 s3 s4 { t with f:=sdel t.f y.target }) (fun w h=>⟨h.1.c,h.1.d,hz w h.2,h.1.a,h.1.b,h.1.m⟩) ?_)|fail)
        exact aq (bT rfl rfl bF (by rfl)) ⟨z,s2,s3,s4,rfl,fun w h=>by rw [hst];exact ⟨h.1.f,h.1.a,h.1.b,h.1.m⟩⟩
      by_cases g8:y.kind=8
      · have hst:stepT c.actsL i t x={ t with a:=sdel t.a y.target }:=by rw [hst6];simp [undoT,g8]
        repeat' (first|refine bM (hab:=by omega) ?_|refine bQ (hab:=by omega) ?_|refine ax (bK false rfl rfl (decide_eq_false ag)) rfl aR rfl ?_|refine ax (dl false rfl rfl (decide_eq_false ag)) rfl aR rfl ?_|apply ab|apply aj|apply ai|refine ae ?_|refine ac ?_|refine aM ?_|refine aL ?_|refine aG ?_|refine aH ?_|refine aP fun _=>?_|refine aT fun _=>?_|refine br ?_|refine aK ?_|refine aE ?_|refine aD ?_|apply ay|apply aw|apply aA|(refine bf (q:=i*20) ?_)|(refine bD (cs:=x.cells) (hF:=fun w h=>Acts.get h.c hx) ?_)|(refine aC (hc:=hix) (hX:=fun w h=>h.d) ?_)|(refine bf (q:=j*20) ?_)|(refine bD (cs:=y.cells) (hF:=fun w h=>Acts.get h.c hy) ?_)|(refine bN (hc:=gR s2 t.a y.target hT.a (hL.a)) (hX:=fun w h=>h.a) fun v X' h'=>?_;obtain ⟨z,rfl,hz⟩:=h';refine dr (X':=AftX c sl ds s1 z s3 s4 { t with a:=sdel t.a y.target }) (fun w h=>⟨h.1.c,h.1.d,h.1.f,hz w h.2,h.1.b,h.1.m⟩) ?_)|fail)
        exact aq (bT rfl rfl bF (by rfl)) ⟨s1,z,s3,s4,rfl,fun w h=>by rw [hst];exact ⟨h.1.f,h.1.a,h.1.b,h.1.m⟩⟩
      by_cases g10:y.kind=10
      · have hst:stepT c.actsL i t x={ t with b:=sdel t.b y.target }:=by rw [hst6];simp [undoT,g10]
        repeat' (first|refine bM (hab:=by omega) ?_|refine bQ (hab:=by omega) ?_|refine ax (bK false rfl rfl (decide_eq_false ag)) rfl aR rfl ?_|refine ax (dl false rfl rfl (decide_eq_false ag)) rfl aR rfl ?_|apply ab|apply aj|apply ai|refine ae ?_|refine ac ?_|refine aM ?_|refine aL ?_|refine aG ?_|refine aH ?_|refine aP fun _=>?_|refine aT fun _=>?_|refine br ?_|refine aK ?_|refine aE ?_|refine aD ?_|apply ay|apply aw|apply aA|(refine bf (q:=i*20) ?_)|(refine bD (cs:=x.cells) (hF:=fun w h=>Acts.get h.c hx) ?_)|(refine aC (hc:=hix) (hX:=fun w h=>h.d) ?_)|(refine bf (q:=j*20) ?_)|(refine bD (cs:=y.cells) (hF:=fun w h=>Acts.get h.c hy) ?_)|(refine bN (hc:=gR s3 t.b y.target hT.b (hL.b)) (hX:=fun w h=>h.b) fun v X' h'=>?_;obtain ⟨z,rfl,hz⟩:=h';refine dr (X':=AftX c sl ds s1 s2 z s4 { t with b:=sdel t.b y.target }) (fun w h=>⟨h.1.c,h.1.d,h.1.f,h.1.a,hz w h.2,h.1.m⟩) ?_)|fail)
        exact aq (bT rfl rfl bF (by rfl)) ⟨s1,s2,z,s4,rfl,fun w h=>by rw [hst];exact ⟨h.1.f,h.1.a,h.1.b,h.1.m⟩⟩
      by_cases g11:y.kind=11
      · have hst:stepT c.actsL i t x={ t with m:=sdel t.m y.target }:=by rw [hst6];simp [undoT,g11]
        repeat' (first|refine bM (hab:=by omega) ?_|refine bQ (hab:=by omega) ?_|refine ax (bK false rfl rfl (decide_eq_false ag)) rfl aR rfl ?_|refine ax (dl false rfl rfl (decide_eq_false ag)) rfl aR rfl ?_|apply ab|apply aj|apply ai|refine ae ?_|refine ac ?_|refine aM ?_|refine aL ?_|refine aG ?_|refine aH ?_|refine aP fun _=>?_|refine aT fun _=>?_|refine br ?_|refine aK ?_|refine aE ?_|refine aD ?_|apply ay|apply aw|apply aA|(refine bf (q:=i*20) ?_)|(refine bD (cs:=x.cells) (hF:=fun w h=>Acts.get h.c hx) ?_)|(refine aC (hc:=hix) (hX:=fun w h=>h.d) ?_)|(refine bf (q:=j*20) ?_)|(refine bD (cs:=y.cells) (hF:=fun w h=>Acts.get h.c hy) ?_)|(refine bN (hc:=gR s4 t.m y.target hT.m (hL.m)) (hX:=fun w h=>h.m) fun v X' h'=>?_;obtain ⟨z,rfl,hz⟩:=h';refine dr (X':=AftX c sl ds s1 s2 s3 z { t with m:=sdel t.m y.target }) (fun w h=>⟨h.1.c,h.1.d,h.1.f,h.1.a,h.1.b,hz w h.2⟩) ?_)|fail)
        exact aq (bT rfl rfl bF (by rfl)) ⟨s1,s2,s3,z,rfl,fun w h=>by rw [hst];exact ⟨h.1.f,h.1.a,h.1.b,h.1.m⟩⟩
      have hst:stepT c.actsL i t x=t:=by rw [hst6];simp [undoT,g7,g8,g10,g11]
      repeat' (first|refine bM (hab:=by omega) ?_|refine bQ (hab:=by omega) ?_|refine ax (bK false rfl rfl (decide_eq_false ag)) rfl aR rfl ?_|refine ax (dl false rfl rfl (decide_eq_false ag)) rfl aR rfl ?_|apply ab|apply aj|apply ai|refine ae ?_|refine ac ?_|refine aM ?_|refine aL ?_|refine aG ?_|refine aH ?_|refine aP fun _=>?_|refine aT fun _=>?_|refine aK ?_|refine aE ?_|refine aD ?_|apply ay|apply aw|apply aA|(refine bf (q:=i*20) ?_)|(refine bD (cs:=x.cells) (hF:=fun w h=>Acts.get h.c hx) ?_)|(refine aC (hc:=hix) (hX:=fun w h=>h.d) ?_)|(refine bf (q:=j*20) ?_)|(refine bD (cs:=y.cells) (hF:=fun w h=>Acts.get h.c hy) ?_)|fail)
      exact aq (bT rfl rfl bF (by rfl)) ⟨s1,s2,s3,s4,rfl,fun w h=>by rw [hst];exact ⟨h.1.f,h.1.a,h.1.b,h.1.m⟩⟩
    · rw [decide_eq_false ag,cond_false] at hst6
      have hst:=hst6
      repeat' (first|refine bM (hab:=by omega) ?_|refine bQ (hab:=by omega) ?_|refine ax (bK false rfl rfl (decide_eq_false ag)) rfl aR rfl ?_|refine ax (dl true rfl rfl (decide_eq_true ag)) rfl aR rfl ?_|apply ab|apply aj|apply ai|refine ae ?_|refine ac ?_|refine aM ?_|refine aL ?_|refine aG ?_|refine aH ?_|refine aP fun _=>?_|refine aT fun _=>?_|refine aK ?_|refine aE ?_|refine aD ?_|apply aw|apply aA|(refine bf (q:=i*20) ?_)|(refine bD (cs:=x.cells) (hF:=fun w h=>Acts.get h.c hx) ?_)|(refine aC (hc:=hix) (hX:=fun w h=>h.d) ?_)|fail)
      exact aq (bT rfl rfl bF (by rfl)) ⟨s1,s2,s3,s4,rfl,fun w h=>by rw [hst];exact ⟨h.1.f,h.1.a,h.1.b,h.1.m⟩⟩
 have hst:stepT c.actsL i t x=t:=by simp [stepT,h7,h8,h9,h10,h11,h6]
 repeat' (first|refine bQ (hab:=by omega) ?_|apply ab|apply aj|apply ai|refine ae ?_|refine ac ?_|refine aM ?_|refine aL ?_|refine aG ?_|refine aP fun _=>?_|refine aT fun _=>?_|refine aK ?_|refine aD ?_|apply ay|apply aw|apply aA|(refine bf (q:=i*20) ?_)|(refine bD (cs:=x.cells) (hF:=fun w h=>Acts.get h.c hx) ?_)|fail)
 exact aq (bT rfl rfl bF (by rfl)) ⟨s1,s2,s3,s4,rfl,fun w h=>by rw [hst];exact ⟨h.1.f,h.1.a,h.1.b,h.1.m⟩⟩
theorem nilS (w:World):Strs w ⟨none,0,0⟩ (sortB []):=by
 rw [show sortB []=[] from List.length_eq_zero_iff.1 (by rw [eQ];rfl)]
 exact bz w 1
structure OfR (l:List ActD) (m:Nat) where
 k:Nat
 hk:k≤m
 s1:SlV
 s2:SlV
 s3:SlV
 s4:SlV
theorem AH (c:ChainD) (hc:ActsOk c.actsL) (hs:∀ a∈c.actsL,a.Str) (hl:c.actsL.length≤1000000) (n:Int):Mk Tryz.prog 223 #[c.v,.int .i64 n] (fun w=>c.at_ w) (TiesAt (tieV c.actsL n)):=by
 refine bL (args:=[_,_]) _ Tryz.func223 rfl Tryz.ntmps223 rfl fun av bor w0=>?_
 refine bt (p:=c.acts.n=c.actsL.length∧c.acts.n≤maxLen∧(0<c.actsL.length→c.acts.p.isSome=true)) (fun w h=>⟨h.len_,h.max_,h.some_⟩) fun ⟨hn,hm,hp⟩=>?_
 simp only [maxLen] at hm
 have hdg:=on c (fun a ha=>⟨hs a ha,hc.rng a ha⟩) hl
 have hlim:=ew n c.actsL.length
 repeat' (first|apply ab|apply aj|apply ai|refine ac ?_|refine aG ?_|refine aP fun _=>?_|refine aT fun _=>?_|apply aw|(refine bN (hc:=hdg) (hX:=fun w h=>h) fun v X' h'=>?_;obtain ⟨sl,rfl,hsl⟩:=h')|fail)
 rename_i b2 b4 b5
 refine be (ι:=OfR c.actsL (limN n c.actsL.length)) (fun i=>⟨[(1,.int .i64 n),(2,.pointer (some ⟨b2,0,none⟩)),(4,.pointer (some ⟨b4,0,none⟩)),(5,.pointer (some ⟨b5,0,none⟩)),(6,sl.v),(7,.int .i64 (i.k:Nat))],[cel b5 247 [i.s1.v,i.s2.v,i.s3.v,i.s4.v],cel b4 247 [.slice none 0 0,.slice none 0 0,.slice none 0 0,.slice none 0 0],cel b2 31 c.cells],AftX c sl (dgsR c.actsL) i.s1 i.s2 i.s3 i.s4 (tieF c.actsL i.k)⟩) (fun i=>limN n c.actsL.length-i.k) ⟨0,Nat.zero_le _,⟨none,0,0⟩,⟨none,0,0⟩,⟨none,0,0⟩,⟨none,0,0⟩⟩ (aF ⟨rfl,rfl,rfl,rfl,rfl,rfl,trivial⟩ (aQ _) fun w h=>⟨h.1,hsl w h.2,nilS w,nilS w,nilS w,nilS w⟩) fun i=>?_
 obtain ⟨k,hk,s1,s2,s3,s4⟩:=i
 simp only
 by_cases hlt:k<limN n c.actsL.length
 · have hkl:k<c.actsL.length:=by omega
   obtain ⟨x,hx⟩:∃ x,c.actsL[k]?=some x:=⟨_,List.getElem?_eq_getElem hkl⟩
   have hstep:tieF c.actsL (k+1)=stepT c.actsL k (tieF c.actsL k) x:=by simp only [tieF,List.getD_eq_getElem?_getD,hx,Option.getD_some]
   have hB:=ky hc.sm k
   have haf:=rC c k x hx sl (dgsR c.actsL) (fun h6=>by rw [dgsR,mu hx h6 _ hkl];rfl) s1 s2 s3 s4 (tieF c.actsL k) (rP _ k) ⟨by have:=hB.f.len;omega,by have:=hB.a.len;omega,by have:=hB.b.len;omega,by have:=hB.m.len;omega⟩
   rw [←hstep] at haf
   repeat' (first|refine ax (bK true rfl rfl (decide_eq_true ag)) rfl aR rfl ?_|apply ab|apply aj|apply ai|refine ae ?_|refine ac ?_|refine aM ?_|refine aL ?_|refine aG ?_|refine aJ ?_|refine bg ?_|refine bm (h:=?_)|refine aK ?_|refine aE ?_|apply ay|apply aw|(refine bN (hc:=haf) (hX:=fun w h=>h) fun v X' h'=>?_;obtain ⟨z1,z2,z3,z4,rfl,hz⟩:=h')|fail)
   exact ⟨(⟨k+1,hlt,z1,z2,z3,z4⟩:OfR c.actsL (limN n c.actsL.length)),(by show limN n c.actsL.length-(k+1)<limN n c.actsL.length-k;omega),aF ⟨rfl,rfl,rfl,rfl,rfl,rfl,trivial⟩ (aQ _) fun w h=>⟨h.1.c,h.1.d,(hz w h.2).1,(hz w h.2).2.1,(hz w h.2).2.2.1,(hz w h.2).2.2.2⟩⟩
 have hkE:k=limN n c.actsL.length:=by omega
 by_cases hkn:k<c.actsL.length
 · repeat' (first|refine ax (bK true rfl rfl (decide_eq_true ag)) rfl aR rfl ?_|refine ax (bK false rfl rfl (decide_eq_false ag)) rfl aR rfl ?_|apply ab|apply aj|apply ai|refine ae ?_|refine aM ?_|refine aL ?_|refine aG ?_|refine aJ ?_|refine bg ?_|refine aK ?_|refine aD ?_|apply aA|apply aV|fail)
   exact aq (bT rfl rfl bF (by rfl)) ⟨s1,s2,s3,s4,rfl,fun w h=>by rw [tieV,←hkE];exact ⟨h.1.f,h.1.a,h.1.b,h.1.m⟩⟩
 · repeat' (first|refine ax (bK false rfl rfl (decide_eq_false ag)) rfl aR rfl ?_|apply ab|apply aj|apply ai|refine ae ?_|refine aM ?_|refine aL ?_|refine aG ?_|refine aH ?_|refine bg ?_|refine aW ?_|refine aK ?_|refine aD ?_|apply aA|apply aV|fail)
   exact aq (bT rfl rfl bF (by rfl)) ⟨s1,s2,s3,s4,rfl,fun w h=>by rw [tieV,←hkE];exact ⟨h.1.f,h.1.a,h.1.b,h.1.m⟩⟩
theorem rB {l:List ByteArray} (hl:Asc l) {x:ByteArray}:hasS l x=(decide (posA l x<l.length)&&seqB (l.getD (posA l x) .empty) x):=by
 rw [Bool.eq_iff_iff,hasS_iff,Bool.and_eq_true,decide_eq_true_eq,seqB_iff]
 constructor
 · intro h
   obtain ⟨j,hj,e⟩:=List.getElem_of_mem h
   have hp:posA l x=j:=j9 ag (fun i hi=>by
    rw [List.getD_eq_getElem?_getD,List.getElem?_eq_getElem ag,Option.getD_some,←e]
    exact List.pairwise_iff_getElem.1 hl i j _ hj hi) (fun _=>by
    rw [List.getD_eq_getElem?_getD,List.getElem?_eq_getElem hj,Option.getD_some,e,gZ])
   rw [hp]
   exact ⟨hj,by rw [List.getD_eq_getElem?_getD,List.getElem?_eq_getElem hj,Option.getD_some,e]⟩
 · rintro ⟨h1,h2⟩
   rw [List.getD_eq_getElem?_getD,List.getElem?_eq_getElem h1,Option.getD_some] at h2
   rw [←h2]
   exact List.getElem_mem _
def memR (f:ByteArray→Bool) (l:List ByteArray):Nat→List ByteArray
 | 0=>[]
 | k+1=>bif f (l.getD k .empty) then withL (memR f l k) (l.getD k .empty) else memR f l k
theorem iD (f:ByteArray→Bool) (l:List ByteArray):∀ k,Asc (memR f l k)
 | 0=>List.Pairwise.nil
 | k+1=>by
  rw [memR]
  cases f (l.getD k .empty) with
  | true=>exact ms (iD f l k) _
  | false=>exact iD f l k
theorem pH (f:ByteArray→Bool) (l:List ByteArray) {y:ByteArray}:∀ k,k≤l.length→(y∈memR f l k↔y∈(l.take k).filter f)
 | 0,_=>by simp [memR]
 | k+1,h=>by
  have ih:=pH f l (y:=y) k ag
  have hx:l[k]?=some (l.getD k .empty):=by rw [List.getD_eq_getElem?_getD,List.getElem?_eq_getElem (by omega)];rfl
  rw [memR,List.take_add_one,hx,Option.toList_some,List.filter_append,List.mem_append]
  generalize l.getD k .empty=x at *
  cases hf:f x with
  | true =>
   rw [cond_true,mr,ih]
   simp [hf,or_comm]
  | false =>
   rw [cond_false,ih]
   simp [hf]
theorem AU (f:ByteArray→Bool) (l:List ByteArray):memR f l l.length=compB (sortB (l.filter f)) :=
 (l3 (iD f l l.length) fun x=>by rw [pH f l _ (Nat.le_refl _),List.take_length]).symm
theorem pI (f:ByteArray→Bool) (l:List ByteArray):∀ k,(memR f l k).length≤k
 | 0=>Nat.le_refl _
 | k+1=>by
  have ih:=pI f l k
  rw [memR]
  cases f (l.getD k .empty) with
  | false=>rw [cond_false];omega
  | true =>
   rw [cond_true,withL]
   cases hasS (memR f l k) (l.getD k .empty) with
   | true=>rw [cond_true];omega
   | false=>rw [cond_false,List.length_append,List.length_cons,List.length_take,List.length_drop];omega
theorem mx {w:World} {s:SlV} {l:List ByteArray} {k:Nat} (h:Strs w s l) (hk:k≤l.length):Src Tryz.prog w 1 (.slice s.p k s.c) k (strs (l.take k)).flatten:=by
 have h1:=RowsD.take (n:=k) h (by simpa [strs] using hk)
 have e:(strs l).take k=strs (l.take k):=by rw [strs,strs,List.map_take]
 rw [e] at h1
 exact dJ h1 fun cs hcs=>by
  simp only [strs,List.mem_map] at hcs
  obtain ⟨z,_,rfl⟩:=hcs
  rfl
structure InsR (l:List ByteArray) (x:ByteArray) where
 k:Nat
 hk:k≤l.length
 ok:∀ j,j<k→ltB (l.getD j .empty) x=true
set_option maxHeartbeats 4000000 in
theorem pQ (s:SlV) (l:List ByteArray) (x:ByteArray) (hA:Asc l) (hll:l.length≤1000000):Mk Tryz.prog 225 #[s.v,.string x] (fun w=>Strs w s l) (StrsAt (withL l x)):=by
 refine bL (args:=[_,_]) _ Tryz.func225 rfl Tryz.ntmps225 rfl fun av bor w0=>?_
 refine bt (p:=s.n=l.length∧s.n≤maxLen∧(0<l.length→s.p.isSome=true)∧s.n≤s.c) (fun w h=>⟨h.len_,Nat.le_trans (RowsD.cap h) (RowsD.max h),h.some_,RowsD.cap h⟩) fun ⟨hl,hm,hp,hcap⟩=>?_
 simp only [maxLen] at hm
 have hh:=rB (l:=l) hA (x:=x)
 rw [withL]
 repeat' (first|apply ab|apply aj|apply ai|refine ac ?_|apply aw|fail)
 refine be (ι:=InsR l x) (fun i=>⟨[(0,s.v),(1,.string x),(5,.int .i64 (i.k:Nat))],[],fun w=>Strs w s l⟩) (fun i=>l.length-i.k) ⟨0,Nat.zero_le _,fun j h=>absurd h (Nat.not_lt_zero _)⟩ (aF ⟨rfl,rfl,rfl,trivial⟩ (aQ _) fun _ h=>h) fun i=>?_
 obtain ⟨k,hk,ok⟩:=i
 simp only
 have fin:(k<l.length→ltB (l.getD k .empty) x=false)→posA l x=k:=fun h=>j9 hk ok h
 by_cases hlt:k<l.length
 · have hp':=hp ag
   obtain ⟨y,hy⟩:∃ y,l[k]?=some y:=⟨_,List.getElem?_eq_getElem hlt⟩
   have hyD:l.getD k .empty=y:=by rw [List.getD_eq_getElem?_getD,hy];rfl
   cases hc:ltB y x with
   | true =>
    have hc':Op.bytesLess y.toList x.toList=true:=hc
    repeat' (first|refine ax (bK true rfl rfl (decide_eq_true ag)) rfl aR rfl ?_|refine ax (ia true rfl rfl hc') rfl aR rfl ?_|apply ab|apply aj|apply ai|refine ae ?_|refine ac ?_|refine aJ ?_|refine bg ?_|refine bm (h:=?_)|refine aE ?_|apply ay|apply aw|(refine bf (q:=k) ?_)|(refine bU (u:=.string y) (hF:=fun w h=>h.at_ hy) ?_)|fail)
    exact ⟨(⟨k+1,hlt,fun j hj=>by
      rcases Nat.lt_succ_iff_lt_or_eq.1 hj with h|h
      · exact ok j h
      · rw [h,hyD];exact hc⟩:InsR l x),(by show l.length-(k+1)<l.length-k;omega),aF ⟨rfl,rfl,rfl,trivial⟩ (aQ _) fun _ h=>h⟩
   | false =>
    have hc':Op.bytesLess y.toList x.toList=false:=hc
    have hpos:=fin fun _=>by rw [hyD];exact hc
    rw [hpos,decide_eq_true hlt,Bool.true_and,hyD] at hh
    rw [hpos]
    cases he:seqB y x with
    | true =>
     rw [hh,he]
     repeat' (first|refine ax (bK true rfl rfl (decide_eq_true ag)) rfl aR rfl ?_|refine ax (ia false rfl rfl hc') rfl aR rfl ?_|refine ax (dv true rfl rfl he) rfl aR rfl ?_|apply ab|apply aj|apply ai|refine ae ?_|refine ac ?_|refine aJ ?_|refine bg ?_|refine aE ?_|refine aD ?_|apply aA|apply aV|(refine bf (q:=k) ?_)|(refine bU (u:=.string y) (hF:=fun w h=>h.at_ hy) ?_)|fail)
     exact aq (aB rfl rfl) ⟨s,rfl,fun w h=>h.1⟩
    | false =>
     rw [hh,he,cond_false]
     repeat' (first|refine ax (bK true rfl rfl (decide_eq_true ag)) rfl aR rfl ?_|refine ax (ia false rfl rfl hc') rfl aR rfl ?_|refine ax (dv false rfl rfl he) rfl aR rfl ?_|refine dY fun _=>?_|apply ab|apply aj|apply ai|refine ae ?_|refine aJ ?_|refine bg ?_|refine aD ?_|apply ay|apply aV|(refine bf (q:=k) ?_)|(refine bU (u:=.string y) (hF:=fun w h=>h.at_ hy) ?_)|(refine ax (iU rfl rfl ag ag) rfl rfl rfl ?_)|fail)
     refine aS (size:=1) (z:=.string ⟨#[]⟩) (news:=(strs (l.take k)).flatten) (q:=k) rfl rfl rfl rfl (fun _=>At.here _) (fun w G=>mx G.keep.now hk) ag (by simp only [maxLen];omega) rfl ?_ rfl ?_
     · (with_reducible rfl)
     intro A1 c1
     repeat' (first|apply ab|apply aj|apply ai|refine ae ?_|refine ac ?_|refine ca fun _=>?_|(refine aS (size:=1) (z:=.string ⟨#[]⟩) (news:=[encB x]) (q:=1) rfl rfl rfl rfl (fun _=>At.there _ (At.here _)) (fun w G=>bq G aU rfl rfl 1) ag (by simp only [maxLen];omega) rfl ?_ rfl ?_;(with_reducible rfl);intro A2 c2)|(refine ax (gP (s:=s) rfl rfl ag ag) rfl rfl rfl ?_)|fail)
     refine aS (size:=1) (z:=.string ⟨#[]⟩) (news:=(strs (l.drop k)).flatten) (q:=s.n-k) rfl rfl rfl rfl (fun _=>At.there _ (At.here _)) (fun w G=>gE G.keep.now hk) ag (by simp only [maxLen];omega) rfl ?_ rfl ?_
     · (with_reducible rfl)
     intro A3 c3
     repeat' (first|apply ab|refine ac ?_|apply aA|fail)
     exact aq (aB rfl rfl) ⟨⟨A3,0+k+1+(s.n-k),c3⟩,rfl,fun w h=>bJ (e:=9) (xs:=strs (l.take k++x::l.drop k)) (by
      have e:(strs (l.take k++x::l.drop k)).flatten=[]++(strs (l.take k)).flatten++[encB x]++(strs (l.drop k)).flatten:=by simp [strs,encB]
      rw [e]
      exact h.2 _ (.tail _ (.head _))) (by simp [strs];omega) (eW _)⟩
 · have hkE:k=l.length:=by omega
   have hpos:=fin fun h=>absurd h hlt
   rw [hpos,decide_eq_false hlt,Bool.false_and] at hh
   rw [hpos,hh,cond_false]
   repeat' (first|refine ax (bK false rfl rfl (decide_eq_false ag)) rfl aR rfl ?_|refine dY fun _=>?_|apply ab|apply aj|apply ai|refine ae ?_|refine aH ?_|refine bg ?_|refine aW ?_|refine aD ?_|apply ay|apply aV|(refine ax (iU rfl rfl ag ag) rfl rfl rfl ?_)|fail)
   refine aS (size:=1) (z:=.string ⟨#[]⟩) (news:=(strs (l.take k)).flatten) (q:=k) rfl rfl rfl rfl (fun _=>At.here _) (fun w G=>mx G.keep.now hk) ag (by simp only [maxLen];omega) rfl ?_ rfl ?_
   · (with_reducible rfl)
   intro A1 c1
   repeat' (first|apply ab|apply aj|apply ai|refine ae ?_|refine ac ?_|refine ca fun _=>?_|(refine aS (size:=1) (z:=.string ⟨#[]⟩) (news:=[encB x]) (q:=1) rfl rfl rfl rfl (fun _=>At.there _ (At.here _)) (fun w G=>bq G aU rfl rfl 1) ag (by simp only [maxLen];omega) rfl ?_ rfl ?_;(with_reducible rfl);intro A2 c2)|(refine ax (gP (s:=s) rfl rfl ag ag) rfl rfl rfl ?_)|fail)
   refine aS (size:=1) (z:=.string ⟨#[]⟩) (news:=(strs (l.drop k)).flatten) (q:=s.n-k) rfl rfl rfl rfl (fun _=>At.there _ (At.here _)) (fun w G=>gE G.keep.now hk) ag (by simp only [maxLen];omega) rfl ?_ rfl ?_
   · (with_reducible rfl)
   intro A3 c3
   repeat' (first|apply ab|refine ac ?_|apply aA|fail)
   exact aq (aB rfl rfl) ⟨⟨A3,0+k+1+(s.n-k),c3⟩,rfl,fun w h=>bJ (e:=9) (xs:=strs (l.take k++x::l.drop k)) (by
    have e:(strs (l.take k++x::l.drop k)).flatten=[]++(strs (l.take k)).flatten++[encB x]++(strs (l.drop k)).flatten:=by simp [strs,encB]
    rw [e]
    exact h.2 _ (.tail _ (.head _))) (by simp [strs];omega) (eW _)⟩
def listH (l:List ActD) (n:Int) (g:ByteArray):SlV:=((circF l g (limN n l.length)).map (·.to)).getD ⟨none,0,0⟩
theorem pM (c:ChainD) (n:Int) (g:ByteArray):Pu Tryz.prog 224 #[c.v,.int .i64 n,.string g] (fun w=>c.at_ w) (listH c.actsL n g).v:=by
 refine aN (args:=[_,_,_]) _ Tryz.func224 rfl Tryz.ntmps224 rfl fun av bor w0=>?_
 refine bt (p:=c.acts.n=c.actsL.length∧c.acts.n≤maxLen∧(0<c.actsL.length→c.acts.p.isSome=true)) (fun w h=>⟨h.len_,h.max_,h.some_⟩) fun ⟨hn,hm,hp⟩=>?_
 simp only [maxLen] at hm
 have hlim:=ew n c.actsL.length
 rw [listH]
 repeat' (first|apply ab|apply aj|apply ai|refine ac ?_|refine aT fun _=>?_|apply aw|fail)
 rename_i b3
 refine be (ι:=Kth (limN n c.actsL.length)) (fun i=>⟨[(1,.int .i64 n),(2,.string g),(3,.pointer (some ⟨b3,0,none⟩)),(7,(((circF c.actsL g i.k).map (fun x:ActD=>x.to)).getD (⟨none,0,0⟩:SlV)).v),(8,.int .i64 (i.k:Nat))],[cel b3 31 c.cells],fun w=>c.at_ w⟩) (fun i=>limN n c.actsL.length-i.k) ⟨0,Nat.zero_le _⟩ (aF ⟨rfl,rfl,rfl,rfl,rfl,trivial⟩ (aQ _) fun _ h=>h) fun i=>?_
 obtain ⟨k,hk⟩:=i
 simp only
 by_cases hlt:k<limN n c.actsL.length
 · have hkl:k<c.actsL.length:=by omega
   have hp':=hp ag
   obtain ⟨x,hx⟩:∃ x,c.actsL[k]?=some x:=⟨_,List.getElem?_eq_getElem hkl⟩
   have hstep:circF c.actsL g (k+1)=bif decide (x.kind=15)&&seqB x.group g then some x else circF c.actsL g k:=by simp only [circF,List.getD_eq_getElem?_getD,hx,Option.getD_some]
   generalize circF c.actsL g k=z at *
   by_cases h15:x.kind=15
   · cases hg:seqB x.group g with
     | true =>
      rw [decide_eq_true h15,hg] at hstep
      repeat' (first|refine ax (bK true rfl rfl (decide_eq_true ag)) rfl aR rfl ?_|refine ax (dS true rfl rfl (decide_eq_true h15)) rfl aR rfl ?_|refine ax (dv true rfl rfl hg) rfl aR rfl ?_|apply ab|apply aj|apply ai|refine ae ?_|refine ac ?_|refine aM ?_|refine aL ?_|refine aJ ?_|refine bg ?_|refine bm (h:=?_)|refine aE ?_|apply ay|apply aw|(refine bf (q:=k*20) ?_)|(refine cT ?_)|(refine bU (q:=k*20+3) (u:=.int .i64 x.kind) (hF:=fun w h=>(Acts.get h hx).2.2 3 _ rfl) ?_)|(refine bU (q:=k*20+8) (u:=.string x.group) (hF:=fun w h=>(Acts.get h hx).2.2 8 _ rfl) ?_)|(refine bU (q:=k*20+9) (u:=x.to.v) (hF:=fun w h=>(Acts.get h hx).2.2 9 _ rfl) ?_)|fail)
      exact ⟨(⟨k+1,hlt⟩:Kth (limN n c.actsL.length)),(by show limN n c.actsL.length-(k+1)<limN n c.actsL.length-k;omega),aF ⟨rfl,rfl,rfl,by rw [hstep];rfl,rfl,trivial⟩ (aQ _) fun _ h=>h⟩
     | false =>
      rw [hg,Bool.and_false] at hstep
      repeat' (first|refine ax (bK true rfl rfl (decide_eq_true ag)) rfl aR rfl ?_|refine ax (dS true rfl rfl (decide_eq_true h15)) rfl aR rfl ?_|refine ax (dv false rfl rfl hg) rfl aR rfl ?_|apply ab|apply aj|apply ai|refine ae ?_|refine ac ?_|refine aM ?_|refine aL ?_|refine aJ ?_|refine bg ?_|refine bm (h:=?_)|refine aE ?_|refine aD ?_|apply ay|apply aw|(refine bf (q:=k*20) ?_)|(refine cT ?_)|(refine bU (q:=k*20+3) (u:=.int .i64 x.kind) (hF:=fun w h=>(Acts.get h hx).2.2 3 _ rfl) ?_)|(refine bU (q:=k*20+8) (u:=.string x.group) (hF:=fun w h=>(Acts.get h hx).2.2 8 _ rfl) ?_)|fail)
      exact ⟨(⟨k+1,hlt⟩:Kth (limN n c.actsL.length)),(by show limN n c.actsL.length-(k+1)<limN n c.actsL.length-k;omega),aF ⟨rfl,rfl,rfl,by rw [hstep];rfl,rfl,trivial⟩ (aQ _) fun _ h=>h⟩
   · rw [decide_eq_false h15,Bool.false_and] at hstep
     repeat' (first|refine ax (bK true rfl rfl (decide_eq_true ag)) rfl aR rfl ?_|refine ax (dS false rfl rfl (decide_eq_false h15)) rfl aR rfl ?_|apply ab|apply aj|apply ai|refine ae ?_|refine ac ?_|refine aM ?_|refine aL ?_|refine aJ ?_|refine aH ?_|refine bg ?_|refine bm (h:=?_)|refine aW ?_|refine aE ?_|refine aD ?_|apply ay|apply aw|(refine bf (q:=k*20) ?_)|(refine cT ?_)|(refine bU (q:=k*20+3) (u:=.int .i64 x.kind) (hF:=fun w h=>(Acts.get h hx).2.2 3 _ rfl) ?_)|fail)
     exact ⟨(⟨k+1,hlt⟩:Kth (limN n c.actsL.length)),(by show limN n c.actsL.length-(k+1)<limN n c.actsL.length-k;omega),aF ⟨rfl,rfl,rfl,by rw [hstep];rfl,rfl,trivial⟩ (aQ _) fun _ h=>h⟩
 have hkE:k=limN n c.actsL.length:=by omega
 rw [←hkE]
 by_cases hkn:(k:Int)<n
 · repeat' (first|refine ax (bK true rfl rfl (decide_eq_true ag)) rfl aR rfl ?_|refine ax (bK false rfl rfl (decide_eq_false ag)) rfl aR rfl ?_|apply ab|apply aj|apply ai|refine ae ?_|refine ac ?_|refine aM ?_|refine aL ?_|refine aJ ?_|refine bg ?_|refine aD ?_|apply aA|apply aV|fail)
   exact aq (aB rfl rfl) rfl
 · repeat' (first|refine ax (bK false rfl rfl (decide_eq_false ag)) rfl aR rfl ?_|apply ab|apply aj|apply ai|refine ae ?_|refine ac ?_|refine aH ?_|refine aW ?_|refine aD ?_|apply aA|apply aV|fail)
   exact aq (aB rfl rfl) rfl
theorem xz (k:Int):(decide (1≤k)&&decide (k≤3))=postK k:=by
 rw [postK,Bool.eq_iff_iff]
 simp only [Bool.or_eq_true,Bool.and_eq_true,decide_eq_true_eq]
 omega
theorem fm (k:Int):Pu Tryz.prog 132 #[.int .i64 k] (fun _=>True) (.bool (postK k)):=by
 refine aN (args:=[_]) _ Tryz.func132 rfl Tryz.ntmps132 rfl fun av bor w0=>?_
 rw [←xz]
 by_cases h1:1≤k
 · rw [decide_eq_true h1,Bool.true_and]
   repeat' (first|refine ax (dl true rfl rfl (decide_eq_true h1)) rfl aR rfl ?_|apply ab|apply aj|apply ai|refine ae ?_|refine ac ?_|refine aJ ?_|refine cF ?_|apply aA|fail)
   exact aq (aB rfl rfl) rfl
 · rw [decide_eq_false h1,Bool.false_and]
   repeat' (first|refine ax (dl false rfl rfl (decide_eq_false h1)) rfl aR rfl ?_|apply ab|apply aj|apply ai|refine ae ?_|refine ac ?_|refine aH ?_|refine aW ?_|apply aA|fail)
   exact aq (aB rfl rfl) rfl
def sealZ (a:ActD):Bool:=(postK a.kind||decide (a.kind=14))&&decide (1≤a.scope)&&decide (a.scope≤3)
theorem oQ (a:ActD):Pu Tryz.prog 220 #[a.v] (fun _=>True) (.bool (sealZ a)):=by
 refine aN (args:=[_]) _ Tryz.func220 rfl Tryz.ntmps220 rfl fun av bor w0=>?_
 have hpo:=fm a.kind
 rw [sealZ]
 generalize postK a.kind=pk at *
 cases pk with
 | true =>
  repeat' (first|apply ab|apply aj|apply ai|refine ae ?_|refine ac ?_|refine aM ?_|refine aL ?_|refine aJ ?_|refine aH ?_|refine cF ?_|refine cL ?_|refine aW ?_|refine bI ?_|refine aT fun _=>?_|apply aA|(refine aC (hc:=hpo) (hX:=fun _ _=>trivial) ?_)|((fail_if_success (refine bA ?_));refine bj (ht:=?_) (hf:=?_);all_goals (intro hx_;first|have:=aY hx_|have:=aZ hx_))|fail)
  all_goals
   apply aq;apply aB;rfl;rfl
   first|(simp_all;done)|(simp_all;intros;omega)
 | false =>
  repeat' (first|apply ab|apply aj|apply ai|refine ae ?_|refine ac ?_|refine aM ?_|refine aL ?_|refine aJ ?_|refine aH ?_|refine bR ?_|refine cF ?_|refine cL ?_|refine aW ?_|refine aT fun _=>?_|apply aA|(refine aC (hc:=hpo) (hX:=fun _ _=>trivial) ?_)|((fail_if_success (refine bA ?_));refine bj (ht:=?_) (hf:=?_);all_goals (intro hx_;first|have:=aY hx_|have:=aZ hx_))|fail)
  all_goals
   apply aq;apply aB;rfl;rfl
   first|(simp_all;done)|(simp_all;intros;omega)
theorem rk (c:ChainD) (n sc:Int) (g:ByteArray):Pu Tryz.prog 275 #[c.v,.int .i64 n,.int .i64 sc,.string g] (fun w=>c.at_ w) (.tuple #[.int .i64 ((grantV c.actsL n sc g).1:Nat),.bool (decide ((0:Int)<((grantV c.actsL n sc g).2:Nat)))]):=by
 refine aN (args:=[_,_,_,_]) _ Tryz.func275 rfl Tryz.ntmps275 rfl fun av bor w0=>?_
 refine bt (p:=c.acts.n=c.actsL.length∧c.acts.n≤maxLen∧(0<c.actsL.length→c.acts.p.isSome=true)) (fun w h=>⟨h.len_,h.max_,h.some_⟩) fun ⟨hl,hm,hp⟩=>?_
 simp only [maxLen] at hm
 have hlim:=ew n c.actsL.length
 repeat' (first|apply ab|apply aj|apply ai|refine ac ?_|refine aT fun _=>?_|apply aw|fail)
 rename_i b4
 refine be (ι:=Kth (limN n c.actsL.length)) (fun i=>⟨[(1,.int .i64 n),(2,.int .i64 sc),(3,.string g),(4,.pointer (some ⟨b4,0,none⟩)),(10,.int .i64 ((grantF c.actsL sc g i.k).1:Nat)),(11,.int .i64 ((grantF c.actsL sc g i.k).2:Nat)),(12,.int .i64 (i.k:Nat))],[cel b4 31 c.cells],fun w=>c.at_ w⟩) (fun i=>limN n c.actsL.length-i.k) ⟨0,Nat.zero_le _⟩
  (aF ⟨rfl,rfl,rfl,rfl,rfl,rfl,rfl,trivial⟩ (aQ _) fun _ h=>h) fun i=>?_
 obtain ⟨k,hk⟩:=i
 simp only
 have hg:=(fD c.actsL sc g k).1
 by_cases hlt:k<limN n c.actsL.length
 · have hltL:k<c.actsL.length:=by omega
   have hp':=hp ag
   obtain ⟨x,hx⟩:∃ x,c.actsL[k]?=some x:=⟨_,List.getElem?_eq_getElem hltL⟩
   have hstep:grantF c.actsL sc g (k+1)=bif gOk x sc g (grantF c.actsL sc g k).2 then (k,(grantF c.actsL sc g k).2+1) else grantF c.actsL sc g k:=by simp only [grantF,List.getD_eq_getElem?_getD,hx,Option.getD_some]
   repeat' (first|refine ax (bK true rfl rfl (decide_eq_true ag)) rfl aR rfl ?_|apply ab|apply aj|apply ai|refine ae ?_|refine ac ?_|refine aM ?_|refine aL ?_|refine aJ ?_|refine aH ?_|refine bR ?_|refine co ?_|refine bg ?_|refine bm (h:=?_)|refine aW ?_|refine aP fun _=>?_|refine aK ?_|refine aE ?_|refine aD ?_|apply ay|apply aw|(refine bf (q:=k*20) ?_)|(refine bD (cs:=x.cells) (hF:=fun w h=>Acts.get h hx) ?_)|((fail_if_success (refine bA ?_));refine bj (ht:=?_) (hf:=?_);all_goals (intro hx_;first|have:=aY hx_|have:=aZ hx_|skip))|(refine aO (ht:=?_) (hf:=?_);all_goals (intro hx_;first|have:=aY hx_|have:=aZ hx_)))
   all_goals exact ⟨(⟨k+1,hlt⟩:Kth (limN n c.actsL.length)),(by show limN n c.actsL.length-(k+1)<limN n c.actsL.length-k;omega),aF (by
    simp only [hstep,gOk, *,decide_true,decide_false,cond_true,cond_false,Bool.and_true,Bool.true_and,Bool.and_false,Bool.false_and,Bool.not_true,Bool.not_false,Bool.or_true,Bool.true_or,Bool.or_false,Bool.false_or]
    exact ⟨rfl,rfl,rfl,rfl,rfl,rfl,rfl,trivial⟩) (List.Sublist.cons _ (aQ _)) fun _ h=>h⟩
 have hkE:k=limN n c.actsL.length:=by omega
 have hV:grantV c.actsL n sc g=grantF c.actsL sc g k:=by rw [grantV,hkE]
 rw [hV]
 by_cases hkn:(k:Int)<n
 · repeat' (first|refine ax (bK true rfl rfl (decide_eq_true ag)) rfl aR rfl ?_|refine ax (bK false rfl rfl (decide_eq_false ag)) rfl aR rfl ?_|apply ab|apply aj|apply ai|refine ae ?_|refine ac ?_|refine aM ?_|refine aL ?_|refine aJ ?_|refine cP ?_|refine bg ?_|refine aD ?_|apply aA|apply aV|fail)
   exact aq (cO rfl rfl rfl) rfl
 · repeat' (first|refine ax (bK false rfl rfl (decide_eq_false ag)) rfl aR rfl ?_|apply ab|apply aj|apply ai|refine ae ?_|refine ac ?_|refine aH ?_|refine cP ?_|refine aW ?_|refine aD ?_|apply aA|apply aV|fail)
   exact aq (cO rfl rfl rfl) rfl
def epochP (o:Option ActD):Value:=.tuple #[.int .i64 ((o.map (·.epoch)).getD 0),((o.map (·.to)).getD (⟨none,0,0⟩:SlV)).v,.bool o.isSome]
theorem rn (c:ChainD) (n sc:Int) (g:ByteArray):Pu Tryz.prog 221 #[c.v,.int .i64 n,.int .i64 sc,.string g] (fun w=>c.at_ w) (epochP (epochO c.actsL n sc g)):=by
 refine aN (args:=[_,_,_,_]) _ Tryz.func221 rfl Tryz.ntmps221 rfl fun av bor w0=>?_
 refine bt (p:=c.acts.n=c.actsL.length∧c.acts.n≤maxLen∧(0<c.actsL.length→c.acts.p.isSome=true)) (fun w h=>⟨h.len_,h.max_,h.some_⟩) fun ⟨hl,hm,hp⟩=>?_
 simp only [maxLen] at hm
 have hgl:=fD c.actsL sc g (limN n c.actsL.length)
 have hlim:=ew n c.actsL.length
 have hO:epochO c.actsL n sc g=bif decide ((0:Int)<((grantV c.actsL n sc g).2:Nat)) then c.actsL[(grantV c.actsL n sc g).1]? else none:=rfl
 have hgp:=rk c n sc g
 change (grantV c.actsL n sc g).2≤_∧(0<(grantV c.actsL n sc g).2→(grantV c.actsL n sc g).1<_) at hgl
 generalize grantV c.actsL n sc g=gv at *
 obtain ⟨k,nx⟩:=gv
 simp only at hgl hgp hO
 rw [hO]
 by_cases hnx:(0:Int)<(nx:Nat)
 · rw [decide_eq_true hnx] at hgp ⊢
   rw [cond_true]
   have hkl:k<c.actsL.length:=by have:=hgl.2 ag;omega
   have hp':=hp ag
   obtain ⟨x,hx⟩:∃ x,c.actsL[k]?=some x:=⟨_,List.getElem?_eq_getElem hkl⟩
   rw [hx]
   repeat' (first|apply ab|apply aj|apply ai|refine ae ?_|refine ac ?_|refine aG ?_|refine bE ?_|refine bC ?_|refine aT fun _=>?_|refine aD ?_|apply ay|(refine aC (hc:=hgp) (hX:=fun w h=>h) ?_)|fail)
   rename_i b4
   (refine bo [cel b4 31 c.cells] (fun w=>c.at_ w) ar ?_)
   all_goals refine aa 0 ?_
   all_goals refine aa 1 ?_
   all_goals refine aa 2 ?_
   all_goals (refine aa 3 (hy:=by (apply bp (q:=k*20);rfl;rfl;omega;omega;assumption;omega)) ?_)
   all_goals (refine aa 4 (hy:=by (apply cw;rfl;assumption;rfl)) ?_)
   all_goals (refine aa 5 (hy:=by (apply cC (q:=k*20+14) (u:=.int .i64 x.epoch);rfl;exact fun w h=>(Acts.get h hx).2.2 14 _ rfl)) ?_)
   all_goals refine aa 6 ?_
   all_goals refine aa 7 ?_
   all_goals refine aa 8 ?_
   all_goals (refine aa 9 (hy:=by (apply bp (q:=k*20);rfl;rfl;omega;omega;assumption;omega)) ?_)
   all_goals (refine aa 10 (hy:=by (apply cw;rfl;assumption;rfl)) ?_)
   all_goals (refine aa 11 (hy:=by (apply cC (q:=k*20+9) (u:=x.to.v);rfl;exact fun w h=>(Acts.get h hx).2.2 9 _ rfl)) ?_)
   all_goals refine aa 12 ?_
   all_goals refine aa 13 ?_
   all_goals refine aa 14 ?_
   all_goals (refine aI ?_)
   all_goals
    repeat' (first|apply aA|fail)
    exact aq (iv rfl rfl rfl rfl) rfl
 · rw [decide_eq_false hnx] at hgp ⊢
   rw [cond_false]
   repeat' (first|apply ab|apply aj|apply ai|refine ae ?_|refine ac ?_|refine aG ?_|refine bE ?_|refine bC ?_|refine aT fun _=>?_|refine aE ?_|apply aA|(refine aC (hc:=hgp) (hX:=fun w h=>h) ?_)|fail)
   exact aq (iv rfl rfl rfl rfl) rfl
theorem uI (s r:SlV) (l m:List ByteArray):Pu Tryz.prog 222 #[s.v,r.v] (fun w=>Strs w s l∧Strs w r m) (.bool (eqL l m)):=by
 refine aN (args:=[_,_]) _ Tryz.func222 rfl Tryz.ntmps222 rfl fun av bor w0=>?_
 refine bt (p:=(s.n=l.length∧s.n≤maxLen∧(0<l.length→s.p.isSome=true))∧(r.n=m.length∧r.n≤maxLen∧(0<m.length→r.p.isSome=true))) (fun w h=>⟨⟨h.1.len_,Nat.le_trans (RowsD.cap h.1) (RowsD.max h.1),h.1.some_⟩,⟨h.2.len_,Nat.le_trans (RowsD.cap h.2) (RowsD.max h.2),h.2.some_⟩⟩) fun ⟨⟨hl,hm,hp⟩,⟨hl',hm',hp'⟩⟩=>?_
 simp only [maxLen] at hm hm'
 repeat' (first|apply ab|apply aj|apply ai|refine ae ?_|refine ac ?_|refine cZ ?_|refine bg ?_|apply ay|apply aw|apply aA|(refine aO (ht:=?_) (hf:=?_);all_goals (intro hx_;skip)))
 · apply aq;apply aB;rfl;rfl
   have:¬ l.length=m.length:=by
    have h1:¬ (s.n:Int)=(r.n:Int):=by simpa using hx_
    omega
   simp only [eqL,decide_eq_false this,Bool.false_and]
 have hlm:l.length=m.length:=by
  have h1:(s.n:Int)=(r.n:Int):=by simpa using hx_
  omega
 refine be (ι:=Upto l.length (eqBad l m)) (fun i=>⟨[(0,s.v),(1,r.v),(5,.int .i64 i.k)],[],fun w=>Strs w s l∧Strs w r m⟩) (fun i=>l.length-i.k) (Upto.zero _ _) (aF (by repeat (first|exact trivial|refine ⟨rfl,?_⟩)) (aQ _) fun _ h=>h) fun i=>?_
 have hik:=i.hk
 repeat' (first|apply ab|apply aj|apply ai|refine ae ?_|refine ac ?_|refine bu ?_|refine bg ?_|apply ay|apply aw|apply aA|apply aV|(refine aO (ht:=?_) (hf:=?_);all_goals (intro hx_;first|have:=aY hx_|have:=aZ hx_)))
 · have hlt:i.k<l.length:=by omega
   have hlt':i.k<m.length:=by omega
   have hp1:=hp ag
   have hp2:=hp' ag
   (apply ci;kernel_rfl)
   all_goals refine aa 0 ?_
   all_goals refine aa 1 ?_
   all_goals (refine aa 2 (hy:=by (apply bp (q:=i.k);rfl;rfl;omega;omega;assumption;omega)) ?_)
   all_goals (refine aa 3 (hy:=by (apply cC;rfl;exact fun w h=>Strs.get h.1 hlt)) ?_)
   all_goals refine aa 4 ?_
   all_goals refine aa 5 ?_
   all_goals (refine aa 6 (hy:=by (apply bp (q:=i.k);rfl;rfl;omega;omega;assumption;omega)) ?_)
   all_goals (refine aa 7 (hy:=by (apply cC;rfl;exact fun w h=>Strs.get h.2 hlt')) ?_)
   all_goals refine aa 8 ?_
   all_goals (refine aI ?_)
   repeat' (first|apply ab|apply aj|apply ai|refine ae ?_|refine ac ?_|refine bm (h:=?_)|apply ay|apply aA|(refine aO (ht:=?_) (hf:=?_);all_goals (intro hx_;skip)))
   · apply aq;apply aB;rfl;rfl
     rw [eqL,dB hlt (by assumption),Bool.and_false]
   · exact ⟨i.next hlt (by assumption),(by show l.length-(i.k+1)<l.length-i.k;omega),aF (by repeat (first|exact trivial|refine ⟨rfl,?_⟩)) (aQ _) fun _ h=>h⟩
 · apply aq;apply aB;rfl;rfl
   rw [eqL,i.all ag,decide_eq_true hlm]
   rfl
structure MemX (c:ChainD) (t:TieS) (s3:SlV) (sL:SlV) (L:List ByteArray) (so:SlV) (acc:List ByteArray) (w:World):Prop where
 c:c.at_ w
 b:Strs w s3 (sortB t.b)
 l:Strs w sL L
 o:Strs w so acc
structure MemI (m:Nat) where
 k:Nat
 hk:k≤m
 s:SlV
theorem g6 {l:List ActD} {n:Int} {g:ByteArray} {x:ActD} (h:circF l g (limN n l.length)=some x):x∈l:=jt (by rw [ew];omega) h
theorem q5 {c:ChainD} {n:Int} {g:ByteArray} {w:World} (h:c.at_ w):Strs w (listH c.actsL n g) (((circF c.actsL g (limN n c.actsL.length)).map (·.toL)).getD []):=by
 rw [listH]
 cases hc:circF c.actsL g (limN n c.actsL.length) with
 | none=>exact bz w 1
 | some x=>exact (h.2 x (g6 hc)).1
set_option maxHeartbeats 8000000 in
theorem iC (c:ChainD) (hc:ActsOk c.actsL) (hs:∀ a∈c.actsL,a.Str) (hcl:c.actsL.length≤1000000) (hto:∀ x∈c.actsL,x.to.n≤1000000) (n sc:Int) (g:ByteArray) (st:SlV) (toL:List ByteArray) (htl:toL.length≤1000000) :
  Mk Tryz.prog 140 #[c.v,.int .i64 n,.int .i64 sc,.string g,st.v] (fun w=>c.at_ w∧Strs w st toL) (StrsAt (membersV c n sc g toL)):=by
 refine bL (args:=[_,_,_,_,_]) _ Tryz.func140 rfl Tryz.ntmps140 rfl fun av bor w0=>?_
 have hto':∀ w,c.at_ w→∀ x∈c.actsL,x.toL.length=x.to.n:=fun w h x hx=>(h.2 x hx).1.len_.symm
 refine bt (p:=(c.acts.n=c.actsL.length∧c.acts.n≤maxLen)∧∀ x∈c.actsL,x.toL.length=x.to.n) (fun w h=>⟨⟨h.1.len_,h.1.max_⟩,hto' w h.1⟩) fun ⟨⟨hl,hm⟩,hxl⟩=>?_
 simp only [maxLen] at hm
 have hB:=kx hc n
 have hM:membersV c n sc g toL=memR (keepM c (sortB (tieV c.actsL n).b)) (listOf c n sc g toL) (listOf c n sc g toL).length:=(AU _ _).symm
 have hof:=AH c hc hs hcl n
 have hLo:listOf c n sc g toL=bif decide (sc=1) then sortB (tieV c.actsL n).a else bif decide (sc=2) then ((circF c.actsL g (limN n c.actsL.length)).map (·.toL)).getD [] else bif decide (sc=3) then toL else []:=rfl
 generalize tieV c.actsL n=t at *
 rw [hM]
 have hli:=pM c n g
 have hLl:(listOf c n sc g toL).length≤1000000:=by
  rw [hLo]
  cases decide (sc=1) with
  | true=>rw [cond_true,eQ];have:=hB.a.len;omega
  | false =>
   cases decide (sc=2) with
   | true =>
    rw [cond_false,cond_true]
    cases hx:circF c.actsL g (limN n c.actsL.length) with
    | none=>exact Nat.zero_le _
    | some x=>show x.toL.length≤_;rw [hxl x (g6 hx)];exact hto x (g6 hx)
   | false =>
    cases decide (sc=3) with
    | true=>exact htl
    | false=>exact Nat.zero_le _
 repeat' (first|apply aj|fail)
 apply ai
 repeat' (first|apply ab|apply aj|refine ac ?_|refine aT fun _=>?_|fail)
 apply ai
 repeat' (first|apply ab|apply aj|refine ae ?_|refine aG ?_|refine aP fun _=>?_|refine aK ?_|(refine bN (hc:=hof) (hX:=fun w h=>h.1) fun v1 X1 h1=>?_;obtain ⟨s1,s2,s3,s4,rfl,hties⟩:=h1)|fail)
 rename_i b5 b11
 apply ai
 refine ac ?_
 apply ab
 apply aj
 refine ez (ι:=SlV) (fun sL=>⟨[(5,.pointer (some ⟨b5,0,none⟩)),(11,.pointer (some ⟨b11,0,none⟩)),(12,sL.v)],[cel b11 247 [s1.v,s2.v,s3.v,s4.v],cel b5 31 c.cells],MemX c t s3 sL (listOf c n sc g toL) ⟨none,0,0⟩ []⟩) ?_ fun sL=>?_
 · by_cases h1:sc=1
   · repeat' (first|refine bM (hab:=by omega) ?_|apply ab|apply aj|apply ai|refine ae ?_|refine ac ?_|refine aM ?_|refine aL ?_|refine aE ?_|apply aw|fail)
     exact ⟨s2,aF ⟨rfl,rfl,rfl,trivial⟩ (aQ _) fun w h=>⟨h.1.1,(hties w h.2).2.2.1,by rw [hLo,decide_eq_true h1];exact (hties w h.2).2.1,bz w 1⟩⟩
   by_cases h2:sc=2
   · repeat' (first|refine bM (hab:=by omega) ?_|refine bQ (hab:=by omega) ?_|apply ab|apply aj|apply ai|refine ae ?_|refine ac ?_|refine aG ?_|refine aE ?_|refine aD ?_|apply aw|(refine aC (hc:=hli) (hX:=fun w h=>h.1.1) ?_)|fail)
     exact ⟨listH c.actsL n g,aF ⟨rfl,rfl,rfl,trivial⟩ (aQ _) fun w h=>⟨h.1.1,(hties w h.2).2.2.1,by rw [hLo,decide_eq_false h1,decide_eq_true h2];exact q5 h.1.1,bz w 1⟩⟩
   by_cases h3:sc=3
   · repeat' (first|refine bM (hab:=by omega) ?_|refine bQ (hab:=by omega) ?_|apply ab|apply aj|apply ai|refine ae ?_|refine ac ?_|refine aE ?_|refine aD ?_|apply aw|fail)
     exact ⟨st,aF ⟨rfl,rfl,rfl,trivial⟩ (aQ _) fun w h=>⟨h.1.1,(hties w h.2).2.2.1,by rw [hLo,decide_eq_false h1,decide_eq_false h2,decide_eq_true h3];exact h.1.2,bz w 1⟩⟩
   · repeat' (first|refine bQ (hab:=by omega) ?_|apply ab|apply aj|apply ai|refine ae ?_|refine ac ?_|refine aD ?_|apply ay|apply aw|fail)
     exact ⟨⟨none,0,0⟩,aF ⟨rfl,rfl,rfl,trivial⟩ (aQ _) fun w h=>⟨h.1.1,(hties w h.2).2.2.1,by rw [hLo,decide_eq_false h1,decide_eq_false h2,decide_eq_false h3];exact bz w 1,bz w 1⟩⟩
 generalize listOf c n sc g toL=L at *
 generalize hF:keepM c (sortB t.b)=F
 refine bt (p:=sL.n=L.length∧sL.n≤maxLen∧(0<L.length→sL.p.isSome=true)) (fun w h=>⟨h.l.len_,Nat.le_trans (RowsD.cap h.l) (RowsD.max h.l),h.l.some_⟩) fun ⟨hSl,hSm,hSp⟩=>?_
 simp only [maxLen] at hSm
 repeat' (first|apply ab|apply aj|apply ai|refine ac ?_|apply aw|fail)
 refine be (ι:=MemI L.length) (fun i=>⟨[(5,.pointer (some ⟨b5,0,none⟩)),(11,.pointer (some ⟨b11,0,none⟩)),(12,sL.v),(13,i.s.v),(14,.int .i64 (i.k:Nat))],[cel b11 247 [s1.v,s2.v,s3.v,s4.v],cel b5 31 c.cells],MemX c t s3 sL L i.s (memR F L i.k)⟩) (fun i=>L.length-i.k) ⟨0,Nat.zero_le _,⟨none,0,0⟩⟩ ?_ fun i=>?_
 · exact aF ⟨rfl,rfl,rfl,rfl,rfl,trivial⟩ (aQ _) fun _ h=>h
 obtain ⟨k,hk,so⟩:=i
 simp only
 by_cases hlt:k<L.length
 · have hSp':=hSp ag
   obtain ⟨x,hx⟩:∃ x,L[k]?=some x:=⟨_,List.getElem?_eq_getElem hlt⟩
   have hst:memR F L (k+1)=bif F x then withL (memR F L k) x else memR F L k:=by rw [memR,List.getD_eq_getElem?_getD,hx];rfl
   have hFx:F x=(!seqB x c.id&&!hasS (sortB t.b) x):=by rw [←hF];rfl
   have hh:=lQ s3 (sortB t.b) x
   rw [jl] at hh
   have hin:=pQ so (memR F L k) x (iD F L k) (Nat.le_trans (pI F L k) ag)
   repeat' (first|refine ax (bK true rfl rfl (decide_eq_true ag)) rfl aR rfl ?_|apply ab|apply aj|apply ai|refine ae ?_|refine bg ?_|refine aE ?_|apply ay|apply aw|fail)
   cases hb:seqB x c.id with
   | true =>
    have hf:F x=false:=by rw [hFx,hb];rfl
    rw [hf,cond_false] at hst
    (refine bo [cel b11 247 [s1.v,s2.v,s3.v,s4.v],cel b5 31 c.cells] (MemX c t s3 sL L so (memR F L k)) ar ?_)
    all_goals refine aa 0 ?_
    all_goals refine aa 1 ?_
    all_goals (refine aa 2 (hy:=by (apply bp (q:=k);rfl;rfl;omega;omega;assumption;omega)) ?_)
    all_goals (refine aa 3 (hy:=by (apply cC (q:=k) (u:=.string x);rfl;exact fun w h=>h.l.at_ hx)) ?_)
    all_goals refine aa 4 ?_
    all_goals refine aa 5 ?_
    all_goals (refine aa 6 (hy:=by (apply fK false;rfl;rfl;(rw [hb];rfl))) ?_)
    all_goals refine aa 7 ?_
    all_goals refine aX 8 ?_
    all_goals refine aX 9 ?_
    all_goals refine aX 10 ?_
    all_goals refine aX 11 ?_
    all_goals refine aX 12 ?_
    all_goals refine aX 13 ?_
    all_goals (refine ao 14 ?_;(refine aW ?_);apply ab;refine ak ?_)
    all_goals refine aX 15 ?_
    all_goals refine aa 16 ?_
    all_goals (refine aI ?_)
    all_goals
     repeat' (first|apply ab|apply ai|refine ae ?_|refine ac ?_|refine bm (h:=?_)|refine aD ?_|apply ay|fail)
     exact ⟨(⟨k+1,hlt,so⟩:MemI L.length),(by show L.length-(k+1)<L.length-k;omega),aF ⟨rfl,rfl,rfl,rfl,rfl,trivial⟩ (aQ _) fun w h=>⟨h.c,h.b,h.l,by rw [hst];exact h.o⟩⟩
   | false =>
    cases hs:hasS (sortB t.b) x with
    | true =>
     rw [hs] at hh
     have hf:F x=false:=by rw [hFx,hb,hs];rfl
     rw [hf,cond_false] at hst
     (refine bo [cel b11 247 [s1.v,s2.v,s3.v,s4.v],cel b5 31 c.cells] (MemX c t s3 sL L so (memR F L k)) ar ?_)
     all_goals refine aa 0 ?_
     all_goals refine aa 1 ?_
     all_goals (refine aa 2 (hy:=by (apply bp (q:=k);rfl;rfl;omega;omega;assumption;omega)) ?_)
     all_goals (refine aa 3 (hy:=by (apply cC (q:=k) (u:=.string x);rfl;exact fun w h=>h.l.at_ hx)) ?_)
     all_goals refine aa 4 ?_
     all_goals refine aa 5 ?_
     all_goals (refine aa 6 (hy:=by (apply fK true;rfl;rfl;(rw [hb];rfl))) ?_)
     all_goals refine aa 7 ?_
     all_goals refine aa 8 ?_
     all_goals refine aa 9 ?_
     all_goals refine aa 10 ?_
     all_goals refine aa 11 ?_
     all_goals (refine aa 12 (hy:=by (apply bp (q:=k);rfl;rfl;omega;omega;assumption;omega)) ?_)
     all_goals (refine aa 13 (hy:=by (apply cC (q:=k) (u:=.string x);rfl;exact fun w h=>h.l.at_ hx)) ?_)
     all_goals (refine ao 14 ?_;(refine aC (hc:=hh) (hX:=fun w h=>h.b) ?_);apply ab;refine ak ?_)
     all_goals refine aa 15 ?_
     all_goals refine aa 16 ?_
     all_goals (refine aI ?_)
     all_goals
      repeat' (first|apply ab|apply ai|refine ae ?_|refine ac ?_|refine bm (h:=?_)|refine aD ?_|apply ay|fail)
      exact ⟨(⟨k+1,hlt,so⟩:MemI L.length),(by show L.length-(k+1)<L.length-k;omega),aF ⟨rfl,rfl,rfl,rfl,rfl,trivial⟩ (aQ _) fun w h=>⟨h.c,h.b,h.l,by rw [hst];exact h.o⟩⟩
    | false =>
     rw [hs] at hh
     have hf:F x=true:=by rw [hFx,hb,hs];rfl
     rw [hf,cond_true] at hst
     (refine bo [cel b11 247 [s1.v,s2.v,s3.v,s4.v],cel b5 31 c.cells] (MemX c t s3 sL L so (memR F L k)) ar ?_)
     all_goals refine aa 0 ?_
     all_goals refine aa 1 ?_
     all_goals (refine aa 2 (hy:=by (apply bp (q:=k);rfl;rfl;omega;omega;assumption;omega)) ?_)
     all_goals (refine aa 3 (hy:=by (apply cC (q:=k) (u:=.string x);rfl;exact fun w h=>h.l.at_ hx)) ?_)
     all_goals refine aa 4 ?_
     all_goals refine aa 5 ?_
     all_goals (refine aa 6 (hy:=by (apply fK true;rfl;rfl;(rw [hb];rfl))) ?_)
     all_goals refine aa 7 ?_
     all_goals refine aa 8 ?_
     all_goals refine aa 9 ?_
     all_goals refine aa 10 ?_
     all_goals refine aa 11 ?_
     all_goals (refine aa 12 (hy:=by (apply bp (q:=k);rfl;rfl;omega;omega;assumption;omega)) ?_)
     all_goals (refine aa 13 (hy:=by (apply cC (q:=k) (u:=.string x);rfl;exact fun w h=>h.l.at_ hx)) ?_)
     all_goals (refine ao 14 ?_;(refine aC (hc:=hh) (hX:=fun w h=>h.b) ?_);apply ab;refine ak ?_)
     all_goals refine aa 15 ?_
     all_goals refine aa 16 ?_
     all_goals (refine aI ?_)
     all_goals
      repeat' (first|apply ab|apply ai|refine ae ?_|refine ac ?_|refine bm (h:=?_)|refine aE ?_|(refine bf (q:=k) ?_)|(refine bU (u:=.string x) (hF:=fun w h=>h.l.at_ hx) ?_)|(refine bN (hc:=hin) (hX:=fun w h=>h.o) fun v2 X2 h2=>?_;obtain ⟨s2',rfl,hs2⟩:=h2)|fail)
      exact ⟨(⟨k+1,hlt,s2'⟩:MemI L.length),(by show L.length-(k+1)<L.length-k;omega),aF ⟨rfl,rfl,rfl,rfl,rfl,trivial⟩ (aQ _) fun w h=>⟨h.1.c,h.1.b,h.1.l,by rw [hst];exact hs2 w h.2⟩⟩
 · have hkE:k=L.length:=by omega
   repeat' (first|refine ax (bK false rfl rfl (decide_eq_false ag)) rfl aR rfl ?_|apply ab|apply aj|apply ai|refine ae ?_|refine ac ?_|refine bg ?_|refine aD ?_|apply aA|apply aV|fail)
   exact aq (aB rfl rfl) ⟨so,rfl,fun w h=>by rw [←hkE];exact h.1.o⟩
theorem xk (a:ActD):sealZ a=((postK a.kind||decide (a.kind=14))&&(decide (a.scope=1)||decide (a.scope=2)||decide (a.scope=3))):=by
 rw [sealZ,Bool.and_assoc,←nO]
theorem cKnow {c:ChainD} {w:World} (h:c.at_ w):c.acts.n=c.actsL.length∧c.acts.n≤9223372036854775807∧(0<c.actsL.length→c.acts.p.isSome=true):=by
 have h1:=h.max_
 simp only [maxLen] at h1
 exact ⟨h.len_,by omega,h.some_⟩
set_option maxHeartbeats 8000000 in
theorem tC (c:ChainD) (hc:ActsOk c.actsL) (hs:∀ a∈c.actsL,a.Str) (hcl:c.actsL.length≤1000000) (hto:∀ x∈c.actsL,x.to.n≤1000000) (i:Int):Pu Tryz.prog 138 #[c.v,.int .i64 i] (fun w=>c.at_ w) (.bool (wellV c i)):=by
 refine aN (args:=[_,_]) _ Tryz.func138 rfl Tryz.ntmps138 rfl fun av bor w0=>?_
 refine bt (p:=(c.acts.n=c.actsL.length∧c.acts.n≤9223372036854775807∧(0<c.actsL.length→c.acts.p.isSome=true))∧∀ x∈c.actsL,x.toL.length=x.to.n) (fun w h=>⟨cKnow h,fun x hx=>(h.2 x hx).1.len_.symm⟩) fun ⟨⟨hn,hm,hp⟩,hxl⟩=>?_
 by_cases h0:i<0
 · rw [wellV,decide_eq_false ag,Bool.false_and]
   repeat' (first|refine ax (bK true rfl rfl (decide_eq_true ag)) rfl aR rfl ?_|apply ab|apply aj|apply ai|refine ae ?_|refine ac ?_|refine aJ ?_|refine bI ?_|refine aT fun _=>?_|refine aE ?_|apply aA|fail)
   exact aq (aB rfl rfl) rfl
 obtain ⟨q,rfl⟩:=Int.eq_ofNat_of_zero_le (show 0≤i by omega)
 by_cases hlt:q<c.actsL.length
 · have hp':=hp ag
   obtain ⟨x,hx⟩:∃ x,c.actsL[q]?=some x:=⟨_,List.getElem?_eq_getElem hlt⟩
   have hxm:x∈c.actsL:=List.mem_of_getElem? hx
   have hW:wellV c (q:Int)=wellA c q x:=by
    rw [wellV,decide_eq_true ag,Bool.true_and]
    show (match c.actsL[q]? with|some a=>wellA c q a|none=>false)=_
    rw [hx]
   have hA:wellA c q x=(sealZ x&&(match epochO c.actsL q x.scope x.group with
    | some e=>decide (e.epoch=x.epoch)&&eqL e.toL (membersV c q x.scope x.group x.toL)
    | none=>false)):=by rw [xk];rfl
   rw [hW,hA]
   have hse:=oQ x
   have hep:=rn c q x.scope x.group
   have hme:=iC c hc hs hcl hto q x.scope x.group x.to x.toL (by rw [hxl x hxm];exact hto x hxm)
   have hoe:∀ e,epochO c.actsL q x.scope x.group=some e→e∈c.actsL:=fun e he=>by
    rw [epochO] at he
    revert he
    cases decide ((0:Int)<((grantV c.actsL q x.scope x.group).2:Nat)) with
    | false=>intro he;cases he
    | true=>intro he;exact List.mem_of_getElem? he
   generalize epochO c.actsL q x.scope x.group=o at *
   generalize membersV c q x.scope x.group x.toL=M at *
   cases hsb:sealZ x with
   | false =>
    rw [hsb] at hse
    repeat' (first|refine ax (bK false rfl rfl (decide_eq_false ag)) rfl aR rfl ?_|refine ax (dl false rfl rfl (decide_eq_false ag)) rfl aR rfl ?_|apply ab|apply aj|apply ai|refine ae ?_|refine ac ?_|refine aM ?_|refine aL ?_|refine aH ?_|refine bE ?_|refine bg ?_|refine aT fun _=>?_|refine aE ?_|apply aA|(refine bf (q:=q*20) ?_)|(refine bD (cs:=x.cells) (hF:=fun w h=>Acts.get h hx) ?_)|(refine aC (hc:=hse) (hX:=fun _ _=>trivial) ?_)|fail)
    exact aq (aB rfl rfl) rfl
   | true =>
    rw [hsb] at hse
    rw [Bool.true_and]
    cases o with
    | none =>
     replace hep:Pu Tryz.prog 221 #[c.v,.int .i64 (q:Nat),.int .i64 x.scope,.string x.group] (fun w=>c.at_ w) (.tuple #[.int .i64 0,.slice none 0 0,.bool false]):=hep
     repeat' (first|refine ax (bK false rfl rfl (decide_eq_false ag)) rfl aR rfl ?_|refine ax (dl false rfl rfl (decide_eq_false ag)) rfl aR rfl ?_|apply ab|apply aj|apply ai|refine ae ?_|refine ac ?_|refine aM ?_|refine aL ?_|refine aG ?_|refine aH ?_|refine bE ?_|refine bg ?_|refine bC ?_|refine aW ?_|refine aP fun _=>?_|refine aT fun _=>?_|refine aK ?_|refine aD ?_|apply ay|apply aA|(refine bf (q:=q*20) ?_)|(refine bD (cs:=x.cells) (hF:=fun w h=>Acts.get h hx) ?_)|(refine aC (hc:=hse) (hX:=fun _ _=>trivial) ?_)|(refine aC (hc:=hep) (hX:=fun w h=>h) ?_)|fail)
     exact aq (aB rfl rfl) rfl
    | some e =>
     replace hep:Pu Tryz.prog 221 #[c.v,.int .i64 (q:Nat),.int .i64 x.scope,.string x.group] (fun w=>c.at_ w) (.tuple #[.int .i64 e.epoch,e.to.v,.bool true]):=hep
     have hem:=hoe e rfl
     dsimp only
     by_cases hee:e.epoch=x.epoch
     · have hsm:=fun s2=>uI e.to s2 e.toL M
       rw [decide_eq_true hee,Bool.true_and]
       repeat' (first|refine ax (bK false rfl rfl (decide_eq_false ag)) rfl aR rfl ?_|refine ax (dl false rfl rfl (decide_eq_false ag)) rfl aR rfl ?_|refine ax (dS true rfl rfl (decide_eq_true hee)) rfl aR rfl ?_|apply ab|apply aj|apply ai|refine ae ?_|refine ac ?_|refine aM ?_|refine aL ?_|refine aG ?_|refine aJ ?_|refine aH ?_|refine bE ?_|refine bg ?_|refine bC ?_|refine aP fun _=>?_|refine aT fun _=>?_|refine aK ?_|refine aD ?_|apply ay|apply aA|(refine bf (q:=q*20) ?_)|(refine bD (cs:=x.cells) (hF:=fun w h=>Acts.get h hx) ?_)|(refine aC (hc:=hse) (hX:=fun _ _=>trivial) ?_)|(refine aC (hc:=hep) (hX:=fun w h=>h) ?_)|(refine bN (hc:=hme) (hX:=fun w h=>⟨h,(h.2 x hxm).1⟩) fun v2 X2 h2=>?_;obtain ⟨s2,rfl,hs2⟩:=h2)|(refine aC (hc:=hsm s2) (hX:=fun w h=>⟨(h.1.2 e hem).1,hs2 w h.2⟩) ?_)|fail)
       all_goals first
        | exact aq (aB rfl rfl) rfl
     · rw [decide_eq_false hee,Bool.false_and]
       repeat' (first|refine ax (bK false rfl rfl (decide_eq_false ag)) rfl aR rfl ?_|refine ax (dl false rfl rfl (decide_eq_false ag)) rfl aR rfl ?_|refine ax (dS false rfl rfl (decide_eq_false hee)) rfl aR rfl ?_|apply ab|apply aj|apply ai|refine ae ?_|refine ac ?_|refine aM ?_|refine aL ?_|refine aG ?_|refine aJ ?_|refine aH ?_|refine bE ?_|refine bg ?_|refine bC ?_|refine aW ?_|refine aP fun _=>?_|refine aT fun _=>?_|refine aK ?_|refine aD ?_|apply ay|apply aA|(refine bf (q:=q*20) ?_)|(refine bD (cs:=x.cells) (hF:=fun w h=>Acts.get h hx) ?_)|(refine aC (hc:=hse) (hX:=fun _ _=>trivial) ?_)|(refine aC (hc:=hep) (hX:=fun w h=>h) ?_)|fail)
       all_goals first
        | exact aq (aB rfl rfl) rfl
 · rw [wellV,List.getElem?_eq_none (by rw [Int.toNat_natCast];omega),Bool.and_false]
   repeat' (first|refine ax (bK false rfl rfl (decide_eq_false ag)) rfl aR rfl ?_|refine ax (dl true rfl rfl (decide_eq_true ag)) rfl aR rfl ?_|apply ab|apply aj|apply ai|refine ae ?_|refine ac ?_|refine aM ?_|refine aL ?_|refine aJ ?_|refine aH ?_|refine bg ?_|refine bI ?_|refine aT fun _=>?_|refine aE ?_|apply aA|fail)
   exact aq (aB rfl rfl) rfl
theorem tF (c:ChainD) (i:Int):Pu Tryz.prog 137 #[c.v,.int .i64 i] (fun w=>c.at_ w) (.bool (rtextV c i)):=by
 refine aN (args:=[_,_]) _ Tryz.func137 rfl Tryz.ntmps137 rfl fun av bor w0=>?_
 refine bt (fun w h=>cKnow h) fun ⟨hn,hm,hp⟩=>?_
 by_cases h0:i<0
 · rw [rtextV,decide_eq_false ag,Bool.false_and]
   repeat' (first|refine ax (bK true rfl rfl (decide_eq_true ag)) rfl aR rfl ?_|apply ab|apply aj|apply ai|refine ae ?_|refine ac ?_|refine aJ ?_|refine bI ?_|refine aT fun _=>?_|refine aE ?_|apply aA|fail)
   exact aq (aB rfl rfl) rfl
 obtain ⟨q,rfl⟩:=Int.eq_ofNat_of_zero_le (show 0≤i by omega)
 by_cases hlt:q<c.actsL.length
 · have hp':=hp ag
   obtain ⟨x,hx⟩:∃ x,c.actsL[q]?=some x:=⟨_,List.getElem?_eq_getElem hlt⟩
   have hW:rtextV c (q:Int)=(postK x.kind||decide (x.kind=14)):=by
    rw [rtextV,decide_eq_true ag,Bool.true_and]
    show (match c.actsL[q]? with|some a=>postK a.kind||decide (a.kind=14)|none=>false)=_
    rw [hx]
   rw [hW]
   have hpo:=fm x.kind
   generalize postK x.kind=pk at *
   cases pk <;>
   · repeat' (first|refine ax (bK false rfl rfl (decide_eq_false ag)) rfl aR rfl ?_|refine ax (dl false rfl rfl (decide_eq_false ag)) rfl aR rfl ?_|apply ab|apply aj|apply ai|refine ae ?_|refine ac ?_|refine aM ?_|refine aL ?_|refine aJ ?_|refine aH ?_|refine bR ?_|refine bg ?_|refine bI ?_|refine aT fun _=>?_|refine aD ?_|apply ay|apply aA|(refine bf (q:=q*20) ?_)|(refine cT ?_)|(refine bU (q:=q*20+3) (u:=.int .i64 x.kind) (hF:=fun w h=>(Acts.get h hx).2.2 3 _ rfl) ?_)|(refine aC (hc:=hpo) (hX:=fun _ _=>trivial) ?_)|fail)
     all_goals first
      | exact aq (aB rfl rfl) rfl
 · rw [rtextV,List.getElem?_eq_none (by rw [Int.toNat_natCast];omega),Bool.and_false]
   repeat' (first|refine ax (bK false rfl rfl (decide_eq_false ag)) rfl aR rfl ?_|refine ax (dl true rfl rfl (decide_eq_true ag)) rfl aR rfl ?_|apply ab|apply aj|apply ai|refine ae ?_|refine ac ?_|refine aM ?_|refine aL ?_|refine aH ?_|refine bg ?_|refine aT fun _=>?_|refine aE ?_|apply aA|fail)
   exact aq (aB rfl rfl) rfl
set_option maxHeartbeats 8000000 in
theorem yn (c:ChainD) (hc:ActsOk c.actsL) (hs:∀ a∈c.actsL,a.Str) (hcl:c.actsL.length≤1000000) (hto:∀ x∈c.actsL,x.to.n≤1000000) (i:Int) (r:ByteArray):Pu Tryz.prog 82 #[c.v,.int .i64 i,.string r] (fun w=>c.at_ w) (.bool (mayV c i r)):=by
 refine aN (args:=[_,_,_]) _ Tryz.func82 rfl Tryz.ntmps82 rfl fun av bor w0=>?_
 refine bt (p:=(c.acts.n=c.actsL.length∧c.acts.n≤9223372036854775807∧(0<c.actsL.length→c.acts.p.isSome=true))∧∀ x∈c.actsL,x.toL.length=x.to.n) (fun w h=>⟨cKnow h,fun x hx=>(h.2 x hx).1.len_.symm⟩) fun ⟨⟨hn,hm,hp⟩,hxl⟩=>?_
 have hte:=tF c i
 cases ht:rtextV c i with
 | false =>
  rw [ht] at hte
  rw [mayV,ht,Bool.false_and]
  repeat' (first|apply ab|apply aj|apply ai|refine ae ?_|refine ac ?_|refine aG ?_|refine bE ?_|refine aT fun _=>?_|refine aE ?_|apply aA|(refine aC (hc:=hte) (hX:=fun w h=>h) ?_)|fail)
  exact aq (aB rfl rfl) rfl
 | true =>
  rw [ht] at hte
  have h0:0≤i:=by
   rcases Int.lt_or_le i 0 with h|h
   · rw [rtextV,decide_eq_false ag,Bool.false_and] at ht;cases ht
   · exact h
  obtain ⟨q,rfl⟩:=Int.eq_ofNat_of_zero_le h0
  have hlt:q<c.actsL.length:=by
   rcases Nat.lt_or_ge q c.actsL.length with h|h
   · exact h
   · rw [rtextV,List.getElem?_eq_none (by rw [Int.toNat_natCast];exact h),Bool.and_false] at ht;cases ht
  have hp':=hp ag
  obtain ⟨x,hx⟩:∃ x,c.actsL[q]?=some x:=⟨_,List.getElem?_eq_getElem hlt⟩
  have hxm:x∈c.actsL:=List.mem_of_getElem? hx
  have hpb:pubV c (q:Int)=decide (x.scope=0):=by
   show (match c.actsL[q]? with|some a=>decide (a.scope=0)|none=>false)=_
   rw [hx]
  have hrm:rmemV c (q:Int)=bif wellV c q then membersV c q x.scope x.group x.toL else []:=mI hx
  rw [mayV,ht,Bool.true_and,hpb,hrm]
  have hwe:=tC c hc hs hcl hto q
  have hme:=iC c hc hs hcl hto q x.scope x.group x.to x.toL (by rw [hxl x hxm];exact hto x hxm)
  have hha:=fun s2=>lQ s2 (membersV c q x.scope x.group x.toL) r
  generalize membersV c q x.scope x.group x.toL=M at *
  rw [jl] at hha
  generalize wellV c q=wv at *
  cases hid:seqB r c.id with
  | true =>
   repeat' (first|refine ax (dv true rfl rfl hid) rfl aR rfl ?_|apply ab|apply aj|apply ai|refine ae ?_|refine ac ?_|refine aM ?_|refine aL ?_|refine aG ?_|refine aJ ?_|refine bE ?_|refine bI ?_|refine aP fun _=>?_|refine aT fun _=>?_|refine aK ?_|refine aE ?_|refine aD ?_|apply ay|apply aA|(refine aC (hc:=hte) (hX:=fun w h=>h) ?_)|(refine bf (q:=q*20) ?_)|(refine bD (cs:=x.cells) (hF:=fun w h=>Acts.get h hx) ?_)|fail)
   exact aq (aB rfl rfl) rfl
  | false =>
   rw [Bool.false_or]
   by_cases hsc:x.scope=0
   · rw [decide_eq_true hsc]
     repeat' (first|refine ax (dv false rfl rfl hid) rfl aR rfl ?_|refine ax (dS true rfl rfl (decide_eq_true hsc)) rfl aR rfl ?_|apply ab|apply aj|apply ai|refine ae ?_|refine ac ?_|refine aM ?_|refine aL ?_|refine aG ?_|refine aH ?_|refine bE ?_|refine aP fun _=>?_|refine aT fun _=>?_|refine aK ?_|refine aE ?_|refine aD ?_|apply ay|apply aA|(refine aC (hc:=hte) (hX:=fun w h=>h) ?_)|(refine bf (q:=q*20) ?_)|(refine bD (cs:=x.cells) (hF:=fun w h=>Acts.get h hx) ?_)|fail)
     exact aq (aB rfl rfl) rfl
   · rw [decide_eq_false hsc,Bool.false_or]
     cases wv with
     | false =>
      repeat' (first|refine ax (dv false rfl rfl hid) rfl aR rfl ?_|refine ax (dS false rfl rfl (decide_eq_false hsc)) rfl aR rfl ?_|apply ab|apply aj|apply ai|refine ae ?_|refine ac ?_|refine aM ?_|refine aL ?_|refine aG ?_|refine aH ?_|refine bE ?_|refine aW ?_|refine aP fun _=>?_|refine aT fun _=>?_|refine aK ?_|refine aD ?_|apply ay|apply aA|(refine aC (hc:=hte) (hX:=fun w h=>h) ?_)|(refine bf (q:=q*20) ?_)|(refine bD (cs:=x.cells) (hF:=fun w h=>Acts.get h hx) ?_)|(refine aC (hc:=hwe) (hX:=fun w h=>h) ?_)|fail)
      exact aq (aB rfl rfl) rfl
     | true =>
      repeat' (first|refine ax (dv false rfl rfl hid) rfl aR rfl ?_|refine ax (dS false rfl rfl (decide_eq_false hsc)) rfl aR rfl ?_|apply ab|apply aj|apply ai|refine ae ?_|refine ac ?_|refine aM ?_|refine aL ?_|refine aG ?_|refine aJ ?_|refine aH ?_|refine bE ?_|refine aP fun _=>?_|refine aT fun _=>?_|refine aK ?_|refine aD ?_|apply ay|apply aA|(refine aC (hc:=hte) (hX:=fun w h=>h) ?_)|(refine bf (q:=q*20) ?_)|(refine bD (cs:=x.cells) (hF:=fun w h=>Acts.get h hx) ?_)|(refine aC (hc:=hwe) (hX:=fun w h=>h) ?_)|(refine bN (hc:=hme) (hX:=fun w h=>⟨h,(h.2 x hxm).1⟩) fun v2 X2 h2=>?_;obtain ⟨s2,rfl,hs2⟩:=h2)|(refine aC (hc:=hha s2) (hX:=fun w h=>hs2 w h.2) ?_)|fail)
      all_goals first
       | exact aq (aB rfl rfl) rfl
theorem qK (s:SlV) (l:List ChainD) (id:ByteArray):Pu Tryz.prog 81 #[s.v,.string id] (fun w=>Chains w s l) (findP (findC l id)):=by
 refine aN (args:=[_,_]) _ Tryz.func81 rfl Tryz.ntmps81 rfl fun av bor w0=>?_
 refine bt (p:=s.n=l.length∧s.n≤maxLen∧(0<l.length→s.p.isSome=true)) (fun w h=>⟨h.len_,h.max_,h.some_⟩) fun ⟨hl,hm,hp⟩=>?_
 simp only [maxLen] at hm
 repeat' (first|apply ab|apply aj|apply ai|refine ac ?_|refine aP fun _=>?_|apply aw|fail)
 rename_i b
 refine be (ι:=Upto l.length (badF l id)) (fun i=>⟨[(0,s.v),(1,.string id),(4,.pointer (some ⟨b,0,none⟩)),(6,.int .i64 i.k)],[cel b 31 ChainD.zero.cells],fun w=>Chains w s l⟩) (fun i=>l.length-i.k) (Upto.zero _ _) (aF ⟨rfl,rfl,rfl,rfl,trivial⟩ (aQ _) fun _ h=>h) fun i=>?_
 have hik:=i.hk
 repeat' (first|apply ab|apply aj|apply ai|refine ae ?_|refine bu ?_|refine bg ?_|apply ay|apply aw|apply aV|(refine aO (ht:=?_) (hf:=?_);all_goals (intro hx_;first|have:=aY hx_|have:=aZ hx_)))
 · have hlt:i.k<l.length:=by omega
   have hp':=hp ag
   obtain ⟨x,hx⟩:∃ x,l[i.k]?=some x:=⟨_,List.getElem?_eq_getElem hlt⟩
   repeat' (first|apply ab|apply aj|apply ai|refine ae ?_|refine ac ?_|refine co ?_|refine bm (h:=?_)|refine aK ?_|apply ay|apply aA|(refine bf (q:=i.k*6) ?_)|(refine cT ?_)|(refine bU (q:=i.k*6) (u:=.string x.id) (hF:=fun w h=>(Chains.get h hx).2.2 0 _ rfl) ?_)|(refine bD (cs:=x.cells) (hF:=fun w h=>Chains.get h hx) ?_)|(refine aO (ht:=?_) (hf:=?_);all_goals (intro hx_;skip)))
   · apply aq;refine cN rfl rfl rfl bF ?_
     · rfl
     rw [jT i hx (by assumption)]
     rfl
   · exact ⟨i.next hlt (by rw [kf hx];assumption),(by show l.length-(i.k+1)<l.length-i.k;omega),aF ⟨rfl,rfl,rfl,rfl,trivial⟩ (aQ _) fun _ h=>h⟩
 · repeat' (first|apply ab|refine ac ?_|refine aK ?_|apply aA|(refine bV ?_))
   apply aq;refine cN rfl rfl rfl bF ?_
   · rfl
   rw [lS i (by omega)]
   rfl
structure PostZ where
 id:ByteArray
 author:ByteArray
 pos:Int
 kind:Int
 scope:Int
 group:ByteArray
 to:SlV
 object:ByteArray
 time:Int
 ed:SlV
 gone:Bool
 edL:List Int
def PostZ.cells (p:PostZ):List Value:=[.string p.id,.string p.author,.int .i64 p.pos,.int .i64 p.kind,.int .i64 p.scope,.string p.group,p.to.v,.string p.object,.int .i64 p.time,p.ed.v,.bool p.gone]
def PostZ.v (p:PostZ):Value:=.agg p.cells.toArray
def histZ (l:List ChainD) (p:PostZ) (r:ByteArray):List Int:=bif p.gone then [] else match findC l p.author with
 | none=>[]
 | some c=>(p.pos::p.edL).filter fun i=>mayV c i r
theorem lA {p:PostZ} {b:Bool} (h:p.gone=b):p.v=.agg #[.string p.id,.string p.author,.int .i64 p.pos,.int .i64 p.kind,.int .i64 p.scope,.string p.group,p.to.v,.string p.object,.int .i64 p.time,p.ed.v,.bool b]:=by rw [PostZ.v,PostZ.cells,h]
structure HisZ (m:Nat) where
 k:Nat
 hk:k≤m
 A:Option Addr
 c:Nat
set_option maxHeartbeats 8000000 in
theorem jQ (s:SlV) (l:List ChainD) (p:PostZ) (r:ByteArray) (hok:∀ c∈l,ChOk c) (hel:p.edL.length≤1000000) :
  Mk Tryz.prog 38 #[s.v,p.v,.string r] (fun w=>(Chains w s l∧Ints w p.ed p.edL)∧Glob w) (IntsAt (histZ l p r)):=by
 refine bL (args:=[_,_,_]) _ Tryz.func38 rfl Tryz.ntmps38 rfl fun av bor w0=>?_
 cases hg:p.gone with
 | true =>
  have e:histZ l p r=[]:=by rw [histZ,hg];rfl
  rw [e]
  rw [lA hg]
  repeat' (first|apply ab|apply aj|apply ai|refine ac ?_|refine aM ?_|refine aL ?_|refine aT fun _=>?_|refine aE ?_|apply aA|fail)
  all_goals exact aq (aB rfl rfl) ⟨⟨none,0,0⟩,rfl,fun w _=>bz w 1⟩
 | false =>
  refine bt (p:=p.ed.n=p.edL.length∧p.ed.n≤maxLen∧(0<p.edL.length→p.ed.p.isSome=true)) (fun w h=>⟨h.1.2.len_,Nat.le_trans (RowsD.cap h.1.2) (RowsD.max h.1.2),h.1.2.some_⟩) fun ⟨hn,hm,hp⟩=>?_
  simp only [maxLen] at hm
  have hfi:=te s l p.author
  cases hf:findC l p.author with
  | none =>
   rw [hf] at hfi
   replace hfi:Pu Tryz.prog 22 #[s.v,.string p.author] (fun w=>Chains w s l) (.tuple #[ChainD.zero.v,.bool false]):=hfi
   have e:histZ l p r=[]:=by rw [histZ,hg,hf];rfl
   rw [e]
   clear e
   rw [lA hg]
   repeat' (first|apply ab|apply aj|apply ai|refine ae ?_|refine ac ?_|refine aM ?_|refine aL ?_|refine bE ?_|refine bC ?_|refine aP fun _=>?_|refine aT fun _=>?_|refine aK ?_|refine aE ?_|refine aD ?_|apply ay|apply aA|(refine aC (hc:=hfi) (hX:=fun w h=>h.1.1) ?_)|fail)
   all_goals exact aq (aB rfl rfl) ⟨⟨none,0,0⟩,rfl,fun w _=>bz w 1⟩
  | some c =>
   rw [hf] at hfi
   replace hfi:Pu Tryz.prog 22 #[s.v,.string p.author] (fun w=>Chains w s l) (.tuple #[c.v,.bool true]):=hfi
   have hcm:=lT hf
   have hco:=hok c hcm
   have e:histZ l p r=(p.pos::p.edL).filter fun i=>mayV c i r:=by rw [histZ,hg,hf];rfl
   rw [e]
   clear e
   have hmay:=fun i=>ym c hco.acts hco.len hco.to i r
   rw [lA hg]
   refine cf 3 1 ?_
   repeat' (first|apply ab|apply aj|apply ai|refine ae ?_|refine ac ?_|refine aM ?_|refine aL ?_|refine aG ?_|refine bE ?_|refine bC ?_|refine aP fun _=>?_|refine aT fun _=>?_|refine aK ?_|refine aD ?_|apply ay|(refine aC (hc:=hfi) (hX:=fun w h=>h.1.1) ?_)|fail)
   rename_i b1 b2
   generalize hcs:(Value.agg #[.string p.id,.string p.author,.int .i64 p.pos,.int .i64 p.kind,.int .i64 p.scope,.string p.group,p.to.v,.string p.object,.int .i64 p.time,p.ed.v,.bool false])=pv
   have hF1:∀ k x,p.edL[k]?=some x→((p.pos::p.edL).take (k+1+1)).filter (fun i=>mayV c i r)=((p.pos::p.edL).take (k+1)).filter (fun i=>mayV c i r)++bif mayV c x r then [x] else []:=fun k x hx=>gj (fun i=>mayV c i r) _ _ hx
   have hFl:∀ k,(((p.pos::p.edL).take (k+1)).filter fun i=>mayV c i r).length≤1000001:=fun k=>by
    have h1:=List.length_filter_le (fun i=>mayV c i r) ((p.pos::p.edL).take (k+1))
    have h2:=List.length_take_le (k+1) (p.pos::p.edL)
    have h3:(p.pos::p.edL).length=p.edL.length+1:=rfl
    have h4:=List.length_take_le' (k+1) (p.pos::p.edL)
    omega
   have hFe:((p.pos::p.edL).take (p.edL.length+1)).filter (fun i=>mayV c i r)=(p.pos::p.edL).filter fun i=>mayV c i r:=by rw [List.take_of_length_le (by simp)]
   have hF0:((p.pos::p.edL).take (0+1)).filter (fun i=>mayV c i r)=bif mayV c p.pos r then [p.pos] else []:=by
    show [p.pos].filter _=_
    cases h:mayV c p.pos r<;>simp [h]
   have hd:=hmay p.pos
   generalize hFF:(fun k:Nat=>((p.pos::p.edL).take (k+1)).filter fun i=>mayV c i r)=F at *
   have hF:∀ k,((p.pos::p.edL).take (k+1)).filter (fun i=>mayV c i r)=F k:=fun k=>congrFun hFF k
   rw [←hFe]
   simp only [hF] at *
   cases h0:mayV c p.pos r
   · rw [h0] at hd hF0
     simp only [cond_true,cond_false] at hF0
     subst hcs
     repeat' (first|apply ab|apply aj|apply ai|refine ae ?_|refine aM ?_|refine aL ?_|refine bg ?_|refine aD ?_|apply ay|apply aw|(refine aC (hc:=hd) (hX:=fun w h=>⟨h.1.1.2 c hcm,h.2⟩) ?_)|fail)
     refine be (ι:=HisZ p.edL.length) (fun i=>⟨[(2,.string r),(4,.pointer (some ⟨b1,0,none⟩)),(7,.pointer (some ⟨b2,0,none⟩)),(9,.slice i.A (F i.k).length i.c),(34,p.ed.v),(35,.int .i64 (p.ed.n:Nat)),(36,.int .i64 (i.k:Nat))],[cel b2 31 c.cells,cel b1 84 [.string p.id,.string p.author,.int .i64 p.pos,.int .i64 p.kind,.int .i64 p.scope,.string p.group,p.to.v,.string p.object,.int .i64 p.time,p.ed.v,.bool false],orow 3 1 (.slice i.A (F i.k).length i.c) (F i.k).length ((F i.k).map intV)],fun w=>(Chains w s l∧Ints w p.ed p.edL)∧Glob w⟩) (fun i=>p.edL.length-i.k) ⟨0,Nat.zero_le _,none,0⟩ (aF (by simp only [hF0,List.length_nil,List.length_cons];exact ⟨rfl,rfl,rfl,rfl,rfl,rfl,rfl,trivial⟩) (by simp only [hF0,List.length_nil,List.length_cons,List.map_nil,List.map_cons];exact aQ _) fun _ h=>h) fun i=>?_
     have hik:=i.hk
     obtain ⟨k,hk,A,cp⟩:=i
     simp only at hik ⊢
     repeat' (first|apply ab|apply aj|apply ai|refine ae ?_|refine ac ?_|refine bu ?_|apply ay|apply aw|apply aA|apply aV|(refine aO (ht:=?_) (hf:=?_);all_goals (intro hx_;first|have:=aY hx_|have:=aZ hx_)))
     · have hlt:k<p.edL.length:=by omega
       have hp':=hp ag
       obtain ⟨x,hx⟩:∃ x,p.edL[k]?=some x:=⟨_,List.getElem?_eq_getElem hlt⟩
       have hxD:p.edL.getD k 0=x:=by rw [List.getD_eq_getElem?_getD,hx];rfl
       have hfl:=hFl k
       have hst:=hF1 k x hx
       have hdx:=hmay x
       generalize hac:F k=acc at *
       cases hmx:mayV c x r
       · rw [hmx] at hdx hst
         simp only [cond_false,List.append_nil] at hst
         repeat' (first|apply ab|apply aj|apply ai|refine ae ?_|refine ac ?_|refine aG ?_|refine bm (h:=?_)|refine aD ?_|apply ay|(refine bf (q:=k) ?_)|(refine bU (u:=.int .i64 x) (hF:=fun w h=>hxD▸Ints.get h.1.2 hlt) ?_)|(refine aC (hc:=hdx) (hX:=fun w h=>⟨h.1.1.2 c hcm,h.2⟩) ?_)|fail)
         exact ⟨(⟨k+1,hlt,A,cp⟩:HisZ p.edL.length),(by show p.edL.length-(k+1)<p.edL.length-k;omega),aF (by simp only [hst];exact ⟨rfl,rfl,rfl,rfl,rfl,rfl,rfl,trivial⟩) (by simp only [hst];exact aQ _) fun _ h=>h⟩
       · rw [hmx] at hdx hst
         simp only [cond_true] at hst
         repeat' (first|apply ab|apply aj|apply ai|refine ae ?_|refine ac ?_|refine aG ?_|refine bm (h:=?_)|refine ca fun _=>?_|refine aE ?_|(refine bf (q:=k) ?_)|(refine bU (u:=.int .i64 x) (hF:=fun w h=>hxD▸Ints.get h.1.2 hlt) ?_)|(refine aC (hc:=hdx) (hX:=fun w h=>⟨h.1.1.2 c hcm,h.2⟩) ?_)|(refine aS (size:=1) (news:=[intV x]) (q:=1) rfl rfl rfl rfl (fun _=>At.there _ (At.there _ (At.there _ (At.here _)))) (fun w G=>bq G aU rfl rfl 1) ag (by simp only [maxLen];omega) rfl ?_ rfl ?_;(with_reducible rfl);intro A2 c2)|fail)
         exact ⟨(⟨k+1,hlt,A2,c2⟩:HisZ p.edL.length),(by show p.edL.length-(k+1)<p.edL.length-k;omega),aF (by simp only [hst,List.length_append,List.length_cons,List.length_nil,Nat.zero_add];exact ⟨rfl,rfl,rfl,rfl,rfl,rfl,rfl,trivial⟩) (by simp only [hst,List.length_append,List.length_cons,List.length_nil,Nat.zero_add,List.map_append,List.map_cons,List.map_nil];exact List.Sublist.cons _ (aQ _)) fun _ h=>h⟩
     · have hkE:k=p.edL.length:=by omega
       subst hkE
       exact aq (aB rfl rfl) ⟨⟨A,(F p.edL.length).length,cp⟩,rfl,fun w h=>dN (h.2 (orow 3 1 (.slice A (F p.edL.length).length cp) (F p.edL.length).length ((F p.edL.length).map intV)) (.tail _ (.tail _ (.head _)))) rfl⟩
   · rw [h0] at hd hF0
     simp only [cond_true,cond_false] at hF0
     subst hcs
     repeat' (first|apply ab|apply aj|apply ai|refine ae ?_|refine ac ?_|refine aM ?_|refine aL ?_|refine bg ?_|refine ca fun _=>?_|refine aE ?_|apply aw|(refine aC (hc:=hd) (hX:=fun w h=>⟨h.1.1.2 c hcm,h.2⟩) ?_)|(refine aS (size:=1) (news:=[intV p.pos]) (q:=1) rfl rfl rfl rfl (fun _=>At.there _ (At.there _ (At.there _ (At.here _)))) (fun w G=>bq G aU rfl rfl 1) ag (by simp only [maxLen];omega) rfl ?_ rfl ?_;(with_reducible rfl);intro A2 c2)|fail)
     refine be (ι:=HisZ p.edL.length) (fun i=>⟨[(2,.string r),(4,.pointer (some ⟨b1,0,none⟩)),(7,.pointer (some ⟨b2,0,none⟩)),(9,.slice i.A (F i.k).length i.c),(34,p.ed.v),(35,.int .i64 (p.ed.n:Nat)),(36,.int .i64 (i.k:Nat))],[cel b2 31 c.cells,cel b1 84 [.string p.id,.string p.author,.int .i64 p.pos,.int .i64 p.kind,.int .i64 p.scope,.string p.group,p.to.v,.string p.object,.int .i64 p.time,p.ed.v,.bool false],orow 3 1 (.slice i.A (F i.k).length i.c) (F i.k).length ((F i.k).map intV)],fun w=>(Chains w s l∧Ints w p.ed p.edL)∧Glob w⟩) (fun i=>p.edL.length-i.k) ⟨0,Nat.zero_le _,A2,c2⟩ (aF (by simp only [hF0,List.length_nil,List.length_cons];exact ⟨rfl,rfl,rfl,rfl,rfl,rfl,rfl,trivial⟩) (by simp only [hF0,List.length_nil,List.length_cons,List.map_nil,List.map_cons];exact List.Sublist.cons _ (aQ _)) fun _ h=>h) fun i=>?_
     have hik:=i.hk
     obtain ⟨k,hk,A,cp⟩:=i
     simp only at hik ⊢
     repeat' (first|apply ab|apply aj|apply ai|refine ae ?_|refine ac ?_|refine bu ?_|apply ay|apply aw|apply aA|apply aV|(refine aO (ht:=?_) (hf:=?_);all_goals (intro hx_;first|have:=aY hx_|have:=aZ hx_)))
     · have hlt:k<p.edL.length:=by omega
       have hp':=hp ag
       obtain ⟨x,hx⟩:∃ x,p.edL[k]?=some x:=⟨_,List.getElem?_eq_getElem hlt⟩
       have hxD:p.edL.getD k 0=x:=by rw [List.getD_eq_getElem?_getD,hx];rfl
       have hfl:=hFl k
       have hst:=hF1 k x hx
       have hdx:=hmay x
       generalize hac:F k=acc at *
       cases hmx:mayV c x r
       · rw [hmx] at hdx hst
         simp only [cond_false,List.append_nil] at hst
         repeat' (first|apply ab|apply aj|apply ai|refine ae ?_|refine ac ?_|refine aG ?_|refine bm (h:=?_)|refine aD ?_|apply ay|(refine bf (q:=k) ?_)|(refine bU (u:=.int .i64 x) (hF:=fun w h=>hxD▸Ints.get h.1.2 hlt) ?_)|(refine aC (hc:=hdx) (hX:=fun w h=>⟨h.1.1.2 c hcm,h.2⟩) ?_)|fail)
         exact ⟨(⟨k+1,hlt,A,cp⟩:HisZ p.edL.length),(by show p.edL.length-(k+1)<p.edL.length-k;omega),aF (by simp only [hst];exact ⟨rfl,rfl,rfl,rfl,rfl,rfl,rfl,trivial⟩) (by simp only [hst];exact aQ _) fun _ h=>h⟩
       · rw [hmx] at hdx hst
         simp only [cond_true] at hst
         repeat' (first|apply ab|apply aj|apply ai|refine ae ?_|refine ac ?_|refine aG ?_|refine bm (h:=?_)|refine ca fun _=>?_|refine aE ?_|(refine bf (q:=k) ?_)|(refine bU (u:=.int .i64 x) (hF:=fun w h=>hxD▸Ints.get h.1.2 hlt) ?_)|(refine aC (hc:=hdx) (hX:=fun w h=>⟨h.1.1.2 c hcm,h.2⟩) ?_)|(refine aS (size:=1) (news:=[intV x]) (q:=1) rfl rfl rfl rfl (fun _=>At.there _ (At.there _ (At.there _ (At.here _)))) (fun w G=>bq G aU rfl rfl 1) ag (by simp only [maxLen];omega) rfl ?_ rfl ?_;(with_reducible rfl);intro A2 c2)|fail)
         exact ⟨(⟨k+1,hlt,A2,c2⟩:HisZ p.edL.length),(by show p.edL.length-(k+1)<p.edL.length-k;omega),aF (by simp only [hst,List.length_append,List.length_cons,List.length_nil,Nat.zero_add];exact ⟨rfl,rfl,rfl,rfl,rfl,rfl,rfl,trivial⟩) (by simp only [hst,List.length_append,List.length_cons,List.length_nil,Nat.zero_add,List.map_append,List.map_cons,List.map_nil];exact List.Sublist.cons _ (aQ _)) fun _ h=>h⟩
     · have hkE:k=p.edL.length:=by omega
       subst hkE
       exact aq (aB rfl rfl) ⟨⟨A,(F p.edL.length).length,cp⟩,rfl,fun w h=>dN (h.2 (orow 3 1 (.slice A (F p.edL.length).length cp) (F p.edL.length).length ((F p.edL.length).map intV)) (.tail _ (.tail _ (.head _)))) rfl⟩
def lastZ (l:List ChainD) (p:PostZ) (r:ByteArray):Value:=.tuple #[.int .i64 ((histZ l p r).getLast?.getD 0),.bool (histZ l p r).getLast?.isSome]
theorem yq (s:SlV) (l:List ChainD) (p:PostZ) (r:ByteArray) (hok:∀ c∈l,ChOk c) (hel:p.edL.length≤1000000) :
  Pu Tryz.prog 35 #[s.v,p.v,.string r] (fun w=>(Chains w s l∧Ints w p.ed p.edL)∧Glob w) (lastZ l p r):=by
 refine aN (args:=[_,_,_]) _ Tryz.func35 rfl Tryz.ntmps35 rfl fun av bor w0=>?_
 have hh:=jQ s l p r hok hel
 rw [lastZ]
 generalize histZ l p r=H at *
 repeat' (first|apply ab|apply aj|apply ai|refine ae ?_|refine ac ?_|refine aG ?_|refine aT fun _=>?_|fail)
 refine bN (hc:=hh) (hX:=fun w h=>h) fun v1 X1 h1=>?_
 obtain ⟨s1,rfl,hs1⟩:=h1
 refine gD (p:=s1.n=H.length∧s1.n≤maxLen∧(0<H.length→s1.p.isSome=true)) (fun w h=>⟨(hs1 w h.2).len_,Nat.le_trans (RowsD.cap (hs1 w h.2)) (RowsD.max (hs1 w h.2)),(hs1 w h.2).some_⟩) fun ⟨hn,hm,hp⟩=>?_
 simp only [maxLen] at hm
 by_cases h0:H.length=0
 · have e:H=[]:=List.length_eq_zero_iff.1 h0
   subst e
   repeat' (first|refine bM (hab:=by omega) ?_|apply ab|apply aj|apply ai|refine ae ?_|refine ac ?_|refine bg ?_|refine aE ?_|apply aA|fail)
   exact aq (cO rfl rfl rfl) rfl
 · have hlt:H.length-1<H.length:=by omega
   have hp':=hp ag
   have e:H.getLast?=some (H.getD (H.length-1) 0):=by
    rw [List.getLast?_eq_getElem?,List.getD_eq_getElem?_getD,List.getElem?_eq_getElem hlt];rfl
   rw [e]
   repeat' (first|refine bQ (hab:=by omega) ?_|apply ab|apply aj|apply ai|refine ae ?_|refine ac ?_|refine bg ?_|refine cJ (h:=?_)|refine aD ?_|apply ay|apply aA|(refine bf (q:=H.length-1) ?_)|(refine bU (u:=.int .i64 (H.getD (H.length-1) 0)) (hF:=fun w h=>Ints.get (hs1 w h.2) hlt) ?_)|fail)
   exact aq (cO rfl rfl rfl) rfl
structure ChZ (c:ChainD):Prop where
 ok:ChOk c
 str:∀ a∈c.actsL,a.Str
set_option maxHeartbeats 8000000 in
theorem gL (s:SlV) (l:List ChainD) (p:PostZ) (r:ByteArray) (hok:∀ c∈l,ChZ c) (hel:p.edL.length≤1000000) :
  Mk Tryz.prog 39 #[s.v,p.v,.string r] (fun w=>Chains w s l∧Ints w p.ed p.edL) (IntsAt (histZ l p r)):=by
 refine bL (args:=[_,_,_]) _ Tryz.func39 rfl Tryz.ntmps39 rfl fun av bor w0=>?_
 refine bt (p:=p.ed.n=p.edL.length∧p.ed.n≤maxLen∧(0<p.edL.length→p.ed.p.isSome=true)) (fun w h=>⟨h.2.len_,Nat.le_trans (RowsD.cap h.2) (RowsD.max h.2),h.2.some_⟩) fun ⟨hn,hm,hp⟩=>?_
 simp only [maxLen] at hm
 have hfi:=qK s l p.author
 cases hf:findC l p.author with
 | none =>
  rw [hf] at hfi
  replace hfi:Pu Tryz.prog 81 #[s.v,.string p.author] (fun w=>Chains w s l) (.tuple #[ChainD.zero.v,.bool false]):=hfi
  have e:histZ l p r=[]:=by rw [histZ,hf];cases p.gone<;>rfl
  rw [e]
  repeat' (first|apply ab|apply aj|apply ai|refine ae ?_|refine ac ?_|refine aM ?_|refine aL ?_|refine aJ ?_|refine bE ?_|refine bC ?_|refine bI ?_|refine aP fun _=>?_|refine aT fun _=>?_|refine aK ?_|refine aE ?_|apply aA|(refine aC (hc:=hfi) (hX:=fun w h=>h.1) ?_)|fail)
  all_goals exact aq (aB rfl rfl) ⟨⟨none,0,0⟩,rfl,fun w _=>bz w 1⟩
 | some c =>
  rw [hf] at hfi
  replace hfi:Pu Tryz.prog 81 #[s.v,.string p.author] (fun w=>Chains w s l) (.tuple #[c.v,.bool true]):=hfi
  cases hg:p.gone with
  | true =>
   have e:histZ l p r=[]:=by rw [histZ,hg];rfl
   rw [e]
   rw [lA hg]
   repeat' (first|apply ab|apply aj|apply ai|refine ae ?_|refine ac ?_|refine aM ?_|refine aL ?_|refine aH ?_|refine bE ?_|refine bC ?_|refine aP fun _=>?_|refine aT fun _=>?_|refine aK ?_|refine aE ?_|apply aA|(refine aC (hc:=hfi) (hX:=fun w h=>h.1) ?_)|fail)
   all_goals exact aq (aB rfl rfl) ⟨⟨none,0,0⟩,rfl,fun w _=>bz w 1⟩
  | false =>
   have hcm:=lT hf
   have hco:=(hok c hcm).ok
   have e:histZ l p r=(p.pos::p.edL).filter fun i=>mayV c i r:=by rw [histZ,hg,hf];rfl
   rw [e]
   clear e
   have hmay:=fun i=>yn c hco.acts (hok c hcm).str hco.len hco.to i r
   rw [lA hg]
   refine cf 3 1 ?_
   have hF1:∀ k x,p.edL[k]?=some x→((p.pos::p.edL).take (k+1+1)).filter (fun i=>mayV c i r)=((p.pos::p.edL).take (k+1)).filter (fun i=>mayV c i r)++bif mayV c x r then [x] else []:=fun k x hx=>gj (fun i=>mayV c i r) _ _ hx
   have hFl:∀ k,(((p.pos::p.edL).take (k+1)).filter fun i=>mayV c i r).length≤1000001:=fun k=>by
    have h1:=List.length_filter_le (fun i=>mayV c i r) ((p.pos::p.edL).take (k+1))
    have h2:=List.length_take_le (k+1) (p.pos::p.edL)
    have h3:(p.pos::p.edL).length=p.edL.length+1:=rfl
    have h4:=List.length_take_le' (k+1) (p.pos::p.edL)
    omega
   have hFe:((p.pos::p.edL).take (p.edL.length+1)).filter (fun i=>mayV c i r)=(p.pos::p.edL).filter fun i=>mayV c i r:=by rw [List.take_of_length_le (by simp)]
   have hF0:((p.pos::p.edL).take (0+1)).filter (fun i=>mayV c i r)=bif mayV c p.pos r then [p.pos] else []:=by
    show [p.pos].filter _=_
    cases h:mayV c p.pos r<;>simp [h]
   have hd:=hmay p.pos
   generalize hFF:(fun k:Nat=>((p.pos::p.edL).take (k+1)).filter fun i=>mayV c i r)=F at *
   have hF:∀ k,((p.pos::p.edL).take (k+1)).filter (fun i=>mayV c i r)=F k:=fun k=>congrFun hFF k
   rw [←hFe]
   simp only [hF] at *
   cases h0:mayV c p.pos r
   · rw [h0] at hd hF0
     simp only [cond_true,cond_false] at hF0
     repeat' (first|apply ab|apply aj|apply ai|refine ae ?_|refine ac ?_|refine aM ?_|refine aL ?_|refine aG ?_|refine aH ?_|refine bE ?_|refine bC ?_|refine aP fun _=>?_|refine aT fun _=>?_|refine aK ?_|refine aD ?_|apply ay|apply aw|(refine aC (hc:=hfi) (hX:=fun w h=>h.1) ?_)|(refine aC (hc:=hd) (hX:=fun w h=>h.1.2 c hcm) ?_)|fail)
     rename_i b1 b2
     refine be (ι:=HisZ p.edL.length) (fun i=>⟨[(2,.string r),(4,.pointer (some ⟨b1,0,none⟩)),(7,.pointer (some ⟨b2,0,none⟩)),(9,.slice i.A (F i.k).length i.c),(10,.int .i64 (i.k:Nat))],[cel b2 31 c.cells,cel b1 84 [.string p.id,.string p.author,.int .i64 p.pos,.int .i64 p.kind,.int .i64 p.scope,.string p.group,p.to.v,.string p.object,.int .i64 p.time,p.ed.v,.bool false],orow 3 1 (.slice i.A (F i.k).length i.c) (F i.k).length ((F i.k).map intV)],fun w=>Chains w s l∧Ints w p.ed p.edL⟩) (fun i=>p.edL.length-i.k) ⟨0,Nat.zero_le _,none,0⟩ (aF (by simp only [hF0,List.length_nil,List.length_cons];exact ⟨rfl,rfl,rfl,rfl,rfl,trivial⟩) (by simp only [hF0,List.length_nil,List.length_cons,List.map_nil,List.map_cons];exact aQ _) fun _ h=>h) fun i=>?_
     have hik:=i.hk
     obtain ⟨k,hk,A,cp⟩:=i
     simp only at hik ⊢
     by_cases hlt:k<p.edL.length
     · have hp':=hp ag
       obtain ⟨x,hx⟩:∃ x,p.edL[k]?=some x:=⟨_,List.getElem?_eq_getElem hlt⟩
       have hxD:p.edL.getD k 0=x:=by rw [List.getD_eq_getElem?_getD,hx];rfl
       have hfl:=hFl k
       have hst:=hF1 k x hx
       have hdx:=hmay x
       generalize hac:F k=acc at *
       repeat' (first|refine ax (bK true rfl rfl (decide_eq_true ag)) rfl aR rfl ?_|apply ab|apply aj|apply ai|refine ae ?_|refine aM ?_|refine aL ?_|refine bg ?_|refine aE ?_|apply ay|apply aw|fail)
       cases hmx:mayV c x r
       · rw [hmx] at hdx hst
         simp only [cond_false,List.append_nil] at hst
         (refine bo [cel b2 31 c.cells,cel b1 84 [.string p.id,.string p.author,.int .i64 p.pos,.int .i64 p.kind,.int .i64 p.scope,.string p.group,p.to.v,.string p.object,.int .i64 p.time,p.ed.v,.bool false]] (fun w=>Chains w s l∧Ints w p.ed p.edL) ar ?_)
         all_goals refine aa 0 ?_
         all_goals refine aa 1 ?_
         all_goals refine aa 2 ?_
         all_goals refine aa 3 ?_
         all_goals (refine aa 4 (hy:=by (apply bp (q:=k);rfl;rfl;omega;omega;assumption;omega)) ?_)
         all_goals (refine aa 5 (hy:=by (apply cC (q:=k) (u:=.int .i64 x);rfl;exact fun w h=>hxD▸Ints.get h.2 hlt)) ?_)
         all_goals refine aa 6 ?_
         all_goals (refine ao 7 ?_;(refine aC (hc:=hdx) (hX:=fun w h=>h.1.2 c hcm) ?_);apply ab;refine ak ?_)
         all_goals (refine aI ?_)
         all_goals
          repeat' (first|apply ab|apply ai|refine ae ?_|refine ac ?_|refine bm (h:=?_)|refine aD ?_|apply ay|fail)
          exact ⟨(⟨k+1,hlt,A,cp⟩:HisZ p.edL.length),(by show p.edL.length-(k+1)<p.edL.length-k;omega),aF (by simp only [hst];exact ⟨rfl,rfl,rfl,rfl,rfl,trivial⟩) (by simp only [hst];exact aQ _) fun _ h=>h⟩
       · rw [hmx] at hdx hst
         simp only [cond_true] at hst
         (refine bo [cel b2 31 c.cells,cel b1 84 [.string p.id,.string p.author,.int .i64 p.pos,.int .i64 p.kind,.int .i64 p.scope,.string p.group,p.to.v,.string p.object,.int .i64 p.time,p.ed.v,.bool false]] (fun w=>Chains w s l∧Ints w p.ed p.edL) ar ?_)
         all_goals refine aa 0 ?_
         all_goals refine aa 1 ?_
         all_goals refine aa 2 ?_
         all_goals refine aa 3 ?_
         all_goals (refine aa 4 (hy:=by (apply bp (q:=k);rfl;rfl;omega;omega;assumption;omega)) ?_)
         all_goals (refine aa 5 (hy:=by (apply cC (q:=k) (u:=.int .i64 x);rfl;exact fun w h=>hxD▸Ints.get h.2 hlt)) ?_)
         all_goals refine aa 6 ?_
         all_goals (refine ao 7 ?_;(refine aC (hc:=hdx) (hX:=fun w h=>h.1.2 c hcm) ?_);apply ab;refine ak ?_)
         all_goals (refine aI ?_)
         all_goals
          repeat' (first|apply ab|apply ai|refine ae ?_|refine ac ?_|refine aM ?_|refine aL ?_|refine bm (h:=?_)|refine ca fun _=>?_|refine aE ?_|(refine bf (q:=k) ?_)|(refine bU (u:=.int .i64 x) (hF:=fun w h=>hxD▸Ints.get h.2 hlt) ?_)|(refine aS (size:=1) (news:=[intV x]) (q:=1) rfl rfl rfl rfl (fun _=>At.there _ (At.there _ (At.there _ (At.here _)))) (fun w G=>bq G aU rfl rfl 1) ag (by simp only [maxLen];omega) rfl ?_ rfl ?_;(with_reducible rfl);intro A2 c2)|fail)
          exact ⟨(⟨k+1,hlt,A2,c2⟩:HisZ p.edL.length),(by show p.edL.length-(k+1)<p.edL.length-k;omega),aF (by simp only [hst,List.length_append,List.length_cons,List.length_nil,Nat.zero_add];exact ⟨rfl,rfl,rfl,rfl,rfl,trivial⟩) (by simp only [hst,List.length_append,List.length_cons,List.length_nil,Nat.zero_add,List.map_append,List.map_cons,List.map_nil];exact List.Sublist.cons _ (aQ _)) fun _ h=>h⟩
     · have hkE:k=p.edL.length:=by omega
       repeat' (first|refine ax (bK false rfl rfl (decide_eq_false ag)) rfl aR rfl ?_|apply ab|apply aj|apply ai|refine ae ?_|refine ac ?_|refine aM ?_|refine aL ?_|refine bg ?_|refine aD ?_|apply aA|apply aV|fail)
       subst hkE
       exact aq (aB rfl rfl) ⟨⟨A,(F p.edL.length).length,cp⟩,rfl,fun w h=>dN (h.2 (orow 3 1 (.slice A (F p.edL.length).length cp) (F p.edL.length).length ((F p.edL.length).map intV)) (.tail _ (.tail _ (.head _)))) rfl⟩
   · rw [h0] at hd hF0
     simp only [cond_true,cond_false] at hF0
     repeat' (first|apply ab|apply aj|apply ai|refine ae ?_|refine ac ?_|refine aM ?_|refine aL ?_|refine aG ?_|refine aH ?_|refine bE ?_|refine bC ?_|refine aP fun _=>?_|refine aT fun _=>?_|refine ca fun _=>?_|refine aK ?_|refine aE ?_|refine aD ?_|apply ay|apply aw|(refine aC (hc:=hfi) (hX:=fun w h=>h.1) ?_)|(refine aC (hc:=hd) (hX:=fun w h=>h.1.2 c hcm) ?_)|(refine aS (size:=1) (news:=[intV p.pos]) (q:=1) rfl rfl rfl rfl (fun _=>At.there _ (At.there _ (At.there _ (At.here _)))) (fun w G=>bq G aU rfl rfl 1) ag (by simp only [maxLen];omega) rfl ?_ rfl ?_;(with_reducible rfl);intro A2 c2)|fail)
     rename_i b1 b2 _
     refine be (ι:=HisZ p.edL.length) (fun i=>⟨[(2,.string r),(4,.pointer (some ⟨b1,0,none⟩)),(7,.pointer (some ⟨b2,0,none⟩)),(9,.slice i.A (F i.k).length i.c),(10,.int .i64 (i.k:Nat))],[cel b2 31 c.cells,cel b1 84 [.string p.id,.string p.author,.int .i64 p.pos,.int .i64 p.kind,.int .i64 p.scope,.string p.group,p.to.v,.string p.object,.int .i64 p.time,p.ed.v,.bool false],orow 3 1 (.slice i.A (F i.k).length i.c) (F i.k).length ((F i.k).map intV)],fun w=>Chains w s l∧Ints w p.ed p.edL⟩) (fun i=>p.edL.length-i.k) ⟨0,Nat.zero_le _,A2,c2⟩ (aF (by simp only [hF0,List.length_nil,List.length_cons];exact ⟨rfl,rfl,rfl,rfl,rfl,trivial⟩) (by simp only [hF0,List.length_nil,List.length_cons,List.map_nil,List.map_cons];exact List.Sublist.cons _ (aQ _)) fun _ h=>h) fun i=>?_
     have hik:=i.hk
     obtain ⟨k,hk,A,cp⟩:=i
     simp only at hik ⊢
     by_cases hlt:k<p.edL.length
     · have hp':=hp ag
       obtain ⟨x,hx⟩:∃ x,p.edL[k]?=some x:=⟨_,List.getElem?_eq_getElem hlt⟩
       have hxD:p.edL.getD k 0=x:=by rw [List.getD_eq_getElem?_getD,hx];rfl
       have hfl:=hFl k
       have hst:=hF1 k x hx
       have hdx:=hmay x
       generalize hac:F k=acc at *
       repeat' (first|refine ax (bK true rfl rfl (decide_eq_true ag)) rfl aR rfl ?_|apply ab|apply aj|apply ai|refine ae ?_|refine aM ?_|refine aL ?_|refine bg ?_|refine aE ?_|apply ay|apply aw|fail)
       cases hmx:mayV c x r
       · rw [hmx] at hdx hst
         simp only [cond_false,List.append_nil] at hst
         (refine bo [cel b2 31 c.cells,cel b1 84 [.string p.id,.string p.author,.int .i64 p.pos,.int .i64 p.kind,.int .i64 p.scope,.string p.group,p.to.v,.string p.object,.int .i64 p.time,p.ed.v,.bool false]] (fun w=>Chains w s l∧Ints w p.ed p.edL) ar ?_)
         all_goals refine aa 0 ?_
         all_goals refine aa 1 ?_
         all_goals refine aa 2 ?_
         all_goals refine aa 3 ?_
         all_goals (refine aa 4 (hy:=by (apply bp (q:=k);rfl;rfl;omega;omega;assumption;omega)) ?_)
         all_goals (refine aa 5 (hy:=by (apply cC (q:=k) (u:=.int .i64 x);rfl;exact fun w h=>hxD▸Ints.get h.2 hlt)) ?_)
         all_goals refine aa 6 ?_
         all_goals (refine ao 7 ?_;(refine aC (hc:=hdx) (hX:=fun w h=>h.1.2 c hcm) ?_);apply ab;refine ak ?_)
         all_goals (refine aI ?_)
         all_goals
          repeat' (first|apply ab|apply ai|refine ae ?_|refine ac ?_|refine bm (h:=?_)|refine aD ?_|apply ay|fail)
          exact ⟨(⟨k+1,hlt,A,cp⟩:HisZ p.edL.length),(by show p.edL.length-(k+1)<p.edL.length-k;omega),aF (by simp only [hst];exact ⟨rfl,rfl,rfl,rfl,rfl,trivial⟩) (by simp only [hst];exact aQ _) fun _ h=>h⟩
       · rw [hmx] at hdx hst
         simp only [cond_true] at hst
         (refine bo [cel b2 31 c.cells,cel b1 84 [.string p.id,.string p.author,.int .i64 p.pos,.int .i64 p.kind,.int .i64 p.scope,.string p.group,p.to.v,.string p.object,.int .i64 p.time,p.ed.v,.bool false]] (fun w=>Chains w s l∧Ints w p.ed p.edL) ar ?_)
         all_goals refine aa 0 ?_
         all_goals refine aa 1 ?_
         all_goals refine aa 2 ?_
         all_goals refine aa 3 ?_
         all_goals (refine aa 4 (hy:=by (apply bp (q:=k);rfl;rfl;omega;omega;assumption;omega)) ?_)
         all_goals (refine aa 5 (hy:=by (apply cC (q:=k) (u:=.int .i64 x);rfl;exact fun w h=>hxD▸Ints.get h.2 hlt)) ?_)
         all_goals refine aa 6 ?_
         all_goals (refine ao 7 ?_;(refine aC (hc:=hdx) (hX:=fun w h=>h.1.2 c hcm) ?_);apply ab;refine ak ?_)
         all_goals (refine aI ?_)
         all_goals
          repeat' (first|apply ab|apply ai|refine ae ?_|refine ac ?_|refine aM ?_|refine aL ?_|refine bm (h:=?_)|refine ca fun _=>?_|refine aE ?_|(refine bf (q:=k) ?_)|(refine bU (u:=.int .i64 x) (hF:=fun w h=>hxD▸Ints.get h.2 hlt) ?_)|(refine aS (size:=1) (news:=[intV x]) (q:=1) rfl rfl rfl rfl (fun _=>At.there _ (At.there _ (At.there _ (At.here _)))) (fun w G=>bq G aU rfl rfl 1) ag (by simp only [maxLen];omega) rfl ?_ rfl ?_;(with_reducible rfl);intro A2 c2)|fail)
          exact ⟨(⟨k+1,hlt,A2,c2⟩:HisZ p.edL.length),(by show p.edL.length-(k+1)<p.edL.length-k;omega),aF (by simp only [hst,List.length_append,List.length_cons,List.length_nil,Nat.zero_add];exact ⟨rfl,rfl,rfl,rfl,rfl,trivial⟩) (by simp only [hst,List.length_append,List.length_cons,List.length_nil,Nat.zero_add,List.map_append,List.map_cons,List.map_nil];exact List.Sublist.cons _ (aQ _)) fun _ h=>h⟩
     · have hkE:k=p.edL.length:=by omega
       repeat' (first|refine ax (bK false rfl rfl (decide_eq_false ag)) rfl aR rfl ?_|apply ab|apply aj|apply ai|refine ae ?_|refine ac ?_|refine aM ?_|refine aL ?_|refine bg ?_|refine aD ?_|apply aA|apply aV|fail)
       subst hkE
       exact aq (aB rfl rfl) ⟨⟨A,(F p.edL.length).length,cp⟩,rfl,fun w h=>dN (h.2 (orow 3 1 (.slice A (F p.edL.length).length cp) (F p.edL.length).length ((F p.edL.length).map intV)) (.tail _ (.tail _ (.head _)))) rfl⟩
theorem qI (s:SlV) (l:List ChainD) (p:PostZ) (r:ByteArray) (hok:∀ c∈l,ChZ c) (hel:p.edL.length≤1000000) :
  Pu Tryz.prog 36 #[s.v,p.v,.string r] (fun w=>Chains w s l∧Ints w p.ed p.edL) (lastZ l p r):=by
 refine aN (args:=[_,_,_]) _ Tryz.func36 rfl Tryz.ntmps36 rfl fun av bor w0=>?_
 have hh:=gL s l p r hok hel
 rw [lastZ]
 generalize histZ l p r=H at *
 repeat' (first|apply ab|apply aj|apply ai|refine ae ?_|refine ac ?_|refine aG ?_|refine aT fun _=>?_|fail)
 refine bN (hc:=hh) (hX:=fun w h=>h) fun v1 X1 h1=>?_
 obtain ⟨s1,rfl,hs1⟩:=h1
 refine gD (p:=s1.n=H.length∧s1.n≤maxLen∧(0<H.length→s1.p.isSome=true)) (fun w h=>⟨(hs1 w h.2).len_,Nat.le_trans (RowsD.cap (hs1 w h.2)) (RowsD.max (hs1 w h.2)),(hs1 w h.2).some_⟩) fun ⟨hn,hm,hp⟩=>?_
 simp only [maxLen] at hm
 by_cases h0:H.length=0
 · have e:H=[]:=List.length_eq_zero_iff.1 h0
   subst e
   repeat' (first|refine bM (hab:=by omega) ?_|apply ab|apply aj|apply ai|refine ae ?_|refine ac ?_|refine bg ?_|refine aE ?_|apply aA|fail)
   exact aq (cO rfl rfl rfl) rfl
 · have hlt:H.length-1<H.length:=by omega
   have hp':=hp ag
   have e:H.getLast?=some (H.getD (H.length-1) 0):=by
    rw [List.getLast?_eq_getElem?,List.getD_eq_getElem?_getD,List.getElem?_eq_getElem hlt];rfl
   rw [e]
   repeat' (first|refine bQ (hab:=by omega) ?_|apply ab|apply aj|apply ai|refine ae ?_|refine ac ?_|refine bg ?_|refine cJ (h:=?_)|refine aD ?_|apply ay|apply aA|(refine bf (q:=H.length-1) ?_)|(refine bU (u:=.int .i64 (H.getD (H.length-1) 0)) (hF:=fun w h=>Ints.get (hs1 w h.2) hlt) ?_)|fail)
   exact aq (cO rfl rfl rfl) rfl
end Go.Proofs.YtfnjklhjngphmaaGreatDoor
