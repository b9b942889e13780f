/- Joined by program out of: Yb Yd Yc Yg Jg Oa Ob Oc Od Zo Zz Oe Of Og. -/
import Derived.Test.YtcdilibijnboeaaGreatDoorT11
set_option linter.unusedVariables false
set_option linter.unusedSimpArgs false
namespace Go.Proofs.YtcdilibijnboeaaGreatDoor
open Go Go.Proofs Sy
theorem rt (a:KeyD):keyEq a a=true:=by simp [keyEq]
theorem vQ {N:Nat} {av bor:List Nat} {w0:World} {st:St} {ty t2:TypeId} {x y:Operand} {a:KeyD} (hx:ev st.env x=some (.agg a.cells.toArray)) (hy:ev st.env y=some (.agg a.cells.toArray)) :
  Sy.Yields Tryz.prog N av bor w0 st (.binOp .neq 35 x y t2) ty (.bool false):=by
 have h:=oI (N:=N) (av:=av) (bor:=bor) (w0:=w0) (ty:=ty) (t2:=t2) hx hy
 rw [rt] at h
 exact h
structure SameC (a b:ChainD):Prop where
 id:a.id=b.id
 prev:a.prev=b.prev
 gen:a.gen=b.gen
 fork:a.fork=b.fork
 acts:b.actsL.map ActD.can=a.actsL.map ActD.can
set_option maxRecDepth 20000 in
set_option maxHeartbeats 8000000 in
theorem fL (a b:ChainD) (kl:List KeyD) (h:SameC a b) (hr:∀ x∈a.actsL,x.Rng) :
  Pu Tryz.prog 16 #[a.v,b.v] (fun w=>(a.at_ w∧Keyz w a.keys kl)∧b.at_ w∧Keyz w b.keys kl) (.bool true):=by
 obtain ⟨hid,hprev,hgen,hfork,hacts⟩:=h
 have hlen:b.actsL.length=a.actsL.length:=by simpa using congrArg List.length hacts
 refine ay (args:=[_,_]) _ Tryz.func16 rfl Tryz.ntmps16 rfl fun av bor w0=>?_
 refine bJ (p:=((a.acts.n=a.actsL.length∧a.acts.n≤maxLen∧(0<a.actsL.length→a.acts.p.isSome=true))∧a.keys.n=kl.length∧a.keys.n≤maxLen∧(0<kl.length→a.keys.p.isSome=true))∧(b.acts.n=b.actsL.length∧b.acts.n≤maxLen∧(0<b.actsL.length→b.acts.p.isSome=true))∧b.keys.n=kl.length∧b.keys.n≤maxLen∧(0<kl.length→b.keys.p.isSome=true)) (fun w h=>⟨⟨⟨h.1.1.len_,h.1.1.max_,h.1.1.some_⟩,Keyz.know w h.1.2⟩,⟨h.2.1.len_,h.2.1.max_,h.2.1.some_⟩,Keyz.know w h.2.2⟩) fun ⟨⟨⟨n1,m1,p1⟩,n2,m2,p2⟩,⟨n3,m3,p3⟩,n4,m4,p4⟩=>?_
 simp only [maxLen] at m1 m2 m3 m4
 have f1:seqB a.id b.id=true:=by rw [hid];exact cf _
 have f2:seqB a.prev b.prev=true:=by rw [hprev];exact cf _
 have f3:decide (a.fork=b.fork)=true:=ZA hfork
 repeat' (first|refine eP (hab:=by omega) ?_|apply ab|apply Qt|apply Qu|refine aj ?_|refine ad ?_|refine aB ?_|refine aA ?_|refine aG ?_|refine aY ?_|refine aL fun _=>?_|refine Qy ?_|apply Qw|apply Qv|fail)
 rename_i b2 b3
 refine aU (ι:=Kth a.actsL.length) (fun i=>⟨[(2,.pointer (some ⟨b2,0,none⟩)),(3,.pointer (some ⟨b3,0,none⟩)),(5,.int .i64 i.k)],[cel b3 31 b.cells,cel b2 31 a.cells],fun w=>(a.at_ w∧Keyz w a.keys kl)∧b.at_ w∧Keyz w b.keys kl⟩) (fun i=>a.actsL.length-i.k) ⟨0,Nat.zero_le _⟩ (ax ⟨rfl,rfl,rfl,trivial⟩ (aE _) fun _ h=>h) fun i=>?_
 obtain ⟨k,hk⟩:=i
 simp only
 by_cases hlt:k<a.actsL.length
 · have p1':=p1 ae
   have p3':=p3 ae
   obtain ⟨x,hx⟩:∃ x,a.actsL[k]?=some x:=⟨_,Zm hlt⟩
   obtain ⟨y,hy⟩:∃ y,b.actsL[k]?=some y:=⟨_,Zm ae⟩
   have hxm:=List.mem_of_getElem? hx
   have hym:=List.mem_of_getElem? hy
   have hxy:y.can=x.can:=by
    have:=congrArg (fun l=>l[k]?) hacts
    simpa [hx,hy] using this
   have hsa:=uH x y hxy (hr x hxm)
   repeat' (first|refine am (bM true rfl rfl (ZA ae)) rfl aC rfl ?_|apply ab|apply Qt|apply Qu|refine aj ?_|refine aB ?_|refine aA ?_|refine aY ?_|refine Qx ?_|apply Qw|apply Qv|fail)
   (refine aS [cel b3 31 b.cells,cel b2 31 a.cells] (fun w=>(a.at_ w∧Keyz w a.keys kl)∧b.at_ w∧Keyz w b.keys kl) ak ?_)
   all_goals refine aa 0 ?_<;>refine aa 1 ?_<;>refine aa 2 ?_<;>(refine aa 3 (hy:=by (apply aN (q:=k*20);rfl;rfl;omega;omega;assumption;omega)) ?_)<;>(refine aa 4 (hy:=by (apply cX (cs:=x.cells);rfl;exact (fun w h=>Acts.get h.1.1 hx))) ?_)<;>refine aa 5 ?_<;>refine aa 6 ?_<;>refine aa 7 ?_<;>(refine aa 8 (hy:=by (apply aN (q:=k*20);rfl;rfl;omega;omega;assumption;omega)) ?_)<;>(refine aa 9 (hy:=by (apply cX (cs:=y.cells);rfl;exact (fun w h=>Acts.get h.2.1 hy))) ?_)<;>(refine ag 10 ?_;(refine ao (hc:=hsa) (hX:=fun w h=>⟨h.1.1.2 x hxm,h.2.1.2 y hym⟩) ?_);apply ab;refine ai ?_)<;>refine aa 11 ?_<;>(refine aw ?_)
   all_goals
    repeat' (first|apply ab|apply Qt|apply Qu|refine aj ?_|refine ad ?_|refine bD ?_|refine be (h:=?_)|refine Qy ?_|apply Qw|fail)
    exact ⟨(⟨k+1,hlt⟩:Kth a.actsL.length),(by show a.actsL.length-(k+1)<a.actsL.length-k;omega),ax ⟨rfl,rfl,rfl,trivial⟩ (aE _) fun _ h=>h⟩
 · repeat' (first|refine am (bM false rfl rfl (Zn ae)) rfl aC rfl ?_|apply ab|apply Qt|apply Qu|refine aj ?_|refine ad ?_|refine aB ?_|refine aA ?_|refine aY ?_|refine Qy ?_|apply Qv|apply aQ|fail)
   refine aU (ι:=Kth kl.length) (fun i=>⟨[(2,.pointer (some ⟨b2,0,none⟩)),(3,.pointer (some ⟨b3,0,none⟩)),(7,.int .i64 i.k)],[cel b3 31 b.cells,cel b2 31 a.cells],fun w=>(a.at_ w∧Keyz w a.keys kl)∧b.at_ w∧Keyz w b.keys kl⟩) (fun i=>kl.length-i.k) ⟨0,Nat.zero_le _⟩ (ax ⟨rfl,rfl,rfl,trivial⟩ (aE _) fun _ h=>h) fun i=>?_
   obtain ⟨k,hk⟩:=i
   simp only
   by_cases hlt:k<kl.length
   · have p2':=p2 ae
     have p4':=p4 ae
     obtain ⟨x,hx⟩:∃ x,kl[k]?=some x:=⟨_,Zm hlt⟩
     repeat' (first|refine am (bM true rfl rfl (ZA ae)) rfl aC rfl ?_|apply ab|apply Qt|apply Qu|refine aj ?_|refine aB ?_|refine aA ?_|refine aY ?_|refine Qx ?_|apply Qw|apply Qv|fail)
     (refine aS [cel b3 31 b.cells,cel b2 31 a.cells] (fun w=>(a.at_ w∧Keyz w a.keys kl)∧b.at_ w∧Keyz w b.keys kl) ak ?_)
     all_goals refine aa 0 ?_<;>refine aa 1 ?_<;>refine aa 2 ?_<;>(refine aa 3 (hy:=by (apply aN (q:=k*3);rfl;rfl;omega;omega;assumption;omega)) ?_)<;>(refine aa 4 (hy:=by (apply cX (cs:=x.cells);rfl;exact fun w h=>Keyz.get h.1.2 hx)) ?_)<;>refine aa 5 ?_<;>refine aa 6 ?_<;>refine aa 7 ?_<;>(refine aa 8 (hy:=by (apply aN (q:=k*3);rfl;rfl;omega;omega;assumption;omega)) ?_)<;>(refine aa 9 (hy:=by (apply cX (cs:=x.cells);rfl;exact fun w h=>Keyz.get h.2.2 hx)) ?_)<;>(refine aa 10 (hy:=by (apply vQ (a:=x);rfl;rfl)) ?_)<;>(refine aw ?_)
     all_goals
      repeat' (first|apply ab|apply Qu|refine aj ?_|refine ad ?_|refine be (h:=?_)|refine Qy ?_|apply Qw|fail)
      exact ⟨(⟨k+1,hlt⟩:Kth kl.length),(by show kl.length-(k+1)<kl.length-k;omega),ax ⟨rfl,rfl,rfl,trivial⟩ (aE _) fun _ h=>h⟩
   · repeat' (first|refine am (bM false rfl rfl (Zn ae)) rfl aC rfl ?_|refine am (dw true rfl rfl (by assumption)) rfl aC rfl ?_|refine bm (hab:=by assumption) ?_|apply ab|apply Qt|apply Qu|refine aj ?_|refine ad ?_|refine aB ?_|refine aA ?_|refine aD ?_|refine aY ?_|refine Qy ?_|apply ar|apply aQ|refine zF ?_|fail)
     all_goals first
      | exact al (ap rfl rfl) (by show Value.bool (a.fork==b.fork)=_;rw [hfork,ZW])
theorem yI (l:List ByteArray):(compB l).length≤l.length:=by
 rw [compB,Z3]
 exact Qp (Lib.compact_length_le _) (by rw [Z3];exact Qo _)
def authI (I:List ItemD):List ByteArray:=(I.filter fun i=>decide (i.kind=0)).map fun i=>i.act.author
theorem rO (I:List ItemD) {k:Nat} {x:ItemD} (h:I[k]?=some x):authI (I.take (k+1))=authI (I.take k)++(bif decide (x.kind=0) then [x.act.author] else []):=by
 rw [authI,authI,List.take_add_one,h,Option.toList_some,List.filter_append,Qm]
 congr 1
 cases hb:decide (x.kind=0) with
 | true=>simp [hb]
 | false=>simp [hb]
theorem jD (I:List ItemD):(authI I).length≤I.length:=by rw [authI,Z3];exact List.length_filter_le _ _
inductive All2 {α β:Type} (R:α→β→Prop):List α→List β→Prop
 | nil:All2 R [] []
 | cons {a:α} {b:β} {l:List α} {m:List β}:R a b→All2 R l m→All2 R (a::l) (b::m)
theorem All2.snoc {α β:Type} {R:α→β→Prop} {l:List α} {m:List β} (h:All2 R l m) {a:α} {b:β} (r:R a b):All2 R (l++[a]) (m++[b]):=by
 induction h with
 | nil=>exact .cons r .nil
 | cons h1 _ ih=>exact .cons h1 ih
theorem All2.len {α β:Type} {R:α→β→Prop} {l:List α} {m:List β} (h:All2 R l m):l.length=m.length:=by
 induction h with
 | nil=>rfl
 | cons _ _ ih=>rw [ZY,ZY,ih]
theorem All2.right {α β:Type} {R:α→β→Prop} {l:List α} {m:List β} (h:All2 R l m):∀ b∈m,∃ a∈l,R a b:=by
 induction h with
 | nil=>exact fun b hb=>absurd hb (by simp)
 | cons h1 _ ih =>
  intro b hb
  rcases List.mem_cons.1 hb with rfl|hb
  · exact ⟨_,aI,h1⟩
  · obtain ⟨a,ha,r⟩:=ih b hb
    exact ⟨a,ZS _ ha,r⟩
abbrev ChK:=ChainD×List KeyD
def neK (p:ChK):Bool:=decide (0<p.1.actsL.length)
def OfQ (Q:ByteArray→ChainD→List KeyD→Prop) (au:ByteArray) (u:Value) (X:World→Prop):Prop:=∃ (c:ChainD) (kl:List KeyD),Q au c kl∧u=c.v∧∀ w,X w→c.at_ w∧Keyz w c.keys kl
def AllAt (Q:ByteArray→ChainD→List KeyD→Prop) (ids:List ByteArray) (u:Value) (X:World→Prop):Prop :=
 ∃ (s:SlV) (M:List ChK),All2 (fun id p=>Q id p.1 p.2) ids M∧u=s.v∧∀ w,X w→Chains w s ((M.filter neK).map Prod.fst)∧∀ p∈M,Keyz w p.1.keys p.2
structure IdsI (I:List ItemD) where
 k:Nat
 hk:k≤I.length
 A:Option Addr
 c:Nat
 n:Nat
 hn:n=(authI (I.take k)).length
 xs:List Value
 hxs:xs=(authI (I.take k)).map encB
structure ChsI (Q:ByteArray→ChainD→List KeyD→Prop) (ids:List ByteArray) where
 k:Nat
 hk:k≤ids.length
 M:List ChK
 hM:All2 (fun id p=>Q id p.1 p.2) (ids.take k) M
 A:Option Addr
 c:Nat
 n:Nat
 hn:n=(M.filter neK).length
 xs:List Value
 hxs:xs=(((M.filter neK).map Prod.fst).map ChainD.cells).flatten
set_option maxHeartbeats 8000000 in
theorem mc (Q:ByteArray→ChainD→List KeyD→Prop) (ks ki:SlV) (L:List Int) (I:List ItemD) (hI:I.length≤1000)
  (hof:∀ au,Mk Tryz.prog 9 #[.agg #[ks.v,ki.v],.string au] (fun w=>(Ints w ks L∧Items w ki I)∧Glob w) (OfQ Q au)) :
  Mk Tryz.prog 19 #[.agg #[ks.v,ki.v]] (fun w=>(Ints w ks L∧Items w ki I)∧Glob w) (AllAt Q (compB (sortB (authI I)))):=by
 refine cq (args:=[_]) _ Tryz.func19 rfl Tryz.ntmps19 rfl fun av bor w0=>?_
 refine bJ (p:=ki.n=I.length∧ki.n≤maxLen∧(0<I.length→ki.p.isSome=true)) (fun w h=>⟨h.1.2.len_,h.1.2.max_,h.1.2.some_⟩) fun ⟨hin,him,hip⟩=>?_
 simp only [maxLen] at him
 refine cW 9 1 ?_
 refine cW 31 6 ?_
 repeat' (first|apply ab|apply Qt|apply Qu|refine aj ?_|refine ad ?_|refine aB ?_|refine aA ?_|refine aY ?_|refine aL fun _=>?_|apply Qv|fail)
 rename_i b1
 refine aU (ι:=IdsI I) (fun i=>⟨[(1,.pointer (some ⟨b1,0,none⟩)),(3,.slice i.A i.n i.c),(11,ki.v),(12,.int .i64 (ki.n:Nat)),(13,.int .i64 (i.k:Nat))],
  [cel b1 25 [ks.v,ki.v],orow 31 6 (.slice none 0 0) 0 [],orow 9 1 (.slice i.A i.n i.c) i.n i.xs],fun w=>(Ints w ks L∧Items w ki I)∧Glob w⟩) (fun i=>I.length-i.k) ⟨0,Nat.zero_le _,none,0,0,rfl,[],rfl⟩ (ax ⟨rfl,rfl,rfl,rfl,rfl,trivial⟩ (aE _) fun _ h=>h) fun i=>?_
 obtain ⟨k,hk,A,cp,n,hn,xs,hxs⟩:=i
 simp only
 by_cases hlt:k<I.length
 · have hip':=hip ae
   obtain ⟨x,hx⟩:∃ x,I[k]?=some x:=⟨_,Zm hlt⟩
   have hs:=rO I hx
   have hnb:n≤1000:=by have h1:=jD (I.take k);rw [List.length_take] at h1;omega
   by_cases h0:x.kind=0
   · rw [ZA h0,ZC] at hs
     repeat' (first|refine am (bM true rfl rfl (ZA ae)) rfl aC rfl ?_|refine bm (hab:=h0) ?_|apply ab|apply Qt|apply Qu|refine aj ?_|refine ad ?_|refine aB ?_|refine aA ?_|refine be (h:=?_)|refine aM fun _=>?_|refine bS fun _=>?_|refine aK ?_|refine Qx ?_|apply Qw|apply Qv|(refine bx (q:=k*49) ?_)|(refine cr (cs:=x.cells) (hF:=fun w h=>Items.get h.1.2 hx) ?_)|(refine aV (size:=1) (z:=.string ⟨#[]⟩) (news:=[encB x.act.author]) (q:=1) rfl rfl rfl rfl (fun _=>At.there _ (At.there _ (At.there _ (At.there _ (At.here _))))) (fun w G=>bo G aI rfl rfl 1) ae (by simp only [maxLen];omega) rfl ?_ rfl ?_;(with_reducible rfl);intro A2 c2)|fail)
     exact ⟨(⟨k+1,hlt,A2,c2,n+1,by rw [hs,ZX,←hn];rfl,xs++[encB x.act.author],by rw [hs,Qm,←hxs];rfl⟩:IdsI I),(by show I.length-(k+1)<I.length-k;omega),ax ⟨rfl,rfl,rfl,rfl,rfl,trivial⟩ (.cons _ (.cons _ (aE _))) fun _ h=>h⟩
   · rw [Zn h0,ZB,Z8] at hs
     repeat' (first|refine am (bM true rfl rfl (ZA ae)) rfl aC rfl ?_|refine bt (hab:=h0) ?_|apply ab|apply Qt|apply Qu|refine aj ?_|refine aB ?_|refine aA ?_|refine be (h:=?_)|refine aM fun _=>?_|refine aK ?_|refine Qx ?_|refine Qy ?_|apply Qw|apply Qv|(refine bx (q:=k*49) ?_)|(refine cr (cs:=x.cells) (hF:=fun w h=>Items.get h.1.2 hx) ?_)|fail)
     exact ⟨(⟨k+1,hlt,A,cp,n,by rw [hs];exact hn,xs,by rw [hs];exact hxs⟩:IdsI I),(by show I.length-(k+1)<I.length-k;omega),ax ⟨rfl,rfl,rfl,rfl,rfl,trivial⟩ (.cons _ (aE _)) fun _ h=>h⟩
 have hkE:k=I.length:=by omega
 rw [hkE,List.take_length] at hn hxs
 subst hxs
 have hnb:n≤1000000000:=by have h1:=jD I;omega
 repeat' (first|refine am (bM false rfl rfl (Zn ae)) rfl aC rfl ?_|apply ab|apply Qt|apply Qu|refine aj ?_|refine ad ?_|refine aY ?_|refine Qy ?_|apply Qv|apply aQ|(refine nE (hc:=xq hnb) (hX:=fun _ _=>trivial) ?_)|(refine sG (hc:=yJ) (hX:=fun _ _=>trivial) ?_;rintro _ _ X2 ⟨A3,c3,rfl,rfl⟩;refine co ?_)|fail)
 have hB:(compB (sortB (authI I))).length≤1000:=by
  have h1:=yI (sortB (authI I))
  have h2:=uz (authI I)
  have h3:=jD I
  omega
 generalize hids:compB (sortB (authI I))=ids at *
 clear hids hlt hk hnb hn
 refine aU (ι:=ChsI Q ids) (fun i=>⟨[(1,.pointer (some ⟨b1,0,none⟩)),(6,.slice i.A i.n i.c),(30,.slice A3 ids.length c3),(31,.int .i64 (ids.length:Nat)),(32,.int .i64 (i.k:Nat))],
  [cel b1 25 [ks.v,ki.v],orow 31 6 (.slice i.A i.n i.c) i.n i.xs],fun w=>(((Ints w ks L∧Items w ki I)∧Glob w)∧Strs w ⟨A3,ids.length,c3⟩ ids)∧∀ p∈i.M,p.1.at_ w∧Keyz w p.1.keys p.2⟩) (fun i=>ids.length-i.k) ⟨0,Nat.zero_le _,[],.nil,none,0,0,rfl,[],rfl⟩ ?_ fun i=>?_
 · exact ax ⟨rfl,rfl,rfl,rfl,rfl,trivial⟩ (.cons_cons _ (.cons_cons _ (ZR _))) fun w h=>⟨⟨h.1.1,nJ h.2 rfl⟩,fun p hp=>absurd hp (by simp)⟩
 obtain ⟨k,hk,M,hM,A4,c4,n4,hn4,xs,hxs⟩:=i
 simp only
 have hMl:M.length=k:=by have:=hM.len;rw [List.length_take] at this;omega
 have hn4b:n4≤1000:=by have:=List.length_filter_le neK M;omega
 by_cases hlt:k<ids.length
 · refine bJ (p:=A3.isSome=true) (fun w h=>h.1.2.some_ ae) fun hA3=>?_
   have hget:ids[k]?=some (ids.getD k .empty):=by rw [ZL,Zm hlt];rfl
   have hlt':=hlt
   generalize hxe:ids.getD k .empty=x at *
   repeat' (first|refine am (bM true rfl rfl (ZA ae)) rfl aC rfl ?_|apply ab|apply Qt|apply Qu|refine aj ?_|refine ad ?_|refine aB ?_|refine aA ?_|refine aF ?_|refine cG ?_|refine aY ?_|refine be (h:=?_)|refine aM fun _=>?_|refine aK ?_|refine Qx ?_|apply Qw|apply Qv|(refine bx (q:=k) ?_)|(refine dP (u:=.string x) (hF:=fun w h=>hxe▸Strs.get h.1.2 hlt') ?_)|(refine cR (hc:=hof x) (hX:=fun w h=>h.1.1) fun v X5 h5=>?_;obtain ⟨c,kl,hQ,rfl,hw5⟩:=h5;refine iy (p:=c.acts.n=c.actsL.length) (fun w h=>(hw5 w h.2).1.len_) fun hcn=>?_)|(refine bH (size:=6) (vs:=[c.v]) (css:=c.cells) (hsz:=by rfl) (hcs:=by rfl) fun _=>?_)|(refine aV (size:=6) (news:=c.cells) (q:=1) rfl rfl rfl rfl (fun _=>At.there _ (At.there _ (At.there _ (At.here _)))) (fun w G=>bo G aI rfl rfl 1) ae (by simp only [maxLen];omega) rfl ?_ rfl ?_;(with_reducible rfl);intro A2 c2)|(refine aH (ht:=?_) (hf:=?_);all_goals (intro hx_;first|have:=aP hx_|have:=aT hx_)))
   all_goals
    have hM2:All2 (fun id p=>Q id p.1 p.2) (ids.take (k+1)) (M++[(c,kl)]):=by
     rw [List.take_add_one,hget]
     exact hM.snoc hQ
    have hX2:∀ w,((((((Ints w ks L∧Items w ki I)∧Glob w)∧Strs w ⟨A3,ids.length,c3⟩ ids)∧∀ p∈M,p.1.at_ w∧Keyz w p.1.keys p.2)∧X5 w))→(((Ints w ks L∧Items w ki I)∧Glob w)∧Strs w ⟨A3,ids.length,c3⟩ ids)∧∀ p∈M++[(c,kl)],p.1.at_ w∧Keyz w p.1.keys p.2:=fun w h=>⟨h.1.1,fun p hp=>by
     rcases List.mem_append.1 hp with hp|hp
     · exact h.1.2 p hp
     · rw [List.mem_singleton.1 hp];exact hw5 w h.2⟩
   · have hf:(M++[(c,kl)]).filter neK=M.filter neK++[(c,kl)]:=by
      rw [List.filter_append]
      have:neK (c,kl)=true:=ZA (by show 0<c.actsL.length;omega)
      simp [this]
     exact ⟨(⟨k+1,hlt,M++[(c,kl)],hM2,A2,c2,n4+1,by rw [hf,ZX,←hn4];rfl,xs++c.cells,by rw [hf,hxs];simp⟩:ChsI Q ids),(by show ids.length-(k+1)<ids.length-k;omega),ax ⟨rfl,rfl,rfl,rfl,rfl,trivial⟩ (.cons _ (.cons _ (aE _))) hX2⟩
   · have hf:(M++[(c,kl)]).filter neK=M.filter neK:=by
      rw [List.filter_append]
      have:neK (c,kl)=false:=Zn (by show ¬ 0<c.actsL.length;omega)
      simp [this]
     exact ⟨(⟨k+1,hlt,M++[(c,kl)],hM2,A4,c4,n4,by rw [hf];exact hn4,xs,by rw [hf];exact hxs⟩:ChsI Q ids),(by show ids.length-(k+1)<ids.length-k;omega),ax ⟨rfl,rfl,rfl,rfl,rfl,trivial⟩ (.cons _ (aE _)) hX2⟩
 · have hkE:k=ids.length:=by omega
   rw [hkE,List.take_length] at hM
   subst hxs
   repeat' (first|refine am (bM false rfl rfl (Zn ae)) rfl aC rfl ?_|apply ab|apply Qt|apply Qu|refine aj ?_|refine ad ?_|refine Qy ?_|apply ar|apply aQ|fail)
   refine al (ap rfl rfl) ⟨⟨A4,n4,c4⟩,M,hM,rfl,fun w h=>⟨⟨?_,fun c hc=>?_⟩,fun p hp=>(h.1.2 p hp).2⟩⟩
   · exact cb (xs:=((M.filter neK).map Prod.fst).map ChainD.cells) (h.2 _ (.tail _ (.head _))) (by rw [Z3,Z3];exact hn4) fun r hr=>by
      obtain ⟨z,_,rfl⟩:=List.mem_map.1 hr
      rfl
   · obtain ⟨p,hp,rfl⟩:=List.mem_map.1 hc
     exact (h.1.2 p (List.mem_filter.1 hp).1).1
theorem Items.keep {w w':World} {s:SlV} {l:List ItemD} (h:Items w s l) (hs:∀ k,k<w.heap.size→w'.heap[k]?=w.heap[k]?):Items w' s l :=
 ⟨RowsD.keep h.1 hs,fun i hi=>⟨⟨RowsD.keep (h.2 i hi).1.1 hs,RowsD.keep (h.2 i hi).1.2 hs⟩,RowsD.keep (h.2 i hi).2 hs⟩⟩
theorem tB {α:Type} {f:α→ByteArray} {I:List α} (h:Asc (I.map f)) {x y:α} (hx:x∈I) (hy:y∈I) (e:f x=f y):x=y:=by
 obtain ⟨p,hp⟩:=List.mem_iff_getElem?.1 hx
 obtain ⟨q,hq⟩:=List.mem_iff_getElem?.1 hy
 have key:∀ {a b:Nat} {u v:α},I[a]?=some u→I[b]?=some v→f u=f v→¬ a<b:=fun {a b u v} h1 h2 e hab=>by
  have:=ja h hab (x:=f u) (y:=f v) (by rw [List.getElem?_map,h1];rfl) (by rw [List.getElem?_map,h2];rfl)
  rw [e,fo] at this
  cases this
 rcases Nat.lt_trichotomy p q with h1|rfl|h1
 · exact absurd h1 (key hp hq e)
 · exact Option.some.inj (hp.symm.trans hq)
 · exact absurd h1 (key hq hp e.symm)
theorem iz {I:List ItemD} {au:ByteArray} {a:ActD} (h:a∈selA au rightIt I):∃ i∈I,i.act=a∧i.kind=0∧rightIt i=true∧digIt i=digV a∧a.author=au:=by
 rw [selA] at h
 obtain ⟨i,hi,rfl⟩:=List.mem_map.1 h
 obtain ⟨h1,h2⟩:=List.mem_filter.1 hi
 rw [selB,ZM,wantA,ZM,ZT,seqB_iff] at h2
 exact ⟨i,h1,rfl,h2.1.1,h2.2,vw h2.1.1 h2.2,h2.1.2⟩
theorem A8 {L:List Int} {I:List ItemD} (h:KnR L I) {au au':ByteArray} {a b:ActD} (ha:a∈selA au rightIt I) (hb:b∈selA au' rightIt I) (e:digV a=digV b):a=b:=by
 obtain ⟨i,hi,rfl,_,_,e1,_⟩:=iz ha
 obtain ⟨j,hj,rfl,_,_,e2,_⟩:=iz hb
 rw [tB h.asc hi hj (by rw [e1,e2,e])]
theorem yn {l:List ActD} (hd:∀ a∈l,∀ b∈l,digV a=digV b→a=b) (hs:∀ (i:Nat) (x:ActD),l[i]?=some x→x.seq=(i:Int)) {n:Nat} {x:ActD} (hx:l[n]?=some x):idxV l (digV x)=some n:=by
 obtain ⟨hn,e⟩:=List.getElem?_eq_some_iff.1 hx
 rw [idxV,List.findIdx?_eq_some_iff_getElem]
 refine ⟨hn,by rw [e];exact cf _,fun j hj hc=>?_⟩
 have h1:=seqB_iff.1 hc
 have h2:=hd _ (Qg ae) x (List.mem_of_getElem? hx) h1
 have h3:=hs j _ (Zm ae)
 have h4:=hs n x hx
 rw [h2] at h3
 omega
theorem sX {P:Program} {f:FuncId} {args:Array Value} {X:World→Prop} {Φ Ψ:Value→(World→Prop)→Prop} (h:Mk P f args X Φ) (hi:∀ u X',Φ u X'→Ψ u X'):Mk P f args X Ψ:=by
 unfold Mk at *
 exact h.mono fun u R X' h1=>⟨hi u X' h1.1,h1.2⟩
def QK (L:List Int) (I:List ItemD) (au:ByteArray) (c:ChainD) (kl:List KeyD):Prop :=
 ∃ (A:List ActD) (sa sk:SlV) (st:ChS) (fork:Bool),A.Perm (selA au rightIt I)∧OfRes ((OfWK L.length I au).at A) st fork∧c=⟨au,sa,sk,st.prev,(st.gen:Nat),fork,st.acts⟩∧kl=st.keys
theorem fw (ks ki:SlV) {L:List Int} {I:List ItemD} (h:KnR L I) (au:ByteArray) :
  Mk Tryz.prog 9 #[.agg #[ks.v,ki.v],.string au] (fun w=>(Ints w ks L∧Items w ki I)∧Glob w) (OfQ (QK L I) au) :=
 sX (Cb uA ks ki h au) fun u X ⟨A,sa,sk,st,fork,h1,h2,h3,h4⟩=>⟨⟨au,sa,sk,st.prev,(st.gen:Nat),fork,st.acts⟩,st.keys,⟨A,sa,sk,st,fork,h1,h2,rfl,rfl⟩,h3,h4⟩
structure ChGood (c:ChainD) (kl:List KeyD):Prop where
 ok:ActsOk c.actsL
 len:c.actsL.length≤100
 klen:kl.length≤1000
 seq:∀ (i:Nat) (x:ActD),c.actsL[i]?=some x→x.seq=(i:Int)
 fit:∀ (n:Nat) (x:ActD),1≤n→c.actsL[n]?=some x→∀ d:ChainD,d.id=c.id→d.acts.n=n→d.prev=x.prev→d.actsL=c.actsL.take n→fitsV d x (idxV d.actsL x.object)=true
 key0:0<c.actsL.length→∃ k r,kl=k::r∧k.from_=0
 own:∀ (n:Nat) (x:ActD),c.actsL[n]?=some x→idxV c.actsL (digV x)=some n
theorem AY {W:OfW} (hB:∀ g c,W.won g=some c→g<W.B) {a:ActD} (ha:a∈firstL W):InvS W (finS W a) :=
 nP (P:=InvS W) (fun st s h hs=>(oV hB h hs).1) _ _ (tz ha).1
theorem xu (au:ByteArray) (I:List ItemD):(selA au rightIt I).length≤I.length:=by rw [selA,Z3];exact List.length_filter_le _ _
theorem tj {L:List Int} {I:List ItemD} (h:KnR L I) {au:ByteArray} {c:ChainD} {kl:List KeyD} (q:QK L I au c kl):ChGood c kl:=by
 obtain ⟨A,sa,sk,st,fork,hA,hR,rfl,rfl⟩:=q
 have hAl:A.length≤100:=by have h1:=hA.length_eq;have h2:=xu au I;have h3:=h.len;omega
 have hAm:∀ a∈A,a∈selA au rightIt I:=fun a ha=>hA.subset ha
 rw [OfRes] at hR
 cases ho:oneA (firstL ((OfWK L.length I au).at A)) with
 | none =>
  rw [ho] at hR
  obtain ⟨rfl,rfl⟩:=hR
  exact ⟨⟨fun a ha=>absurd ha (by simp),fun a ha=>absurd ha (by simp)⟩,by simp,by simp,fun i x hx=>by simp at hx,fun n x _ hx=>by simp at hx,fun hl=>by simp at hl,fun n x hx=>by simp at hx⟩
 | some a =>
  rw [ho] at hR
  obtain ⟨rfl,rfl⟩:=hR
  have ha:a∈firstL ((OfWK L.length I au).at A):=by rw [jr ho];exact List.mem_singleton.2 rfl
  have hF:=AZ ha
  have hB:∀ g c,((OfWK L.length I au).at A).won g=some c→g<((OfWK L.length I au).at A).B:=fun g c hw=>(ik hw).1
  have hI:=AY hB ha
  have hg:=oq L.length I au
  have hcl:(claimsV I au).length≤I.length:=by rw [claimsV,selC,Z3];exact List.length_filter_le _ _
  have hIl:=h.len
  have h1:=hI.len
  have h2:=hI.keyn
  have h3:(finS ((OfWK L.length I au).at A) a).gen≤genB L.length I au:=hI.gen
  have h4:(finS ((OfWK L.length I au).at A) a).acts.length≤A.length:=h1
  have hmem:∀ x∈(finS ((OfWK L.length I au).at A) a).acts,x∈selA au rightIt I:=fun x hx=>hAm x (hF.mem x hx)
  refine ⟨⟨fun x hx=>?_,fun x hx=>?_⟩,by show (finS ((OfWK L.length I au).at A) a).acts.length≤100;omega,by omega,hF.seq,fun n x hn hx d e1 e2 e3 e4=>?_,fun _=>hF.key0,fun n x hx=>?_⟩
  · obtain ⟨i,hi,rfl,_⟩:=iz (hmem x hx)
    exact h.rng i hi
  · obtain ⟨i,hi,rfl,_⟩:=iz (hmem x hx)
    exact h.sm i hi
  · have h5:=hF.fit n x hx hn
    rw [e4]
    rw [←h5]
    refine m7 e1 ?_ e3 e4
    rw [e2]
    show n=((finS ((OfWK L.length I au).at A) a).acts.take n).length
    rw [List.length_take]
    obtain ⟨hlt,_⟩:=List.getElem?_eq_some_iff.1 hx
    change n<(finS ((OfWK L.length I au).at A) a).acts.length at hlt
    omega
  · exact yn (fun x hx y hy e=>A8 h (hmem x hx) (hmem y hy) e) hF.seq hx
theorem td:KnR [] []:=⟨by simp,by simp,fun i hi=>absurd hi (by simp),fun i hi=>absurd hi (by simp),fun i hi=>absurd hi (by simp),fun i hi=>absurd hi (by simp),List.Pairwise.nil⟩
theorem B8 {au:ByteArray} {c:ChainD} {kl:List KeyD} (q:QK [] [] au c kl):c.actsL=[]∧kl=[]∧c.prev=⟨#[]⟩∧c.gen=0∧c.fork=false∧c.id=au:=by
 obtain ⟨A,sa,sk,st,fork,hA,hR,rfl,rfl⟩:=q
 obtain rfl:A=[]:=List.Perm.eq_nil hA
 obtain ⟨rfl,rfl⟩:st=⟨[],[],⟨#[]⟩,0⟩∧fork=false:=hR
 exact ⟨rfl,rfl,rfl,rfl,rfl,rfl⟩
theorem mT {l m:List ActD} (h:l.Perm m):oneA l=oneA m:=by
 have hl:=h.length_eq
 match l,m,h,hl with
 | [],m,h,_=>rw [List.Perm.nil_eq h]
 | [a],m,h,_=>rw [List.singleton_perm.1 h]
 | a::b::r,[],h,hl=>cases hl
 | a::b::r,[c],h,hl=>cases hl
 | a::b::r,c::d::s,h,_=>rfl
theorem lZ (W:OfW) {A B:List ActD} (h:A.Perm B) (st:ChS):(candL (W.at A) st).Perm (candL (W.at B) st):=(h.filter _).filter _
theorem qN (W:OfW) {A B:List ActD} (h:A.Perm B) (st:ChS):stepS (W.at A) st=stepS (W.at B) st:=by
 have h1:regS (W.at A) st=regS (W.at B) st:=rfl
 rw [stepS,stepS,h1,mT (lZ W h st)]
theorem mO (W:OfW) {A B:List ActD} (h:A.Perm B):∀ n st,runS (W.at A) n st=runS (W.at B) n st
 | 0,st=>rfl
 | n+1,st=>by
  rw [runS,runS,qN W h st]
  cases stepS (W.at B) st with
  | none=>rfl
  | some s=>exact mO W h n s
theorem jV (W:OfW) {A B:List ActD} (h:A.Perm B):(firstL (W.at A)).Perm (firstL (W.at B)):=(h.filter _).filter _
theorem vq (W:OfW) {A B:List ActD} (h:A.Perm B) (a:ActD):finS (W.at A) a=finS (W.at B) a:=by
 rw [finS,finS,show (W.at A).L.length=(W.at B).L.length from h.length_eq]
 exact mO W h _ _
theorem rs (W:OfW) {A B:List ActD} (h:A.Perm B) {st:ChS} {fork:Bool} (r:OfRes (W.at A) st fork):OfRes (W.at B) st fork:=by
 rw [OfRes] at r ⊢
 rw [←mT (jV W h)]
 cases ho:oneA (firstL (W.at A)) with
 | none =>
  rw [ho] at r
  exact ⟨r.1,by rw [r.2,(jV W h).length_eq]⟩
 | some a =>
  rw [ho] at r
  simp only at r ⊢
  rw [←vq W h a,←(lZ W h _).length_eq]
  exact r
theorem vb {W:OfW} {st st':ChS} {f f':Bool} (r:OfRes W st f) (r':OfRes W st' f'):st=st'∧f=f':=by
 rw [OfRes] at r r'
 cases ho:oneA (firstL W) with
 | none =>
  rw [ho] at r r'
  exact ⟨r.1.trans r'.1.symm,r.2.trans r'.2.symm⟩
 | some a =>
  rw [ho] at r r'
  exact ⟨r.1.trans r'.1.symm,r.2.trans r'.2.symm⟩
structure DistS (W:OfW):Prop where
 ac:∀ x∈W.L,∀ g c,W.won g=some c→digV x≠W.dgC c
 cc:∀ g g' c c',W.won g=some c→W.won g'=some c'→W.dgC c=W.dgC c'→g=g'
structure KeyS (s:ChS):Prop where
 len:s.keys.length=1+movN s.acts+s.gen
 le:∀ k∈s.keys,k.from_≤(s.acts.length:Int)
def gtB (a b:ByteArray):Bool:=!(Op.bytesLess a.toList b.toList||seqB a b)
def addAt (dI:ItemD→ByteArray) (d:ByteArray) (I:List ItemD) (k:Nat):Nat:=((I.take k).findIdx? fun x=>gtB (dI x) d).getD I.length
def addV (dI:ItemD→ByteArray) (it:ItemD) (I:List ItemD):List ItemD:=I.take (addAt dI (dI it) I I.length)++it::I.drop (addAt dI (dI it) I I.length)
theorem yR (dI:ItemD→ByteArray) (d:ByteArray) (I:List ItemD) (k:Nat) (hk:k≤I.length):addAt dI d I k<k∨addAt dI d I k=I.length:=by
 rw [addAt]
 cases h:(I.take k).findIdx? fun x=>gtB (dI x) d with
 | none=>exact .inr rfl
 | some j =>
  rw [List.findIdx?_eq_some_iff_getElem] at h
  obtain ⟨h1,_⟩:=h
  rw [List.length_take] at h1
  exact .inl (by show j<k;omega)
theorem rQ (dI:ItemD→ByteArray) (d:ByteArray) (I:List ItemD) (k:Nat) (x:ItemD) (hx:I[k]?=some x):addAt dI d I (k+1)=bif gtB (dI x) d&&decide (addAt dI d I k=I.length) then k else addAt dI d I k:=by
 have hk:k<I.length:=(List.getElem?_eq_some_iff.1 hx).1
 rw [addAt,addAt,List.take_add_one,hx,Option.toList_some,List.findIdx?_append]
 cases h:(I.take k).findIdx? fun x=>gtB (dI x) d with
 | none =>
  rw [List.findIdx?_singleton]
  cases hg:gtB (dI x) d with
  | true=>simp [List.length_take];omega
  | false=>simp
 | some j =>
  rw [List.findIdx?_eq_some_iff_getElem] at h
  obtain ⟨h1,_⟩:=h
  rw [List.length_take] at h1
  have:¬ j=I.length:=by omega
  simp [this]
section
variable {P:Program} {N:Nat} {av bor:List Nat} {w0:World} {x y:Operand} {t t2:TypeId} {ty:TypeId} {st:St}
theorem j8 {a b:ByteArray} (v:Bool) (hx:ev st.env x=some (.string a)) (hy:ev st.env y=some (.string b)) (hv:gtB a b=v):Sy.Yields P N av bor w0 st (.binOp .gtr t x y t2) ty (.bool v):=hv▸vO hx hy
end
structure AddI (I:List ItemD) where
 k:Nat
 hk:k≤I.length
set_option maxHeartbeats 16000000 in
theorem Bl (Y:World→Prop) (ks ki:SlV) (I:List ItemD) (it:ItemD) (rI:ItemD→Bool) (dI:ItemD→ByteArray)
  (hR:Pu Tryz.prog 44 #[it.v] (fun w=>it.at_ w) (.bool true))
  (hS:Pu Tryz.prog 45 #[ks.v,it.v] (fun w=>(Y w∧it.at_ w)∧Glob w) (.bool true))
  (hD0:Pu Tryz.prog 14 #[it.v] (fun w=>it.at_ w∧Glob w) (.string (dI it)))
  (hD:∀ x∈I,Pu Tryz.prog 14 #[x.v] (fun w=>x.at_ w∧Glob w) (.string (dI x)))
  (hI:I.length≤1000) (hnew:∀ x∈I,seqB (dI x) (dI it)=false) :
  Mk Tryz.prog 18 #[.agg #[ks.v,ki.v],it.v] (fun w=>((Y w∧Items w ki I)∧it.at_ w)∧Glob w)
   (fun u X'=>∃ s:SlV,u=.tuple #[.agg #[ks.v,s.v],.bool true]∧∀ w,X' w→Items w s (addV dI it I)):=by
 refine cq (args:=[_,_]) _ Tryz.func18 rfl Tryz.ntmps18 rfl fun av bor w0=>?_
 refine bJ (p:=ki.n=I.length∧ki.n≤maxLen∧(0<I.length→ki.p.isSome=true)∧ki.n≤ki.c) (fun w h=>⟨h.1.1.2.len_,h.1.1.2.max_,h.1.1.2.some_,RowsD.cap h.1.1.2.1⟩) fun ⟨hkn,hkm,hkp,hkc⟩=>?_
 simp only [maxLen] at hkm
 obtain ⟨d,hd⟩:∃ d,dI it=d:=⟨_,rfl⟩
 rw [hd] at hD0 hnew
 repeat' (first|apply ab|apply Qt|apply Qu|refine aj ?_|refine ad ?_|refine aB ?_|refine aA ?_|refine aF ?_|refine aG ?_|refine bD ?_|refine aY ?_|refine aM fun _=>?_|refine aL fun _=>?_|refine Qy ?_|apply Qw|apply Qv|(refine ao (hc:=hR) (hX:=fun w h=>h.1.2) ?_)|(refine ao (hc:=hS) (hX:=fun w h=>⟨⟨h.1.1.1,h.1.2⟩,h.2⟩) ?_)|(refine ao (hc:=hD0) (hX:=fun w h=>⟨h.1.2,h.2⟩) ?_)|fail)
 rename_i b2 b3 b4
 refine aU (ι:=AddI I) (fun i=>⟨[(2,.pointer (some ⟨b2,0,none⟩)),(3,.pointer (some ⟨b3,0,none⟩)),(4,.pointer (some ⟨b4,0,none⟩)),(6,.string d),(7,.int .i64 (addAt dI d I i.k:Nat)),(29,ki.v),(30,.int .i64 (ki.n:Nat)),(31,.int .i64 (i.k:Nat))],[cel b4 25 [.slice none 0 0,.slice none 0 0],cel b3 57 it.cells,cel b2 25 [ks.v,ki.v]],fun w=>((Y w∧Items w ki I)∧it.at_ w)∧Glob w⟩) (fun i=>I.length-i.k) ⟨0,Nat.zero_le _⟩ (ax ⟨rfl,rfl,rfl,rfl,(by show some (Value.int .i64 (ki.n:Nat))=_;rw [hkn];rfl),rfl,rfl,rfl,trivial⟩ (aE _) fun _ h=>h) fun i=>?_
 obtain ⟨k,hk⟩:=i
 simp only
 repeat' (first|apply ab|apply Qt|apply Qu|refine aj ?_|refine aB ?_|refine aA ?_|refine bj ?_|refine aY ?_|refine be (h:=?_)|apply Qw|apply Qv|apply aQ|(refine aH (ht:=?_) (hf:=?_);all_goals (intro hx_;first|have:=aP hx_|have:=aT hx_)))
 · have hlt:k<I.length:=by omega
   have hkp':=hkp ae
   obtain ⟨x,hx⟩:∃ x,I[k]?=some x:=⟨_,Zm hlt⟩
   have hxm:=List.mem_of_getElem? hx
   have hne:=hnew x hxm
   have hst:=rQ dI d I k x hx
   generalize addAt dI d I k=at0 at *
   cases hg:gtB (dI x) d with
   | false =>
    rw [hg] at hst
    have hst:addAt dI d I (k+1)=at0:=hst
    have hat:decide ((at0:Int)=(ki.n:Int))=decide ((at0:Int)=(ki.n:Int)):=rfl
    repeat' (first|refine am (dw false rfl rfl hne) rfl aC rfl ?_|refine am (j8 _ rfl rfl hg) rfl aC rfl ?_|apply ab|apply Qt|apply Qu|refine aj ?_|refine ad ?_|refine aF ?_|refine aG ?_|refine be (h:=?_)|refine aJ ?_|refine aM fun _=>?_|refine aK ?_|refine Qy ?_|apply Qw|(refine bx (q:=k*49) ?_)|(refine cr (cs:=x.cells) (hF:=fun w h=>h.1.1.2.get hx) ?_)|(refine ao (hc:=hD x hxm) (hX:=fun w h=>⟨h.1.1.2.2 x hxm,h.2⟩) ?_)|fail)
    exact ⟨(⟨k+1,hlt⟩:AddI I),(by show I.length-(k+1)<I.length-k;omega),ax ⟨rfl,rfl,rfl,rfl,(by show _=some (Value.int .i64 (addAt dI d I (k+1):Nat));rw [hst];rfl),rfl,rfl,rfl,trivial⟩ (.cons _ (aE _)) fun _ h=>h⟩
   | true =>
    by_cases ha:at0=I.length
    · rw [hg,ZA ha] at hst
      have hst:addAt dI d I (k+1)=k:=hst
      have hat:decide ((at0:Int)=(ki.n:Int))=true:=ZA ae
      repeat' (first|refine am (dw false rfl rfl hne) rfl aC rfl ?_|refine am (j8 _ rfl rfl hg) rfl aC rfl ?_|refine am (eD _ rfl rfl hat) rfl aC rfl ?_|apply ab|apply Qt|apply Qu|refine aj ?_|refine ad ?_|refine aB ?_|refine aA ?_|refine aF ?_|refine aD ?_|refine aY ?_|refine be (h:=?_)|refine aM fun _=>?_|refine aK ?_|refine Qx ?_|refine Qy ?_|apply Qw|(refine bx (q:=k*49) ?_)|(refine cr (cs:=x.cells) (hF:=fun w h=>h.1.1.2.get hx) ?_)|(refine ao (hc:=hD x hxm) (hX:=fun w h=>⟨h.1.1.2.2 x hxm,h.2⟩) ?_)|fail)
      exact ⟨(⟨k+1,hlt⟩:AddI I),(by show I.length-(k+1)<I.length-k;omega),ax ⟨rfl,rfl,rfl,rfl,(by show _=some (Value.int .i64 (addAt dI d I (k+1):Nat));rw [hst];rfl),rfl,rfl,rfl,trivial⟩ (.cons _ (aE _)) fun _ h=>h⟩
    · rw [hg,Zn ha] at hst
      have hst:addAt dI d I (k+1)=at0:=hst
      have hat:decide ((at0:Int)=(ki.n:Int))=false:=Zn ae
      repeat' (first|refine am (dw false rfl rfl hne) rfl aC rfl ?_|refine am (j8 _ rfl rfl hg) rfl aC rfl ?_|refine am (eD _ rfl rfl hat) rfl aC rfl ?_|apply ab|apply Qt|apply Qu|refine aj ?_|refine ad ?_|refine aB ?_|refine aA ?_|refine aF ?_|refine aD ?_|refine aY ?_|refine be (h:=?_)|refine aM fun _=>?_|refine aK ?_|refine Qy ?_|apply Qw|(refine bx (q:=k*49) ?_)|(refine cr (cs:=x.cells) (hF:=fun w h=>h.1.1.2.get hx) ?_)|(refine ao (hc:=hD x hxm) (hX:=fun w h=>⟨h.1.1.2.2 x hxm,h.2⟩) ?_)|fail)
      exact ⟨(⟨k+1,hlt⟩:AddI I),(by show I.length-(k+1)<I.length-k;omega),ax ⟨rfl,rfl,rfl,rfl,(by show _=some (Value.int .i64 (addAt dI d I (k+1):Nat));rw [hst];rfl),rfl,rfl,rfl,trivial⟩ (.cons _ (aE _)) fun _ h=>h⟩
 have hkE:k=I.length:=by omega
 have hV:addV dI it I=I.take (addAt dI d I k)++it::I.drop (addAt dI d I k):=by rw [addV,hd,hkE]
 have hal:addAt dI d I k≤I.length:=by
  rcases yR dI d I k hk with h|h
  · omega
  · omega
 rw [hV]
 generalize addAt dI d I k=a0 at *
 have hones:∀ (J:List ItemD),∀ cs∈J.map ItemD.cells,cs.all (·.oneCell')=true:=fun J cs hcs=>by
  obtain ⟨x,_,rfl⟩:=List.mem_map.1 hcs
  rfl
 have hs1:∀ w,(((Y w∧Items w ki I)∧it.at_ w)∧Glob w)→Src Tryz.prog w 49 (.slice ki.p a0 ki.c) a0 ((I.take a0).map ItemD.cells).flatten:=fun w h=>by
  have h1:=RowsD.take (n:=a0) h.1.1.2.1 (by simpa using hal)
  rw [←List.map_take] at h1
  exact fK h1 (hones _)
 have hs2:∀ w,(((Y w∧Items w ki I)∧it.at_ w)∧Glob w)→Src Tryz.prog w 49 (ki.from 49 a0).v (ki.from 49 a0).n ((I.drop a0).map ItemD.cells).flatten:=fun w h=>by
  have h1:=RowsD.drop (n:=a0) h.1.1.2.1 (by simpa using hal)
  rw [←List.map_drop] at h1
  exact fK h1 (hones _)
 have hfn:(ki.from 49 a0).n=ki.n-a0:=rfl
 refine gR (c:=ki.n+1) (hm:=Nat.ble_eq_true_of_le ae) (hm2:=Nat.ble_eq_true_of_le ae) fun bv=>?_
 repeat' (first|apply ab|apply Qt|apply Qu|refine aj ?_|refine ad ?_|refine aB ?_|refine aA ?_|(refine am (BE rfl rfl ae ae) rfl rfl rfl ?_)|fail)
 refine aV (size:=49) (news:=((I.take a0).map ItemD.cells).flatten) (q:=a0) rfl rfl rfl rfl (fun _=>At.here _) (fun w G=>hs1 w G.keep.now) ae (by simp only [maxLen];omega) rfl ?_ rfl ?_
 · (with_reducible rfl)
 intro A1 c1
 repeat' (first|refine bH (size:=49) (vs:=[it.v]) (css:=it.cells) (hsz:=by rfl) (hcs:=by rfl) fun _=>?_|apply ab|apply Qt|apply Qu|refine aj ?_|refine ad ?_|refine aF ?_|fail)
 refine aV (size:=49) (news:=it.cells) (q:=1) rfl rfl rfl rfl (fun _=>At.there _ (At.here _)) (fun w G=>bo G aI rfl rfl 1) ae (by simp only [maxLen];omega) rfl ?_ rfl ?_
 · (with_reducible rfl)
 intro A2 c2
 repeat' (first|apply ab|apply Qt|apply Qu|refine aj ?_|refine ad ?_|refine aB ?_|refine aA ?_|(refine am (BD (s:=ki) rfl rfl ae ae) rfl rfl rfl ?_)|fail)
 refine aV (size:=49) (news:=((I.drop a0).map ItemD.cells).flatten) (q:=ki.n-a0) rfl rfl rfl rfl (fun _=>At.there _ (At.here _)) (fun w G=>hs2 w G.keep.now) ae (by simp only [maxLen];omega) rfl ?_ rfl ?_
 · (with_reducible rfl)
 intro A3 c3
 repeat' (first|apply ab|apply Qt|apply Qu|refine aj ?_|refine ad ?_|refine aB ?_|refine aA ?_|refine aK ?_|apply ar|(refine br (cs:=[ks.v,.slice A3 (0+a0+1+(ki.n-a0)) c3]) (hf:=by rfl) ?_)|fail)
 refine al (cV rfl rfl rfl bU (by rfl)) ⟨⟨A3,0+a0+1+(ki.n-a0),c3⟩,rfl,fun w h=>?_⟩
 have hr:=h.2 (orow 57 49 (.slice A3 (0+a0+1+(ki.n-a0)) c3) (0+a0+1+(ki.n-a0)) ([]++((I.take a0).map ItemD.cells).flatten++it.cells++((I.drop a0).map ItemD.cells).flatten)) bU
 refine ⟨cb (e:=57) (xs:=(I.take a0++it::I.drop a0).map ItemD.cells) ?_ (by simp [hkn];omega) fun r hr=>?_,fun x hx=>?_⟩
 · have e:((I.take a0++it::I.drop a0).map ItemD.cells).flatten=[]++((I.take a0).map ItemD.cells).flatten++it.cells++((I.drop a0).map ItemD.cells).flatten:=by simp
   rw [e]
   exact hr
 · obtain ⟨x,_,rfl⟩:=List.mem_map.1 hr
   rfl
 · rcases List.mem_append.1 hx with hx|hx
   · exact h.1.1.1.2.2 x (List.mem_of_mem_take hx)
   · rcases List.mem_cons.1 hx with rfl|hx
     · exact h.1.1.2
     · exact h.1.1.1.2.2 x (List.mem_of_mem_drop hx)
end Go.Proofs.YtcdilibijnboeaaGreatDoor
namespace Go.Proofs.YtcdilibijnboeaaGreatDoor
open Go Go.Proofs Sy Go.Shelf
namespace Rf4
theorem CL (m x:Nat) (hm:m≤64):shrV .u64 (x:Int) (m:Int)=((x/2 ^ m:Nat):Int):=by
 show (x:Int).fdiv (2 ^ (min (m:Int).toNat 64))=_
 rw [Qq,Nat.min_eq_left hm,show (2:Int) ^ m=((2 ^ m:Nat):Int) by rw [Int.natCast_pow];rfl,←Int.ofNat_fdiv]
theorem gP {p:Nat} (h:p<18446744073709551616):IntKind.u64.wrap (p:Int)=(p:Int):=by
 simp [IntKind.wrap,IntKind.signed,IntKind.bits]
 omega
theorem CR (m x:Nat) (hm:m≤62) (hx:x<18446744073709551616):bitsV .and .u64 (x:Int) (((2 ^ m-1:Nat)):Int)=((x%2 ^ m:Nat):Int):=by
 show IntKind.u64.wrap ((((BitVec.ofInt 64 (x:Int)) &&& (BitVec.ofInt 64 (((2 ^ m-1:Nat)):Int))).toNat:Nat):Int)=_
 have h1:2 ^ m≤2 ^ 62:=Nat.pow_le_pow_right (by decide) hm
 have h2:0<2 ^ m:=Nat.two_pow_pos m
 rw [BitVec.toNat_and,BitVec.ofInt_natCast,BitVec.ofInt_natCast,BitVec.toNat_ofNat,BitVec.toNat_ofNat,Z0 (show x<2 ^ 64 by omega),Z0 (show 2 ^ m-1<2 ^ 64 by omega),Nat.and_two_pow_sub_one_eq_mod]
 exact gP (by have:=Nat.mod_lt x h2;omega)
theorem CN (m x:Nat) (hm:m≤64) (hx:x*2 ^ m<18446744073709551616):shlV .u64 (x:Int) (m:Int)=((x*2 ^ m:Nat):Int):=by
 show IntKind.u64.wrap ((x:Int)*2 ^ (min (m:Int).toNat 64))=_
 rw [Qq,Nat.min_eq_left hm,show (x:Int)*(2:Int) ^ m=((x*2 ^ m:Nat):Int) by rw [Int.natCast_mul,Int.natCast_pow];rfl]
 exact gP hx
section
variable {N:Nat} {av bor:List Nat} {w0:World} {st:St} {ty:TypeId} {x y:Operand} {E:Env} {loc:List Res} {X:World→Prop} {ops:Array Oper} {kk k:St→Prop} {pos:String} {af:Array Edge} {g:Option (Nat×Bool)} {rest:List Oper} {bb want:Bool} {n:Nat} {t t2:TypeId} {d:Option Tmp}
theorem nz {k':IntKind} (m r:Nat) {p:Nat} (hx:ev E x=some (.int .u64 (p:Nat)):=by rfl) (hy:ev E y=some (.int k' (m:Int)):=by rfl) (hm:m≤64∧p/2 ^ m=r) (hg:gdB ops E g=some (bb,want):=by rfl) (hbb:bb=want:=by exact aC) (hd:Nat.blt n N=true:=by rfl) (h:Sw Tryz.prog N av bor w0 ops rest ⟨(n,.int .u64 (r:Nat))::E,loc,X⟩ k) :
  Sw Tryz.prog N av bor w0 ops (⟨some n,.binOp .shr t x y t2,ty,pos,af,g⟩::rest) ⟨E,loc,X⟩ k:=fm hx hy ae hg hbb hd (by rw [CL m p hm.1,hm.2];exact h)
theorem nC (m r:Nat) {p:Nat} (hx:ev E x=some (.int .u64 (p:Nat)):=by rfl) (hy:ev E y=some (.int .u64 ((2 ^ m-1:Nat):Int)):=by rfl) (hm:m≤62∧p<18446744073709551616∧p%2 ^ m=r) (hg:gdB ops E g=some (bb,want):=by rfl) (hbb:bb=want:=by exact aC) (hd:Nat.blt n N=true:=by rfl) (h:Sw Tryz.prog N av bor w0 ops rest ⟨(n,.int .u64 (r:Nat))::E,loc,X⟩ k) :
  Sw Tryz.prog N av bor w0 ops (⟨some n,.binOp .and t x y t2,ty,pos,af,g⟩::rest) ⟨E,loc,X⟩ k:=am (oL hx hy) hg hbb hd (by rw [CR m p hm.1 hm.2.1,hm.2.2];exact h)
theorem zC {k':IntKind} (m r:Nat) {p:Nat} (hx:ev E x=some (.int .u64 (p:Nat)):=by rfl) (hy:ev E y=some (.int k' (m:Int)):=by rfl) (hm:m≤64∧p*2 ^ m<18446744073709551616∧p*2 ^ m=r) (hg:gdB ops E g=some (bb,want):=by rfl) (hbb:bb=want:=by exact aC) (hd:Nat.blt n N=true:=by rfl) (h:Sw Tryz.prog N av bor w0 ops rest ⟨(n,.int .u64 (r:Nat))::E,loc,X⟩ k) :
  Sw Tryz.prog N av bor w0 ops (⟨some n,.binOp .shl t x y t2,ty,pos,af,g⟩::rest) ⟨E,loc,X⟩ k:=nA hx hy ae hg hbb hd (by rw [CN m p hm.1 hm.2.1,hm.2.2];exact h)
theorem sC [hI:TyInt Tryz.prog t .u64] {p q:Nat} (h:Sw Tryz.prog N av bor w0 ops rest ⟨(n,.int .u64 ((p*q:Nat):Int))::E,loc,X⟩ k) (hx:ev E x=some (.int .u64 (p:Nat)):=by rfl) (hy:ev E y=some (.int .u64 (q:Nat)):=by rfl) (hq:p*q<18446744073709551616) (hg:gdB ops E g=some (bb,want):=by rfl) (hbb:bb=want:=by exact aC) (hd:Nat.blt n N=true:=by rfl) :
  Sw Tryz.prog N av bor w0 ops (⟨some n,.binOp .mul t x y t2,ty,pos,af,g⟩::rest) ⟨E,loc,X⟩ k:=eL (c:=((p*q:Nat):Int)) hx hy (by rw [←Int.natCast_mul];exact gP hq) hg hbb hd h
theorem sE [hI:TyInt Tryz.prog t .u64] {p q:Nat} (h:Sw Tryz.prog N av bor w0 ops rest ⟨(n,.int .u64 ((p+q:Nat):Int))::E,loc,X⟩ k) (hx:ev E x=some (.int .u64 (p:Nat)):=by rfl) (hy:ev E y=some (.int .u64 (q:Nat)):=by rfl) (hq:p+q<18446744073709551616) (hg:gdB ops E g=some (bb,want):=by rfl) (hbb:bb=want:=by exact aC) (hd:Nat.blt n N=true:=by rfl) :
  Sw Tryz.prog N av bor w0 ops (⟨some n,.binOp .add t x y t2,ty,pos,af,g⟩::rest) ⟨E,loc,X⟩ k:=be (c:=((p+q:Nat):Int)) hx hy (by rw [←Int.natCast_add];exact gP hq) hg hbb hd h
end
theorem B6 {P:Program} {fn:Func} {N t u r:Nat} {s:St} {v x y:Value} (hr:fn.results=#[.tmp t,.tmp u,.tmp r]) (h:Sy.look s.env t=some v) (h':Sy.look s.env u=some x) (h2:Sy.look s.env r=some y):Res1 P fn N s (.tuple #[v,x,y]):=fun av bor w0 a w ok=>by
 have h3:=ok.env t v h
 have h4:=ok.env u x h'
 have h5:=ok.env r y h2
 simp [results,hr,h3,h4,h5]
theorem jo (a m:Nat) (hm:0<m) (hm2:m<4611686018427387904):Pu Tryz.prog 247 #[.int .i64 (a:Int),.int .i64 (m:Int)] (fun _=>True) (.int .i64 ((a%m:Nat):Int)):=by
 refine ay (args:=[_,_]) _ Tryz.func247 rfl Tryz.ntmps247 rfl fun av bor w0=>?_
 have hr:Eqq ((a:Int).tmod (m:Int)) ((a%m:Nat):Int):=ln a m
 repeat' (first|refine fD (hb:=by omega) (hc:=hr) ?_|apply ab|apply Qt|apply Qu|refine aj ?_|refine ad ?_|refine bj ?_|refine be (h:=?_)|apply Qw|apply ar|(refine aH (ht:=?_) (hf:=?_);all_goals (intro hx_;first|have:=aP hx_|have:=aT hx_)))
 · exfalso;omega
 · apply al;apply ap;rfl;rfl
   rfl
theorem pI (a b x1 x0 y1 y0:Nat) (ha:a<2305843009213693952) (hb:b<2305843009213693952) (h1:a/2 ^ 31=x1) (h0:a%2 ^ 31=x0) (g1:b/2 ^ 31=y1) (g0:b%2 ^ 31=y0) (hm:x1*y1<1152921504606846976) (hp:x1*y0<4611686018427387904) (hq:x0*y1<4611686018427387904) (hr:x0*y0<4611686018427387904) :
  Pu Tryz.prog 246 #[.int .i64 (a:Int),.int .i64 (b:Int)] (fun _=>True) (.tuple #[.int .u64 ((x1*y1:Nat):Int),.int .u64 ((x1*y0+x0*y1:Nat):Int),.int .u64 ((x0*y0:Nat):Int)]):=by
 refine ay (args:=[_,_]) _ Tryz.func246 rfl Tryz.ntmps246 rfl fun av bor w0=>?_
 repeat' (first|refine SrG.sy_toU_g (hq:=by omega) (h:=?_)|refine nz 31 x1 (hm:=by omega) (h:=?_)|refine nz 31 y1 (hm:=by omega) (h:=?_)|refine nC 31 x0 (hm:=by omega) (h:=?_)|refine nC 31 y0 (hm:=by omega) (h:=?_)|refine sC (hq:=by omega) ?_|refine sE (hq:=by omega) ?_|apply ab|apply Qt|apply Qu|refine aj ?_|refine ad ?_|apply ar|fail)
 exact al (B6 rfl rfl rfl rfl) rfl
theorem mulR {x y x1 x0 y1 y0:Nat} (h1:x/2 ^ 31=x1) (h0:x%2 ^ 31=x0) (g1:y/2 ^ 31=y1) (g0:y%2 ^ 31=y0) :
  x*y%2305843009213693951=(2*(x1*y1)+(x1*y0+x0*y1)/2 ^ 30+(x1*y0+x0*y1)%2 ^ 30*2 ^ 31+x0*y0)%2305843009213693951:=by
 have hx:x=x1*2147483648+x0:=by omega
 have hy:y=y1*2147483648+y0:=by omega
 have e:x*y=x1*y1*4611686018427387904+(x1*y0+x0*y1)*2147483648+x0*y0:=by
  rw [hx,hy,Nat.add_mul,Nat.mul_add,Nat.mul_add,Nat.mul_mul_mul_comm,Nat.mul_right_comm x1 _ y0,←Nat.mul_assoc x0,Nat.add_mul (x1*y0)]
  omega
 rw [e]
 generalize x1*y1=H
 generalize x1*y0+x0*y1=M
 generalize x0*y0=L
 have:H*4611686018427387904+M*2147483648+L=(2*H+M/2 ^ 30+M%2 ^ 30*2 ^ 31+L)+2305843009213693951*(2*H+M/2 ^ 30):=by omega
 rw [this,Nat.add_mul_mod_self_left]
theorem jn (a b:Nat):Pu Tryz.prog 213 #[.int .i64 (a:Int),.int .i64 (b:Int)] (fun _=>True) (.int .i64 ((a*b%2305843009213693951:Nat):Int)):=by
 refine ay (args:=[_,_]) _ Tryz.func213 rfl Tryz.ntmps213 rfl fun av bor w0=>?_
 have c1:=jo a 2305843009213693951 (by decide) (by decide)
 have c2:=jo b 2305843009213693951 (by decide) (by decide)
 have hx:=Nat.mod_lt a (show 0<2305843009213693951 by decide)
 have hy:=Nat.mod_lt b (show 0<2305843009213693951 by decide)
 have hab:a*b%2305843009213693951=(a%2305843009213693951)*(b%2305843009213693951)%2305843009213693951:=Nat.mul_mod a b _
 rw [hab]
 generalize a%2305843009213693951=x at *
 generalize b%2305843009213693951=y at *
 obtain ⟨x1,h1⟩:∃ x1,x/2 ^ 31=x1:=⟨_,rfl⟩
 obtain ⟨x0,h0⟩:∃ x0,x%2 ^ 31=x0:=⟨_,rfl⟩
 obtain ⟨y1,g1⟩:∃ y1,y/2 ^ 31=y1:=⟨_,rfl⟩
 obtain ⟨y0,g0⟩:∃ y0,y%2 ^ 31=y0:=⟨_,rfl⟩
 have b1:x1≤1073741823:=by omega
 have b0:x0≤2147483647:=by omega
 have d1:y1≤1073741823:=by omega
 have d0:y0≤2147483647:=by omega
 have m1:x1*y1≤1073741823*1073741823:=Nat.mul_le_mul b1 d1
 have m2:x1*y0≤1073741823*2147483647:=Nat.mul_le_mul b1 d0
 have m3:x0*y1≤2147483647*1073741823:=Nat.mul_le_mul b0 d1
 have m4:x0*y0≤2147483647*2147483647:=Nat.mul_le_mul b0 d0
 have c3:=pI x y x1 x0 y1 y0 ae ae h1 h0 g1 g0 ae ae ae ae
 rw [mulR h1 h0 g1 g0]
 generalize x1*y1=H at *
 generalize hM:x1*y0+x0*y1=M at *
 have hM2:M≤1073741823*2147483647+2147483647*1073741823:=by omega
 generalize x0*y0=L at *
 obtain ⟨p,hp⟩:∃ p,M/2 ^ 30=p:=⟨_,rfl⟩
 obtain ⟨q,hq⟩:∃ q,M%2 ^ 30=q:=⟨_,rfl⟩
 obtain ⟨r,hr⟩:∃ r,q*2 ^ 31=r:=⟨_,rfl⟩
 rw [hp,hq,hr]
 have hrm:Eqq (((2*H+p+r+L:Nat):Int).tmod 2305843009213693951) (((2*H+p+r+L)%2305843009213693951:Nat):Int):=ln (2*H+p+r+L) 2305843009213693951
 have hz:=Nat.mod_lt (2*H+p+r+L) (show 0<2305843009213693951 by decide)
 repeat' (first|refine SrG.sy_toI_g (hq:=by omega) (h:=?_)|refine nz 30 p (hm:=by omega) (h:=?_)|refine nC 30 q (hm:=by omega) (h:=?_)|refine zC 31 r (hm:=by omega) (h:=?_)|refine sC (p:=2) (hq:=by omega) ?_|refine sE (hq:=by omega) ?_|refine fD (hb:=by decide) (hc:=hrm) ?_|apply ab|apply Qt|apply Qu|refine aj ?_|refine ad ?_|refine bV ?_|apply ar|(refine ao (hc:=c1) (hX:=fun w h=>h) ?_)|(refine ao (hc:=c2) (hX:=fun w h=>h) ?_)|(refine ao (hc:=c3) (hX:=fun w h=>h) ?_)|fail)
 apply al;apply ap;rfl;rfl
 rfl
end Rf4
namespace Rf4
theorem quo2 (a:Nat) (ha:a<9223372036854775808):IntKind.i64.wrap ((a:Int).tdiv 2)=((a/2:Nat):Int):=by
 rw [show (2:Int)=((2:Nat):Int) from rfl,Int.tdiv_eq_ediv_of_nonneg ae,←Int.natCast_ediv]
 exact IntWalk.i64_in _ ae
structure ExS (a e:Nat) where
 x:Nat
 b:Nat
 f:Nat
 hx:x<2305843009213693951
 hf:f≤e
 inv:x*b ^ f%2305843009213693951=a ^ e%2305843009213693951
theorem xF (b h M:Nat):(b*b%M) ^ h%M=b ^ (h+h)%M:=by
 rw [←Nat.pow_mod,Nat.mul_pow,←Nat.pow_add]
theorem AB {x b f M:Nat} (h:f%2=1):(x*b%M)*(b*b%M) ^ (f/2)%M=x*b ^ f%M:=by
 have hf:f=1+(f/2+f/2):=by omega
 conv=>rhs;rw [hf,Nat.pow_add,Nat.pow_one,←Nat.mul_assoc]
 rw [Nat.mul_mod (x*b%M),Nat.mod_mod,xF,←Nat.mul_mod]
theorem yl {x b f M:Nat} (h:¬ f%2=1):x*(b*b%M) ^ (f/2)%M=x*b ^ f%M:=by
 have hf:f=f/2+f/2:=by omega
 conv=>rhs;rw [hf]
 rw [Nat.mul_mod,xF,←Nat.mul_mod]
theorem uT (a e:Nat) (he:e<9223372036854775808):Pu Tryz.prog 214 #[.int .i64 (a:Int),.int .i64 (e:Int)] (fun _=>True) (.int .i64 ((a ^ e%2305843009213693951:Nat):Int)):=by
 refine ay (args:=[_,_]) _ Tryz.func214 rfl Tryz.ntmps214 rfl fun av bor w0=>?_
 have c1:=jo a 2305843009213693951 (by decide) (by decide)
 repeat' (first|apply ab|apply Qt|apply Qu|refine aj ?_|refine ad ?_|refine bj ?_|apply Qw|apply Qv|(refine ao (hc:=c1) (hX:=fun w h=>h) ?_)|(refine aH (ht:=?_) (hf:=?_);all_goals (intro hx_;first|have:=aP hx_|have:=aT hx_)))
 · exfalso;omega
 · refine aU (ι:=ExS a e) (fun i=>⟨[(1,.int .i64 (i.f:Nat)),(5,.int .i64 (i.x:Nat)),(6,.int .i64 (i.b:Nat))],[],fun _=>True⟩) (fun i=>i.f) ⟨1,a%2305843009213693951,e,by decide,Qo _,by rw [Nat.one_mul,←Nat.pow_mod]⟩ (ax ⟨rfl,rfl,rfl,trivial⟩ (ZR _) fun _ h=>h) fun i=>?_
   obtain ⟨x,b,f,hx,hf,inv⟩:=i
   simp only
   have hm1:=jn x b
   have hm2:=jn b b
   have hr:Eqq ((f:Int).tmod 2) ((f%2:Nat):Int):=ln f 2
   have hq:Eqq (IntKind.i64.wrap ((f:Int).tdiv 2)) ((f/2:Nat):Int):=quo2 f ae
   repeat' (first|refine fD (hb:=by decide) (hc:=hr) ?_|refine k8 (hb:=by decide) (hc:=hq) ?_|apply ab|apply Qt|apply Qu|refine aj ?_|refine ad ?_|refine bP ?_|refine cG ?_|apply Qw|apply Qv|apply ar|apply aQ|(refine ao (hc:=hm1) (hX:=fun w h=>h) ?_)|(refine ao (hc:=hm2) (hX:=fun w h=>h) ?_)|(refine aH (ht:=?_) (hf:=?_);all_goals (intro hx_;first|have:=aP hx_|have:=aT hx_)))
   · have hc:f%2=1:=by
      have:=aP hx_
      omega
     exact ⟨(⟨x*b%2305843009213693951,b*b%2305843009213693951,f/2,Nat.mod_lt _ (by decide),by omega,(AB hc).trans inv⟩:ExS a e),(by show f/2<f;omega),ax ⟨rfl,rfl,rfl,trivial⟩ (ZR _) fun _ h=>h⟩
   · have hc:¬ f%2=1:=by
      have:=aT hx_
      omega
     exact ⟨(⟨x,b*b%2305843009213693951,f/2,hx,by omega,(yl hc).trans inv⟩:ExS a e),(by show f/2<f;omega),ax ⟨rfl,rfl,rfl,trivial⟩ (ZR _) fun _ h=>h⟩
   · have hk:f=0:=by omega
     apply al;apply ap;rfl;rfl
     rw [←inv,hk,Nat.pow_zero,Nat.mul_one,Z0 hx]
end Rf4
namespace Rf4
theorem iN:∀ f x:Nat,x<2 ^ f→x<2 ^ Lib.bitLenAux f x
 | 0,x,h=>h
 | f+1,x,h=>by
  rw [Lib.bitLenAux]
  split
  · rename_i h0
    rw [h0]
    decide
  · have h1:=iN f (x/2) (by rw [Nat.pow_succ] at h;omega)
    rw [Nat.pow_add]
    omega
theorem qf (a e:Nat):∀ i,(expF a e i).1=a ^ (e%2 ^ i)%2305843009213693951∧(expF a e i).2=a ^ 2 ^ i%2305843009213693951
 | 0=>by
  refine ⟨?_,?_⟩
  · show 1=_
    rw [Nat.pow_zero,Nat.mod_one,Nat.pow_zero]
  · show a%_=_
    rw [Nat.pow_zero,Nat.pow_one]
 | i+1=>by
  obtain ⟨h1,h2⟩:=qf a e i
  refine ⟨?_,?_⟩
  · show (bif decide (e/2 ^ i%2=1) then (expF a e i).1*(expF a e i).2%2305843009213693951 else (expF a e i).1)=_
    rw [Nat.mod_pow_succ,h1,h2]
    by_cases h:e/2 ^ i%2=1
    · rw [ZA h,ZC,h,Nat.mul_one,Nat.pow_add,←Nat.mul_mod]
    · have h0:e/2 ^ i%2=0:=by omega
      rw [Zn h,ZB,h0,Nat.mul_zero,Qj]
  · show (expF a e i).2*(expF a e i).2%2305843009213693951=_
    rw [h2,←Nat.mul_mod,←Nat.pow_add,Nat.pow_succ,Nat.mul_two]
theorem yz (a e:Nat) (he:e<9223372036854775808):expV a e=a ^ e%2305843009213693951:=by
 have h:e<2 ^ Lib.bitLen e:=iN 64 e ae
 rw [expV,(qf a e _).1,Z0 h]
theorem lq (a e:Nat) (he:e<9223372036854775808):Pu Tryz.prog 214 #[.int .i64 (a:Int),.int .i64 (e:Int)] (fun _=>True) (.int .i64 (expV a e:Nat)):=by
 rw [yz a e he]
 exact uT a e he
def numS (s:ByteArray) (k:Nat):Nat:=bif decide (k=8) then numN (nl s) else numF (nl s) k
theorem oi {s:ByteArray} {k:Nat} (h:k<8):numS s k=numF (nl s) k:=by rw [numS,Zn ae,ZB]
theorem jd {n:Nat} (h:n<9223372036854775808):IntKind.i64.wrap (n:Int)=(n:Int):=IntWalk.i64_in _ ae
theorem stepA {s:ByteArray} {k:Nat} (h:k<7) {b:Int} (hb:b=(((nl s).getD k 0:Nat):Int)):IntKind.i64.wrap (IntKind.i64.wrap (256*((numS s k:Nat):Int))+b)=((numS s (k+1):Nat):Int):=by
 have h1:=numF7 s (show k<8 by omega)
 have h2:=numF7 s (show k+1<8 by omega)
 rw [oi ae,oi ae,hb]
 rw [numF] at h2 ⊢
 generalize numF (nl s) k=x at *
 generalize (nl s).getD k 0=y at *
 rw [show (256:Int)*(x:Int)=((256*x:Nat):Int) by omega,jd ae,←Int.natCast_add,jd (by omega)]
 omega
theorem stepB {s:ByteArray} {b:Int} (hb:b=(((nl s).getD 7 0:Nat):Int)):IntKind.i64.wrap (IntKind.i64.wrap (32*((numS s 7:Nat):Int))+IntKind.i64.wrap (b.tdiv 8))=((numS s 8:Nat):Int):=by
 have h1:=numF7 s (show 7<8 by omega)
 have h2:=fy (iM s) 7
 have e8:numS s 8=(numF (nl s) 7*256+(nl s).getD 7 0)/8:=rfl
 rw [e8,oi ae,hb]
 generalize numF (nl s) 7=x at *
 generalize (nl s).getD 7 0=y at *
 rw [show (32:Int)*(x:Int)=((32*x:Nat):Int) by omega,jd ae,show ((y:Int)).tdiv 8=((y/8:Nat):Int) by rw [Int.tdiv_eq_ediv_of_nonneg (by omega)];omega,jd ae,←Int.natCast_add,jd (by omega)]
 omega
theorem byteIn {s:ByteArray} {k:Nat} (h:k<s.size):IntKind.i64.wrap (byteAt s (k:Int).toNat)=(((nl s).getD k 0:Nat):Int):=by
 have h2:=fy (iM s) k
 rw [show ((k:Int)).toNat=k from rfl,oy s _ h,jd (by omega)]
theorem byteOut {s:ByteArray} {k:Nat} (h:s.size≤k):(0:Int)=(((nl s).getD k 0:Nat):Int):=by
 rw [ZL,List.getElem?_eq_none (by rw [dt];exact h),Option.getD_none]
 rfl
theorem pJ (s:ByteArray):Pu Tryz.prog 245 #[.string s] (fun _=>True) (.int .i64 (numN (nl s):Nat)):=by
 refine ay (args:=[_]) _ Tryz.func245 rfl Tryz.ntmps245 rfl fun av bor w0=>?_
 repeat' (first|apply ab|apply Qt|apply Qu|refine ad ?_|apply Qv|fail)
 refine aU (ι:=Kth 8) (fun i=>⟨[(0,.string s),(3,.int .i64 ((numS s i.k:Nat):Int)),(4,.int .i64 i.k)],[],fun _=>True⟩) (fun i=>8-i.k) ⟨0,Nat.zero_le _⟩ (ax ⟨rfl,rfl,rfl,trivial⟩ (aE _) fun _ h=>h) fun i=>?_
 have hik:=i.hk
 repeat' (first|refine k8 (hb:=by decide) (hc:=rfl) ?_|apply ab|apply Qt|apply Qu|refine aj ?_|refine ad ?_|refine bj ?_|refine bT ?_|refine be (h:=?_)|apply Qw|apply Qv|apply ar|apply aQ|refine eL (h:=?_)|refine d5 (h:=?_)|refine ip ?_|(refine aH (ht:=?_) (hf:=?_);all_goals (intro hx_;first|have:=aP hx_|have:=aT hx_)))
 · exact ⟨⟨i.k+1,by omega⟩,(by show 8-(i.k+1)<8-i.k;omega),ax ⟨rfl,congrArg (fun z=>some (Value.int IntKind.i64 z)) (stepA ae (byteIn ae)),rfl,trivial⟩ (aE _) fun _ h=>h⟩
 · have e7:i.k=7:=by omega
   obtain ⟨k,hk⟩:=i
   simp only at e7
   subst e7
   have hE:=@stepB s _ (byteIn (k:=7) ae)
   exact ⟨⟨8,by omega⟩,(by show 8-8<8-7;omega),ax ⟨rfl,congrArg (fun z=>some (Value.int IntKind.i64 z)) hE,rfl,trivial⟩ (aE _) fun _ h=>h⟩
 · exact ⟨⟨i.k+1,by omega⟩,(by show 8-(i.k+1)<8-i.k;omega),ax ⟨rfl,congrArg (fun z=>some (Value.int IntKind.i64 z)) (stepA ae (byteOut ae)),rfl,trivial⟩ (aE _) fun _ h=>h⟩
 · have e7:i.k=7:=by omega
   obtain ⟨k,hk⟩:=i
   simp only at e7
   subst e7
   have hE:=@stepB s _ (byteOut (k:=7) ae)
   exact ⟨⟨8,by omega⟩,(by show 8-8<8-7;omega),ax ⟨rfl,congrArg (fun z=>some (Value.int IntKind.i64 z)) hE,rfl,trivial⟩ (aE _) fun _ h=>h⟩
 · have h8:i.k=8:=by omega
   apply al;apply ap;rfl;rfl
   rw [h8]
   rfl
end Rf4
namespace Rf4
theorem q7 (s:ByteArray) (hs:s.size≤1099511627776):Pu Tryz.prog 212 #[.string s] (fun _=>True) (.int .i64 (numN (nl (shaV s)):Nat)):=by
 refine ay (args:=[_]) _ Tryz.func212 rfl Tryz.ntmps212 rfl fun av bor w0=>?_
 repeat' (first|apply ab|apply Qt|apply Qu|refine aj ?_|refine ad ?_|apply ar|refine ao (hc:=mQ _ hs) ?_|refine ao (hc:=pJ _) ?_|fail)
 exact al (ap rfl rfl) rfl
theorem rc (r p:Nat) (msg:ByteArray) (hr:r<9223372036854775808) (hp:p<9223372036854775808) (hm:msg.size≤1000000000000) :
  Pu Tryz.prog 173 #[.int .i64 (r:Int),.int .i64 (p:Int),.string msg] (fun _=>True) (.int .i64 (chalN r p msg:Nat)):=by
 refine ay (args:=[_,_,_]) _ Tryz.func173 rfl Tryz.ntmps173 rfl fun av bor w0=>?_
 have h1:=aX ⟨#[115,105,103,110]⟩
 have h2:=aO (r:Int)
 have h3:=aO (p:Int)
 have h4:=aX msg
 have h5:(⟨#[115,105,103,110]⟩:ByteArray).size=4:=rfl
 have ec:catB (chalP r p msg)=textV ⟨#[115,105,103,110]⟩++numV (r:Int)++numV (p:Int)++textV msg:=by
  show textV ⟨#[115,105,103,110]⟩++(numV (r:Int)++(numV (p:Int)++(textV msg++ByteArray.empty)))=_
  rw [ByteArray.append_empty,ZV,ZV]
 have hsz:(catB (chalP r p msg)).size≤1099511627776:=by
  rw [ec]
  simp only [Zl]
  omega
 have ch:=q7 (catB (chalP r p msg)) hsz
 have c1:=bX ⟨#[115,105,103,110]⟩ (by decide)
 rw [ec] at ch
 have hrm:Eqq (((numN (nl (shaV (textV ⟨#[115,105,103,110]⟩++numV (r:Int)++numV (p:Int)++textV msg))):Nat):Int).tmod 2305843009213693950) ((chalN r p msg:Nat):Int):=by
  rw [chalN,hashN,ec]
  exact ln _ 2305843009213693950
 repeat' (first|refine k9 (hb:=by ((try simp only [Zl]);omega)) ?_|refine fD (hb:=by decide) (hc:=hrm) ?_|apply ab|apply Qt|apply Qu|refine aj ?_|refine ad ?_|apply ar|(refine ao (hc:=c1) (hX:=fun _ _=>trivial) ?_)|refine ao (hc:=bX _ ae) ?_|refine ao (hc:=bz _ ae) ?_|(refine ao (hc:=ch) (hX:=fun _ _=>trivial) ?_)|fail)
 all_goals first
  | exact al (ap rfl rfl) rfl
section
variable {P:Program} {N:Nat} {av bor:List Nat} {w0:World} {st:St} {ty:TypeId} {x y:Operand} {t t2:TypeId}
theorem y_subM [hI:TyInt P t .i64] {p q:Nat} (hx:ev st.env x=some (.int .i64 (p:Nat))) (hy:ev st.env y=some (.int .i64 (q:Nat))) (hq:q≤p∧p<9223372036854775808):Sy.Yields P N av bor w0 st (.binOp .sub t x y t2) ty (.int .i64 ((p-q:Nat):Int)) :=
 mz hx hy (by rw [show (p:Int)-(q:Int)=((p-q:Nat):Int) by omega];exact IntWalk.i64_in _ ae)
end
theorem nX (p e s:Nat) (he:e≤2305843009213693950) (hs:s≤2305843009213693950) :
  Pu Tryz.prog 174 #[.int .i64 (p:Int),SgD.v ⟨(e:Int),(s:Int)⟩] (fun _=>True) (.int .i64 ((expV 37 s*expV p (2305843009213693950-e)%2305843009213693951:Nat):Int)):=by
 refine ay (args:=[_,_]) _ Tryz.func174 rfl Tryz.ntmps174 rfl fun av bor w0=>?_
 have c1:=lq 37 s ae
 have c2:=lq p (2305843009213693950-e) ae
 have c3:=jn (expV 37 s) (expV p (2305843009213693950-e))
 repeat' (first|apply ab|apply Qt|apply Qu|refine ad ?_|refine aL fun _=>?_|fail)
 (apply bI;kernel_rfl)
 all_goals refine aa 0 ?_<;>refine aa 1 ?_<;>refine aa 3 ?_<;>refine aa 4 ?_<;>refine aa 5 ?_<;>(refine aa 6 (hy:=by (apply y_subM (p:=2305843009213693950);rfl;rfl;omega)) ?_)<;>(refine ag 2 ?_;(refine ao (hc:=c1) (hX:=fun _ _=>trivial) ?_);apply ab;refine ai ?_)<;>(refine ag 7 ?_;(refine ao (hc:=c2) (hX:=fun _ _=>trivial) ?_);apply ab;refine ai ?_)<;>(refine ag 8 ?_;(refine ao (hc:=c3) (hX:=fun _ _=>trivial) ?_);apply ab;refine ai ?_)<;>refine aa 9 ?_<;>(refine aw ?_)
 all_goals
  repeat' (first|apply ar|fail)
  exact al (ap rfl rfl) rfl
def ranB (p e s:Int):Bool:=!(decide (p<1)||decide (2305843009213693951≤p)||!ordV e||!ordV s)
theorem rj {p e s:Int}:ranB p e s=(decide (1≤p)&&(decide (p<2305843009213693951)&&(decide (0≤e)&&(decide (e<2305843009213693950)&&(decide (0≤s)&&decide (s<2305843009213693950)))))):=by
 rw [ranB,ordV,ordV]
 have e1:decide (p<1)=!decide (1≤p):=by by_cases h:1≤p<;>simp [h]<;>omega
 have e2:decide (2305843009213693951≤p)=!decide (p<2305843009213693951):=by by_cases h:p<2305843009213693951<;>simp [h]<;>omega
 rw [e1,e2]
 cases decide (1≤p)<;>cases decide (p<2305843009213693951)<;>cases decide (0≤e)<;>cases decide (e<2305843009213693950)<;>cases decide (0≤s)<;>cases decide (s<2305843009213693950)<;>rfl
theorem nT (p e s:Int):Pu Tryz.prog 172 #[.int .i64 p,SgD.v ⟨e,s⟩] (fun _=>True) (.bool (ranB p e s)):=by
 refine ay (args:=[_,_]) _ Tryz.func172 rfl Tryz.ntmps172 rfl fun av bor w0=>?_
 rw [rj]
 repeat' (first|apply ab|apply Qt|apply Qu|refine aj ?_|refine ad ?_|refine aB ?_|refine aA ?_|refine aD ?_|refine aG ?_|refine bj ?_|refine cZ ?_|refine aJ ?_|refine aL fun _=>?_|apply ar|((fail_if_success (refine aZ ?_));refine aR (ht:=?_) (hf:=?_);all_goals (intro hx_;first|have:=aP hx_|have:=aT hx_))|fail)
 all_goals refine al (ap rfl rfl) ?_
 all_goals simp_all
 all_goals (intros;omega)
theorem refVerify_pu (p:Int) (msg:ByteArray) (e s:Int) (hm:msg.size≤1000000000000):Pu Tryz.prog 105 #[.int .i64 p,.string msg,SgD.v ⟨e,s⟩] (fun _=>True) (.bool (verN p msg e s)):=by
 refine ay (args:=[_,_,_]) _ Tryz.func105 rfl Tryz.ntmps105 rfl fun av bor w0=>?_
 have hrg:=nT p e s
 cases hbad:(decide (p<1)||decide (2305843009213693951≤p)||!ordV e||!ordV s) with
 | true =>
  rw [show ranB p e s=false from by rw [ranB,hbad];rfl] at hrg
  rw [show verN p msg e s=false from by rw [verN,hbad];rfl]
  repeat' (first|apply ab|apply Qt|apply Qu|refine aj ?_|refine ad ?_|refine aF ?_|refine bD ?_|refine aL fun _=>?_|refine Qx ?_|apply ar|(refine ao (hc:=hrg) (hX:=fun _ _=>trivial) ?_)|fail)
  exact al (ap rfl rfl) rfl
 | false =>
  have hb:=hbad
  simp only [Bool.or_eq_false_iff,decide_eq_false_iff_not,Bool.not_eq_false'] at hb
  obtain ⟨⟨⟨h1,h2⟩,h3⟩,h4⟩:=hb
  simp only [ordV,ZM,ZT] at h3 h4
  rw [show ranB p e s=true from by rw [ranB,hbad];rfl] at hrg
  obtain ⟨pn,rfl⟩:∃ n:Nat,p=(n:Int):=⟨p.toNat,by omega⟩
  obtain ⟨en,rfl⟩:∃ n:Nat,e=(n:Int):=⟨e.toNat,by omega⟩
  obtain ⟨sn,rfl⟩:∃ n:Nat,s=(n:Int):=⟨s.toNat,by omega⟩
  have c1:=nX pn en sn ae ae
  obtain ⟨r,hr⟩:∃ r,expV 37 sn*expV pn (2305843009213693950-en)%2305843009213693951=r:=⟨_,rfl⟩
  have hrl:r<2305843009213693951:=by rw [←hr];exact Nat.mod_lt _ (by decide)
  have hV:verN (pn:Int) msg (en:Int) (sn:Int)=decide (((en:Nat):Int)=(chalN r pn msg:Nat)):=by
   rw [verN,hbad,ZB,Qq,Qq,Qq,hr]
  rw [hr] at c1
  rw [hV,show decide (((en:Nat):Int)=(chalN r pn msg:Nat))=decide (((chalN r pn msg:Nat):Int)=(en:Nat)) from by by_cases h:((en:Nat):Int)=(chalN r pn msg:Nat)<;>simp [h,eq_comm]]
  have c2:=rc r pn msg ae ae hm
  clear hbad hV hr
  generalize chalN r pn msg=cn at *
  repeat' (first|apply ab|apply Qt|apply Qu|refine aj ?_|refine ad ?_|refine aF ?_|refine bD ?_|refine aL fun _=>?_|refine Qy ?_|apply Qw|(refine ao (hc:=hrg) (hX:=fun _ _=>trivial) ?_)|fail)
  (apply bI;kernel_rfl)
  all_goals refine aa 0 ?_<;>refine aa 1 ?_<;>refine aa 3 ?_<;>refine aa 4 ?_<;>refine aa 6 ?_<;>refine aa 7 ?_<;>(refine ag 2 ?_;(refine ao (hc:=c1) (hX:=fun _ _=>trivial) ?_);apply ab;refine ai ?_)<;>(refine ag 5 ?_;(refine ao (hc:=c2) (hX:=fun _ _=>trivial) ?_);apply ab;refine ai ?_)<;>refine aa 8 ?_<;>refine aa 9 ?_<;>(refine aw ?_)
  all_goals
   repeat' (first|apply ar|fail)
   exact al (ap rfl rfl) rfl
end Rf4
end Go.Proofs.YtcdilibijnboeaaGreatDoor
namespace Go.Proofs.YtcdilibijnboeaaGreatDoor
open Go Go.Proofs Sy
theorem qT (a:ActD):sameZ a=actZ a:=by
 rw [sameZ,actZ]
 simp only [ActD.zero,ZE]
 cases decide ((a.to.n:Int)=0)<;>cases decide ((a.wraps.n:Int)=0)<;>(simp [Bool.and_comm,Bool.and_left_comm,Bool.and_assoc];try rfl)
set_option maxRecDepth 20000 in
set_option maxHeartbeats 8000000 in
theorem q9 (d:DecD):Pu Tryz.prog 167 #[d.v,DecD.zero.v] (fun _=>True) (.bool (decZ d)):=by
 refine ay (args:=[_,_]) _ Tryz.func167 rfl Tryz.ntmps167 rfl fun av bor w0=>?_
 repeat' (first|apply ab|apply Qt|apply Qu|refine ad ?_|refine aB ?_|refine aA ?_|refine dF ?_|refine aY ?_|refine aL fun _=>?_|apply Qw|apply Qv|apply ar|(refine aH (ht:=?_) (hf:=?_);all_goals (intro hx_;skip)))
 · refine al (ap rfl rfl) ?_
   have h0:DecD.zero.to.n=0:=rfl
   rw [h0] at hx_
   simp_all [decZ]
 rename_i b1 b2
 have n1:d.to.n=0:=by
  have h0:DecD.zero.to.n=0:=rfl
  rw [h0] at hx_
  simpa using hx_
 refine aU (ι:=Unit) (fun _=>⟨[(2,.pointer (some ⟨b1,0,none⟩)),(3,.pointer (some ⟨b2,0,none⟩)),(5,.int .i64 0)],[cel b2 55 DecD.zero.cells,cel b1 55 d.cells],fun _=>True⟩) (fun _=>0) () (ax ⟨rfl,rfl,rfl,trivial⟩ (aE _) fun _ h=>h) fun _=>?_
 repeat' (first|apply ab|apply Qt|apply Qu|refine aj ?_|refine ad ?_|refine aB ?_|refine aA ?_|refine aD ?_|refine aG ?_|refine bP ?_|refine bj ?_|refine cI ?_|refine aY ?_|refine aJ ?_|apply Qw|apply Qv|apply ar|apply aQ|(refine jg (a:=d.e) (b:=d.s) (c:=0) (e:=0) ?_)|(refine aW ?_)|((fail_if_success (refine aZ ?_));refine aR (ht:=?_) (hf:=?_);all_goals (intro hx_;first|have:=aP hx_|have:=aT hx_|skip))|(refine aH (ht:=?_) (hf:=?_);all_goals (intro hx_;first|have:=aP hx_|have:=aT hx_)))
 · exact absurd this (by rw [n1];decide)
 all_goals (
  refine al (ap rfl rfl) ?_
  have q1:decide ((d.to.n:Int)=0)=true:=by rw [n1];rfl
  rw [decZ,q1]
  clear q1 n1
  first
   | rfl
   | (simp_all only [ZD,ZG,ZH,ZQ,ZO,ZE];done)
   | (simp_all;done)
   | skip)
 all_goals simp_all [DecD.zero]
theorem vK:actZ ActD.zero=true:=by decide +kernel
theorem ow:claimEq ClaimD.zero ClaimD.zero=true:=by decide +kernel
theorem my:ballotEq BallotD.zero BallotD.zero=true:=by decide +kernel
theorem vy:decZ DecD.zero=true:=by decide +kernel
set_option maxRecDepth 20000 in
set_option maxHeartbeats 16000000 in
theorem iF (i:ItemD) (hs:i.Str):Pu Tryz.prog 104 #[i.v] (fun w=>i.at_ w) (.bool (rightIt i)):=by
 refine ay (args:=[_]) _ Tryz.func104 rfl Tryz.ntmps104 rfl fun av bor w0=>?_
 have c1:=qZ i.act
 rw [qT] at c1
 have c2:=jJ i.act hs.act
 have c3:=q9 i.dec
 have c4:=ms i.claim hs.claim
 have c5:=pH i.ballot hs.ballot
 have c6:=mr i.dec hs.dec
 by_cases h0:i.kind=0
 · have e:rightIt i=(rightB i.act&&(claimEq i.claim ClaimD.zero&&(ballotEq i.ballot BallotD.zero&&decZ i.dec))):=by simp [rightIt,rightK2,restI,sameIZ,h0,vK]
   rw [e]
   repeat' (first|refine bm (hab:=by omega) ?_|apply ab|apply Qt|apply Qu|refine aj ?_|refine ad ?_|refine aB ?_|refine aA ?_|refine aD ?_|refine aG ?_|refine aJ ?_|refine aL fun _=>?_|refine Qx ?_|apply Qv|apply ar|(refine ao (hc:=c1) (hX:=fun _ _=>trivial) ?_)|(refine ao (hc:=c2) (hX:=fun w h=>h.1) ?_)|(refine ao (hc:=c3) (hX:=fun _ _=>trivial) ?_)|(refine eM (a:=i.claim) (b:=ClaimD.zero) ?_)|(refine eu (a:=i.ballot) (b:=BallotD.zero) ?_)|(refine br (cs:=ActD.zero.cells) (hf:=by rfl) ?_)|(refine br (cs:=ClaimD.zero.cells) (hf:=by rfl) ?_)|(refine br (cs:=BallotD.zero.cells) (hf:=by rfl) ?_)|(refine br (cs:=DecD.zero.cells) (hf:=by rfl) ?_)|(refine aW (vs:=i.act.cells) (hv:=rfl) ?_)|(refine aW (vs:=i.claim.cells) (hv:=rfl) ?_)|(refine aW (vs:=i.ballot.cells) (hv:=rfl) ?_)|(refine aW (vs:=i.dec.cells) (hv:=rfl) ?_)|((fail_if_success (refine aZ ?_));refine aR (ht:=?_) (hf:=?_);all_goals (intro hx_;skip))|fail)
   all_goals first
    | exact al (ap rfl rfl) rfl
    | (refine al (ap rfl rfl) ?_;simp_all;done)
 by_cases h1:i.kind=1
 · have e:rightIt i=(claimR i.claim&&(actZ i.act&&(ballotEq i.ballot BallotD.zero&&decZ i.dec))):=by simp [rightIt,rightK2,restI,sameIZ,h1,ow]
   rw [e]
   repeat' (first|refine bm (hab:=by omega) ?_|refine bt (hab:=by omega) ?_|apply ab|apply Qt|apply Qu|refine aj ?_|refine ad ?_|refine aB ?_|refine aA ?_|refine aD ?_|refine aG ?_|refine aJ ?_|refine aL fun _=>?_|refine Qx ?_|refine Qy ?_|apply Qv|apply ar|(refine ao (hc:=c1) (hX:=fun _ _=>trivial) ?_)|(refine ao (hc:=c3) (hX:=fun _ _=>trivial) ?_)|(refine ao (hc:=c4) (hX:=fun _ _=>trivial) ?_)|(refine eM (a:=i.claim) (b:=ClaimD.zero) ?_)|(refine eu (a:=i.ballot) (b:=BallotD.zero) ?_)|(refine br (cs:=ActD.zero.cells) (hf:=by rfl) ?_)|(refine br (cs:=ClaimD.zero.cells) (hf:=by rfl) ?_)|(refine br (cs:=BallotD.zero.cells) (hf:=by rfl) ?_)|(refine br (cs:=DecD.zero.cells) (hf:=by rfl) ?_)|(refine aW (vs:=i.act.cells) (hv:=rfl) ?_)|(refine aW (vs:=i.claim.cells) (hv:=rfl) ?_)|(refine aW (vs:=i.ballot.cells) (hv:=rfl) ?_)|(refine aW (vs:=i.dec.cells) (hv:=rfl) ?_)|((fail_if_success (refine aZ ?_));refine aR (ht:=?_) (hf:=?_);all_goals (intro hx_;skip))|fail)
   all_goals first
    | exact al (ap rfl rfl) rfl
    | (refine al (ap rfl rfl) ?_;simp_all;done)
 by_cases h2:i.kind=2
 · have e:rightIt i=(ballotR i.ballot&&(actZ i.act&&(claimEq i.claim ClaimD.zero&&decZ i.dec))):=by simp [rightIt,rightK2,restI,sameIZ,h2,my]
   rw [e]
   repeat' (first|refine bm (hab:=by omega) ?_|refine bt (hab:=by omega) ?_|apply ab|apply Qt|apply Qu|refine aj ?_|refine ad ?_|refine aB ?_|refine aA ?_|refine aD ?_|refine aG ?_|refine aJ ?_|refine aL fun _=>?_|refine Qx ?_|refine Qy ?_|apply Qv|apply ar|(refine ao (hc:=c1) (hX:=fun _ _=>trivial) ?_)|(refine ao (hc:=c3) (hX:=fun _ _=>trivial) ?_)|(refine ao (hc:=c5) (hX:=fun _ _=>trivial) ?_)|(refine eM (a:=i.claim) (b:=ClaimD.zero) ?_)|(refine eu (a:=i.ballot) (b:=BallotD.zero) ?_)|(refine br (cs:=ActD.zero.cells) (hf:=by rfl) ?_)|(refine br (cs:=ClaimD.zero.cells) (hf:=by rfl) ?_)|(refine br (cs:=BallotD.zero.cells) (hf:=by rfl) ?_)|(refine br (cs:=DecD.zero.cells) (hf:=by rfl) ?_)|(refine aW (vs:=i.act.cells) (hv:=rfl) ?_)|(refine aW (vs:=i.claim.cells) (hv:=rfl) ?_)|(refine aW (vs:=i.ballot.cells) (hv:=rfl) ?_)|(refine aW (vs:=i.dec.cells) (hv:=rfl) ?_)|((fail_if_success (refine aZ ?_));refine aR (ht:=?_) (hf:=?_);all_goals (intro hx_;skip))|fail)
   all_goals first
    | exact al (ap rfl rfl) rfl
    | (refine al (ap rfl rfl) ?_;simp_all;done)
 by_cases h3:i.kind=3
 · have e:rightIt i=(decR i.dec&&(actZ i.act&&(claimEq i.claim ClaimD.zero&&ballotEq i.ballot BallotD.zero))):=by simp [rightIt,rightK2,restI,sameIZ,h3,vy]
   rw [e]
   repeat' (first|refine bm (hab:=by omega) ?_|refine bt (hab:=by omega) ?_|apply ab|apply Qt|apply Qu|refine aj ?_|refine ad ?_|refine aB ?_|refine aA ?_|refine aD ?_|refine aG ?_|refine aJ ?_|refine aL fun _=>?_|refine Qx ?_|refine Qy ?_|apply Qv|apply ar|(refine ao (hc:=c1) (hX:=fun _ _=>trivial) ?_)|(refine ao (hc:=c3) (hX:=fun _ _=>trivial) ?_)|(refine ao (hc:=c6) (hX:=fun w h=>h.2) ?_)|(refine eM (a:=i.claim) (b:=ClaimD.zero) ?_)|(refine eu (a:=i.ballot) (b:=BallotD.zero) ?_)|(refine br (cs:=ActD.zero.cells) (hf:=by rfl) ?_)|(refine br (cs:=ClaimD.zero.cells) (hf:=by rfl) ?_)|(refine br (cs:=BallotD.zero.cells) (hf:=by rfl) ?_)|(refine br (cs:=DecD.zero.cells) (hf:=by rfl) ?_)|(refine aW (vs:=i.act.cells) (hv:=rfl) ?_)|(refine aW (vs:=i.claim.cells) (hv:=rfl) ?_)|(refine aW (vs:=i.ballot.cells) (hv:=rfl) ?_)|(refine aW (vs:=i.dec.cells) (hv:=rfl) ?_)|((fail_if_success (refine aZ ?_));refine aR (ht:=?_) (hf:=?_);all_goals (intro hx_;skip))|fail)
   all_goals first
    | exact al (ap rfl rfl) rfl
    | (refine al (ap rfl rfl) ?_;simp_all;done)
 have e:rightIt i=false:=by simp [rightIt,rightK2,h0,h1,h2,h3]
 rw [e]
 repeat' (first|refine bt (hab:=by omega) ?_|apply ab|apply Qt|apply Qu|refine ad ?_|refine aB ?_|refine aA ?_|refine aL fun _=>?_|refine Qy ?_|apply Qw|apply Qv|apply ar|(refine ao (hc:=c1) (hX:=fun _ _=>trivial) ?_)|(refine ao (hc:=c3) (hX:=fun _ _=>trivial) ?_)|(refine eM (a:=i.claim) (b:=ClaimD.zero) ?_)|(refine eu (a:=i.ballot) (b:=BallotD.zero) ?_)|(refine br (cs:=ActD.zero.cells) (hf:=by rfl) ?_)|(refine br (cs:=ClaimD.zero.cells) (hf:=by rfl) ?_)|(refine br (cs:=BallotD.zero.cells) (hf:=by rfl) ?_)|(refine br (cs:=DecD.zero.cells) (hf:=by rfl) ?_)|(refine aW (vs:=i.act.cells) (hv:=rfl) ?_)|(refine aW (vs:=i.claim.cells) (hv:=rfl) ?_)|(refine aW (vs:=i.ballot.cells) (hv:=rfl) ?_)|(refine aW (vs:=i.dec.cells) (hv:=rfl) ?_)|fail)
 all_goals first
  | exact al (ap rfl rfl) rfl
  | (refine al (ap rfl rfl) ?_;simp_all;done)
set_option maxRecDepth 20000 in
set_option maxHeartbeats 16000000 in
theorem nY (i:ItemD) (hs:i.Str) (hdn:i.dec.to.n=i.dec.toL.length):Pu Tryz.prog 108 #[i.v] (fun w=>i.at_ w) (.string (bytesIt i)):=by
 have hr:=hs.rng
 have c1:=iF i hs
 have hsz:=@gL i hr hdn
 have hnk:=aO i.kind
 cases hB:rightIt i with
 | false =>
  rw [hB] at c1
  rw [bytesIt,hB]
  refine ay (args:=[_]) _ Tryz.func108 rfl Tryz.ntmps108 rfl fun av bor w0=>?_
  repeat' (first|apply ab|apply Qt|apply Qu|refine aj ?_|refine ad ?_|refine aF ?_|refine bD ?_|refine aL fun _=>?_|refine Qx ?_|apply ar|(refine ao (hc:=c1) (hX:=fun w h=>h) ?_)|fail)
  exact al (ap rfl rfl) rfl
 | true =>
 rw [hB] at c1
 have hsz:=hsz hB
 rw [bytesIt,hB,ZC]
 refine ay (args:=[_]) _ Tryz.func108 rfl Tryz.ntmps108 rfl fun av bor w0=>?_
 rcases dH hB with ⟨hk,hR⟩|⟨hk,hR⟩|⟨hk,hR⟩|⟨hk,hR⟩
 · have c2:=ls i.act hs.act (dZ hr) ⟨hr.ints.2.2.2.2.2.2.2.1,hr.ints.2.2.2.2.2.2.2.2⟩
   have c3:=bz i.kind ae
   have hb:bodyIt i=actBytes i.act:=by rw [bodyIt,hk];rfl
   rw [hb] at hsz ⊢
   repeat' (first|refine bm (hab:=by omega) ?_|apply ab|apply Qt|apply Qu|refine aj ?_|refine ad ?_|refine aB ?_|refine aA ?_|refine aF ?_|refine bD ?_|refine aL fun _=>?_|refine Qx ?_|refine Qy ?_|apply Qw|apply Qv|(refine ao (hc:=c1) (hX:=fun w h=>h) ?_)|(refine ao (hc:=c3) (hX:=fun _ _=>trivial) ?_)|(refine ao (hc:=c2) (hX:=fun w h=>h.1) ?_)|(refine aW (vs:=i.act.cells) (hv:=rfl) ?_)|fail)
   refine am (bE rfl rfl ae) rfl aC rfl ?_
   repeat' (first|apply ab|refine ad ?_|apply ar|fail)
   all_goals exact al (ap rfl rfl) rfl
 · obtain ⟨hl,hm⟩:=gV hR
   have c3:=bz i.kind ae
   have e1:=fB hm
   have e2:=dJ i.claim.e i.claim.s
   have hb:bodyIt i=coreCl i.claim++numsV [i.claim.e,i.claim.s]:=by rw [bodyIt,hk];rfl
   rw [hb]
   repeat' (first|refine bm (hab:=by omega) ?_|refine bt (hab:=by omega) ?_|apply ab|apply Qt|apply Qu|refine aj ?_|refine ad ?_|refine aB ?_|refine aA ?_|refine aF ?_|refine bD ?_|refine aL fun _=>?_|refine Qx ?_|refine Qy ?_|apply Qw|apply Qv|(refine ao (hc:=c1) (hX:=fun w h=>h) ?_)|(refine ao (hc:=c3) (hX:=fun _ _=>trivial) ?_)|fail)
   (apply bI;kernel_rfl)
   all_goals refine aa 0 ?_<;>refine aa 1 ?_<;>(refine aa 2 (hy:=by (apply cH (vs:=i.claim.cells);rfl;exact .head _;rfl;rfl)) ?_)<;>refine aa 5 ?_<;>refine aa 6 ?_<;>(refine aa 7 (hy:=by (apply cH (vs:=[.int .i64 i.claim.e,.int .i64 i.claim.s]);rfl;exact .head _;rfl;rfl)) ?_)<;>(refine ag 3 ?_;(refine ao (hc:=nW _ hl hm) ?_);apply ab;refine ai ?_)<;>(refine aa 4 (hy:=by (apply bE;rfl;rfl;(try simp only [Zl]);omega)) ?_)<;>(refine ag 8 ?_;(refine ao (hc:=g8 _ _ hl.e hl.s) ?_);apply ab;refine ai ?_)<;>(refine aa 9 (hy:=by (apply bE;rfl;rfl;(try simp only [Zl]);omega)) ?_)<;>refine aa 10 ?_<;>(refine aw ?_)
   all_goals
    repeat' (first|apply ar|fail)
    refine al (ap rfl rfl) ?_
    simp only [ZV]
 · obtain ⟨hl,hm⟩:=ft hR
   have c3:=bz i.kind ae
   have e1:=eA hm
   have e2:=dJ i.ballot.e i.ballot.s
   have hb:bodyIt i=coreBa i.ballot++numsV [i.ballot.e,i.ballot.s]:=by rw [bodyIt,hk];rfl
   rw [hb]
   repeat' (first|refine bm (hab:=by omega) ?_|refine bt (hab:=by omega) ?_|apply ab|apply Qt|apply Qu|refine aj ?_|refine ad ?_|refine aB ?_|refine aA ?_|refine aF ?_|refine bD ?_|refine aL fun _=>?_|refine Qx ?_|refine Qy ?_|apply Qw|apply Qv|(refine ao (hc:=c1) (hX:=fun w h=>h) ?_)|(refine ao (hc:=c3) (hX:=fun _ _=>trivial) ?_)|fail)
   (apply bI;kernel_rfl)
   all_goals refine aa 0 ?_<;>refine aa 1 ?_<;>(refine aa 2 (hy:=by (apply cH (vs:=i.ballot.cells);rfl;exact .head _;rfl;rfl)) ?_)<;>refine aa 5 ?_<;>refine aa 6 ?_<;>(refine aa 7 (hy:=by (apply cH (vs:=[.int .i64 i.ballot.e,.int .i64 i.ballot.s]);rfl;exact .head _;rfl;rfl)) ?_)<;>(refine ag 3 ?_;(refine ao (hc:=iJ _ hl hm) ?_);apply ab;refine ai ?_)<;>(refine aa 4 (hy:=by (apply bE;rfl;rfl;(try simp only [Zl]);omega)) ?_)<;>(refine ag 8 ?_;(refine ao (hc:=g8 _ _ hl.e hl.s) ?_);apply ab;refine ai ?_)<;>(refine aa 9 (hy:=by (apply bE;rfl;rfl;(try simp only [Zl]);omega)) ?_)<;>refine aa 10 ?_<;>(refine aw ?_)
   all_goals
    repeat' (first|apply ar|fail)
    refine al (ap rfl rfl) ?_
    simp only [ZV]
 · obtain ⟨hl,hm⟩:=iT hdn hR
   have c3:=bz i.kind ae
   have e1:=ez hm
   have e2:=dJ i.dec.e i.dec.s
   have c4:=iI i.dec hl hm
   have hb:bodyIt i=coreDe i.dec++numsV [i.dec.e,i.dec.s]:=by rw [bodyIt,hk];rfl
   rw [hb]
   repeat' (first|refine bt (hab:=by omega) ?_|apply ab|apply Qt|apply Qu|refine aj ?_|refine ad ?_|refine aB ?_|refine aA ?_|refine aF ?_|refine bD ?_|refine aL fun _=>?_|refine Qy ?_|apply Qw|apply Qv|(refine ao (hc:=c1) (hX:=fun w h=>h) ?_)|(refine ao (hc:=c3) (hX:=fun _ _=>trivial) ?_)|fail)
   (apply bI;kernel_rfl)
   all_goals refine aa 0 ?_<;>refine aa 1 ?_<;>(refine aa 2 (hy:=by (apply cH (vs:=i.dec.cells);rfl;exact .head _;rfl;rfl)) ?_)<;>refine aa 5 ?_<;>refine aa 6 ?_<;>(refine aa 7 (hy:=by (apply cH (vs:=[.int .i64 i.dec.e,.int .i64 i.dec.s]);rfl;exact .head _;rfl;rfl)) ?_)<;>(refine ag 3 ?_;(refine ao (hc:=c4) (hX:=fun w h=>h.2) ?_);apply ab;refine ai ?_)<;>(refine aa 4 (hy:=by (apply bE;rfl;rfl;(try simp only [Zl]);omega)) ?_)<;>(refine ag 8 ?_;(refine ao (hc:=g8 _ _ hl.e hl.s) ?_);apply ab;refine ai ?_)<;>(refine aa 9 (hy:=by (apply bE;rfl;rfl;(try simp only [Zl]);omega)) ?_)<;>refine aa 10 ?_<;>(refine aw ?_)
   all_goals
    repeat' (first|apply ar|fail)
    refine al (ap rfl rfl) ?_
    simp only [ZV]
theorem gX (i:ItemD) (hs:i.Str) (hdn:i.dec.to.n=i.dec.toL.length):Pu Tryz.prog 65 #[i.v] (fun w=>i.at_ w) (.string (digIt i)):=by
 have c1:=nY i hs hdn
 have hsz:=@iV i hs.rng hdn
 have c2:=mQ (bytesIt i) ae
 rw [digIt]
 cases hB:seqB (bytesIt i) ⟨#[]⟩ with
 | true =>
  refine ay (args:=[_]) _ Tryz.func65 rfl Tryz.ntmps65 rfl fun av bor w0=>?_
  repeat' (first|apply ab|apply Qt|apply Qu|refine aj ?_|refine ad ?_|refine aF ?_|refine cI ?_|refine aL fun _=>?_|refine Qx ?_|apply ar|(refine ao (hc:=c1) (hX:=fun w h=>h) ?_)|fail)
  all_goals first
   | (rw [hB] at hx_;exact absurd hx_ (by decide))
   | (refine al (ap rfl rfl) ?_;simp only [ZC,ZB];done)
 | false =>
  refine ay (args:=[_]) _ Tryz.func65 rfl Tryz.ntmps65 rfl fun av bor w0=>?_
  repeat' (first|apply ab|apply Qt|apply Qu|refine aj ?_|refine ad ?_|refine aF ?_|refine cI ?_|refine aL fun _=>?_|refine Qy ?_|apply Qw|apply ar|(refine ao (hc:=c1) (hX:=fun w h=>h) ?_)|(refine ao (hc:=c2) (hX:=fun _ _=>trivial) ?_)|fail)
  all_goals first
   | (rw [hB] at hx_;exact absurd hx_ (by decide))
   | (refine al (ap rfl rfl) ?_;simp only [ZC,ZB];done)
theorem j3 (x:BallotD) (hl:x.Lt) (hs:x.Sm):Pu Tryz.prog 106 #[x.v] (fun _=>True) (.string (msgB x)):=by
 refine ay (args:=[_]) _ Tryz.func106 rfl Tryz.ntmps106 rfl fun av bor w0=>?_
 have c1:=bX nameB (by decide)
 have c2:=iJ x hl hs
 have h1:=eA hs
 have h2:=aX nameB
 have h3:nameB.size≤20:=by decide
 have e:msgB x=textV nameB++coreBa x:=by rw [msgB,di,dD,ByteArray.append_empty]
 rw [e]
 repeat' (first|apply ab|apply Qt|apply Qu|refine ad ?_|refine aL fun _=>?_|fail)
 (apply bI;kernel_rfl)
 all_goals refine aa 1 ?_<;>(refine ag 0 ?_;(refine ao (hc:=c1) (hX:=fun _ _=>trivial) ?_);apply ab;refine ai ?_)<;>(refine ag 2 ?_;(refine ao (hc:=c2) (hX:=fun _ _=>trivial) ?_);apply ab;refine ai ?_)<;>(refine aa 3 (hy:=by (apply bE;rfl;rfl;(try simp only [Zl]);omega)) ?_)<;>refine aa 4 ?_<;>(refine aw ?_)
 all_goals
  repeat' (first|apply ar|fail)
  exact al (ap rfl rfl) rfl
theorem iG (x:DecD) (hl:x.Lt) (hs:x.Sm):Pu Tryz.prog 107 #[x.v] (fun w=>x.at_ w) (.string (msgD x)):=by
 refine ay (args:=[_]) _ Tryz.func107 rfl Tryz.ntmps107 rfl fun av bor w0=>?_
 have c1:=bX nameD (by decide)
 have c2:=iI x hl hs
 have h1:=ez hs
 have h2:=aX nameD
 have h3:nameD.size≤20:=by decide
 have e:msgD x=textV nameD++coreDe x:=by rw [msgD,di,dD,ByteArray.append_empty]
 rw [e]
 repeat' (first|apply ab|apply Qt|apply Qu|refine ad ?_|refine aL fun _=>?_|fail)
 (apply bI;kernel_rfl)
 all_goals refine aa 1 ?_<;>(refine ag 0 ?_;(refine ao (hc:=c1) (hX:=fun _ _=>trivial) ?_);apply ab;refine ai ?_)<;>(refine ag 2 ?_;(refine ao (hc:=c2) (hX:=fun w h=>h) ?_);apply ab;refine ai ?_)<;>(refine aa 3 (hy:=by (apply bE;rfl;rfl;(try simp only [Zl]);omega)) ?_)<;>refine aa 4 ?_<;>(refine aw ?_)
 all_goals
  repeat' (first|apply ar|fail)
  exact al (ap rfl rfl) rfl
set_option maxRecDepth 20000 in
set_option maxHeartbeats 16000000 in
theorem nS (s:SlV) (L:List Int) (i:ItemD) (hs:i.Str) (hdn:i.dec.to.n=i.dec.toL.length):Pu Tryz.prog 64 #[s.v,i.v] (fun w=>Ints w s L∧i.at_ w) (.bool (signedIt L i)):=by
 refine ay (args:=[_,_]) _ Tryz.func64 rfl Tryz.ntmps64 rfl fun av bor w0=>?_
 refine bJ (p:=s.n=L.length∧s.n≤maxLen∧(0<L.length→s.p.isSome=true)) (fun w h=>⟨h.1.len_,Qp (RowsD.cap h.1) (RowsD.max h.1),h.1.some_⟩) fun ⟨hsn,hsm,hsp⟩=>?_
 simp only [maxLen] at hsm
 have hri:=iF i hs
 cases hrB:rightIt i with
 | false =>
  rw [hrB] at hri
  rw [show signedIt L i=false from by rw [signedIt,hrB];rfl]
  repeat' (first|apply ab|apply Qt|apply Qu|refine aj ?_|refine ad ?_|refine aF ?_|refine bD ?_|refine aL fun _=>?_|refine Qx ?_|apply ar|(refine ao (hc:=hri) (hX:=fun w h=>h.2) ?_)|fail)
  exact al (ap rfl rfl) rfl
 | true =>
 rw [hrB] at hri
 have hk:=dH hrB
 by_cases h2:i.kind=2
 · rcases hk with h|h|h|h
   all_goals first|(exfalso;omega)|skip
   have h1:=h.2
   clear h
   obtain ⟨hl,hz⟩:=ft h1
   have hlo:0≤i.ballot.server:=(cA (by have:=h1;simp only [ballotR,ZM] at this;exact this.1)).1
   have hms:=gE (nm:=nameB) (by decide) (Qp (eA hz) (by decide))
   have hsg:=fun p:Int=>Rf4.refVerify_pu p (msgB i.ballot) i.ballot.e i.ballot.s (Qp hms (by decide))
   have hcm:=j3 i.ballot hl hz
   by_cases hlt:i.ballot.server<(L.length:Nat)
   · have hsp':=hsp ae
     have e:signedIt L i=sgnB (L.getD i.ballot.server.toNat 0) i.ballot:=by rw [signedIt,hrB,ZA h2,ZC,ZA hlt,ZD,ZD]
     rw [e]
     have hget:∀ w,Ints w s L∧i.at_ w→CellAt w s.p i.ballot.server.toNat (.int .i64 (L.getD i.ballot.server.toNat 0)):=fun w h=>Ints.get h.1 ae
     have hsg1:Pu Tryz.prog 105 _ _ (.bool (sgnB (L.getD i.ballot.server.toNat 0) i.ballot)):=hsg (L.getD i.ballot.server.toNat 0)
     generalize L.getD i.ballot.server.toNat 0=pk at *
     repeat' (first|refine bm (hab:=by omega) ?_|apply ab|apply Qt|apply Qu|refine aj ?_|refine ad ?_|refine aB ?_|refine aA ?_|refine aF ?_|refine bD ?_|refine aL fun _=>?_|refine Qx ?_|refine Qy ?_|apply Qw|apply Qv|(refine ao (hc:=hri) (hX:=fun w h=>h.2) ?_)|fail)
     rename_i b3
     (refine aS [cel b3 57 i.cells] (fun w=>Ints w s L∧i.at_ w) ak ?_)
     all_goals refine aa 0 ?_<;>refine aa 1 ?_<;>refine aa 2 ?_<;>refine aa 3 ?_<;>refine aa 4 ?_<;>(refine aa 5 (hy:=by (apply bM true;rfl;rfl;exact ZA ae)) ?_)<;>refine aa 6 ?_<;>refine aa 7 ?_<;>refine aa 8 ?_<;>refine aa 9 ?_<;>refine aa 10 ?_<;>(refine aa 11 (hy:=by (apply aN (q:=i.ballot.server.toNat);rfl;rfl;omega;omega;assumption;omega)) ?_)<;>(refine aa 12 (hy:=by (apply dv (q:=i.ballot.server.toNat) (u:=.int .i64 pk);rfl;exact hget)) ?_)<;>refine aa 13 ?_<;>(refine aa 14 (hy:=by (apply cH (vs:=i.ballot.cells);rfl;exact .head _;rfl;rfl)) ?_)<;>refine aa 16 ?_<;>refine aa 17 ?_<;>(refine aa 18 (hy:=by (apply cH (vs:=SgD.cells ⟨i.ballot.e,i.ballot.s⟩);rfl;exact .head _;rfl;rfl)) ?_)<;>(refine ag 15 ?_;(refine ao (hc:=hcm) (hX:=fun _ _=>trivial) ?_);apply ab;refine ai ?_)<;>(refine ag 19 ?_;(refine ao (hc:=hsg1) (hX:=fun _ _=>trivial) ?_);apply ab;refine ai ?_)<;>refine aa 20 ?_<;>refine aa 21 ?_<;>(refine aw ?_)
     all_goals
      repeat' (first|apply ar|fail)
      exact al (ap rfl rfl) rfl
   · have e:signedIt L i=false:=by rw [signedIt,hrB,ZA h2,ZC,Zn hlt];rfl
     rw [e]
     repeat' (first|refine bm (hab:=by omega) ?_|apply ab|apply Qt|apply Qu|refine aj ?_|refine ad ?_|refine aB ?_|refine aA ?_|refine aF ?_|refine bD ?_|refine aL fun _=>?_|refine Qx ?_|refine Qy ?_|apply Qw|apply Qv|(refine ao (hc:=hri) (hX:=fun w h=>h.2) ?_)|fail)
     rename_i b3
     (refine aS [cel b3 57 i.cells] (fun w=>Ints w s L∧i.at_ w) ak ?_)
     all_goals refine aa 0 ?_<;>refine aa 1 ?_<;>refine aa 2 ?_<;>refine aa 3 ?_<;>refine aa 4 ?_<;>(refine aa 5 (hy:=by (apply bM false;rfl;rfl;exact Zn ae)) ?_)<;>refine aa 6 ?_<;>refine az 7 ?_<;>refine az 8 ?_<;>refine az 9 ?_<;>refine az 10 ?_<;>refine az 11 ?_<;>refine az 12 ?_<;>refine az 13 ?_<;>refine az 14 ?_<;>refine az 16 ?_<;>refine az 17 ?_<;>refine az 18 ?_<;>(refine ag 15 ?_;(refine aJ ?_);apply ab;refine ai ?_)<;>(refine ag 19 ?_;(refine aJ ?_);apply ab;refine ai ?_)<;>refine aa 20 ?_<;>refine aa 21 ?_<;>(refine aw ?_)
     all_goals
      repeat' (first|apply ar|fail)
      exact al (ap rfl rfl) rfl
 by_cases h3:i.kind=3
 · rcases hk with h|h|h|h
   all_goals first|(exfalso;omega)|skip
   have h1:=h.2
   clear h
   obtain ⟨hl,hz⟩:=iT hdn h1
   have hlo:0≤i.dec.server:=(cA (by have:=h1;simp only [decR,ZM] at this;exact this.1)).1
   have hms:=gE (nm:=nameD) (by decide) (Qp (ez hz) (by decide))
   have hsg:=fun p:Int=>Rf4.refVerify_pu p (msgD i.dec) i.dec.e i.dec.s (Qp hms (by decide))
   have hcm:=iG i.dec hl hz
   by_cases hlt:i.dec.server<(L.length:Nat)
   · have hsp':=hsp ae
     have e:signedIt L i=sgnD (L.getD i.dec.server.toNat 0) i.dec:=by rw [signedIt,hrB,Zn h2,ZB,ZA h3,ZC,ZA hlt,ZD,ZD]
     rw [e]
     have hget:∀ w,Ints w s L∧i.at_ w→CellAt w s.p i.dec.server.toNat (.int .i64 (L.getD i.dec.server.toNat 0)):=fun w h=>Ints.get h.1 ae
     have hsg1:Pu Tryz.prog 105 _ _ (.bool (sgnD (L.getD i.dec.server.toNat 0) i.dec)):=hsg (L.getD i.dec.server.toNat 0)
     generalize L.getD i.dec.server.toNat 0=pk at *
     repeat' (first|refine bm (hab:=by omega) ?_|refine bt (hab:=by omega) ?_|apply ab|apply Qt|apply Qu|refine aj ?_|refine ad ?_|refine aB ?_|refine aA ?_|refine aF ?_|refine bD ?_|refine aL fun _=>?_|refine Qx ?_|refine Qy ?_|apply Qw|apply Qv|(refine ao (hc:=hri) (hX:=fun w h=>h.2) ?_)|fail)
     rename_i b3
     (refine aS [cel b3 57 i.cells] (fun w=>Ints w s L∧i.at_ w) ak ?_)
     all_goals refine aa 0 ?_<;>refine aa 1 ?_<;>refine aa 2 ?_<;>refine aa 3 ?_<;>refine aa 4 ?_<;>(refine aa 5 (hy:=by (apply bM true;rfl;rfl;exact ZA ae)) ?_)<;>refine aa 6 ?_<;>refine aa 7 ?_<;>refine aa 8 ?_<;>refine aa 9 ?_<;>refine aa 10 ?_<;>(refine aa 11 (hy:=by (apply aN (q:=i.dec.server.toNat);rfl;rfl;omega;omega;assumption;omega)) ?_)<;>(refine aa 12 (hy:=by (apply dv (q:=i.dec.server.toNat) (u:=.int .i64 pk);rfl;exact hget)) ?_)<;>refine aa 13 ?_<;>(refine aa 14 (hy:=by (apply cH (vs:=i.dec.cells);rfl;exact .head _;rfl;rfl)) ?_)<;>refine aa 16 ?_<;>refine aa 17 ?_<;>(refine aa 18 (hy:=by (apply cH (vs:=SgD.cells ⟨i.dec.e,i.dec.s⟩);rfl;exact .head _;rfl;rfl)) ?_)<;>(refine ag 15 ?_;(refine ao (hc:=hcm) (hX:=fun w h=>h.2.2) ?_);apply ab;refine ai ?_)<;>(refine ag 19 ?_;(refine ao (hc:=hsg1) (hX:=fun _ _=>trivial) ?_);apply ab;refine ai ?_)<;>refine aa 20 ?_<;>refine aa 21 ?_<;>(refine aw ?_)
     all_goals
      repeat' (first|apply ar|fail)
      exact al (ap rfl rfl) rfl
   · have e:signedIt L i=false:=by rw [signedIt,hrB,Zn h2,ZB,ZA h3,ZC,Zn hlt];rfl
     rw [e]
     repeat' (first|refine bm (hab:=by omega) ?_|refine bt (hab:=by omega) ?_|apply ab|apply Qt|apply Qu|refine aj ?_|refine ad ?_|refine aB ?_|refine aA ?_|refine aF ?_|refine bD ?_|refine aL fun _=>?_|refine Qx ?_|refine Qy ?_|apply Qw|apply Qv|(refine ao (hc:=hri) (hX:=fun w h=>h.2) ?_)|fail)
     rename_i b3
     (refine aS [cel b3 57 i.cells] (fun w=>Ints w s L∧i.at_ w) ak ?_)
     all_goals refine aa 0 ?_<;>refine aa 1 ?_<;>refine aa 2 ?_<;>refine aa 3 ?_<;>refine aa 4 ?_<;>(refine aa 5 (hy:=by (apply bM false;rfl;rfl;exact Zn ae)) ?_)<;>refine aa 6 ?_<;>refine az 7 ?_<;>refine az 8 ?_<;>refine az 9 ?_<;>refine az 10 ?_<;>refine az 11 ?_<;>refine az 12 ?_<;>refine az 13 ?_<;>refine az 14 ?_<;>refine az 16 ?_<;>refine az 17 ?_<;>refine az 18 ?_<;>(refine ag 15 ?_;(refine aJ ?_);apply ab;refine ai ?_)<;>(refine ag 19 ?_;(refine aJ ?_);apply ab;refine ai ?_)<;>refine aa 20 ?_<;>refine aa 21 ?_<;>(refine aw ?_)
     all_goals
      repeat' (first|apply ar|fail)
      exact al (ap rfl rfl) rfl
 have e:signedIt L i=true:=by rw [signedIt,hrB,Zn h2,Zn h3];rfl
 rw [e]
 repeat' (first|refine bt (hab:=by omega) ?_|apply ab|apply Qt|apply Qu|refine aj ?_|refine ad ?_|refine aB ?_|refine aA ?_|refine aF ?_|refine bD ?_|refine aL fun _=>?_|refine Qy ?_|apply Qw|apply Qv|apply ar|(refine ao (hc:=hri) (hX:=fun w h=>h.2) ?_)|fail)
 exact al (ap rfl rfl) rfl
def badSv (L:List Int) (k:Nat):Bool:=decide (L.getD k 0<1)||decide (2305843009213693950<L.getD k 0)
def badKn (L:List Int) (I:List ItemD) (k:Nat):Bool:=!signedIt L (I.getD k ItemD.zero)||(decide (0<k)&&!ltB (digIt (I.getD (k-1) ItemD.zero)) (digIt (I.getD k ItemD.zero)))
def rightKn (L:List Int) (I:List ItemD):Bool:=decide (L.length≤20)&&(allB L.length (badSv L)&&allB I.length (badKn L I))
section
variable {P:Program} {N:Nat} {av bor:List Nat} {w0:World} {st:St} {ty:TypeId} {x y:Operand} {t t2:TypeId}
theorem yW {a b:ByteArray} (hx:ev st.env x=some (.string a)) (hy:ev st.env y=some (.string b)) (hab:ltB a b=false):Sy.Yields P N av bor w0 st (.binOp .geq t x y t2) ty (.bool true):=by
 have h:=qA (P:=P) (N:=N) (av:=av) (bor:=bor) (w0:=w0) (t:=t) (t2:=t2) (ty:=ty) hx hy
 rw [show Op.bytesLess a.toList b.toList=false from hab] at h
 exact h
end
set_option maxRecDepth 20000 in
set_option maxHeartbeats 16000000 in
theorem nU (ks ki:SlV) (L:List Int) (I:List ItemD) (hs:∀ i∈I,i.Str) (hdn:∀ i∈I,i.dec.to.n=i.dec.toL.length) :
  Pu Tryz.prog 31 #[.agg #[ks.v,ki.v]] (fun w=>Ints w ks L∧Items w ki I) (.bool (rightKn L I)):=by
 refine ay (args:=[_]) _ Tryz.func31 rfl Tryz.ntmps31 rfl fun av bor w0=>?_
 refine bJ (p:=(ks.n=L.length∧ks.n≤maxLen∧(0<L.length→ks.p.isSome=true))∧(ki.n=I.length∧ki.n≤maxLen∧(0<I.length→ki.p.isSome=true))) (fun w h=>⟨⟨h.1.len_,Qp (RowsD.cap h.1) (RowsD.max h.1),h.1.some_⟩,h.2.len_,h.2.max_,h.2.some_⟩) fun ⟨⟨hn,hm,hp⟩,hin,him,hip⟩=>?_
 simp only [maxLen] at hm him
 repeat' (first|apply ab|apply Qt|apply Qu|refine ad ?_|refine aB ?_|refine aA ?_|refine cG ?_|refine aY ?_|refine aL fun _=>?_|apply Qw|apply Qv|apply ar|(refine aH (ht:=?_) (hf:=?_);all_goals (intro hx_;first|have:=aP hx_|have:=aT hx_)))
 · refine al (ap rfl rfl) ?_
   rw [rightKn,Zn (by omega)]
   rfl
 rename_i b
 have h20:L.length≤20:=by omega
 rw [rightKn,ZA h20,ZD]
 refine aU (ι:=Upto L.length (badSv L)) (fun i=>⟨[(1,.pointer (some ⟨b,0,none⟩)),(3,.int .i64 (i.k:Nat))],[cel b 25 [ks.v,ki.v]],fun w=>Ints w ks L∧Items w ki I⟩) (fun i=>L.length-i.k) (Upto.zero _ _) (ax ⟨rfl,rfl,trivial⟩ (aE _) fun _ h=>h) fun i=>?_
 have hik:=i.hk
 by_cases hlt:i.k<L.length
 · have hks:=hp ae
   repeat' (first|apply ab|apply Qt|apply Qu|refine aj ?_|refine ad ?_|refine aB ?_|refine aA ?_|refine aD ?_|refine aG ?_|refine bj ?_|refine cG ?_|refine aY ?_|refine be (h:=?_)|refine bR ?_|refine Qx ?_|apply Qw|apply Qv|apply ar|apply aQ|(refine bx (q:=i.k) ?_)|(refine dP (q:=i.k) (u:=.int .i64 (L.getD i.k 0)) (hF:=fun w h=>Ints.get h.1 hlt) ?_)|((fail_if_success (refine aZ ?_));refine aR (ht:=?_) (hf:=?_);all_goals (intro hx_;first|have:=aP hx_|have:=aT hx_))|(refine aH (ht:=?_) (hf:=?_);all_goals (intro hx_;first|have:=aP hx_|have:=aT hx_)))
   all_goals first
    | (exfalso;omega)
    | (refine al (ap rfl rfl) ?_;rw [du (k:=i.k) hlt (by simp only [badSv, *,ZQ,ZO,ZC,ZB,ZE,ZD,ZH,ZG,ZK,ZI,ZP,ZJ,ZN,ZF]),ZG];done)
    | exact ⟨i.next hlt (by simp only [badSv, *,ZQ,ZO,ZC,ZB,ZE,ZD,ZH,ZG,ZK,ZI,ZP,ZJ,ZN,ZF]),(by show L.length-(i.k+1)<L.length-i.k;omega),ax ⟨rfl,rfl,trivial⟩ (aE _) fun _ h=>h⟩
 · rw [i.all hlt,ZD]
   repeat' (first|refine SrG.sy_lssF_g (hab:=by omega) (h:=?_)|apply ab|apply Qt|apply Qu|refine aj ?_|refine ad ?_|refine aB ?_|refine aA ?_|refine aY ?_|refine Qy ?_|apply Qv|apply aQ|fail)
   refine aU (ι:=Upto I.length (badKn L I)) (fun j=>⟨[(1,.pointer (some ⟨b,0,none⟩)),(4,.int .i64 (j.k:Nat))],[cel b 25 [ks.v,ki.v]],fun w=>Ints w ks L∧Items w ki I⟩) (fun j=>I.length-j.k) (Upto.zero _ _) (ax ⟨rfl,rfl,trivial⟩ (aE _) fun _ h=>h) fun j=>?_
   have hjk:=j.hk
   by_cases hlj:j.k<I.length
   · have hki:=hip ae
     obtain ⟨x,hx⟩:∃ x,I[j.k]?=some x:=⟨_,Zm hlj⟩
     have hxm:=List.mem_of_getElem? hx
     have hxD:I.getD j.k ItemD.zero=x:=by rw [ZL,hx];rfl
     have hsg:=nS ks L x (hs x hxm) (hdn x hxm)
     have hdx:=gX x (hs x hxm) (hdn x hxm)
     cases hsB:signedIt L x with
     | false =>
      rw [hsB] at hsg
      have hbad:badKn L I j.k=true:=by rw [badKn,hxD,hsB];rfl
      repeat' (first|refine SrG.sy_lssT_g (hab:=by omega) (h:=?_)|apply ab|apply Qt|apply Qu|refine aj ?_|refine aB ?_|refine aA ?_|refine aY ?_|refine Qx ?_|apply Qw|apply Qv|fail)
      (refine aS [cel b 25 [ks.v,ki.v]] (fun w=>Ints w ks L∧Items w ki I) ak ?_)
      all_goals refine aa 0 ?_<;>refine aa 1 ?_<;>refine aa 2 ?_<;>refine aa 3 ?_<;>refine aa 4 ?_<;>(refine aa 5 (hy:=by (apply aN (q:=j.k*49);rfl;rfl;omega;omega;assumption;omega)) ?_)<;>(refine aa 6 (hy:=by (apply cX (cs:=x.cells);rfl;exact (fun w h=>Items.get h.2 hx))) ?_)<;>(refine ag 7 ?_;(refine ao (hc:=hsg) (hX:=fun w h=>⟨h.1,h.2.2 x hxm⟩) ?_);apply ab;refine ai ?_)<;>refine aa 8 ?_<;>(refine aw ?_)
      all_goals
       repeat' (first|apply ab|apply Qt|apply Qu|refine ad ?_|refine Qx ?_|apply ar|fail)
       all_goals (refine al (ap rfl rfl) ?_;rw [du hlj hbad])
     | true =>
      rw [hsB] at hsg
      by_cases h0:0<j.k
      · obtain ⟨y,hy⟩:∃ y,I[j.k-1]?=some y:=⟨_,Zm ae⟩
        have hym:=List.mem_of_getElem? hy
        have hyD:I.getD (j.k-1) ItemD.zero=y:=by rw [ZL,hy];rfl
        have hdy:=gX y (hs y hym) (hdn y hym)
        have hbq:badKn L I j.k=!ltB (digIt y) (digIt x):=by rw [badKn,hxD,hyD,hsB,ZA h0];rfl
        generalize digIt x=dx at *
        generalize digIt y=dy at *
        cases hlB:ltB dy dx with
        | true =>
         have hok:badKn L I j.k=false:=by rw [hbq,hlB];rfl
         repeat' (first|refine SrG.sy_lssT_g (hab:=by omega) (h:=?_)|apply ab|apply Qt|apply Qu|refine aj ?_|refine aB ?_|refine aA ?_|refine aY ?_|refine Qx ?_|apply Qw|apply Qv|fail)
         (refine aS [cel b 25 [ks.v,ki.v]] (fun w=>Ints w ks L∧Items w ki I) ak ?_)
         all_goals refine aa 0 ?_<;>refine aa 1 ?_<;>refine aa 2 ?_<;>refine aa 3 ?_<;>refine aa 4 ?_<;>(refine aa 5 (hy:=by (apply aN (q:=j.k*49);rfl;rfl;omega;omega;assumption;omega)) ?_)<;>(refine aa 6 (hy:=by (apply cX (cs:=x.cells);rfl;exact (fun w h=>Items.get h.2 hx))) ?_)<;>(refine ag 7 ?_;(refine ao (hc:=hsg) (hX:=fun w h=>⟨h.1,h.2.2 x hxm⟩) ?_);apply ab;refine ai ?_)<;>refine aa 8 ?_<;>(refine aw ?_)
         all_goals
          repeat' (first|apply Qt|refine Qy ?_|apply Qw|fail)
          (refine aS [cel b 25 [ks.v,ki.v]] (fun w=>Ints w ks L∧Items w ki I) ak ?_)
          all_goals refine aa 0 ?_<;>(refine aa 1 (hy:=by (apply SrG.y_gtrT_g;rfl;rfl;omega)) ?_)<;>refine aa 2 ?_<;>refine aa 3 ?_<;>refine aa 4 ?_<;>refine aa 5 ?_<;>(refine aa 6 (hy:=by (apply Rf4.y_subM (q:=1);rfl;rfl;omega)) ?_)<;>(refine aa 7 (hy:=by (apply aN (q:=(j.k-1)*49);rfl;rfl;omega;omega;assumption;omega)) ?_)<;>(refine aa 8 (hy:=by (apply cX (cs:=y.cells);rfl;exact (fun w h=>Items.get h.2 hy))) ?_)<;>refine aa 10 ?_<;>refine aa 11 ?_<;>refine aa 12 ?_<;>(refine aa 13 (hy:=by (apply aN (q:=j.k*49);rfl;rfl;omega;omega;assumption;omega)) ?_)<;>(refine aa 14 (hy:=by (apply cX (cs:=x.cells);rfl;exact (fun w h=>Items.get h.2 hx))) ?_)<;>(refine ag 9 ?_;(refine ao (hc:=hdy) (hX:=fun w h=>h.2.2 y hym) ?_);apply ab;refine ai ?_)<;>(refine ag 15 ?_;(refine ao (hc:=hdx) (hX:=fun w h=>h.2.2 x hxm) ?_);apply ab;refine ai ?_)<;>(refine aa 16 (hy:=by (apply rW;rfl;rfl;exact hlB)) ?_)<;>refine aa 17 ?_<;>(refine aw ?_)
          all_goals
           repeat' (first|apply ab|apply Qu|refine aj ?_|refine ad ?_|refine be (h:=?_)|refine Qy ?_|apply Qw|fail)
           all_goals exact ⟨j.next hlj hok,(by show I.length-(j.k+1)<I.length-j.k;omega),ax ⟨rfl,rfl,trivial⟩ (aE _) fun _ h=>h⟩
        | false =>
         have hbad:badKn L I j.k=true:=by rw [hbq,hlB];rfl
         repeat' (first|refine SrG.sy_lssT_g (hab:=by omega) (h:=?_)|apply ab|apply Qt|apply Qu|refine aj ?_|refine aB ?_|refine aA ?_|refine aY ?_|refine Qx ?_|apply Qw|apply Qv|fail)
         (refine aS [cel b 25 [ks.v,ki.v]] (fun w=>Ints w ks L∧Items w ki I) ak ?_)
         all_goals refine aa 0 ?_<;>refine aa 1 ?_<;>refine aa 2 ?_<;>refine aa 3 ?_<;>refine aa 4 ?_<;>(refine aa 5 (hy:=by (apply aN (q:=j.k*49);rfl;rfl;omega;omega;assumption;omega)) ?_)<;>(refine aa 6 (hy:=by (apply cX (cs:=x.cells);rfl;exact (fun w h=>Items.get h.2 hx))) ?_)<;>(refine ag 7 ?_;(refine ao (hc:=hsg) (hX:=fun w h=>⟨h.1,h.2.2 x hxm⟩) ?_);apply ab;refine ai ?_)<;>refine aa 8 ?_<;>(refine aw ?_)
         all_goals
          repeat' (first|apply Qt|refine Qy ?_|apply Qw|fail)
          (refine aS [cel b 25 [ks.v,ki.v]] (fun w=>Ints w ks L∧Items w ki I) ak ?_)
          all_goals refine aa 0 ?_<;>(refine aa 1 (hy:=by (apply SrG.y_gtrT_g;rfl;rfl;omega)) ?_)<;>refine aa 2 ?_<;>refine aa 3 ?_<;>refine aa 4 ?_<;>refine aa 5 ?_<;>(refine aa 6 (hy:=by (apply Rf4.y_subM (q:=1);rfl;rfl;omega)) ?_)<;>(refine aa 7 (hy:=by (apply aN (q:=(j.k-1)*49);rfl;rfl;omega;omega;assumption;omega)) ?_)<;>(refine aa 8 (hy:=by (apply cX (cs:=y.cells);rfl;exact (fun w h=>Items.get h.2 hy))) ?_)<;>refine aa 10 ?_<;>refine aa 11 ?_<;>refine aa 12 ?_<;>(refine aa 13 (hy:=by (apply aN (q:=j.k*49);rfl;rfl;omega;omega;assumption;omega)) ?_)<;>(refine aa 14 (hy:=by (apply cX (cs:=x.cells);rfl;exact (fun w h=>Items.get h.2 hx))) ?_)<;>(refine ag 9 ?_;(refine ao (hc:=hdy) (hX:=fun w h=>h.2.2 y hym) ?_);apply ab;refine ai ?_)<;>(refine ag 15 ?_;(refine ao (hc:=hdx) (hX:=fun w h=>h.2.2 x hxm) ?_);apply ab;refine ai ?_)<;>(refine aa 16 (hy:=by (apply yW;rfl;rfl;exact hlB)) ?_)<;>refine aa 17 ?_<;>(refine aw ?_)
          all_goals
           repeat' (first|apply ab|apply Qt|apply Qu|refine ad ?_|refine Qx ?_|apply ar|fail)
           all_goals (refine al (ap rfl rfl) ?_;rw [du hlj hbad])
      · have hok:badKn L I j.k=false:=by rw [badKn,hxD,hsB,Zn h0];rfl
        repeat' (first|refine SrG.sy_lssT_g (hab:=by omega) (h:=?_)|apply ab|apply Qt|apply Qu|refine aj ?_|refine aB ?_|refine aA ?_|refine aY ?_|refine Qx ?_|apply Qw|apply Qv|fail)
        (refine aS [cel b 25 [ks.v,ki.v]] (fun w=>Ints w ks L∧Items w ki I) ak ?_)
        all_goals refine aa 0 ?_<;>refine aa 1 ?_<;>refine aa 2 ?_<;>refine aa 3 ?_<;>refine aa 4 ?_<;>(refine aa 5 (hy:=by (apply aN (q:=j.k*49);rfl;rfl;omega;omega;assumption;omega)) ?_)<;>(refine aa 6 (hy:=by (apply cX (cs:=x.cells);rfl;exact (fun w h=>Items.get h.2 hx))) ?_)<;>(refine ag 7 ?_;(refine ao (hc:=hsg) (hX:=fun w h=>⟨h.1,h.2.2 x hxm⟩) ?_);apply ab;refine ai ?_)<;>refine aa 8 ?_<;>(refine aw ?_)
        all_goals
         repeat' (first|apply Qt|refine Qy ?_|apply Qw|fail)
         (refine aS [cel b 25 [ks.v,ki.v]] (fun w=>Ints w ks L∧Items w ki I) ak ?_)
         all_goals refine aa 0 ?_<;>(refine aa 1 (hy:=by (apply SrG.y_gtrF_g;rfl;rfl;omega)) ?_)<;>refine aa 2 ?_<;>refine az 3 ?_<;>refine az 4 ?_<;>refine az 5 ?_<;>refine az 6 ?_<;>refine az 7 ?_<;>refine az 8 ?_<;>refine az 10 ?_<;>refine az 11 ?_<;>refine az 12 ?_<;>refine az 13 ?_<;>refine az 14 ?_<;>(refine ag 9 ?_;(refine aJ ?_);apply ab;refine ai ?_)<;>(refine ag 15 ?_;(refine aJ ?_);apply ab;refine ai ?_)<;>refine az 16 ?_<;>refine aa 17 ?_<;>(refine aw ?_)
         all_goals
          repeat' (first|apply ab|apply Qu|refine aj ?_|refine ad ?_|refine be (h:=?_)|refine Qy ?_|apply Qw|fail)
          all_goals exact ⟨j.next hlj hok,(by show I.length-(j.k+1)<I.length-j.k;omega),ax ⟨rfl,rfl,trivial⟩ (aE _) fun _ h=>h⟩
   · rw [j.all hlj]
     repeat' (first|refine SrG.sy_lssF_g (hab:=by omega) (h:=?_)|apply ab|apply Qt|apply Qu|refine aj ?_|refine ad ?_|refine aB ?_|refine aA ?_|refine aY ?_|refine Qy ?_|apply ar|apply aQ|fail)
     all_goals first
      | exact al (ap rfl rfl) rfl
theorem rP {l:List ByteArray} (h:∀ k (hk:k+1<l.length),ltB (l[k]'(by omega)) l[k+1]=true):Asc l:=by
 have key:∀ d i (hj:i+d+1<l.length),ltB (l[i]'(by omega)) l[i+d+1]=true:=by
  intro d
  induction d with
  | zero=>exact fun i hj=>h i hj
  | succ d ih =>
   intro i hj
   exact fT (ih i ae) (h (i+d+1) hj)
 refine List.pairwise_iff_getElem.2 fun i j hi hj hij=>?_
 obtain ⟨d,rfl⟩:∃ d,j=i+d+1:=⟨j-i-1,by omega⟩
 exact key d i hj
theorem gA {L:List Int} {I:List ItemD} (h:rightKn L I=true):∀ i∈I,signedIt L i=true:=fun i hi=>by
 rw [rightKn,ZM,ZM] at h
 obtain ⟨k,hk⟩:=List.mem_iff_getElem?.1 hi
 obtain ⟨hlt,e⟩:=List.getElem?_eq_some_iff.1 hk
 have h1:=jb h.2.2 hlt
 have e2:I.getD k ItemD.zero=i:=by rw [ZL,hk];rfl
 rw [badKn,e2,Bool.or_eq_false_iff,Bool.not_eq_false'] at h1
 exact h1.1
theorem pm {L:List Int} {I:List ItemD} (h:rightKn L I=true):Asc (I.map digIt):=by
 rw [rightKn,ZM,ZM] at h
 refine rP fun k hk=>?_
 rw [Z3] at hk
 have h1:=jb h.2.2 hk
 rw [badKn,Bool.or_eq_false_iff] at h1
 have h2:=h1.2
 rw [ZA ae,ZD,Bool.not_eq_false',ZL,ZL,Nat.add_sub_cancel,Zm hk,Zm (show k<I.length by omega)] at h2
 rw [List.getElem_map,List.getElem_map]
 exact h2
theorem Cg {L:List Int} {I:List ItemD} (h:rightKn L I=true) (hl:I.length≤100) (hr:∀ i∈I,i.act.Rng) (hs:∀ i∈I,i.act.Sm) (hd:∀ i∈I,i.dec.to.n=i.dec.toL.length):KnR L I where
 sv:=by
  rw [rightKn,ZM] at h
  exact aP h.1
 len:=hl
 rng:=hr
 sm:=hs
 dn:=hd
 right:=fun i hi=>by
  have h1:=gA h i hi
  rw [signedIt,ZM] at h1
  exact h1.1
 asc:=pm h
end Go.Proofs.YtcdilibijnboeaaGreatDoor
