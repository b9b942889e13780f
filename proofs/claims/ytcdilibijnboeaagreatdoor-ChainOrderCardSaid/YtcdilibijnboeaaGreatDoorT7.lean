/- Joined by program out of: Zh Zi Kc Si Zj Zv Ju Zw Za Zb Zc. -/
import Derived.Test.YtcdilibijnboeaaGreatDoorT6
import Derived.Shelf.Slices.CompactS
import Derived.Lib.RowBridge
import Derived.Shelf.SlIter.Nil
import Derived.Shelf.SlIterI.Nil
import Derived.Shelf.SortM.Plain
import Derived.Shelf.SortM.SortNone
import Derived.Shelf.Slices.CompactI
import Derived.Test.YtcdilibijnboeaaGreatDoorProg
set_option linter.unusedVariables false
set_option linter.unusedSimpArgs false
namespace Go.Proofs.YtcdilibijnboeaaGreatDoor
open Go Go.Proofs Sy
def fndOfB (dI:ItemD→ByteArray) (it:ItemD):FndB:=⟨0,dI it,it.ballot⟩
def selBB (au:ByteArray) (gn:Int) (rI:ItemD→Bool) (it:ItemD):Bool:=wantB au gn it&&rI it
def selFB (au:ByteArray) (gn:Int) (rI:ItemD→Bool) (dI:ItemD→ByteArray) (I:List ItemD):List FndB:=(I.filter (selBB au gn rI)).map (fndOfB dI)
def selB2 (au:ByteArray) (gn:Int) (rI:ItemD→Bool) (I:List ItemD):List BallotD:=(I.filter (selBB au gn rI)).map ItemD.ballot
theorem zO (au:ByteArray) (gn:Int) (rI:ItemD→Bool) (dI:ItemD→ByteArray) (I:List ItemD):(selFB au gn rI dI I).map FndB.a=selB2 au gn rI I:=by rw [selFB,selB2,Qr];rfl
structure PikIB (I:List ItemD) (au:ByteArray) (gn:Int) (rI:ItemD→Bool) (dI:ItemD→ByteArray) where
 k:Nat
 hk:k≤I.length
 A:Option Addr
 c:Nat
 n:Nat
 hn:n=(selFB au gn rI dI (I.take k)).length
 xs:List Value
 hxs:xs=((selFB au gn rI dI (I.take k)).map FndB.cells).flatten
structure ValIB (Q:List FndB) where
 k:Nat
 hk:k≤Q.length
 A:Option Addr
 c:Nat
 xs:List Value
 hxs:xs=((Q.take k).map fun f=>f.a.cells).flatten
def wantVB (bW bG:Nat):Value:=.func (.func 223) #[] #[.pointer (some ⟨bW,0,none⟩),.pointer (some ⟨bG,0,none⟩)]
set_option maxHeartbeats 16000000 in
theorem uY (ks ki:SlV) (I:List ItemD) (bW bG:Nat) (au:ByteArray) (gn:Int) (rI:ItemD→Bool) (dI:ItemD→ByteArray)
  (hR:∀ it∈I,Pu Tryz.prog 44 #[it.v] (fun w=>it.at_ w) (.bool (rI it)))
  (hD:∀ it∈I,Pu Tryz.prog 14 #[it.v] (fun w=>it.at_ w∧Glob w) (.string (dI it)))
  (hI:I.length≤1000) (hasc:SrB.Srt (selFB au gn rI dI I)) :
  Mk Tryz.prog 222 #[.agg #[ks.v,ki.v],wantVB bW bG] (fun w=>(Items w ki I∧(CelD bW [.string au] w∧CelD bG [.int .i64 gn] w))∧Glob w)
   (fun u X'=>∃ s:SlV,u=s.v∧∀ w,X' w→Ballots w s (selB2 au gn rI I)):=by
 refine cq (args:=[_,_]) _ Tryz.func222 rfl Tryz.ntmps222 rfl fun av bor w0=>?_
 refine bJ (p:=ki.n=I.length∧ki.n≤maxLen∧(0<I.length→ki.p.isSome=true)) (fun w h=>⟨h.1.1.len_,h.1.1.max_,h.1.1.some_⟩) fun ⟨hkn,hkm,hkp⟩=>?_
 simp only [maxLen] at hkm
 repeat' (first|apply ab|apply Qt|apply Qu|refine aj ?_|refine ad ?_|refine aB ?_|refine aA ?_|refine aY ?_|refine aL fun _=>?_|apply Qv|fail)
 rename_i b2
 refine cW 261 9 ?_
 refine aU (ι:=PikIB I au gn rI dI) (fun i=>⟨[(1,wantVB bW bG),(5,.slice i.A i.n i.c),(15,ki.v),(16,.int .i64 (ki.n:Nat)),(17,.int .i64 (i.k:Nat))],[orow 261 9 (.slice i.A i.n i.c) i.n i.xs],fun w=>(Items w ki I∧(CelD bW [.string au] w∧CelD bG [.int .i64 gn] w))∧Glob w⟩) (fun i=>I.length-i.k) ⟨0,Nat.zero_le _,none,0,0,rfl,[],rfl⟩ (ax ⟨rfl,rfl,rfl,rfl,rfl,trivial⟩ (.cons_cons _ (ZR _)) fun _ h=>h) fun i=>?_
 obtain ⟨k,hk,A,c,n,hn,xs,hxs⟩:=i
 simp only
 repeat' (first|apply ab|apply Qt|apply Qu|refine aj ?_|refine bj ?_|apply Qw|apply Qv|apply aQ|(refine aH (ht:=?_) (hf:=?_);all_goals (intro hx_;first|have:=aP hx_|have:=aT hx_)))
 · have hlt:k<I.length:=by omega
   have hkp':=hkp ae
   obtain ⟨it,hit⟩:∃ it,I[k]?=some it:=⟨_,Zm hlt⟩
   have him:=List.mem_of_getElem? hit
   have hnl:n≤1000:=by
    rw [hn,selFB,Z3]
    exact Qp (List.length_filter_le _ _) (by rw [List.length_take];omega)
   repeat' (first|apply ab|apply Qt|apply Qu|refine aj ?_|refine aF ?_|refine aM fun _=>?_|refine aK ?_|(refine bx (q:=k*49) ?_)|(refine cr (cs:=it.cells) (hF:=fun w h=>h.1.1.get hit) ?_)|fail)
   rename_i b7
   have hri:=hR it him
   have hdi:=hD it him
   have hwa:=v8 bW bG au gn it
   have htk:selFB au gn rI dI (I.take (k+1))=selFB au gn rI dI (I.take k)++(bif selBB au gn rI it then [fndOfB dI it] else []):=by
    rw [selFB,selFB,List.take_add_one,hit,List.filter_append,Qm,Option.toList_some]
    congr 1
    cases hb:selBB au gn rI it with
    | true=>simp [hb]
    | false=>simp [hb]
   cases hwt:wantB au gn it with
   | false =>
    rw [hwt] at hwa
    have hno:selFB au gn rI dI (I.take (k+1))=selFB au gn rI dI (I.take k):=by rw [htk,selBB,hwt];exact Z8 _
    refine eW (args:=[it.v]) (all:=[it.v,.pointer (some ⟨bW,0,none⟩),.pointer (some ⟨bG,0,none⟩)]) (first:=#[]) (caps:=#[.pointer (some ⟨bW,0,none⟩),.pointer (some ⟨bG,0,none⟩)]) (hx:=rfl) (ha:=rfl) (hall:=rfl) (hc:=hwa) (hX:=fun w h=>h.1.2) (h:=?_)
    repeat' (first|apply ab|apply Qt|apply Qu|refine aj ?_|refine ad ?_|refine aG ?_|refine bV ?_|refine be (h:=?_)|refine aJ ?_|refine aM fun _=>?_|refine aK ?_|refine Qy ?_|apply Qw|fail)
    exact ⟨(⟨k+1,hlt,A,c,n,by rw [hno];exact hn,xs,by rw [hno];exact hxs⟩:PikIB I au gn rI dI),(by show I.length-(k+1)<I.length-k;omega),ax ⟨rfl,rfl,rfl,rfl,rfl,trivial⟩ (.cons _ (.cons _ (aE _))) fun _ h=>h⟩
   | true =>
    rw [hwt] at hwa
    cases hrt:rI it with
    | false =>
     rw [hrt] at hri
     have hno:selFB au gn rI dI (I.take (k+1))=selFB au gn rI dI (I.take k):=by rw [htk,selBB,hwt,hrt];exact Z8 _
     refine eW (args:=[it.v]) (all:=[it.v,.pointer (some ⟨bW,0,none⟩),.pointer (some ⟨bG,0,none⟩)]) (first:=#[]) (caps:=#[.pointer (some ⟨bW,0,none⟩),.pointer (some ⟨bG,0,none⟩)]) (hx:=rfl) (ha:=rfl) (hall:=rfl) (hc:=hwa) (hX:=fun w h=>h.1.2) (h:=?_)
     repeat' (first|apply ab|apply Qt|apply Qu|refine aj ?_|refine ad ?_|refine aF ?_|refine aD ?_|refine bV ?_|refine be (h:=?_)|refine aM fun _=>?_|refine aK ?_|refine Qy ?_|apply Qw|(refine ao (hc:=hri) (hX:=fun w h=>h.1.1.2 it him) ?_)|fail)
     exact ⟨(⟨k+1,hlt,A,c,n,by rw [hno];exact hn,xs,by rw [hno];exact hxs⟩:PikIB I au gn rI dI),(by show I.length-(k+1)<I.length-k;omega),ax ⟨rfl,rfl,rfl,rfl,rfl,trivial⟩ (.cons _ (.cons _ (aE _))) fun _ h=>h⟩
    | true =>
     rw [hrt] at hri
     have hyes:selFB au gn rI dI (I.take (k+1))=selFB au gn rI dI (I.take k)++[fndOfB dI it]:=by rw [htk,selBB,hwt,hrt];rfl
     refine eW (args:=[it.v]) (all:=[it.v,.pointer (some ⟨bW,0,none⟩),.pointer (some ⟨bG,0,none⟩)]) (first:=#[]) (caps:=#[.pointer (some ⟨bW,0,none⟩),.pointer (some ⟨bG,0,none⟩)]) (hx:=rfl) (ha:=rfl) (hall:=rfl) (hc:=hwa) (hX:=fun w h=>h.1.2) (h:=?_)
     repeat' (first|apply ab|apply Qt|apply Qu|refine aj ?_|refine ad ?_|refine aF ?_|refine aD ?_|refine bV ?_|refine aM fun _=>?_|refine aK ?_|refine Qx ?_|(refine ao (hc:=hri) (hX:=fun w h=>h.1.1.2 it him) ?_)|fail)
     rename_i b8
     (refine aS [cel b8 53 it.ballot.cells,cel b7 57 it.cells] (fun w=>(Items w ki I∧(CelD bW [.string au] w∧CelD bG [.int .i64 gn] w))∧Glob w) ak ?_)
     all_goals refine aa 0 ?_<;>refine aa 1 ?_<;>refine aa 2 ?_<;>refine aa 4 ?_<;>(refine ag 3 ?_;(refine ao (hc:=hdi) (hX:=fun w h=>⟨h.1.1.2 it him,h.2⟩) ?_);apply ab;refine ai ?_)<;>(refine aa 5 (hy:=by (apply cj (cs:=(fndOfB dI it).cells);rfl;rfl)) ?_)<;>(refine ag 6 ?_;(refine bH (size:=9) (vs:=[.agg (fndOfB dI it).cells.toArray]) (css:=(fndOfB dI it).cells) (hsz:=by rfl) (hcs:=by rfl) fun _=>?_);apply ab;refine ai ?_)<;>(refine ag 7 ?_;(refine aV (size:=9) (news:=(fndOfB dI it).cells) (q:=1) rfl rfl rfl rfl (fun _=>At.there _ (At.there _ (At.there _ (At.here _)))) (fun w G=>bo G aI rfl rfl 1) ae (by simp only [maxLen];omega) rfl ?_ rfl ?_;(with_reducible rfl);intro A2 c2);apply ab;refine ai ?_)<;>refine aa 8 ?_<;>(refine aw ?_)
     all_goals
      repeat' (first|apply ab|apply Qu|refine aj ?_|refine be (h:=?_)|fail)
      exact ⟨(⟨k+1,hlt,A2,c2,n+1,by rw [hyes,ZX,←hn];rfl,xs++(fndOfB dI it).cells,by rw [hyes,hxs];simp⟩:PikIB I au gn rI dI),(by show I.length-(k+1)<I.length-k;omega),ax ⟨rfl,rfl,rfl,rfl,rfl,trivial⟩ (.cons _ (.cons _ (.cons _ (aE _)))) fun _ h=>h⟩
 have hkE:k=I.length:=by omega
 rw [hkE,List.take_length] at hn hxs
 obtain ⟨P,hP⟩:∃ P,selFB au gn rI dI I=P:=⟨_,rfl⟩
 rw [hP] at hn hxs
 have hPl:P.length≤I.length:=by rw [←hP,selFB,Z3];exact List.length_filter_le _ _
 subst hxs
 refine cw (pre:=[SrB.postR ⟨A,n,c⟩ P]) (fr:=[]) (first:=#[]) (caps:=#[]) (hc:=SrB.sortStable_ct ⟨A,n,c⟩ P hn (by show n≤1000000;omega)) (hX:=fun _ _=>trivial) (h:=?_)
 rintro v R X' ⟨rfl,Q,hQ,rfl⟩
 have hQP:Q=P:=hQ.2 (by rw [←hP];exact hasc)
 subst hQP
 have hQl:Q.length=n:=hn.symm
 have hnI:n≤1000:=by omega
 refine cP (X':=fun w=>(Items w ki I∧(CelD bW [.string au] w∧CelD bG [.int .i64 gn] w))∧Glob w) (fun w h=>h.1) ?_
 repeat' (first|apply ab|apply Qt|apply Qu|refine aj ?_|refine ad ?_|refine aY ?_|apply Qv|(refine gR (c:=n) (hm:=Nat.ble_eq_true_of_le ae) (hm2:=Nat.ble_eq_true_of_le ae) fun bv=>?_)|fail)
 refine cO (r:=SrB.postR ⟨A,n,c⟩ Q) bU (p:=0<n→A.isSome=true) (fun w h h0=>cE h h0) fun hAp=>?_
 refine aU (ι:=ValIB Q) (fun i=>⟨[(11,.slice i.A i.k i.c),(47,.slice A n c),(48,.int .i64 (n:Nat)),(49,.int .i64 (i.k:Nat))],[orow 53 7 (.slice i.A i.k i.c) i.k i.xs,SrB.postR ⟨A,n,c⟩ Q],fun w=>(Items w ki I∧(CelD bW [.string au] w∧CelD bG [.int .i64 gn] w))∧Glob w⟩) (fun i=>Q.length-i.k) ⟨0,Nat.zero_le _,_,_,[],rfl⟩ (ax ⟨rfl,rfl,rfl,rfl,trivial⟩ (aE _) fun _ h=>h) fun i=>?_
 obtain ⟨k2,hk2,A2,c2,xs2,hxs2⟩:=i
 simp only
 repeat' (first|apply ab|apply Qt|apply Qu|refine aj ?_|refine ad ?_|refine bj ?_|apply Qw|apply Qv|apply ar|apply aQ|(refine aH (ht:=?_) (hf:=?_);all_goals (intro hx_;first|have:=aP hx_|have:=aT hx_)))
 · have hlt:k2<Q.length:=by omega
   have hAp':=hAp ae
   obtain ⟨f,hf⟩:∃ f,Q[k2]?=some f:=⟨_,Zm hlt⟩
   repeat' (first|refine bH (size:=7) (vs:=[f.a.v]) (css:=f.a.cells) (hsz:=by rfl) (hcs:=by rfl) fun _=>?_|apply ab|apply Qu|refine aj ?_|refine aB ?_|refine aM fun _=>?_|refine aK ?_|(refine bx (q:=k2*9) ?_)|(refine am (fZ (size:=9) (m:=n) (i:=k2) (xs:=Q.map FndB.cells) (cs:=f.cells) rfl (.tail _ (.head _)) (by rw [Z3];exact hQl.symm) (SrB.cellsF Q) (by simp [hf])) rfl rfl rfl ?_)|(refine aW (vs:=f.a.cells) (hv:=rfl) ?_)|fail)
   refine aV (size:=7) (news:=f.a.cells) (q:=1) rfl rfl rfl rfl (fun _=>At.there _ (At.there _ (At.here _))) (fun w G=>bo G aI rfl rfl 1) ae (by simp only [maxLen];omega) rfl ?_ rfl ?_
   · (with_reducible rfl)
   intro A3 c3
   repeat' (first|apply ab|apply Qu|refine aj ?_|refine ad ?_|refine be (h:=?_)|fail)
   exact ⟨(⟨k2+1,hlt,A3,c3,xs2++f.a.cells,by rw [List.take_add_one,hf,hxs2];simp⟩:ValIB Q),(by show Q.length-(k2+1)<Q.length-k2;omega),ax ⟨rfl,rfl,rfl,rfl,trivial⟩ (.cons _ (.cons _ (aE _))) fun _ h=>h⟩
 have hk2E:k2=Q.length:=by omega
 rw [hk2E,List.take_length] at hxs2
 have hLp:Q.map FndB.a=selB2 au gn rI I:=by rw [←zO au gn rI dI I,hP]
 refine al (ap rfl rfl) ⟨⟨A2,k2,c2⟩,rfl,fun w h=>?_⟩
 rw [←hLp]
 have hr:=h.2 (orow 53 7 (.slice A2 k2 c2) k2 xs2) (.head _)
 exact cb (xs:=(Q.map FndB.a).map BallotD.cells) (by rw [Qr];rw [hxs2] at hr;exact hr) (by rw [Z3,Z3];exact hk2E) (oA _)
theorem jv (ks ki:SlV) (I:List ItemD) (au:ByteArray) (gn:Int) (rI:ItemD→Bool) (dI:ItemD→ByteArray)
  (hR:∀ it∈I,Pu Tryz.prog 44 #[it.v] (fun w=>it.at_ w) (.bool (rI it)))
  (hD:∀ it∈I,Pu Tryz.prog 14 #[it.v] (fun w=>it.at_ w∧Glob w) (.string (dI it)))
  (hI:I.length≤1000) (hasc:SrB.Srt (selFB au gn rI dI I)) :
  Mk Tryz.prog 194 #[.agg #[ks.v,ki.v],.string au,.int .i64 gn] (fun w=>Items w ki I∧Glob w)
   (fun u X'=>∃ s:SlV,u=s.v∧∀ w,X' w→Ballots w s (selB2 au gn rI I)):=by
 refine cq (args:=[_,_,_]) _ Tryz.func194 rfl Tryz.ntmps194 rfl fun av bor w0=>?_
 repeat' (first|apply ab|apply Qt|apply Qu|refine ad ?_|refine aF ?_|refine aL fun _=>?_|(refine er ?_)|fail)
 rename_i b2 b3 b4
 refine co ?_
 refine co ?_
 refine cR (hc:=uY ks ki I b3 b4 au gn rI dI hR hD hI hasc) (hX:=fun w h=>⟨⟨h.1.1.1,fd h.2,fd h.1.2⟩,h.1.1.2⟩) fun v X1 h1=>?_
 obtain ⟨s,rfl,hw⟩:=h1
 repeat' (first|apply ab|refine ad ?_|apply ar|fail)
 exact al (ap rfl rfl) ⟨s,rfl,fun w h=>hw w h.1.2⟩
def encBal (b:BallotD):List Value:=[b.v]
structure BalX (ks ki:SlV) (I:List ItemD) (bk ba bg:Nat) (au:ByteArray) (gn:Int) (w:World):Prop where
 i:Items w ki I
 g:Glob w
 k:CelD bk [ks.v,ki.v] w
 a:CelD ba [.string au] w
 n:CelD bg [.int .i64 gn] w
theorem rN (ks ki:SlV) (au:ByteArray) (gn:Int):Mk Tryz.prog 136 #[.agg #[ks.v,ki.v],.string au,.int .i64 gn] (fun _=>True)
  fun u X'=>∃ bk ba bg,u=.func (.func 193) #[] #[.pointer (some ⟨bk,0,none⟩),.pointer (some ⟨ba,0,none⟩),.pointer (some ⟨bg,0,none⟩)]∧∀ w,X' w→CelD bk [ks.v,ki.v] w∧CelD ba [.string au] w∧CelD bg [.int .i64 gn] w:=by
 refine cq (args:=[_,_,_]) _ Tryz.func136 rfl Tryz.ntmps136 rfl fun av bor w0=>?_
 repeat' (first|apply ab|apply Qt|apply Qu|refine ad ?_|refine aL fun _=>?_|apply ar|(refine er ?_)|fail)
 exact al (ap rfl rfl) ⟨_,_,_,rfl,fun w h=>⟨fd (h.2 _ bU),fd (h.2 _ bU),fd (h.2 _ bU)⟩⟩
structure BaI (L:List BallotD) (Rs:List BallotD→List Res→Prop) where
 k:Nat
 hk:k≤L.length
 R:List Res
 hR:Rs (L.take k) R
set_option maxHeartbeats 4000000 in
theorem qt (ks ki:SlV) (I:List ItemD) (bk ba bg:Nat) (au:ByteArray) (gn:Int) (L:List BallotD) (hL:L.length≤1000000)
  (hK:Mk Tryz.prog 194 #[.agg #[ks.v,ki.v],.string au,.int .i64 gn] (fun w=>Items w ki I∧Glob w) (fun u X'=>∃ s:SlV,u=s.v∧∀ w,X' w→Ballots w s L)) :
  It Tryz.prog 193 [.pointer (some ⟨bk,0,none⟩),.pointer (some ⟨ba,0,none⟩),.pointer (some ⟨bg,0,none⟩)] (BalX ks ki I bk ba bg au gn) encBal L:=by
 intro l X Rs hX hY R0 h0
 refine cd (args:=[_,_,_,_]) _ Tryz.func193 rfl Tryz.ntmps193 rfl fun av bor w0=>?_
 refine tq (st':=⟨[(1,.pointer (some ⟨bk,0,none⟩)),(2,.pointer (some ⟨ba,0,none⟩)),(3,.pointer (some ⟨bg,0,none⟩)),(0,.func (.yield l) #[] #[])],R0++[],X⟩) (by rw [Z8];exact ax ⟨rfl,rfl,rfl,rfl,trivial⟩ (aE _) fun _ h=>h) ?_
 repeat' (first|apply ab|apply Qt|apply Qu|refine aj ?_|refine aY ?_|apply Qv|(refine sD (cs:=[ks.v,ki.v]) (hF:=fun w h=>(hX w h).k) (hl:=rfl) ?_)|(refine xk (v:=.string au) (hF:=fun w h=>(hX w h).a 0 _ rfl) ?_)|(refine xk (v:=.int .i64 gn) (hF:=fun w h=>(hX w h).n 0 _ rfl) ?_)|(refine cR (hc:=hK) (hX:=fun w h=>⟨(hX w h).i,(hX w h).g⟩) fun v1 X1 h1=>?_;obtain ⟨s,rfl,hs⟩:=h1)|fail)
 refine bJ (p:=s.n=L.length∧s.n≤maxLen∧(0<L.length→s.p.isSome=true)) (fun w h=>⟨by simpa using RowsD.len (hs w h.2),Qp (RowsD.cap (hs w h.2)) (RowsD.max (hs w h.2)),fun h0=>(RowsD.row (hs w h.2) 0 L[0].cells (by simp [Zm h0])).2.1⟩) fun ⟨hsn,hsm,hsp⟩=>?_
 simp only [maxLen] at hsm
 refine aU (ι:=BaI L Rs) (fun i=>⟨[(0,.func (.yield l) #[] #[]),(10,s.v),(11,.int .i64 (s.n:Nat)),(12,.int .i64 (i.k:Nat))],i.R++[],fun w=>X w∧X1 w⟩) (fun i=>L.length-i.k) ⟨0,Nat.zero_le _,R0,h0⟩ (ax ⟨rfl,rfl,rfl,rfl,trivial⟩ (aE _) fun _ h=>h) fun i=>?_
 obtain ⟨k,hk,R,hR⟩:=i
 simp only
 by_cases hlt:k<L.length
 · have hsp':=hsp ae
   obtain ⟨x,hx⟩:∃ x,L[k]?=some x:=⟨_,Zm hlt⟩
   have hrow:∀ w,X w∧X1 w→x.cells.length=7∧s.p.isSome=true∧∀ i u,x.cells[i]?=some u→CellAt w s.p (k*7+i) u:=fun w h=>RowsD.row (hs w h.2) k x.cells (by simp [hx])
   have hsplit:L=L.take k++x::L.drop (k+1):=by
    have h1:=List.take_append_drop k L
    rw [List.drop_eq_getElem_cons hlt] at h1
    rw [Zm hlt,Qb] at hx
    rw [hx] at h1
    exact h1.symm
   have htk:L.take (k+1)=L.take k++[x]:=by rw [List.take_add_one,hx,Option.toList_some]
   repeat' (first|apply Qt|fail)
   apply Qu
   repeat' (first|(refine am (bM true rfl rfl (ZA ae)) rfl aC rfl ?_)|apply ab|apply Qt|refine Qx ?_|apply Qw|apply Qv|fail)
   apply Qu
   repeat' (first|apply ab|apply Qt|refine aM fun _=>?_|refine aK ?_|(refine bx (q:=k*7) ?_)|(refine cr (cs:=x.cells) (hF:=hrow) ?_)|fail)
   rename_i b6
   refine Bb ?_
   refine BS (pre:=[_,_]) (rest:=[_,_]) rfl ?_
   refine aj ?_
   refine aF ?_
   refine dc (l:=R++[cel b6 53 x.cells]) (by rw [Z8];exact List.perm_append_comm (l₁:=[_]) (l₂:=R)) ?_
   apply ab
   refine zK (pre:=R) (fr:=[cel b6 53 x.cells]) rfl rfl rfl rfl rfl (hY _ _ _ _ hsplit hR) (fun _ h=>h.1) fun v R' X' hv=>?_
   obtain ⟨rfl,hR'⟩:=hv
   refine xn rfl ?_
   repeat' (first|apply ab|apply Qu|refine aj ?_|refine bD ?_|refine be (h:=?_)|refine Qy ?_|apply Qw|fail)
   exact ⟨(⟨k+1,hlt,R',by rw [htk];exact hR'⟩:BaI L Rs),(by show L.length-(k+1)<L.length-k;omega),ax ⟨rfl,rfl,rfl,rfl,trivial⟩ (by rw [Z8];exact List.sublist_append_left _ _) fun _ h=>h.1⟩
 · have hkE:k=L.length:=by omega
   repeat' (first|refine am (bM false rfl rfl (Zn ae)) rfl aC rfl ?_|apply ab|apply Qt|apply Qu|refine Qy ?_|apply aQ|fail)
   refine bY (bL rfl) ?_
   rw [hkE,List.take_length] at hR
   simpa using hR
end Go.Proofs.YtcdilibijnboeaaGreatDoor
namespace Go.Proofs.YtcdilibijnboeaaGreatDoor
open Go Go.Proofs Sy Go.Shelf Go.Maps Go.Sort
theorem compS_c:CompC Tryz.prog 47 encStr [] Lib.compact where
 some_:=fun blk off cap ss w h1 h2 h3=>Any.slices_Compact_string Tryz.compS blk off cap ss w h1 h2 h3
 none_:=fun p cap w=>Any.slices_Compact_string_empty Tryz.compS p cap w
 len:=fun ss=>Lib.compact_length_le ss
end Go.Proofs.YtcdilibijnboeaaGreatDoor
namespace Go.Proofs
open Go.Shelf
def Tryz.compI_ren:Go.Shelf.Ren:=⟨fun|20=>138|n=>n,fun|22=>22|3=>3|4=>4|0=>0|n=>n,fun|n=>n⟩
theorem Tryz.compI:Go.Proofs.Lays2.n20 Tryz.prog Tryz.compI_ren:={
 mixed:=by kernel_rfl
 f20:=Tryz.func138.trans (congrArg some (by kernel_rfl))
 t0:=Tryz.underlying0
 a0:=Tryz.isAgg0
 z0:=Tryz.sizeOf0
 v0:=Tryz.zeroValue0
 t3:=Tryz.underlying3
 a3:=Tryz.isAgg3
 z3:=Tryz.sizeOf3
 v3:=Tryz.zeroValue3
 t4:=Tryz.underlying4
 a4:=Tryz.isAgg4
 z4:=Tryz.sizeOf4
 v4:=Tryz.zeroValue4
 t22:=Tryz.underlying22
 a22:=Tryz.isAgg22
 z22:=Tryz.sizeOf22
 v22:=Tryz.zeroValue22
 i3:=by kernel_rfl }
end Go.Proofs
namespace Go.Proofs.YtcdilibijnboeaaGreatDoor
open Go Go.Proofs Sy Go.Shelf Go.Maps Go.Sort
def encJ (n:Int):Value:=.int .i64 n
theorem sortI_c:SortC Tryz.prog 137 encJ (fun ss=>ss.mergeSort (fun a b=>decide (a≤b))) where
 some_:=fun blk off cap ss w h1 h2 h3=>AnyM.slices_Sort_int Tryz.sortI blk off cap ss w h1 h2 h3
 none_:=fun p cap w=>AnyM.slices_Sort_int_none Tryz.sortI p cap w
 len:=fun ss=>List.length_mergeSort ss
theorem compI_c:CompC Tryz.prog 138 encJ 0 Lib.compact where
 some_:=fun blk off cap ss w h1 h2 h3=>Any.slices_Compact_int Tryz.compI blk off cap ss w h1 h2 h3
 none_:=fun p cap w=>Any.slices_Compact_int_empty Tryz.compI p cap w
 len:=fun ss=>Lib.compact_length_le ss
end Go.Proofs.YtcdilibijnboeaaGreatDoor
namespace Go.Proofs.YtcdilibijnboeaaGreatDoor
open Go Go.Proofs Sy
def vpre (d:ByteArray) (l:List BallotD):List Int:=(l.filter fun b=>seqB b.claim d).map BallotD.server
def votV (d:ByteArray) (l:List BallotD):List Int:=Lib.compact ((vpre d l).mergeSort (fun a b=>decide (a≤b)))
theorem BN {d:ByteArray} {l:List BallotD} {x:BallotD} (h:seqB x.claim d=true):vpre d (l++[x])=vpre d l++[x.server]:=by simp [vpre,List.filter_append,List.filter_cons,h]
theorem BO {d:ByteArray} {l:List BallotD} {x:BallotD} (h:seqB x.claim d=false):vpre d (l++[x])=vpre d l:=by simp [vpre,List.filter_append,List.filter_cons,h]
theorem r5 (d:ByteArray) (l:List BallotD):(vpre d l).length≤l.length:=by rw [vpre,Z3];exact List.length_filter_le _ _
set_option maxHeartbeats 4000000 in
theorem tF (ks ki:SlV) (I:List ItemD) (au:ByteArray) (gn:Int) (d:ByteArray) (L:List BallotD) (hL:L.length≤1000000)
  (hK:Mk Tryz.prog 194 #[.agg #[ks.v,ki.v],.string au,.int .i64 gn] (fun w=>Items w ki I∧Glob w) (fun u X'=>∃ s:SlV,u=s.v∧∀ w,X' w→Ballots w s L)) :
  Mk Tryz.prog 83 #[.agg #[ks.v,ki.v],.string d,.string au,.int .i64 gn] (fun w=>Items w ki I∧Glob w) (fun u _=>∃ A c,u=.slice A (votV d L).length c):=by
 refine cq (args:=[_,_,_,_]) _ Tryz.func83 rfl Tryz.ntmps83 rfl fun av bor w0=>?_
 refine cW 3 1 ?_
 repeat' (first|apply ab|apply Qt|apply Qu|refine aj ?_|refine ad ?_|refine aF ?_|refine aM fun _=>?_|refine aL fun _=>?_|apply Qv|(refine cR (hc:=rN ks ki au gn) (hX:=fun w h=>trivial) fun v1 X1 h1=>?_;obtain ⟨bk,ba,bg,rfl,hb⟩:=h1)|fail)
 rename_i b4 b5 b9
 refine yF (ps:=[15]) (xs:=L) (enc:=encBal) (X1:=BalX ks ki I bk ba bg au gn) rfl inferInstance (qt ks ki I bk ba bg au gn L hL hK) (fun w h=>⟨h.1.1,h.1.2,(hb w h.2).1,(hb w h.2).2.1,(hb w h.2).2.2⟩) (fun _=>rfl) rfl
  (fun pre loc1=>∃ A q,loc1=[cel b9 22 [.slice A (vpre d pre).length q],cel b5 9 [.string d],cel b4 25 [ks.v,ki.v],orow 3 1 (.slice A (vpre d pre).length q) (vpre d pre).length ((vpre d pre).map encJ)])
  ⟨none,0,rfl⟩ ?_ ?_
 · rintro lo pre x suf loc1 hsp ⟨A,q,rfl⟩ av bor w0
   have hpx:pre.length<L.length:=by rw [hsp];simp
   have hfl:=r5 d pre
   repeat' (first|apply ab|refine Rd.Qu (h:=?_)|refine aM fun _=>?_|refine aK ?_|fail)
   intro av bor w0
   cases hmv:seqB x.claim d with
   | true =>
    rw [BN hmv]
    generalize vpre d pre=ys at *
    repeat' (first|refine am (dw true rfl rfl hmv) rfl aC rfl ?_|apply ab|apply Rd.Qt|refine Rd.Qu (h:=?_)|refine aB ?_|refine aA ?_|refine bS fun _=>?_|refine bc ?_|refine Rd.Qx (ht:=?_)|apply Rd.Qv|(refine aV (size:=1) (news:=[encJ x.server]) (q:=1) rfl rfl rfl rfl (fun _=>At.there _ (At.there _ (At.there _ (At.there _ (At.there _ (At.here _)))))) (fun w G=>bo G aI rfl rfl 1) ae (by simp only [maxLen];omega) rfl ?_ rfl ?_;(with_reducible rfl);intro A3 c3)|fail)
    have e1:(ys++[x.server]).length=ys.length+1:=by simp
    have e2:(ys++[x.server]).map encJ=ys.map encJ++[encJ x.server]:=by simp
    rw [e1,e2]
    exact ⟨_,.cons _ (.cons _ (aE _)),A3,c3,rfl⟩
   | false =>
    rw [BO hmv]
    generalize vpre d pre=ys at *
    repeat' (first|refine am (dw false rfl rfl hmv) rfl aC rfl ?_|apply ab|apply Rd.Qt|refine Rd.Qu (h:=?_)|refine aB ?_|refine aA ?_|refine Rd.Qy (hf:=?_)|apply Rd.Qw|apply Rd.Qv|fail)
    exact ⟨_,.cons _ (aE _),A,q,rfl⟩
 · rintro loc1 ⟨A,q,rfl⟩
   have hfl:=r5 d L
   have hvo:votV d L=Lib.compact ((vpre d L).mergeSort (fun a b=>decide (a≤b))):=rfl
   rw [hvo]
   generalize vpre d L=ys at *
   repeat' (first|apply Qt|apply Qu|refine aA ?_|fail)
   refine nE (hc:=sortI_c.ct (e:=3) (n:=ys.length) (ss:=ys) ae) (hX:=fun _ _=>trivial) ?_
   repeat' (first|apply ab|apply Qt|apply Qu|refine aA ?_|fail)
   refine sG (hc:=compI_c.ct) (hX:=fun _ _=>trivial) ?_
   rintro _ _ X2 ⟨A3,c3,rfl,rfl⟩
   repeat' (first|apply ab|refine ad ?_|apply ar|fail)
   exact al (ap rfl rfl) ⟨A3,c3,rfl⟩
def ofClaimI (c:ClaimD):ItemD:=⟨1,ActD.zero,c,BallotD.zero,DecD.zero⟩
theorem gd (c:ClaimD):Pu Tryz.prog 53 #[c.v] (fun _=>True) (ofClaimI c).v:=by
 refine ay (args:=[_]) _ Tryz.func53 rfl Tryz.ntmps53 rfl fun av bor w0=>?_
 repeat' (first|refine br (cs:=(ofClaimI c).cells) (hf:=by rfl) ?_|apply ab|apply Qt|apply Qu|refine aF ?_|refine aM fun _=>?_|refine aL fun _=>?_|refine aK ?_|apply ar|fail)
 exact al (dz rfl rfl bU (by rfl)) rfl
theorem mo (b:Nat) (h:BldH) (sa sk:SlV) (st:ChS) (pl:List (ByteArray×Value)) (ok:BldOk sa sk st pl) (hw:h.wn=false) (Y:World→Prop) :
  Ct Tryz.prog 34 #[.pointer (some ⟨b,0,none⟩)] (bldR b h sa sk st pl) Y (fun u R _=>BldAt b h st (.bool false) u R):=by
 obtain ⟨ks,ki,id,fork,q1,q2,cl,wn⟩:=h
 simp only at hw
 subst hw
 refine d4 (args:=[_]) _ Tryz.func34 rfl Tryz.ntmps34 rfl fun av bor w0=>?_
 unfold bldR
 repeat' (first|apply ab|apply Qt|apply Qu|refine aj ?_|refine ad ?_|refine cv ?_|refine aB ?_|fail)
 (refine aS [cel b 87 (bldC ⟨ks,ki,id,fork,q1,q2,cl,false⟩ sa sk st.prev (st.gen:Nat)),actR sa st.acts,keyR sk st.keys,mapr q2 pl] (fun w=>Y w) ak ?_)
 all_goals refine aq 0 ?_<;>refine aq 1 ?_<;>refine aq 2 ?_<;>(refine aq 3 (hy:=by (apply md (v:=.bool false);rfl;(repeat (exact aI));rfl)) ?_)<;>refine aq 4 ?_<;>refine aq 5 ?_<;>refine bn 6 ?_<;>refine bn 7 ?_<;>refine bn 8 ?_<;>refine bn 9 ?_<;>refine bn 10 ?_<;>refine bn 11 ?_<;>refine bn 12 ?_<;>refine bn 13 ?_<;>refine bn 14 ?_<;>refine bn 15 ?_<;>refine bn 16 ?_<;>refine aq 17 ?_<;>refine aq 18 ?_<;>refine bn 19 ?_<;>refine bn 20 ?_<;>refine bn 21 ?_<;>refine bn 22 ?_<;>refine bn 23 ?_<;>refine bn 24 ?_<;>refine bn 25 ?_<;>refine bn 26 ?_<;>refine bn 27 ?_<;>refine bn 28 ?_<;>refine aq 29 ?_<;>(refine aw ?_)
 repeat' (first|apply ab|apply Qt|apply Qu|refine ad ?_|refine Qx ?_|apply ar|fail)
 exact al (ap rfl rfl) ⟨_,aE _,rfl,sa,sk,pl,ok,rfl⟩
structure SetI (l:List ActD) where
 k:Nat
 hk:k≤l.length
 hs:setI l l.length=setI l k
set_option maxHeartbeats 16000000 in
theorem mn (b:Nat) (h:BldH) (sa sk:SlV) (st:ChS) (pl:List (ByteArray×Value)) (ok:BldOk sa sk st pl) (W:OfW) (c0:ClaimD) (hwc:W.won st.gen=some c0) (hcl:h.cl=c0) (hwn:h.wn=true) (Y:World→Prop)
  (hl:st.acts.length≤1000000) (hl2:st.keys.length≤1000000) (hg:st.gen≤1000000)
  (hclm:∀ p:Int,Pu Tryz.prog 52 #[.int .i64 p,c0.v] (fun w=>Y w∧Glob w) (.bool (W.clm p c0)))
  (hdg:Pu Tryz.prog 14 #[(ofClaimI c0).v] (fun w=>Y w∧Glob w) (.string (W.dgC c0)))
  (hwon:Pu Tryz.prog 51 #[.agg #[h.ks.v,h.ki.v],.string h.id,.int .i64 ((st.gen+1:Nat):Int)] (fun w=>Y w∧Glob w) (.tuple #[((W.won (st.gen+1)).getD ClaimD.zero).v,.bool (W.won (st.gen+1)).isSome])) :
  Ct Tryz.prog 34 #[.pointer (some ⟨b,0,none⟩)] (bldR b h sa sk st pl) (fun w=>Y w∧Glob w)
   (fun u R _=>(∀ s,regS W st=some s→BldAt b (h.look (W.won (st.gen+1))) s (.bool true) u R)∧(regS W st=none→BldAt b h st (.bool false) u R)):=by
 obtain ⟨ks,ki,id,fork,q1,q2,c,wn⟩:=h
 simp only at hcl hwn
 subst hcl
 subst hwn
 have ok':=ok
 obtain ⟨hn,hk,hp⟩:=ok
 refine d4 (args:=[_]) _ Tryz.func34 rfl Tryz.ntmps34 rfl fun av bor w0=>?_
 have hreg:regS W st=bif decide (c.base=(st.acts.length:Int))&&seqB c.prev st.prev then (match setI st.acts st.acts.length with
  | none=>none
  | some i=>bif W.clm (st.acts.getD i ActD.zero).m c then some ⟨st.acts,st.keys++[⟨(st.acts.length:Nat),c.pub,c.home⟩],W.dgC c,st.gen+1⟩ else none) else none:=by rw [regS,hwc];rfl
 generalize hgo:regS W st=go at *
 unfold bldR actR keyR
 repeat' (first|apply ab|apply Qt|apply Qu|refine aj ?_|refine ad ?_|refine cv ?_|refine aB ?_|fail)
 cases hb:decide (c.base=(st.acts.length:Int)) with
 | false =>
  rw [hb] at hreg
  have hb':(!decide (c.base=(sa.n:Int)))=true:=by rw [hn,hb];rfl
  (refine aS [cel b 87 (bldC ⟨ks,ki,id,fork,q1,q2,c,true⟩ sa sk st.prev (st.gen:Nat)),orow 46 20 (.slice sa.p sa.n sa.c) sa.n (st.acts.map ActD.cells).flatten,orow 35 3 (.slice sk.p sk.n sk.c) sk.n (st.keys.map KeyD.cells).flatten,mapr q2 pl] (fun w=>Y w∧Glob w) ak ?_)
  all_goals refine aq 0 ?_<;>refine aq 1 ?_<;>refine aq 2 ?_<;>(refine aq 3 (hy:=by (apply md (v:=.bool true);rfl;(repeat (exact aI));rfl)) ?_)<;>refine aq 4 ?_<;>refine aq 5 ?_<;>refine aq 6 ?_<;>refine aq 7 ?_<;>refine aq 8 ?_<;>refine aq 9 ?_<;>refine aq 10 ?_<;>refine aq 11 ?_<;>refine aq 12 ?_<;>refine aq 13 ?_<;>refine aq 14 ?_<;>refine aq 15 ?_<;>(refine aq 16 (hy:=by (apply eC true;rfl;rfl;exact hb')) ?_)<;>refine aq 17 ?_<;>refine aq 18 ?_<;>refine bn 19 ?_<;>refine bn 20 ?_<;>refine bn 21 ?_<;>refine bn 22 ?_<;>refine bn 23 ?_<;>refine bn 24 ?_<;>refine bn 25 ?_<;>refine bn 26 ?_<;>refine bn 27 ?_<;>refine bn 28 ?_<;>refine aq 29 ?_<;>(refine aw ?_)
  all_goals
   repeat' (first|apply ab|apply Qt|apply Qu|refine ad ?_|refine Qx ?_|apply ar|fail)
   exact al (ap rfl rfl) ⟨bldR b ⟨ks,ki,id,fork,q1,q2,c,true⟩ sa sk st pl,aE _,⟨fun s hs=>(by rw [hreg] at hs;cases hs),fun _=>⟨rfl,sa,sk,pl,ok',rfl⟩⟩⟩
 | true =>
 rw [hb] at hreg
 have hb':(!decide (c.base=(sa.n:Int)))=false:=by rw [hn,hb];rfl
 have hbe:c.base=(st.acts.length:Int):=aP hb
 cases hpv:seqB c.prev st.prev with
 | false =>
  rw [hpv] at hreg
  have hpv':(!seqB c.prev st.prev)=true:=by rw [hpv];rfl
  (refine aS [cel b 87 (bldC ⟨ks,ki,id,fork,q1,q2,c,true⟩ sa sk st.prev (st.gen:Nat)),orow 46 20 (.slice sa.p sa.n sa.c) sa.n (st.acts.map ActD.cells).flatten,orow 35 3 (.slice sk.p sk.n sk.c) sk.n (st.keys.map KeyD.cells).flatten,mapr q2 pl] (fun w=>Y w∧Glob w) ak ?_)
  all_goals refine aq 0 ?_<;>refine aq 1 ?_<;>refine aq 2 ?_<;>(refine aq 3 (hy:=by (apply md (v:=.bool true);rfl;(repeat (exact aI));rfl)) ?_)<;>refine aq 4 ?_<;>refine aq 5 ?_<;>refine aq 6 ?_<;>refine aq 7 ?_<;>refine aq 8 ?_<;>refine aq 9 ?_<;>refine aq 10 ?_<;>refine aq 11 ?_<;>refine aq 12 ?_<;>refine aq 13 ?_<;>refine aq 14 ?_<;>refine aq 15 ?_<;>(refine aq 16 (hy:=by (apply eC false;rfl;rfl;exact hb')) ?_)<;>refine aq 17 ?_<;>refine aq 18 ?_<;>refine aq 19 ?_<;>refine aq 20 ?_<;>refine aq 21 ?_<;>refine aq 22 ?_<;>refine aq 23 ?_<;>refine aq 24 ?_<;>refine aq 25 ?_<;>refine aq 26 ?_<;>refine aq 27 ?_<;>(refine aq 28 (hy:=by (apply d8 true;rfl;rfl;exact hpv')) ?_)<;>refine aq 29 ?_<;>(refine aw ?_)
  all_goals
   repeat' (first|apply ab|apply Qt|apply Qu|refine ad ?_|refine Qx ?_|apply ar|fail)
   exact al (ap rfl rfl) ⟨bldR b ⟨ks,ki,id,fork,q1,q2,c,true⟩ sa sk st pl,aE _,⟨fun s hs=>(by rw [hreg] at hs;cases hs),fun _=>⟨rfl,sa,sk,pl,ok',rfl⟩⟩⟩
 | true =>
 rw [hpv] at hreg
 have hpv':(!seqB c.prev st.prev)=false:=by rw [hpv];rfl
 (refine aS [cel b 87 (bldC ⟨ks,ki,id,fork,q1,q2,c,true⟩ sa sk st.prev (st.gen:Nat)),orow 46 20 (.slice sa.p sa.n sa.c) sa.n (st.acts.map ActD.cells).flatten,orow 35 3 (.slice sk.p sk.n sk.c) sk.n (st.keys.map KeyD.cells).flatten,mapr q2 pl] (fun w=>Y w∧Glob w) ak ?_)
 all_goals refine aq 0 ?_<;>refine aq 1 ?_<;>refine aq 2 ?_<;>(refine aq 3 (hy:=by (apply md (v:=.bool true);rfl;(repeat (exact aI));rfl)) ?_)<;>refine aq 4 ?_<;>refine aq 5 ?_<;>refine aq 6 ?_<;>refine aq 7 ?_<;>refine aq 8 ?_<;>refine aq 9 ?_<;>refine aq 10 ?_<;>refine aq 11 ?_<;>refine aq 12 ?_<;>refine aq 13 ?_<;>refine aq 14 ?_<;>refine aq 15 ?_<;>(refine aq 16 (hy:=by (apply eC false;rfl;rfl;exact hb')) ?_)<;>refine aq 17 ?_<;>refine aq 18 ?_<;>refine aq 19 ?_<;>refine aq 20 ?_<;>refine aq 21 ?_<;>refine aq 22 ?_<;>refine aq 23 ?_<;>refine aq 24 ?_<;>refine aq 25 ?_<;>refine aq 26 ?_<;>refine aq 27 ?_<;>(refine aq 28 (hy:=by (apply d8 false;rfl;rfl;exact hpv')) ?_)<;>refine aq 29 ?_<;>(refine aw ?_)
 repeat' (first|apply ab|apply Qt|apply Qu|refine aj ?_|refine ad ?_|refine cv ?_|refine aB ?_|refine aA ?_|refine aY ?_|refine de (h:=?_)|refine Qy ?_|apply Qw|apply Qv|fail)
 refine aU (ι:=SetI st.acts) (fun i=>⟨[(0,.pointer (some ⟨b,0,none⟩)),(3,.pointer (some ⟨b,2,none⟩)),(4,.int .i64 ((i.k:Nat)-1))],[cel b 87 (bldC ⟨ks,ki,id,fork,q1,q2,c,true⟩ sa sk st.prev (st.gen:Nat)),orow 46 20 (.slice sa.p sa.n sa.c) sa.n (st.acts.map ActD.cells).flatten,orow 35 3 (.slice sk.p sk.n sk.c) sk.n (st.keys.map KeyD.cells).flatten,mapr q2 pl],fun w=>Y w∧Glob w⟩) (fun i=>i.k) ⟨sa.n,by omega,by rw [hn]⟩ (ax ⟨rfl,rfl,rfl,trivial⟩ (aE _) fun _ h=>h) fun i=>?_
 obtain ⟨k,hk',hs⟩:=i
 simp only
 cases k with
 | zero =>
  have hset:setI st.acts st.acts.length=none:=hs
  rw [hset] at hreg
  simp only [ZE,ZD,ZC] at hreg
  repeat' (first|refine zE (hab:=by omega) ?_|apply ab|apply Qt|apply Qu|refine aj ?_|refine aG ?_|refine aJ ?_|refine Qy ?_|apply aQ|fail)
  (refine aS [cel b 87 (bldC ⟨ks,ki,id,fork,q1,q2,c,true⟩ sa sk st.prev (st.gen:Nat)),orow 46 20 (.slice sa.p sa.n sa.c) sa.n (st.acts.map ActD.cells).flatten,orow 35 3 (.slice sk.p sk.n sk.c) sk.n (st.keys.map KeyD.cells).flatten,mapr q2 pl] (fun w=>Y w∧Glob w) ak ?_)
  all_goals refine aq 0 ?_<;>(refine aq 1 (hy:=by (apply bM true;rfl;rfl;exact ZA ae)) ?_)<;>refine aq 2 ?_<;>refine bn 3 ?_<;>refine bn 4 ?_<;>refine bn 5 ?_<;>refine bn 6 ?_<;>refine bn 7 ?_<;>refine bn 8 ?_<;>refine bn 9 ?_<;>refine bn 10 ?_<;>refine bn 11 ?_<;>refine bn 12 ?_<;>refine bn 13 ?_<;>refine bn 14 ?_<;>(refine ag 15 ?_;(refine bR ?_);apply ab;refine ef ?_)<;>refine bn 16 ?_<;>refine aq 17 ?_<;>(refine aw ?_)
  all_goals
   repeat' (first|apply ab|apply Qt|apply Qu|refine ad ?_|refine Qx ?_|apply ar|fail)
   exact al (ap rfl rfl) ⟨bldR b ⟨ks,ki,id,fork,q1,q2,c,true⟩ sa sk st pl,aE _,⟨fun s hs=>(by rw [hreg] at hs;cases hs),fun _=>⟨rfl,sa,sk,pl,ok',rfl⟩⟩⟩
 | succ k =>
  obtain ⟨a,ha⟩:∃ a,st.acts[k]?=some a:=⟨_,Zm ae⟩
  have haD:st.acts.getD k ActD.zero=a:=by rw [ZL,ha];rfl
  refine cO (r:=orow 46 20 (.slice sa.p sa.n sa.c) sa.n (st.acts.map ActD.cells).flatten) bU (p:=sa.p.isSome=true) (fun w h=>cE h ae) fun hap=>?_
  have hm1:(sa.n:Nat)=(st.acts.map ActD.cells).length:=by rw [Z3];exact hn
  have hi1:(st.acts.map ActD.cells)[k]?=some a.cells:=by simp [ha]
  have hrow:orow 46 20 (.slice sa.p sa.n sa.c) sa.n (st.acts.map ActD.cells).flatten∈[cel b 87 (bldC ⟨ks,ki,id,fork,q1,q2,c,true⟩ sa sk st.prev (st.gen:Nat)),orow 46 20 (.slice sa.p sa.n sa.c) sa.n (st.acts.map ActD.cells).flatten,orow 35 3 (.slice sk.p sk.n sk.c) sk.n (st.keys.map KeyD.cells).flatten,mapr q2 pl]:=.tail _ (.head _)
  by_cases hk19:a.kind=19
  · have hset:setI st.acts st.acts.length=some k:=by rw [hs,setI,haD,ZA hk19];rfl
    rw [hset] at hreg
    simp only [ZE,ZD,ZC,haD] at hreg
    have hcl:=hclm a.m
    repeat' (first|refine am (eJ true rfl rfl (ZA ae)) rfl rfl rfl ?_|refine eP (hab:=hk19) ?_|apply ab|apply Qt|apply Qu|refine aj ?_|refine cv ?_|refine aB ?_|refine aA ?_|refine aD ?_|refine Qy ?_|apply aQ|(refine bx (q:=k*20) ?_)|(refine eX ?_)|(refine am (f0 (i:=k) (j:=3) (cs:=a.cells) (u:=.int .i64 a.kind) rfl hrow hm1 (fU _) hi1 rfl) rfl rfl rfl ?_)|fail)
    cases hcm:W.clm a.m c with
    | false =>
     rw [hcm] at hcl hreg
     (refine aS [cel b 87 (bldC ⟨ks,ki,id,fork,q1,q2,c,true⟩ sa sk st.prev (st.gen:Nat)),orow 46 20 (.slice sa.p sa.n sa.c) sa.n (st.acts.map ActD.cells).flatten,orow 35 3 (.slice sk.p sk.n sk.c) sk.n (st.keys.map KeyD.cells).flatten,mapr q2 pl] (fun w=>Y w∧Glob w) ak ?_)
     all_goals refine aq 0 ?_<;>(refine aq 1 (hy:=by (apply bM false;rfl;rfl;exact Zn ae)) ?_)<;>refine aq 2 ?_<;>refine aq 3 ?_<;>refine aq 4 ?_<;>refine aq 5 ?_<;>refine aq 6 ?_<;>refine aq 7 ?_<;>(refine aq 8 (hy:=by (apply aN (q:=k*20);rfl;rfl;omega;omega;assumption;omega)) ?_)<;>(refine aq 9 (hy:=by (apply eU;rfl;assumption;rfl)) ?_)<;>(refine aq 10 (hy:=by (apply f0 (i:=k) (j:=17) (cs:=a.cells) (u:=.int .i64 a.m);rfl;exact hrow;exact hm1;exact fU _;exact hi1;rfl)) ?_)<;>refine aq 11 ?_<;>refine aq 12 ?_<;>refine aq 13 ?_<;>(refine aq 14 (hy:=by (apply cH (vs:=c.cells);rfl;exact .head _;rfl;rfl)) ?_)<;>(refine ag 15 ?_;(refine ao (hc:=hcl) (hX:=fun w h=>h) ?_);apply ab;refine ef ?_)<;>refine aq 16 ?_<;>refine aq 17 ?_<;>(refine aw ?_)
     all_goals
      repeat' (first|apply ab|apply Qt|apply Qu|refine ad ?_|refine Qx ?_|apply ar|fail)
      exact al (ap rfl rfl) ⟨bldR b ⟨ks,ki,id,fork,q1,q2,c,true⟩ sa sk st pl,aE _,⟨fun s hs=>(by rw [hreg] at hs;cases hs),fun _=>⟨rfl,sa,sk,pl,ok',rfl⟩⟩⟩
    | true =>
     rw [hcm] at hcl hreg
     simp only [ZC] at hreg
     (refine aS [cel b 87 (bldC ⟨ks,ki,id,fork,q1,q2,c,true⟩ sa sk st.prev (st.gen:Nat)),orow 46 20 (.slice sa.p sa.n sa.c) sa.n (st.acts.map ActD.cells).flatten,orow 35 3 (.slice sk.p sk.n sk.c) sk.n (st.keys.map KeyD.cells).flatten,mapr q2 pl] (fun w=>Y w∧Glob w) ak ?_)
     all_goals refine aq 0 ?_<;>(refine aq 1 (hy:=by (apply bM false;rfl;rfl;exact Zn ae)) ?_)<;>refine aq 2 ?_<;>refine aq 3 ?_<;>refine aq 4 ?_<;>refine aq 5 ?_<;>refine aq 6 ?_<;>refine aq 7 ?_<;>(refine aq 8 (hy:=by (apply aN (q:=k*20);rfl;rfl;omega;omega;assumption;omega)) ?_)<;>(refine aq 9 (hy:=by (apply eU;rfl;assumption;rfl)) ?_)<;>(refine aq 10 (hy:=by (apply f0 (i:=k) (j:=17) (cs:=a.cells) (u:=.int .i64 a.m);rfl;exact hrow;exact hm1;exact fU _;exact hi1;rfl)) ?_)<;>refine aq 11 ?_<;>refine aq 12 ?_<;>refine aq 13 ?_<;>(refine aq 14 (hy:=by (apply cH (vs:=c.cells);rfl;exact .head _;rfl;rfl)) ?_)<;>(refine ag 15 ?_;(refine ao (hc:=hcl) (hX:=fun w h=>h) ?_);apply ab;refine ef ?_)<;>refine aq 16 ?_<;>refine aq 17 ?_<;>(refine aw ?_)
     all_goals
      repeat' (first|apply Qt|refine Qy ?_|apply Qw|fail)
      refine iU (ι:=Option Addr×Nat) (fun i=>⟨[(0,.pointer (some ⟨b,0,none⟩)),(3,.pointer (some ⟨b,2,none⟩))],[cel b 87 (bldC ⟨ks,ki,id,fork,q1,q2,c,true⟩ sa ⟨i.1,sk.n+1,i.2⟩ st.prev (st.gen:Nat)),orow 46 20 (.slice sa.p sa.n sa.c) sa.n (st.acts.map ActD.cells).flatten,orow 35 3 (.slice i.1 (sk.n+1) i.2) (sk.n+1) ((st.keys.map KeyD.cells).flatten++(⟨((sa.n:Nat):Int),c.pub,c.home⟩:KeyD).cells),mapr q2 pl],fun w=>Y w∧Glob w⟩) ?_ fun i=>?_
      · (refine aS [] (fun _=>True) ak ?_)
        all_goals refine aa 0 ?_<;>refine aa 1 ?_<;>refine aa 2 ?_<;>refine aa 3 ?_<;>refine aa 5 ?_<;>refine aa 6 ?_<;>refine aa 7 ?_<;>refine aa 10 ?_<;>refine aa 11 ?_<;>refine aa 12 ?_<;>refine aa 13 ?_<;>refine aa 15 ?_<;>refine aa 16 ?_<;>refine aa 17 ?_<;>refine aa 18 ?_<;>(refine Bg 4 8 14 19 (h:=?_) (h':=?_) (h'':=?_) (h3:=?_);(focus (((refine aA ?_);apply ab;refine ai ?_);all_goals ((refine gM 8 14 19 (h:=?_) (h':=?_) (h'':=?_);(focus (((refine aA ?_);apply ab;refine ai ?_);all_goals ((refine aa 9 ?_);all_goals (refine bw 14 19 (h:=?_) (h':=?_);(focus (((refine aA ?_);apply ab;refine ai ?_);all_goals ((refine ag 19 ?_;(refine aA ?_);apply ab;refine ai ?_);all_goals (refine aa 20 (hy:=by (apply cj (cs:=(⟨((sa.n:Nat):Int),c.pub,c.home⟩:KeyD).cells);rfl;rfl)) ?_);all_goals (refine ag 21 ?_;(refine bH (size:=3) (vs:=[(⟨((sa.n:Nat):Int),c.pub,c.home⟩:KeyD).v]) (css:=(⟨((sa.n:Nat):Int),c.pub,c.home⟩:KeyD).cells) (hsz:=by rfl) (hcs:=by rfl) fun _=>?_);apply ab;refine ai ?_);all_goals (refine ag 22 ?_;(refine aV (size:=3) (news:=(⟨((sa.n:Nat):Int),c.pub,c.home⟩:KeyD).cells) (q:=1) rfl rfl rfl rfl (fun _=>At.there _ (At.there _ (At.there _ (At.here _)))) (fun w G=>bo G aI rfl rfl 1) ae (by simp only [maxLen];omega) rfl ?_ rfl ?_;(with_reducible rfl);intro A3 c3);apply ab;refine ai ?_);all_goals (refine aa 23 ?_);all_goals (refine aa 24 ?_);all_goals (refine ag 25 ?_;(refine bc ?_);apply ab;refine ai ?_);all_goals (refine aw ?_))));rotate_right;(focus (((refine aA ?_);apply ab;refine ai ?_);all_goals ((refine ag 14 ?_;(refine aA ?_);apply ab;refine ai ?_);all_goals (refine aa 20 (hy:=by (apply cj (cs:=(⟨((sa.n:Nat):Int),c.pub,c.home⟩:KeyD).cells);rfl;rfl)) ?_);all_goals (refine ag 21 ?_;(refine bH (size:=3) (vs:=[(⟨((sa.n:Nat):Int),c.pub,c.home⟩:KeyD).v]) (css:=(⟨((sa.n:Nat):Int),c.pub,c.home⟩:KeyD).cells) (hsz:=by rfl) (hcs:=by rfl) fun _=>?_);apply ab;refine ai ?_);all_goals (refine ag 22 ?_;(refine aV (size:=3) (news:=(⟨((sa.n:Nat):Int),c.pub,c.home⟩:KeyD).cells) (q:=1) rfl rfl rfl rfl (fun _=>At.there _ (At.there _ (At.there _ (At.here _)))) (fun w G=>bo G aI rfl rfl 1) ae (by simp only [maxLen];omega) rfl ?_ rfl ?_;(with_reducible rfl);intro A3 c3);apply ab;refine ai ?_);all_goals (refine aa 23 ?_);all_goals (refine aa 24 ?_);all_goals (refine ag 25 ?_;(refine bc ?_);apply ab;refine ai ?_);all_goals (refine aw ?_))))))));rotate_right;(focus (((refine aA ?_);apply ab;refine ai ?_);all_goals ((refine bw 8 14 (h:=?_) (h':=?_);(focus (((refine aA ?_);apply ab;refine ai ?_);all_goals ((refine aa 9 ?_);all_goals (refine ag 14 ?_;(refine aA ?_);apply ab;refine ai ?_);all_goals (refine aa 20 (hy:=by (apply cj (cs:=(⟨((sa.n:Nat):Int),c.pub,c.home⟩:KeyD).cells);rfl;rfl)) ?_);all_goals (refine ag 21 ?_;(refine bH (size:=3) (vs:=[(⟨((sa.n:Nat):Int),c.pub,c.home⟩:KeyD).v]) (css:=(⟨((sa.n:Nat):Int),c.pub,c.home⟩:KeyD).cells) (hsz:=by rfl) (hcs:=by rfl) fun _=>?_);apply ab;refine ai ?_);all_goals (refine ag 22 ?_;(refine aV (size:=3) (news:=(⟨((sa.n:Nat):Int),c.pub,c.home⟩:KeyD).cells) (q:=1) rfl rfl rfl rfl (fun _=>At.there _ (At.there _ (At.there _ (At.here _)))) (fun w G=>bo G aI rfl rfl 1) ae (by simp only [maxLen];omega) rfl ?_ rfl ?_;(with_reducible rfl);intro A3 c3);apply ab;refine ai ?_);all_goals (refine aa 23 ?_);all_goals (refine aa 24 ?_);all_goals (refine ag 25 ?_;(refine bc ?_);apply ab;refine ai ?_);all_goals (refine aw ?_))));rotate_right;(focus (((refine aA ?_);apply ab;refine ai ?_);all_goals ((refine ag 8 ?_;(refine aA ?_);apply ab;refine ai ?_);all_goals (refine aa 9 ?_);all_goals (refine aa 20 (hy:=by (apply cj (cs:=(⟨((sa.n:Nat):Int),c.pub,c.home⟩:KeyD).cells);rfl;rfl)) ?_);all_goals (refine ag 21 ?_;(refine bH (size:=3) (vs:=[(⟨((sa.n:Nat):Int),c.pub,c.home⟩:KeyD).v]) (css:=(⟨((sa.n:Nat):Int),c.pub,c.home⟩:KeyD).cells) (hsz:=by rfl) (hcs:=by rfl) fun _=>?_);apply ab;refine ai ?_);all_goals (refine ag 22 ?_;(refine aV (size:=3) (news:=(⟨((sa.n:Nat):Int),c.pub,c.home⟩:KeyD).cells) (q:=1) rfl rfl rfl rfl (fun _=>At.there _ (At.there _ (At.there _ (At.here _)))) (fun w G=>bo G aI rfl rfl 1) ae (by simp only [maxLen];omega) rfl ?_ rfl ?_;(with_reducible rfl);intro A3 c3);apply ab;refine ai ?_);all_goals (refine aa 23 ?_);all_goals (refine aa 24 ?_);all_goals (refine ag 25 ?_;(refine bc ?_);apply ab;refine ai ?_);all_goals (refine aw ?_))))))));rotate_right;(focus (((refine aA ?_);apply ab;refine ai ?_);all_goals ((refine bw 8 19 (h:=?_) (h':=?_);(focus (((refine aA ?_);apply ab;refine ai ?_);all_goals ((refine aa 9 ?_);all_goals (refine ag 19 ?_;(refine aA ?_);apply ab;refine ai ?_);all_goals (refine aa 20 (hy:=by (apply cj (cs:=(⟨((sa.n:Nat):Int),c.pub,c.home⟩:KeyD).cells);rfl;rfl)) ?_);all_goals (refine ag 21 ?_;(refine bH (size:=3) (vs:=[(⟨((sa.n:Nat):Int),c.pub,c.home⟩:KeyD).v]) (css:=(⟨((sa.n:Nat):Int),c.pub,c.home⟩:KeyD).cells) (hsz:=by rfl) (hcs:=by rfl) fun _=>?_);apply ab;refine ai ?_);all_goals (refine ag 22 ?_;(refine aV (size:=3) (news:=(⟨((sa.n:Nat):Int),c.pub,c.home⟩:KeyD).cells) (q:=1) rfl rfl rfl rfl (fun _=>At.there _ (At.there _ (At.there _ (At.here _)))) (fun w G=>bo G aI rfl rfl 1) ae (by simp only [maxLen];omega) rfl ?_ rfl ?_;(with_reducible rfl);intro A3 c3);apply ab;refine ai ?_);all_goals (refine aa 23 ?_);all_goals (refine aa 24 ?_);all_goals (refine ag 25 ?_;(refine bc ?_);apply ab;refine ai ?_);all_goals (refine aw ?_))));rotate_right;(focus (((refine aA ?_);apply ab;refine ai ?_);all_goals ((refine ag 8 ?_;(refine aA ?_);apply ab;refine ai ?_);all_goals (refine aa 9 ?_);all_goals (refine aa 20 (hy:=by (apply cj (cs:=(⟨((sa.n:Nat):Int),c.pub,c.home⟩:KeyD).cells);rfl;rfl)) ?_);all_goals (refine ag 21 ?_;(refine bH (size:=3) (vs:=[(⟨((sa.n:Nat):Int),c.pub,c.home⟩:KeyD).v]) (css:=(⟨((sa.n:Nat):Int),c.pub,c.home⟩:KeyD).cells) (hsz:=by rfl) (hcs:=by rfl) fun _=>?_);apply ab;refine ai ?_);all_goals (refine ag 22 ?_;(refine aV (size:=3) (news:=(⟨((sa.n:Nat):Int),c.pub,c.home⟩:KeyD).cells) (q:=1) rfl rfl rfl rfl (fun _=>At.there _ (At.there _ (At.there _ (At.here _)))) (fun w G=>bo G aI rfl rfl 1) ae (by simp only [maxLen];omega) rfl ?_ rfl ?_;(with_reducible rfl);intro A3 c3);apply ab;refine ai ?_);all_goals (refine aa 23 ?_);all_goals (refine aa 24 ?_);all_goals (refine ag 25 ?_;(refine bc ?_);apply ab;refine ai ?_);all_goals (refine aw ?_))))))))))));rotate_right;(focus (((refine aA ?_);apply ab;refine ai ?_);all_goals ((refine gM 4 8 14 (h:=?_) (h':=?_) (h'':=?_);(focus (((refine aA ?_);apply ab;refine ai ?_);all_goals ((refine bw 8 14 (h:=?_) (h':=?_);(focus (((refine aA ?_);apply ab;refine ai ?_);all_goals ((refine aa 9 ?_);all_goals (refine ag 14 ?_;(refine aA ?_);apply ab;refine ai ?_);all_goals (refine aa 20 (hy:=by (apply cj (cs:=(⟨((sa.n:Nat):Int),c.pub,c.home⟩:KeyD).cells);rfl;rfl)) ?_);all_goals (refine ag 21 ?_;(refine bH (size:=3) (vs:=[(⟨((sa.n:Nat):Int),c.pub,c.home⟩:KeyD).v]) (css:=(⟨((sa.n:Nat):Int),c.pub,c.home⟩:KeyD).cells) (hsz:=by rfl) (hcs:=by rfl) fun _=>?_);apply ab;refine ai ?_);all_goals (refine ag 22 ?_;(refine aV (size:=3) (news:=(⟨((sa.n:Nat):Int),c.pub,c.home⟩:KeyD).cells) (q:=1) rfl rfl rfl rfl (fun _=>At.there _ (At.there _ (At.there _ (At.here _)))) (fun w G=>bo G aI rfl rfl 1) ae (by simp only [maxLen];omega) rfl ?_ rfl ?_;(with_reducible rfl);intro A3 c3);apply ab;refine ai ?_);all_goals (refine aa 23 ?_);all_goals (refine aa 24 ?_);all_goals (refine ag 25 ?_;(refine bc ?_);apply ab;refine ai ?_);all_goals (refine aw ?_))));rotate_right;(focus (((refine aA ?_);apply ab;refine ai ?_);all_goals ((refine ag 8 ?_;(refine aA ?_);apply ab;refine ai ?_);all_goals (refine aa 9 ?_);all_goals (refine aa 20 (hy:=by (apply cj (cs:=(⟨((sa.n:Nat):Int),c.pub,c.home⟩:KeyD).cells);rfl;rfl)) ?_);all_goals (refine ag 21 ?_;(refine bH (size:=3) (vs:=[(⟨((sa.n:Nat):Int),c.pub,c.home⟩:KeyD).v]) (css:=(⟨((sa.n:Nat):Int),c.pub,c.home⟩:KeyD).cells) (hsz:=by rfl) (hcs:=by rfl) fun _=>?_);apply ab;refine ai ?_);all_goals (refine ag 22 ?_;(refine aV (size:=3) (news:=(⟨((sa.n:Nat):Int),c.pub,c.home⟩:KeyD).cells) (q:=1) rfl rfl rfl rfl (fun _=>At.there _ (At.there _ (At.there _ (At.here _)))) (fun w G=>bo G aI rfl rfl 1) ae (by simp only [maxLen];omega) rfl ?_ rfl ?_;(with_reducible rfl);intro A3 c3);apply ab;refine ai ?_);all_goals (refine aa 23 ?_);all_goals (refine aa 24 ?_);all_goals (refine ag 25 ?_;(refine bc ?_);apply ab;refine ai ?_);all_goals (refine aw ?_))))))));rotate_right;(focus (((refine aA ?_);apply ab;refine ai ?_);all_goals ((refine bw 4 8 (h:=?_) (h':=?_);(focus (((refine aA ?_);apply ab;refine ai ?_);all_goals ((refine ag 8 ?_;(refine aA ?_);apply ab;refine ai ?_);all_goals (refine aa 9 ?_);all_goals (refine aa 20 (hy:=by (apply cj (cs:=(⟨((sa.n:Nat):Int),c.pub,c.home⟩:KeyD).cells);rfl;rfl)) ?_);all_goals (refine ag 21 ?_;(refine bH (size:=3) (vs:=[(⟨((sa.n:Nat):Int),c.pub,c.home⟩:KeyD).v]) (css:=(⟨((sa.n:Nat):Int),c.pub,c.home⟩:KeyD).cells) (hsz:=by rfl) (hcs:=by rfl) fun _=>?_);apply ab;refine ai ?_);all_goals (refine ag 22 ?_;(refine aV (size:=3) (news:=(⟨((sa.n:Nat):Int),c.pub,c.home⟩:KeyD).cells) (q:=1) rfl rfl rfl rfl (fun _=>At.there _ (At.there _ (At.there _ (At.here _)))) (fun w G=>bo G aI rfl rfl 1) ae (by simp only [maxLen];omega) rfl ?_ rfl ?_;(with_reducible rfl);intro A3 c3);apply ab;refine ai ?_);all_goals (refine aa 23 ?_);all_goals (refine aa 24 ?_);all_goals (refine ag 25 ?_;(refine bc ?_);apply ab;refine ai ?_);all_goals (refine aw ?_))));rotate_right;(focus (((refine aA ?_);apply ab;refine ai ?_);all_goals ((refine aa 9 ?_);all_goals (refine aa 20 (hy:=by (apply cj (cs:=(⟨((sa.n:Nat):Int),c.pub,c.home⟩:KeyD).cells);rfl;rfl)) ?_);all_goals (refine bw 4 21 (h:=?_) (h':=?_);(focus (((refine aA ?_);apply ab;refine ai ?_);all_goals ((refine ag 21 ?_;(refine bH (size:=3) (vs:=[(⟨((sa.n:Nat):Int),c.pub,c.home⟩:KeyD).v]) (css:=(⟨((sa.n:Nat):Int),c.pub,c.home⟩:KeyD).cells) (hsz:=by rfl) (hcs:=by rfl) fun _=>?_);apply ab;refine ai ?_);all_goals (refine ag 22 ?_;(refine aV (size:=3) (news:=(⟨((sa.n:Nat):Int),c.pub,c.home⟩:KeyD).cells) (q:=1) rfl rfl rfl rfl (fun _=>At.there _ (At.there _ (At.there _ (At.here _)))) (fun w G=>bo G aI rfl rfl 1) ae (by simp only [maxLen];omega) rfl ?_ rfl ?_;(with_reducible rfl);intro A3 c3);apply ab;refine ai ?_);all_goals (refine aa 23 ?_);all_goals (refine aa 24 ?_);all_goals (refine ag 25 ?_;(refine bc ?_);apply ab;refine ai ?_);all_goals (refine aw ?_))));rotate_right;(focus (((refine bH (size:=3) (vs:=[(⟨((sa.n:Nat):Int),c.pub,c.home⟩:KeyD).v]) (css:=(⟨((sa.n:Nat):Int),c.pub,c.home⟩:KeyD).cells) (hsz:=by rfl) (hcs:=by rfl) fun _=>?_);apply ab;refine ai ?_);all_goals ((refine ag 4 ?_;(refine aA ?_);apply ab;refine ai ?_);all_goals (refine ag 22 ?_;(refine aV (size:=3) (news:=(⟨((sa.n:Nat):Int),c.pub,c.home⟩:KeyD).cells) (q:=1) rfl rfl rfl rfl (fun _=>At.there _ (At.there _ (At.there _ (At.here _)))) (fun w G=>bo G aI rfl rfl 1) ae (by simp only [maxLen];omega) rfl ?_ rfl ?_;(with_reducible rfl);intro A3 c3);apply ab;refine ai ?_);all_goals (refine aa 23 ?_);all_goals (refine aa 24 ?_);all_goals (refine ag 25 ?_;(refine bc ?_);apply ab;refine ai ?_);all_goals (refine aw ?_))))))))))));rotate_right;(focus (((refine aA ?_);apply ab;refine ai ?_);all_goals ((refine aa 9 ?_);all_goals (refine bw 4 14 (h:=?_) (h':=?_);(focus (((refine aA ?_);apply ab;refine ai ?_);all_goals ((refine ag 14 ?_;(refine aA ?_);apply ab;refine ai ?_);all_goals (refine aa 20 (hy:=by (apply cj (cs:=(⟨((sa.n:Nat):Int),c.pub,c.home⟩:KeyD).cells);rfl;rfl)) ?_);all_goals (refine ag 21 ?_;(refine bH (size:=3) (vs:=[(⟨((sa.n:Nat):Int),c.pub,c.home⟩:KeyD).v]) (css:=(⟨((sa.n:Nat):Int),c.pub,c.home⟩:KeyD).cells) (hsz:=by rfl) (hcs:=by rfl) fun _=>?_);apply ab;refine ai ?_);all_goals (refine ag 22 ?_;(refine aV (size:=3) (news:=(⟨((sa.n:Nat):Int),c.pub,c.home⟩:KeyD).cells) (q:=1) rfl rfl rfl rfl (fun _=>At.there _ (At.there _ (At.there _ (At.here _)))) (fun w G=>bo G aI rfl rfl 1) ae (by simp only [maxLen];omega) rfl ?_ rfl ?_;(with_reducible rfl);intro A3 c3);apply ab;refine ai ?_);all_goals (refine aa 23 ?_);all_goals (refine aa 24 ?_);all_goals (refine ag 25 ?_;(refine bc ?_);apply ab;refine ai ?_);all_goals (refine aw ?_))));rotate_right;(focus (((refine aA ?_);apply ab;refine ai ?_);all_goals ((refine aa 20 (hy:=by (apply cj (cs:=(⟨((sa.n:Nat):Int),c.pub,c.home⟩:KeyD).cells);rfl;rfl)) ?_);all_goals (refine bw 4 21 (h:=?_) (h':=?_);(focus (((refine aA ?_);apply ab;refine ai ?_);all_goals ((refine ag 21 ?_;(refine bH (size:=3) (vs:=[(⟨((sa.n:Nat):Int),c.pub,c.home⟩:KeyD).v]) (css:=(⟨((sa.n:Nat):Int),c.pub,c.home⟩:KeyD).cells) (hsz:=by rfl) (hcs:=by rfl) fun _=>?_);apply ab;refine ai ?_);all_goals (refine ag 22 ?_;(refine aV (size:=3) (news:=(⟨((sa.n:Nat):Int),c.pub,c.home⟩:KeyD).cells) (q:=1) rfl rfl rfl rfl (fun _=>At.there _ (At.there _ (At.there _ (At.here _)))) (fun w G=>bo G aI rfl rfl 1) ae (by simp only [maxLen];omega) rfl ?_ rfl ?_;(with_reducible rfl);intro A3 c3);apply ab;refine ai ?_);all_goals (refine aa 23 ?_);all_goals (refine aa 24 ?_);all_goals (refine ag 25 ?_;(refine bc ?_);apply ab;refine ai ?_);all_goals (refine aw ?_))));rotate_right;(focus (((refine bH (size:=3) (vs:=[(⟨((sa.n:Nat):Int),c.pub,c.home⟩:KeyD).v]) (css:=(⟨((sa.n:Nat):Int),c.pub,c.home⟩:KeyD).cells) (hsz:=by rfl) (hcs:=by rfl) fun _=>?_);apply ab;refine ai ?_);all_goals ((refine ag 4 ?_;(refine aA ?_);apply ab;refine ai ?_);all_goals (refine ag 22 ?_;(refine aV (size:=3) (news:=(⟨((sa.n:Nat):Int),c.pub,c.home⟩:KeyD).cells) (q:=1) rfl rfl rfl rfl (fun _=>At.there _ (At.there _ (At.there _ (At.here _)))) (fun w G=>bo G aI rfl rfl 1) ae (by simp only [maxLen];omega) rfl ?_ rfl ?_;(with_reducible rfl);intro A3 c3);apply ab;refine ai ?_);all_goals (refine aa 23 ?_);all_goals (refine aa 24 ?_);all_goals (refine ag 25 ?_;(refine bc ?_);apply ab;refine ai ?_);all_goals (refine aw ?_))))))))))))))));rotate_right;(focus (((refine aA ?_);apply ab;refine ai ?_);all_goals ((refine gM 4 8 19 (h:=?_) (h':=?_) (h'':=?_);(focus (((refine aA ?_);apply ab;refine ai ?_);all_goals ((refine bw 8 19 (h:=?_) (h':=?_);(focus (((refine aA ?_);apply ab;refine ai ?_);all_goals ((refine aa 9 ?_);all_goals (refine ag 19 ?_;(refine aA ?_);apply ab;refine ai ?_);all_goals (refine aa 20 (hy:=by (apply cj (cs:=(⟨((sa.n:Nat):Int),c.pub,c.home⟩:KeyD).cells);rfl;rfl)) ?_);all_goals (refine ag 21 ?_;(refine bH (size:=3) (vs:=[(⟨((sa.n:Nat):Int),c.pub,c.home⟩:KeyD).v]) (css:=(⟨((sa.n:Nat):Int),c.pub,c.home⟩:KeyD).cells) (hsz:=by rfl) (hcs:=by rfl) fun _=>?_);apply ab;refine ai ?_);all_goals (refine ag 22 ?_;(refine aV (size:=3) (news:=(⟨((sa.n:Nat):Int),c.pub,c.home⟩:KeyD).cells) (q:=1) rfl rfl rfl rfl (fun _=>At.there _ (At.there _ (At.there _ (At.here _)))) (fun w G=>bo G aI rfl rfl 1) ae (by simp only [maxLen];omega) rfl ?_ rfl ?_;(with_reducible rfl);intro A3 c3);apply ab;refine ai ?_);all_goals (refine aa 23 ?_);all_goals (refine aa 24 ?_);all_goals (refine ag 25 ?_;(refine bc ?_);apply ab;refine ai ?_);all_goals (refine aw ?_))));rotate_right;(focus (((refine aA ?_);apply ab;refine ai ?_);all_goals ((refine ag 8 ?_;(refine aA ?_);apply ab;refine ai ?_);all_goals (refine aa 9 ?_);all_goals (refine aa 20 (hy:=by (apply cj (cs:=(⟨((sa.n:Nat):Int),c.pub,c.home⟩:KeyD).cells);rfl;rfl)) ?_);all_goals (refine ag 21 ?_;(refine bH (size:=3) (vs:=[(⟨((sa.n:Nat):Int),c.pub,c.home⟩:KeyD).v]) (css:=(⟨((sa.n:Nat):Int),c.pub,c.home⟩:KeyD).cells) (hsz:=by rfl) (hcs:=by rfl) fun _=>?_);apply ab;refine ai ?_);all_goals (refine ag 22 ?_;(refine aV (size:=3) (news:=(⟨((sa.n:Nat):Int),c.pub,c.home⟩:KeyD).cells) (q:=1) rfl rfl rfl rfl (fun _=>At.there _ (At.there _ (At.there _ (At.here _)))) (fun w G=>bo G aI rfl rfl 1) ae (by simp only [maxLen];omega) rfl ?_ rfl ?_;(with_reducible rfl);intro A3 c3);apply ab;refine ai ?_);all_goals (refine aa 23 ?_);all_goals (refine aa 24 ?_);all_goals (refine ag 25 ?_;(refine bc ?_);apply ab;refine ai ?_);all_goals (refine aw ?_))))))));rotate_right;(focus (((refine aA ?_);apply ab;refine ai ?_);all_goals ((refine bw 4 8 (h:=?_) (h':=?_);(focus (((refine aA ?_);apply ab;refine ai ?_);all_goals ((refine ag 8 ?_;(refine aA ?_);apply ab;refine ai ?_);all_goals (refine aa 9 ?_);all_goals (refine aa 20 (hy:=by (apply cj (cs:=(⟨((sa.n:Nat):Int),c.pub,c.home⟩:KeyD).cells);rfl;rfl)) ?_);all_goals (refine ag 21 ?_;(refine bH (size:=3) (vs:=[(⟨((sa.n:Nat):Int),c.pub,c.home⟩:KeyD).v]) (css:=(⟨((sa.n:Nat):Int),c.pub,c.home⟩:KeyD).cells) (hsz:=by rfl) (hcs:=by rfl) fun _=>?_);apply ab;refine ai ?_);all_goals (refine ag 22 ?_;(refine aV (size:=3) (news:=(⟨((sa.n:Nat):Int),c.pub,c.home⟩:KeyD).cells) (q:=1) rfl rfl rfl rfl (fun _=>At.there _ (At.there _ (At.there _ (At.here _)))) (fun w G=>bo G aI rfl rfl 1) ae (by simp only [maxLen];omega) rfl ?_ rfl ?_;(with_reducible rfl);intro A3 c3);apply ab;refine ai ?_);all_goals (refine aa 23 ?_);all_goals (refine aa 24 ?_);all_goals (refine ag 25 ?_;(refine bc ?_);apply ab;refine ai ?_);all_goals (refine aw ?_))));rotate_right;(focus (((refine aA ?_);apply ab;refine ai ?_);all_goals ((refine aa 9 ?_);all_goals (refine aa 20 (hy:=by (apply cj (cs:=(⟨((sa.n:Nat):Int),c.pub,c.home⟩:KeyD).cells);rfl;rfl)) ?_);all_goals (refine bw 4 21 (h:=?_) (h':=?_);(focus (((refine aA ?_);apply ab;refine ai ?_);all_goals ((refine ag 21 ?_;(refine bH (size:=3) (vs:=[(⟨((sa.n:Nat):Int),c.pub,c.home⟩:KeyD).v]) (css:=(⟨((sa.n:Nat):Int),c.pub,c.home⟩:KeyD).cells) (hsz:=by rfl) (hcs:=by rfl) fun _=>?_);apply ab;refine ai ?_);all_goals (refine ag 22 ?_;(refine aV (size:=3) (news:=(⟨((sa.n:Nat):Int),c.pub,c.home⟩:KeyD).cells) (q:=1) rfl rfl rfl rfl (fun _=>At.there _ (At.there _ (At.there _ (At.here _)))) (fun w G=>bo G aI rfl rfl 1) ae (by simp only [maxLen];omega) rfl ?_ rfl ?_;(with_reducible rfl);intro A3 c3);apply ab;refine ai ?_);all_goals (refine aa 23 ?_);all_goals (refine aa 24 ?_);all_goals (refine ag 25 ?_;(refine bc ?_);apply ab;refine ai ?_);all_goals (refine aw ?_))));rotate_right;(focus (((refine bH (size:=3) (vs:=[(⟨((sa.n:Nat):Int),c.pub,c.home⟩:KeyD).v]) (css:=(⟨((sa.n:Nat):Int),c.pub,c.home⟩:KeyD).cells) (hsz:=by rfl) (hcs:=by rfl) fun _=>?_);apply ab;refine ai ?_);all_goals ((refine ag 4 ?_;(refine aA ?_);apply ab;refine ai ?_);all_goals (refine ag 22 ?_;(refine aV (size:=3) (news:=(⟨((sa.n:Nat):Int),c.pub,c.home⟩:KeyD).cells) (q:=1) rfl rfl rfl rfl (fun _=>At.there _ (At.there _ (At.there _ (At.here _)))) (fun w G=>bo G aI rfl rfl 1) ae (by simp only [maxLen];omega) rfl ?_ rfl ?_;(with_reducible rfl);intro A3 c3);apply ab;refine ai ?_);all_goals (refine aa 23 ?_);all_goals (refine aa 24 ?_);all_goals (refine ag 25 ?_;(refine bc ?_);apply ab;refine ai ?_);all_goals (refine aw ?_))))))))))));rotate_right;(focus (((refine aA ?_);apply ab;refine ai ?_);all_goals ((refine aa 9 ?_);all_goals (refine bw 4 19 (h:=?_) (h':=?_);(focus (((refine aA ?_);apply ab;refine ai ?_);all_goals ((refine ag 19 ?_;(refine aA ?_);apply ab;refine ai ?_);all_goals (refine aa 20 (hy:=by (apply cj (cs:=(⟨((sa.n:Nat):Int),c.pub,c.home⟩:KeyD).cells);rfl;rfl)) ?_);all_goals (refine ag 21 ?_;(refine bH (size:=3) (vs:=[(⟨((sa.n:Nat):Int),c.pub,c.home⟩:KeyD).v]) (css:=(⟨((sa.n:Nat):Int),c.pub,c.home⟩:KeyD).cells) (hsz:=by rfl) (hcs:=by rfl) fun _=>?_);apply ab;refine ai ?_);all_goals (refine ag 22 ?_;(refine aV (size:=3) (news:=(⟨((sa.n:Nat):Int),c.pub,c.home⟩:KeyD).cells) (q:=1) rfl rfl rfl rfl (fun _=>At.there _ (At.there _ (At.there _ (At.here _)))) (fun w G=>bo G aI rfl rfl 1) ae (by simp only [maxLen];omega) rfl ?_ rfl ?_;(with_reducible rfl);intro A3 c3);apply ab;refine ai ?_);all_goals (refine aa 23 ?_);all_goals (refine aa 24 ?_);all_goals (refine ag 25 ?_;(refine bc ?_);apply ab;refine ai ?_);all_goals (refine aw ?_))));rotate_right;(focus (((refine aA ?_);apply ab;refine ai ?_);all_goals ((refine aa 20 (hy:=by (apply cj (cs:=(⟨((sa.n:Nat):Int),c.pub,c.home⟩:KeyD).cells);rfl;rfl)) ?_);all_goals (refine bw 4 21 (h:=?_) (h':=?_);(focus (((refine aA ?_);apply ab;refine ai ?_);all_goals ((refine ag 21 ?_;(refine bH (size:=3) (vs:=[(⟨((sa.n:Nat):Int),c.pub,c.home⟩:KeyD).v]) (css:=(⟨((sa.n:Nat):Int),c.pub,c.home⟩:KeyD).cells) (hsz:=by rfl) (hcs:=by rfl) fun _=>?_);apply ab;refine ai ?_);all_goals (refine ag 22 ?_;(refine aV (size:=3) (news:=(⟨((sa.n:Nat):Int),c.pub,c.home⟩:KeyD).cells) (q:=1) rfl rfl rfl rfl (fun _=>At.there _ (At.there _ (At.there _ (At.here _)))) (fun w G=>bo G aI rfl rfl 1) ae (by simp only [maxLen];omega) rfl ?_ rfl ?_;(with_reducible rfl);intro A3 c3);apply ab;refine ai ?_);all_goals (refine aa 23 ?_);all_goals (refine aa 24 ?_);all_goals (refine ag 25 ?_;(refine bc ?_);apply ab;refine ai ?_);all_goals (refine aw ?_))));rotate_right;(focus (((refine bH (size:=3) (vs:=[(⟨((sa.n:Nat):Int),c.pub,c.home⟩:KeyD).v]) (css:=(⟨((sa.n:Nat):Int),c.pub,c.home⟩:KeyD).cells) (hsz:=by rfl) (hcs:=by rfl) fun _=>?_);apply ab;refine ai ?_);all_goals ((refine ag 4 ?_;(refine aA ?_);apply ab;refine ai ?_);all_goals (refine ag 22 ?_;(refine aV (size:=3) (news:=(⟨((sa.n:Nat):Int),c.pub,c.home⟩:KeyD).cells) (q:=1) rfl rfl rfl rfl (fun _=>At.there _ (At.there _ (At.there _ (At.here _)))) (fun w G=>bo G aI rfl rfl 1) ae (by simp only [maxLen];omega) rfl ?_ rfl ?_;(with_reducible rfl);intro A3 c3);apply ab;refine ai ?_);all_goals (refine aa 23 ?_);all_goals (refine aa 24 ?_);all_goals (refine ag 25 ?_;(refine bc ?_);apply ab;refine ai ?_);all_goals (refine aw ?_))))))))))))))));rotate_right;(focus (((refine aA ?_);apply ab;refine ai ?_);all_goals ((refine aa 9 ?_);all_goals (refine gM 4 14 19 (h:=?_) (h':=?_) (h'':=?_);(focus (((refine aA ?_);apply ab;refine ai ?_);all_goals ((refine bw 14 19 (h:=?_) (h':=?_);(focus (((refine aA ?_);apply ab;refine ai ?_);all_goals ((refine ag 19 ?_;(refine aA ?_);apply ab;refine ai ?_);all_goals (refine aa 20 (hy:=by (apply cj (cs:=(⟨((sa.n:Nat):Int),c.pub,c.home⟩:KeyD).cells);rfl;rfl)) ?_);all_goals (refine ag 21 ?_;(refine bH (size:=3) (vs:=[(⟨((sa.n:Nat):Int),c.pub,c.home⟩:KeyD).v]) (css:=(⟨((sa.n:Nat):Int),c.pub,c.home⟩:KeyD).cells) (hsz:=by rfl) (hcs:=by rfl) fun _=>?_);apply ab;refine ai ?_);all_goals (refine ag 22 ?_;(refine aV (size:=3) (news:=(⟨((sa.n:Nat):Int),c.pub,c.home⟩:KeyD).cells) (q:=1) rfl rfl rfl rfl (fun _=>At.there _ (At.there _ (At.there _ (At.here _)))) (fun w G=>bo G aI rfl rfl 1) ae (by simp only [maxLen];omega) rfl ?_ rfl ?_;(with_reducible rfl);intro A3 c3);apply ab;refine ai ?_);all_goals (refine aa 23 ?_);all_goals (refine aa 24 ?_);all_goals (refine ag 25 ?_;(refine bc ?_);apply ab;refine ai ?_);all_goals (refine aw ?_))));rotate_right;(focus (((refine aA ?_);apply ab;refine ai ?_);all_goals ((refine ag 14 ?_;(refine aA ?_);apply ab;refine ai ?_);all_goals (refine aa 20 (hy:=by (apply cj (cs:=(⟨((sa.n:Nat):Int),c.pub,c.home⟩:KeyD).cells);rfl;rfl)) ?_);all_goals (refine ag 21 ?_;(refine bH (size:=3) (vs:=[(⟨((sa.n:Nat):Int),c.pub,c.home⟩:KeyD).v]) (css:=(⟨((sa.n:Nat):Int),c.pub,c.home⟩:KeyD).cells) (hsz:=by rfl) (hcs:=by rfl) fun _=>?_);apply ab;refine ai ?_);all_goals (refine ag 22 ?_;(refine aV (size:=3) (news:=(⟨((sa.n:Nat):Int),c.pub,c.home⟩:KeyD).cells) (q:=1) rfl rfl rfl rfl (fun _=>At.there _ (At.there _ (At.there _ (At.here _)))) (fun w G=>bo G aI rfl rfl 1) ae (by simp only [maxLen];omega) rfl ?_ rfl ?_;(with_reducible rfl);intro A3 c3);apply ab;refine ai ?_);all_goals (refine aa 23 ?_);all_goals (refine aa 24 ?_);all_goals (refine ag 25 ?_;(refine bc ?_);apply ab;refine ai ?_);all_goals (refine aw ?_))))))));rotate_right;(focus (((refine aA ?_);apply ab;refine ai ?_);all_goals ((refine bw 4 14 (h:=?_) (h':=?_);(focus (((refine aA ?_);apply ab;refine ai ?_);all_goals ((refine ag 14 ?_;(refine aA ?_);apply ab;refine ai ?_);all_goals (refine aa 20 (hy:=by (apply cj (cs:=(⟨((sa.n:Nat):Int),c.pub,c.home⟩:KeyD).cells);rfl;rfl)) ?_);all_goals (refine ag 21 ?_;(refine bH (size:=3) (vs:=[(⟨((sa.n:Nat):Int),c.pub,c.home⟩:KeyD).v]) (css:=(⟨((sa.n:Nat):Int),c.pub,c.home⟩:KeyD).cells) (hsz:=by rfl) (hcs:=by rfl) fun _=>?_);apply ab;refine ai ?_);all_goals (refine ag 22 ?_;(refine aV (size:=3) (news:=(⟨((sa.n:Nat):Int),c.pub,c.home⟩:KeyD).cells) (q:=1) rfl rfl rfl rfl (fun _=>At.there _ (At.there _ (At.there _ (At.here _)))) (fun w G=>bo G aI rfl rfl 1) ae (by simp only [maxLen];omega) rfl ?_ rfl ?_;(with_reducible rfl);intro A3 c3);apply ab;refine ai ?_);all_goals (refine aa 23 ?_);all_goals (refine aa 24 ?_);all_goals (refine ag 25 ?_;(refine bc ?_);apply ab;refine ai ?_);all_goals (refine aw ?_))));rotate_right;(focus (((refine aA ?_);apply ab;refine ai ?_);all_goals ((refine aa 20 (hy:=by (apply cj (cs:=(⟨((sa.n:Nat):Int),c.pub,c.home⟩:KeyD).cells);rfl;rfl)) ?_);all_goals (refine bw 4 21 (h:=?_) (h':=?_);(focus (((refine aA ?_);apply ab;refine ai ?_);all_goals ((refine ag 21 ?_;(refine bH (size:=3) (vs:=[(⟨((sa.n:Nat):Int),c.pub,c.home⟩:KeyD).v]) (css:=(⟨((sa.n:Nat):Int),c.pub,c.home⟩:KeyD).cells) (hsz:=by rfl) (hcs:=by rfl) fun _=>?_);apply ab;refine ai ?_);all_goals (refine ag 22 ?_;(refine aV (size:=3) (news:=(⟨((sa.n:Nat):Int),c.pub,c.home⟩:KeyD).cells) (q:=1) rfl rfl rfl rfl (fun _=>At.there _ (At.there _ (At.there _ (At.here _)))) (fun w G=>bo G aI rfl rfl 1) ae (by simp only [maxLen];omega) rfl ?_ rfl ?_;(with_reducible rfl);intro A3 c3);apply ab;refine ai ?_);all_goals (refine aa 23 ?_);all_goals (refine aa 24 ?_);all_goals (refine ag 25 ?_;(refine bc ?_);apply ab;refine ai ?_);all_goals (refine aw ?_))));rotate_right;(focus (((refine bH (size:=3) (vs:=[(⟨((sa.n:Nat):Int),c.pub,c.home⟩:KeyD).v]) (css:=(⟨((sa.n:Nat):Int),c.pub,c.home⟩:KeyD).cells) (hsz:=by rfl) (hcs:=by rfl) fun _=>?_);apply ab;refine ai ?_);all_goals ((refine ag 4 ?_;(refine aA ?_);apply ab;refine ai ?_);all_goals (refine ag 22 ?_;(refine aV (size:=3) (news:=(⟨((sa.n:Nat):Int),c.pub,c.home⟩:KeyD).cells) (q:=1) rfl rfl rfl rfl (fun _=>At.there _ (At.there _ (At.there _ (At.here _)))) (fun w G=>bo G aI rfl rfl 1) ae (by simp only [maxLen];omega) rfl ?_ rfl ?_;(with_reducible rfl);intro A3 c3);apply ab;refine ai ?_);all_goals (refine aa 23 ?_);all_goals (refine aa 24 ?_);all_goals (refine ag 25 ?_;(refine bc ?_);apply ab;refine ai ?_);all_goals (refine aw ?_))))))))))));rotate_right;(focus (((refine aA ?_);apply ab;refine ai ?_);all_goals ((refine bw 4 19 (h:=?_) (h':=?_);(focus (((refine aA ?_);apply ab;refine ai ?_);all_goals ((refine ag 19 ?_;(refine aA ?_);apply ab;refine ai ?_);all_goals (refine aa 20 (hy:=by (apply cj (cs:=(⟨((sa.n:Nat):Int),c.pub,c.home⟩:KeyD).cells);rfl;rfl)) ?_);all_goals (refine ag 21 ?_;(refine bH (size:=3) (vs:=[(⟨((sa.n:Nat):Int),c.pub,c.home⟩:KeyD).v]) (css:=(⟨((sa.n:Nat):Int),c.pub,c.home⟩:KeyD).cells) (hsz:=by rfl) (hcs:=by rfl) fun _=>?_);apply ab;refine ai ?_);all_goals (refine ag 22 ?_;(refine aV (size:=3) (news:=(⟨((sa.n:Nat):Int),c.pub,c.home⟩:KeyD).cells) (q:=1) rfl rfl rfl rfl (fun _=>At.there _ (At.there _ (At.there _ (At.here _)))) (fun w G=>bo G aI rfl rfl 1) ae (by simp only [maxLen];omega) rfl ?_ rfl ?_;(with_reducible rfl);intro A3 c3);apply ab;refine ai ?_);all_goals (refine aa 23 ?_);all_goals (refine aa 24 ?_);all_goals (refine ag 25 ?_;(refine bc ?_);apply ab;refine ai ?_);all_goals (refine aw ?_))));rotate_right;(focus (((refine aA ?_);apply ab;refine ai ?_);all_goals ((refine aa 20 (hy:=by (apply cj (cs:=(⟨((sa.n:Nat):Int),c.pub,c.home⟩:KeyD).cells);rfl;rfl)) ?_);all_goals (refine bw 4 21 (h:=?_) (h':=?_);(focus (((refine aA ?_);apply ab;refine ai ?_);all_goals ((refine ag 21 ?_;(refine bH (size:=3) (vs:=[(⟨((sa.n:Nat):Int),c.pub,c.home⟩:KeyD).v]) (css:=(⟨((sa.n:Nat):Int),c.pub,c.home⟩:KeyD).cells) (hsz:=by rfl) (hcs:=by rfl) fun _=>?_);apply ab;refine ai ?_);all_goals (refine ag 22 ?_;(refine aV (size:=3) (news:=(⟨((sa.n:Nat):Int),c.pub,c.home⟩:KeyD).cells) (q:=1) rfl rfl rfl rfl (fun _=>At.there _ (At.there _ (At.there _ (At.here _)))) (fun w G=>bo G aI rfl rfl 1) ae (by simp only [maxLen];omega) rfl ?_ rfl ?_;(with_reducible rfl);intro A3 c3);apply ab;refine ai ?_);all_goals (refine aa 23 ?_);all_goals (refine aa 24 ?_);all_goals (refine ag 25 ?_;(refine bc ?_);apply ab;refine ai ?_);all_goals (refine aw ?_))));rotate_right;(focus (((refine bH (size:=3) (vs:=[(⟨((sa.n:Nat):Int),c.pub,c.home⟩:KeyD).v]) (css:=(⟨((sa.n:Nat):Int),c.pub,c.home⟩:KeyD).cells) (hsz:=by rfl) (hcs:=by rfl) fun _=>?_);apply ab;refine ai ?_);all_goals ((refine ag 4 ?_;(refine aA ?_);apply ab;refine ai ?_);all_goals (refine ag 22 ?_;(refine aV (size:=3) (news:=(⟨((sa.n:Nat):Int),c.pub,c.home⟩:KeyD).cells) (q:=1) rfl rfl rfl rfl (fun _=>At.there _ (At.there _ (At.there _ (At.here _)))) (fun w G=>bo G aI rfl rfl 1) ae (by simp only [maxLen];omega) rfl ?_ rfl ?_;(with_reducible rfl);intro A3 c3);apply ab;refine ai ?_);all_goals (refine aa 23 ?_);all_goals (refine aa 24 ?_);all_goals (refine ag 25 ?_;(refine bc ?_);apply ab;refine ai ?_);all_goals (refine aw ?_)))))))))))))))))
        all_goals exact ⟨(_,_),ax ⟨rfl,rfl,trivial⟩ (List.Sublist.cons _ (aE _)) fun w h=>h⟩
      obtain ⟨A3,c3⟩:=i
      simp only
      have hlk:=ta b ⟨ks,ki,id,fork,q1,q2,c,true⟩ sa ⟨A3,sk.n+1,c3⟩ ⟨st.acts,st.keys++[(⟨((sa.n:Nat):Int),c.pub,c.home⟩:KeyD)],W.dgC c,st.gen+1⟩ (W.won (st.gen+1)) (fun w=>Y w∧Glob w) hwon
      repeat' (first|apply ab|apply Qt|apply Qu|refine aj ?_|refine cv ?_|refine aB ?_|refine aA ?_|refine be (h:=?_)|refine bc ?_|(refine aW (vs:=c.cells) (hv:=rfl) ?_)|(refine ao (hc:=gd c) (hX:=fun _ _=>trivial) ?_)|(refine ao (hc:=hdg) (hX:=fun _ h=>h) ?_)|fail)
      refine cw (pre:=[bldCel b ⟨ks,ki,id,fork,q1,q2,c,true⟩ sa ⟨A3,sk.n+1,c3⟩ (⟨st.acts,st.keys++[(⟨((sa.n:Nat):Int),c.pub,c.home⟩:KeyD)],W.dgC c,st.gen+1⟩:ChS)]) (fr:=[orow 46 20 (.slice sa.p sa.n sa.c) sa.n (st.acts.map ActD.cells).flatten,orow 35 3 (.slice A3 (sk.n+1) c3) (sk.n+1) ((st.keys.map KeyD.cells).flatten++(⟨((sa.n:Nat):Int),c.pub,c.home⟩:KeyD).cells),mapr q2 pl]) (first:=#[]) (caps:=#[]) (hc:=hlk) (hX:=fun _ h=>h) (h:=?_)
      rintro v R X' ⟨rfl,rfl⟩
      repeat' (first|apply ab|apply Qt|apply Qu|refine ad ?_|apply ar|fail)
      have hfk:((st.keys++[(⟨((sa.n:Nat):Int),c.pub,c.home⟩:KeyD)]).map KeyD.cells).flatten=(st.keys.map KeyD.cells).flatten++(⟨((sa.n:Nat):Int),c.pub,c.home⟩:KeyD).cells:=by simp
      rw [←hn] at hreg
      refine al (ap rfl rfl) ⟨bldR b ((⟨ks,ki,id,fork,q1,q2,c,true⟩:BldH).look (W.won (st.gen+1))) sa ⟨A3,sk.n+1,c3⟩ (⟨st.acts,st.keys++[(⟨((sa.n:Nat):Int),c.pub,c.home⟩:KeyD)],W.dgC c,st.gen+1⟩:ChS) pl,?_,⟨fun s hs=>?_,fun hs=>?_⟩⟩
      · unfold bldR actR keyR
        rw [hfk]
        exact aE _
      · rw [hreg,Qb] at hs
        subst hs
        exact ⟨rfl,sa,⟨A3,sk.n+1,c3⟩,pl,⟨hn,by rw [ZX,←hk];rfl,hp⟩,rfl⟩
      · rw [hreg] at hs
        cases hs
  · have hne:(!decide (a.kind=(19:Int)))=true:=by rw [Zn hk19];rfl
    repeat' (first|refine am (eJ true rfl rfl (ZA ae)) rfl rfl rfl ?_|refine am (eC true rfl rfl hne) rfl aC rfl ?_|apply ab|apply Qt|apply Qu|refine aj ?_|refine ad ?_|refine cv ?_|refine aB ?_|refine aA ?_|refine aD ?_|refine de (h:=?_)|refine Qx ?_|apply Qw|apply Qv|(refine bx (q:=k*20) ?_)|(refine eX ?_)|(refine am (f0 (i:=k) (j:=3) (cs:=a.cells) (u:=.int .i64 a.kind) rfl hrow hm1 (fU _) hi1 rfl) rfl rfl rfl ?_)|fail)
    exact ⟨(⟨k,by omega,by rw [hs,setI,haD,Zn hk19];rfl⟩:SetI st.acts),Nat.lt_succ_self k,ax ⟨rfl,rfl,(by show some (Value.int IntKind.i64 (((k+1:Nat):Int)-1-1))=some (Value.int IntKind.i64 ((k:Int)-1));rw [show ((k+1:Nat):Int)-1-1=(k:Int)-1 from by omega]),trivial⟩ (aE _) fun _ h=>h⟩
def quoN (n:Nat):Nat:=if n=0 then 1 else n/3*2+n%3*2/3+1
theorem uV (n:Nat) (hn:n≤1000000):Pu Tryz.prog 81 #[.int .i64 (n:Nat)] (fun _=>True) (.int .i64 (quoN n:Nat)):=by
 refine ay (args:=[_]) _ Tryz.func81 rfl Tryz.ntmps81 rfl fun av bor w0=>?_
 by_cases h0:n=0
 · subst h0
   repeat' (first|apply ab|apply Qt|apply Qu|refine aj ?_|refine ad ?_|refine cF ?_|apply Qw|apply ar|(refine aH (ht:=?_) (hf:=?_);all_goals (intro hx_;first|have:=aP hx_|have:=aT hx_)))
   · exact al (ap rfl rfl) rfl
   · exact absurd this (by decide)
 · have q1:IntKind.i64.wrap ((n:Int).tdiv 3)=((n/3:Nat):Int):=IntWalk.i64_in _ (by show _≤((n/3:Nat):Int)∧((n/3:Nat):Int)≤_;omega)
   have q2:IntKind.i64.wrap (((n/3:Nat):Int)*2)=((n/3*2:Nat):Int):=IntWalk.i64_in _ ae
   have q3:(n:Int).tmod 3=((n%3:Nat):Int):=rfl
   have q4:IntKind.i64.wrap (((n%3:Nat):Int)*2)=((n%3*2:Nat):Int):=IntWalk.i64_in _ ae
   have q5:IntKind.i64.wrap (((n%3*2:Nat):Int).tdiv 3)=((n%3*2/3:Nat):Int):=IntWalk.i64_in _ (by show _≤((n%3*2/3:Nat):Int)∧((n%3*2/3:Nat):Int)≤_;omega)
   have hV:quoN n=n/3*2+n%3*2/3+1:=by rw [quoN,Qf h0]
   have b1:n/3*2≤2*n:=by omega
   have b2:n%3*2/3≤2:=by omega
   rw [hV]
   generalize n/3=x1 at *
   generalize n%3=x2 at *
   generalize x2*2/3=x3 at *
   repeat' (first|refine am (mA rfl rfl (by decide) q1) rfl rfl rfl ?_|refine am (mA rfl rfl (by decide) q5) rfl rfl rfl ?_|refine am (oH rfl rfl q2) rfl rfl rfl ?_|refine am (oH rfl rfl q4) rfl rfl rfl ?_|refine am (oG rfl rfl (by decide) q3) rfl rfl rfl ?_|apply ab|apply Qt|apply Qu|refine aj ?_|refine ad ?_|refine cF ?_|refine be (h:=?_)|apply Qw|apply ar|(refine aH (ht:=?_) (hf:=?_);all_goals (intro hx_;first|have:=aP hx_|have:=aT hx_)))
   all_goals first
    | (exfalso;omega)
    | exact al (ap rfl rfl) (congrArg (Value.int .i64) ae)
def wonB (sv:Nat) (dC:ClaimD→ByteArray) (B:List BallotD) (gn:Int) (c:ClaimD):Bool:=decide (c.gen=gn)&&decide (quoN sv≤(votV (dC c) B).length)
def wonO (sv:Nat) (C:List ClaimD) (dC:ClaimD→ByteArray) (B:List BallotD) (gn:Int):Option ClaimD:=C.find? (wonB sv dC B gn)
structure WonI (C:List ClaimD) (p:ClaimD→Bool) where
 k:Nat
 hk:k≤C.length
 hs:C.find? p=(C.drop k).find? p
set_option maxHeartbeats 4000000 in
theorem BL (ks ki:SlV) (L:List Int) (I:List ItemD) (au:ByteArray) (gn:Int) (C:List ClaimD) (B:List BallotD) (dC:ClaimD→ByteArray) (hB:B.length≤1000000) (hL:L.length≤1000000)
  (hC:Mk Tryz.prog 82 #[.agg #[ks.v,ki.v],.string au] (fun w=>Items w ki I∧Glob w) (fun u X'=>∃ s:SlV,u=s.v∧∀ w,X' w→Claims w s C))
  (hK:Mk Tryz.prog 194 #[.agg #[ks.v,ki.v],.string au,.int .i64 gn] (fun w=>Items w ki I∧Glob w) (fun u X'=>∃ s:SlV,u=s.v∧∀ w,X' w→Ballots w s B))
  (hD:∀ c∈C,Pu Tryz.prog 14 #[(ofClaimI c).v] Glob (.string (dC c))) :
  Pu Tryz.prog 51 #[.agg #[ks.v,ki.v],.string au,.int .i64 gn] (fun w=>(Ints w ks L∧Items w ki I)∧Glob w) (.tuple #[((wonO L.length C dC B gn).getD ClaimD.zero).v,.bool (wonO L.length C dC B gn).isSome]):=by
 refine ay (args:=[_,_,_]) _ Tryz.func51 rfl Tryz.ntmps51 rfl fun av bor w0=>?_
 refine bJ (p:=ks.n=L.length) (fun w h=>h.1.1.len_) fun hkn=>?_
 have hqu:=uV ks.n ae
 rw [wonO]
 have hpd:∀ c,wonB L.length dC B gn c=(decide (c.gen=gn)&&decide (quoN ks.n≤(votV (dC c) B).length)):=fun c=>by rw [hkn];rfl
 generalize wonB L.length dC B gn=p at *
 generalize quoN ks.n=qn at *
 repeat' (first|apply ab|apply Qt|apply Qu|refine aj ?_|refine ad ?_|refine aB ?_|refine aA ?_|refine aF ?_|refine aY ?_|refine aM fun _=>?_|refine aL fun _=>?_|apply Qv|(refine ao (hc:=hqu) (hX:=fun _ _=>trivial) ?_)|(refine cR (hc:=hC) (hX:=fun w h=>⟨h.1.2,h.2⟩) fun v1 X1 h1=>?_;obtain ⟨s,rfl,hw⟩:=h1)|fail)
 rename_i b3 b6
 refine bJ (p:=s.n=C.length∧s.n≤maxLen∧(0<C.length→s.p.isSome=true)) (fun w h=>⟨by simpa using RowsD.len (hw w h.2),Qp (RowsD.cap (hw w h.2)) (RowsD.max (hw w h.2)),fun h0=>(RowsD.row (hw w h.2) 0 C[0].cells (by simp [Zm h0])).2.1⟩) fun ⟨hsn,hsm,hsp⟩=>?_
 simp only [maxLen] at hsm
 refine aU (ι:=WonI C p) (fun i=>⟨[(1,.string au),(2,.int .i64 gn),(3,.pointer (some ⟨b3,0,none⟩)),(6,.pointer (some ⟨b6,0,none⟩)),(8,.int .i64 (qn:Nat)),(18,s.v),(19,.int .i64 (s.n:Nat)),(20,.int .i64 (i.k:Nat))],[cel b6 51 ClaimD.zero.cells,cel b3 25 [ks.v,ki.v]],fun w=>((Ints w ks L∧Items w ki I)∧Glob w)∧X1 w⟩) (fun i=>C.length-i.k) ⟨0,Nat.zero_le _,rfl⟩ (ax ⟨rfl,rfl,rfl,rfl,rfl,rfl,rfl,rfl,trivial⟩ (aE _) fun _ h=>h) fun i=>?_
 obtain ⟨k,hk,hs⟩:=i
 simp only
 by_cases hlt:k<C.length
 · have hsp':=hsp ae
   obtain ⟨c,hc⟩:∃ c,C[k]?=some c:=⟨_,Zm hlt⟩
   have hcm:=List.mem_of_getElem? hc
   have hdr:C.drop k=c::C.drop (k+1):=by
    rw [List.drop_eq_getElem_cons hlt]
    rw [Zm hlt,Qb] at hc
    rw [hc]
   have hrow:∀ w,((Ints w ks L∧Items w ki I)∧Glob w)∧X1 w→c.cells.length=9∧s.p.isSome=true∧∀ i u,c.cells[i]?=some u→CellAt w s.p (k*9+i) u:=fun w h=>RowsD.row (hw w h.2) k c.cells (by simp [hc])
   have hvo:=tF ks ki I au gn (dC c) B hB hK
   have hdi:=hD c hcm
   have hpc:=hpd c
   generalize votV (dC c) B=V at *
   by_cases hg:c.gen=gn
   · rw [ZA hg,ZD] at hpc
     by_cases hq:qn≤V.length
     · have hF:C.find? p=some c:=by rw [hs,hdr,List.find?_cons,hpc,ZA hq]
       rw [hF]
       repeat' (first|refine am (bM true rfl rfl (ZA ae)) rfl aC rfl ?_|refine am (eC false rfl rfl (by simp [hg])) rfl aC rfl ?_|refine am (eJ true rfl rfl (ZA ae)) rfl aC rfl ?_|apply ab|apply Qt|apply Qu|refine aj ?_|refine ad ?_|refine aB ?_|refine aA ?_|refine aF ?_|refine aY ?_|refine aM fun _=>?_|refine aK ?_|refine Qx ?_|refine Qy ?_|apply Qw|apply Qv|apply ar|(refine bx (q:=k*9) ?_)|(refine cr (cs:=c.cells) (hF:=hrow) ?_)|(refine ao (hc:=gd c) (hX:=fun _ _=>trivial) ?_)|(refine ao (hc:=hdi) (hX:=fun w h=>h.1.2) ?_)|(refine cR (hc:=hvo) (hX:=fun w h=>⟨h.1.1.2,h.1.2⟩) fun v2 X2 h2=>?_;obtain ⟨A2,c2,rfl⟩:=h2)|fail)
       all_goals first
        | exact al (cV rfl rfl rfl bU (by rfl)) rfl
     · have hF:C.find? p=(C.drop (k+1)).find? p:=by rw [hs,hdr,List.find?_cons,hpc,Zn hq]
       repeat' (first|refine am (bM true rfl rfl (ZA ae)) rfl aC rfl ?_|refine am (eC false rfl rfl (by simp [hg])) rfl aC rfl ?_|refine am (eJ false rfl rfl (Zn ae)) rfl aC rfl ?_|apply ab|apply Qt|apply Qu|refine aj ?_|refine ad ?_|refine aB ?_|refine aA ?_|refine aF ?_|refine aY ?_|refine be (h:=?_)|refine aM fun _=>?_|refine aK ?_|refine Qx ?_|refine Qy ?_|apply Qw|apply Qv|(refine bx (q:=k*9) ?_)|(refine cr (cs:=c.cells) (hF:=hrow) ?_)|(refine ao (hc:=gd c) (hX:=fun _ _=>trivial) ?_)|(refine ao (hc:=hdi) (hX:=fun w h=>h.1.2) ?_)|(refine cR (hc:=hvo) (hX:=fun w h=>⟨h.1.1.2,h.1.2⟩) fun v2 X2 h2=>?_;obtain ⟨A2,c2,rfl⟩:=h2)|fail)
       all_goals first
        | exact ⟨(⟨k+1,hlt,hF⟩:WonI C p),(by show C.length-(k+1)<C.length-k;omega),ax ⟨rfl,rfl,rfl,rfl,rfl,rfl,rfl,rfl,trivial⟩ (.cons _ (aE _)) fun _ h=>h.1⟩
   · have hF:C.find? p=(C.drop (k+1)).find? p:=by rw [hs,hdr,List.find?_cons,hpc,Zn hg,ZG]
     repeat' (first|refine am (bM true rfl rfl (ZA ae)) rfl aC rfl ?_|refine am (eC true rfl rfl (by simp [hg])) rfl aC rfl ?_|apply ab|apply Qt|apply Qu|refine aj ?_|refine aB ?_|refine aA ?_|refine be (h:=?_)|refine aM fun _=>?_|refine aK ?_|refine Qx ?_|apply Qw|apply Qv|apply aQ|(refine bx (q:=k*9) ?_)|(refine cr (cs:=c.cells) (hF:=hrow) ?_)|fail)
     all_goals first
      | exact ⟨(⟨k+1,hlt,hF⟩:WonI C p),(by show C.length-(k+1)<C.length-k;omega),ax ⟨rfl,rfl,rfl,rfl,rfl,rfl,rfl,rfl,trivial⟩ (.cons _ (aE _)) fun _ h=>h⟩
 · have hF:C.find? p=none:=by rw [hs,List.drop_of_length_le (by omega)];rfl
   rw [hF]
   repeat' (first|refine am (bM false rfl rfl (Zn ae)) rfl aC rfl ?_|apply ab|apply Qt|apply Qu|refine ad ?_|refine aK ?_|refine Qy ?_|apply ar|apply aQ|(refine br (cs:=ClaimD.zero.cells) (hf:=by rfl) ?_)|fail)
   all_goals first
    | exact al (cV rfl rfl rfl bU (by rfl)) rfl
theorem ck {P:Program} {d:Nat} {xs ys:Array Value} {f:Field} {fs:List Field} {a b:Value} {r q:Bool} {w:World}
  (hn:f.name≠ "_") (ha:(part f.type xs f.offset).run P w=.ok a w) (hb:(part f.type ys f.offset).run P w=.ok b w)
  (hr:(Op.equalIn d f.type a b).run P w=.ok r w) (hq:(Op.eqFields d xs ys fs).run P w=.ok q w) :
  (Op.eqFields d xs ys (f::fs)).run P w=.ok (r&&q) w:=by
 rw [Op.eqFields,Qe hn]
 simp only [Sem.run_bind,ha,hb,hr,Result.andThen_ok]
 cases r<;>simp [hq]
theorem gU {P:Program} {d:Nat} {xs ys:Array Value} {w:World}:(Op.eqFields d xs ys []).run P w=.ok true w:=by simp [Op.eqFields]
theorem bu {P:Program} {t:TypeId} {cs:Array Value} {o:Nat} {v:Value} {w:World} [h1:TyOne P t] (hx:cs[o]?=some v):(part t cs o).run P w=.ok v w:=by
 have hag:=(cD (TyOne.out (P:=P) (t:=t)) w).1
 simp [part,hag,hx]
theorem da {P:Program} {d:Nat} {t:TypeId} {k:IntKind} {a b:Int} {w:World} [TyInt P t k]:(Op.equalIn (d+1) t (.int k a) (.int k b)).run P w=.ok (decide (a=b)) w:=by
 rw [run_equalIn_int (P:=P) w d t k k a b TyInt.out]
 congr 1
theorem fq {P:Program} {d:Nat} {t:TypeId} {a b:ByteArray} {w:World} [TyStr P t]:(Op.equalIn (d+1) t (.string a) (.string b)).run P w=.ok (seqB a b) w :=
 run_equalIn_string (P:=P) w d t a b TyStr.out
theorem oY:Tryz.prog.underlying 44=some (.struct (Tryz.prog.fieldsOf 44)):=by kernel_rfl
theorem qO:Tryz.prog.stoodInHeld 44=false:=by kernel_rfl
theorem xp (w:World):(isAgg 44).run Tryz.prog w=.ok true w:=by kernel_rfl
theorem uy (w:World):(Go.sizeOf 44).run Tryz.prog w=.ok 2 w:=by kernel_rfl
theorem gC {cs:Array Value} {o:Nat} {w:World}:(part 44 cs o).run Tryz.prog w=.ok (.agg (cs.extract o (o+2))) w:=by
 simp [part,xp,uy]
theorem lT {d:Nat} {a b c e:Int} {w:World}:(Op.equalIn (d+2) 44 (.agg #[.int .i64 a,.int .i64 b]) (.agg #[.int .i64 c,.int .i64 e])).run Tryz.prog w=.ok (decide (a=c)&&(decide (b=e)&&true)) w:=by
 rw [run_equalIn_agg w (d+1) _ _ _ oY qO]
 have hf:(Tryz.prog.fieldsOf 44).toList.map (fun f=>(f.name,f.type,f.offset))=[("E",3,0),("S",3,1)]:=by kernel_rfl
 generalize (Tryz.prog.fieldsOf 44).toList=l at hf
 rcases l with _|⟨⟨n1,t1,o1,_⟩,_|⟨⟨n2,t2,o2,_⟩,_|⟨f3,l⟩⟩⟩
 case cons.cons.nil =>
  simp only [Qs,List.map_nil,List.cons.injEq,Prod.mk.injEq,and_true] at hf
  obtain ⟨⟨rfl,rfl,rfl⟩,rfl,rfl,rfl⟩:=hf
  exact ck (by dsimp only;decide) (bu rfl) (bu rfl) da (ck (by dsimp only;decide) (bu rfl) (bu rfl) da gU)
 all_goals (have:=congrArg List.length hf;simp at this)
def claimEq (a b:ClaimD):Bool:=seqB a.actor b.actor&&(decide (a.base=b.base)&&(seqB a.prev b.prev&&(decide (a.gen=b.gen)&&(decide (a.home=b.home)&&(decide (a.pub=b.pub)&&(decide (a.time=b.time)&&((decide (a.e=b.e)&&(decide (a.s=b.s)&&true))&&true)))))))
theorem lW:Tryz.prog.underlying 51=some (.struct (Tryz.prog.fieldsOf 51)):=by kernel_rfl
theorem mv:Tryz.prog.stoodInHeld 51=false:=by kernel_rfl
theorem mw:Tryz.prog.eqGuardType Tryz.prog.depth 51=false:=by kernel_rfl
theorem pd (w:World) (a b:ClaimD):(Op.equalIn 10000 51 (.agg a.cells.toArray) (.agg b.cells.toArray)).run Tryz.prog w=.ok (claimEq a b) w:=by
 rw [show (10000:Nat)=9999+1 from rfl,run_equalIn_agg w 9999 _ _ _ lW mv]
 have hf:(Tryz.prog.fieldsOf 51).toList.map (fun f=>(f.name,f.type,f.offset))=[("Actor",9,0),("Base",3,1),("Prev",9,2),("Gen",3,3),("Home",3,4),("Public",3,5),("Time",3,6),("Sig",44,7)]:=by kernel_rfl
 generalize (Tryz.prog.fieldsOf 51).toList=l at hf
 rcases l with _|⟨⟨n1,t1,o1,_⟩,_|⟨⟨n2,t2,o2,_⟩,_|⟨⟨n3,t3,o3,_⟩,_|⟨⟨n4,t4,o4,_⟩,_|⟨⟨n5,t5,o5,_⟩,_|⟨⟨n6,t6,o6,_⟩,_|⟨⟨n7,t7,o7,_⟩,_|⟨⟨n8,t8,o8,_⟩,_|⟨g,l⟩⟩⟩⟩⟩⟩⟩⟩⟩
 case cons.cons.cons.cons.cons.cons.cons.cons.nil =>
  simp only [Qs,List.map_nil,List.cons.injEq,Prod.mk.injEq,and_true] at hf
  obtain ⟨⟨rfl,rfl,rfl⟩,⟨rfl,rfl,rfl⟩,⟨rfl,rfl,rfl⟩,⟨rfl,rfl,rfl⟩,⟨rfl,rfl,rfl⟩,⟨rfl,rfl,rfl⟩,⟨rfl,rfl,rfl⟩,rfl,rfl,rfl⟩:=hf
  exact ck (by dsimp only;decide) (bu rfl) (bu rfl) fq (ck (by dsimp only;decide) (bu rfl) (bu rfl) da (ck (by dsimp only;decide) (bu rfl) (bu rfl) fq (ck (by dsimp only;decide) (bu rfl) (bu rfl) da (ck (by dsimp only;decide) (bu rfl) (bu rfl) da (ck (by dsimp only;decide) (bu rfl) (bu rfl) da (ck (by dsimp only;decide) (bu rfl) (bu rfl) da (ck (by dsimp only;decide) gC gC lT (gU))))))))
 all_goals (have:=congrArg List.length hf;simp at this)
theorem me {N:Nat} {av bor:List Nat} {w0:World} {st:St} {ty t2:TypeId} {x y:Operand} {a b:ClaimD} (hx:ev st.env x=some (.agg a.cells.toArray)) (hy:ev st.env y=some (.agg b.cells.toArray)) :
  Sy.Yields Tryz.prog N av bor w0 st (.binOp .eql 51 x y t2) ty (.bool (claimEq a b)):=Sy.Yields.mk fun A w ok d pos af g=>by
 have h1:=run_eql_struct (P:=Tryz.prog) w 51 a.cells.toArray b.cells.toArray
 rw [pd w a b] at h1
 simp [execOp,ok.eval (st:=st) hx,ok.eval (st:=st) hy,run_eqGuard_agg _ _ _ _ _ _ _ mw,h1]
def ballotEq (a b:BallotD):Bool:=decide (a.server=b.server)&&(seqB a.actor b.actor&&(decide (a.gen=b.gen)&&(seqB a.claim b.claim&&(decide (a.time=b.time)&&((decide (a.e=b.e)&&(decide (a.s=b.s)&&true))&&true)))))
theorem j5:Tryz.prog.underlying 53=some (.struct (Tryz.prog.fieldsOf 53)):=by kernel_rfl
theorem l4:Tryz.prog.stoodInHeld 53=false:=by kernel_rfl
theorem l5:Tryz.prog.eqGuardType Tryz.prog.depth 53=false:=by kernel_rfl
theorem nQ (w:World) (a b:BallotD):(Op.equalIn 10000 53 (.agg a.cells.toArray) (.agg b.cells.toArray)).run Tryz.prog w=.ok (ballotEq a b) w:=by
 rw [show (10000:Nat)=9999+1 from rfl,run_equalIn_agg w 9999 _ _ _ j5 l4]
 have hf:(Tryz.prog.fieldsOf 53).toList.map (fun f=>(f.name,f.type,f.offset))=[("Server",3,0),("Actor",9,1),("Gen",3,2),("Claim",9,3),("Time",3,4),("Sig",44,5)]:=by kernel_rfl
 generalize (Tryz.prog.fieldsOf 53).toList=l at hf
 rcases l with _|⟨⟨n1,t1,o1,_⟩,_|⟨⟨n2,t2,o2,_⟩,_|⟨⟨n3,t3,o3,_⟩,_|⟨⟨n4,t4,o4,_⟩,_|⟨⟨n5,t5,o5,_⟩,_|⟨⟨n6,t6,o6,_⟩,_|⟨g,l⟩⟩⟩⟩⟩⟩⟩
 case cons.cons.cons.cons.cons.cons.nil =>
  simp only [Qs,List.map_nil,List.cons.injEq,Prod.mk.injEq,and_true] at hf
  obtain ⟨⟨rfl,rfl,rfl⟩,⟨rfl,rfl,rfl⟩,⟨rfl,rfl,rfl⟩,⟨rfl,rfl,rfl⟩,⟨rfl,rfl,rfl⟩,rfl,rfl,rfl⟩:=hf
  exact ck (by dsimp only;decide) (bu rfl) (bu rfl) da (ck (by dsimp only;decide) (bu rfl) (bu rfl) fq (ck (by dsimp only;decide) (bu rfl) (bu rfl) da (ck (by dsimp only;decide) (bu rfl) (bu rfl) fq (ck (by dsimp only;decide) (bu rfl) (bu rfl) da (ck (by dsimp only;decide) gC gC lT (gU))))))
 all_goals (have:=congrArg List.length hf;simp at this)
theorem km {N:Nat} {av bor:List Nat} {w0:World} {st:St} {ty t2:TypeId} {x y:Operand} {a b:BallotD} (hx:ev st.env x=some (.agg a.cells.toArray)) (hy:ev st.env y=some (.agg b.cells.toArray)) :
  Sy.Yields Tryz.prog N av bor w0 st (.binOp .eql 53 x y t2) ty (.bool (ballotEq a b)):=Sy.Yields.mk fun A w ok d pos af g=>by
 have h1:=run_eql_struct (P:=Tryz.prog) w 53 a.cells.toArray b.cells.toArray
 rw [nQ w a b] at h1
 simp [execOp,ok.eval (st:=st) hx,ok.eval (st:=st) hy,run_eqGuard_agg _ _ _ _ _ _ _ l5,h1]
def keyEq (a b:KeyD):Bool:=decide (a.from_=b.from_)&&(decide (a.public_=b.public_)&&(decide (a.home=b.home)&&true))
theorem on:Tryz.prog.underlying 35=some (.struct (Tryz.prog.fieldsOf 35)):=by kernel_rfl
theorem p6:Tryz.prog.stoodInHeld 35=false:=by kernel_rfl
theorem p7:Tryz.prog.eqGuardType Tryz.prog.depth 35=false:=by kernel_rfl
theorem uJ (w:World) (a b:KeyD):(Op.equalIn 10000 35 (.agg a.cells.toArray) (.agg b.cells.toArray)).run Tryz.prog w=.ok (keyEq a b) w:=by
 rw [show (10000:Nat)=9999+1 from rfl,run_equalIn_agg w 9999 _ _ _ on p6]
 have hf:(Tryz.prog.fieldsOf 35).toList.map (fun f=>(f.name,f.type,f.offset))=[("From",3,0),("Public",3,1),("Home",3,2)]:=by kernel_rfl
 generalize (Tryz.prog.fieldsOf 35).toList=l at hf
 rcases l with _|⟨⟨n1,t1,o1,_⟩,_|⟨⟨n2,t2,o2,_⟩,_|⟨⟨n3,t3,o3,_⟩,_|⟨g,l⟩⟩⟩⟩
 case cons.cons.cons.nil =>
  simp only [Qs,List.map_nil,List.cons.injEq,Prod.mk.injEq,and_true] at hf
  obtain ⟨⟨rfl,rfl,rfl⟩,⟨rfl,rfl,rfl⟩,rfl,rfl,rfl⟩:=hf
  exact ck (by dsimp only;decide) (bu rfl) (bu rfl) da (ck (by dsimp only;decide) (bu rfl) (bu rfl) da (ck (by dsimp only;decide) (bu rfl) (bu rfl) da (gU)))
 all_goals (have:=congrArg List.length hf;simp at this)
theorem oI {N:Nat} {av bor:List Nat} {w0:World} {st:St} {ty t2:TypeId} {x y:Operand} {a b:KeyD} (hx:ev st.env x=some (.agg a.cells.toArray)) (hy:ev st.env y=some (.agg b.cells.toArray)) :
  Sy.Yields Tryz.prog N av bor w0 st (.binOp .neq 35 x y t2) ty (.bool (!keyEq a b)):=Sy.Yields.mk fun A w ok d pos af g=>by
 have h1:=run_neq_struct (P:=Tryz.prog) w 35 a.cells.toArray b.cells.toArray
 rw [uJ w a b] at h1
 simp [execOp,ok.eval (st:=st) hx,ok.eval (st:=st) hy,run_eqGuard_agg _ _ _ _ _ _ _ p7,h1]
theorem ei (n l h:Int):Pu Tryz.prog 115 #[.int .i64 n,.int .i64 l,.int .i64 h] (fun _=>True) (.bool (withinB n l h)):=by
 refine ay (args:=[_,_,_]) _ Tryz.func115 rfl Tryz.ntmps115 rfl fun av bor w0=>?_
 repeat' (first|apply ab|apply Qt|apply Qu|refine aj ?_|refine ad ?_|refine aD ?_|refine aG ?_|refine cF ?_|refine aJ ?_|apply ar|((fail_if_success (refine aZ ?_));refine aR (ht:=?_) (hf:=?_);all_goals (intro hx_;first|have:=aP hx_|have:=aT hx_))|fail)
 (all_goals (apply al;apply ap;rfl;rfl));all_goals (simp only [withinB, *,ZQ,ZO,ZC,ZB,ZE,ZD,ZH,ZG,ZK,ZI,ZP,ZJ,ZN,ZF];done)
theorem gl (n:Int):Pu Tryz.prog 117 #[.int .i64 n] (fun _=>True) (.bool (withinB n 0 19)):=by
 refine ay (args:=[_]) _ Tryz.func117 rfl Tryz.ntmps117 rfl fun av bor w0=>?_
 repeat' (first|apply ab|apply Qt|apply Qu|refine aj ?_|refine ad ?_|apply ar|refine ao (hc:=ei _ _ _) ?_|fail)
 all_goals exact al (ap rfl rfl) rfl
theorem ie (n:Int):Pu Tryz.prog 118 #[.int .i64 n] (fun _=>True) (.bool (withinB n 0 1099511627776)):=by
 refine ay (args:=[_]) _ Tryz.func118 rfl Tryz.ntmps118 rfl fun av bor w0=>?_
 repeat' (first|apply ab|apply Qt|apply Qu|refine aj ?_|refine ad ?_|apply ar|refine ao (hc:=ei _ _ _) ?_|fail)
 all_goals exact al (ap rfl rfl) rfl
theorem gm (s:ByteArray):Pu Tryz.prog 116 #[.string s] (fun _=>True) (.bool (isDigestB s)):=by
 refine ay (args:=[_]) _ Tryz.func116 rfl Tryz.ntmps116 rfl fun av bor w0=>?_
 repeat' (first|apply ab|apply Qt|apply Qu|refine aj ?_|refine ad ?_|refine bP ?_|refine bT ?_|apply ar|fail)
 all_goals exact al (ap rfl rfl) rfl
def sigB (e s:Int):Bool:=withinB e 0 2305843009213693949&&withinB s 0 2305843009213693949
theorem gz (e s:Int):Pu Tryz.prog 119 #[.agg #[.int .i64 e,.int .i64 s]] (fun _=>True) (.bool (sigB e s)):=by
 refine ay (args:=[_]) _ Tryz.func119 rfl Tryz.ntmps119 rfl fun av bor w0=>?_
 repeat' (first|apply ab|apply Qt|apply Qu|refine aj ?_|refine ad ?_|refine aB ?_|refine aA ?_|refine aD ?_|refine aG ?_|refine aJ ?_|refine aL fun _=>?_|apply ar|refine ao (hc:=ei _ _ _) ?_|((fail_if_success (refine aZ ?_));refine aR (ht:=?_) (hf:=?_);all_goals (intro hx_;skip))|fail)
 (all_goals (apply al;apply ap;rfl;rfl));all_goals (simp only [sigB, *,ZQ,ZO,ZC,ZB,ZE,ZD,ZH,ZG,ZK,ZI,ZP,ZJ,ZN,ZF];done)
def claimR (c:ClaimD):Bool:=isId c.actor&&(withinB c.base 1 1073741824&&(isDigestB c.prev&&(withinB c.gen 0 1073741824&&(withinB c.home 0 19&&(withinB c.pub 1 2305843009213693950&&(withinB c.time 0 1099511627776&&sigB c.e c.s))))))
set_option maxHeartbeats 4000000 in
theorem ml (c:ClaimD):Pu Tryz.prog 74 #[c.v] (fun _=>True) (.bool (claimR c)):=by
 refine ay (args:=[_]) _ Tryz.func74 rfl Tryz.ntmps74 rfl fun av bor w0=>?_
 repeat' (first|apply ab|apply Qt|apply Qu|refine aj ?_|refine ad ?_|refine aB ?_|refine aA ?_|refine aD ?_|refine aG ?_|refine aJ ?_|refine aL fun _=>?_|apply ar|refine ao (hc:=fP _) ?_|refine ao (hc:=ei _ _ _) ?_|refine ao (hc:=gm _) ?_|refine ao (hc:=gl _) ?_|refine ao (hc:=ie _) ?_|refine ao (hc:=gz c.e c.s) ?_|(refine aW (vs:=[.int .i64 c.e,.int .i64 c.s]) (hv:=rfl) ?_)|((fail_if_success (refine aZ ?_));refine aR (ht:=?_) (hf:=?_);all_goals (intro hx_;first|have:=aP hx_|have:=aT hx_|skip))|fail)
 (all_goals (apply al;apply ap;rfl;rfl));all_goals (simp only [claimR, *,ZQ,ZO,ZC,ZB,ZE,ZD,ZH,ZG,ZK,ZI,ZP,ZJ,ZN,ZF];done)
def ballotR (b:BallotD):Bool:=withinB b.server 0 19&&(isId b.actor&&(withinB b.gen 0 1073741824&&(isDigestB b.claim&&(withinB b.time 0 1099511627776&&sigB b.e b.s))))
set_option maxHeartbeats 4000000 in
theorem lm (b:BallotD):Pu Tryz.prog 75 #[b.v] (fun _=>True) (.bool (ballotR b)):=by
 refine ay (args:=[_]) _ Tryz.func75 rfl Tryz.ntmps75 rfl fun av bor w0=>?_
 repeat' (first|apply ab|apply Qt|apply Qu|refine aj ?_|refine ad ?_|refine aB ?_|refine aA ?_|refine aD ?_|refine aG ?_|refine aJ ?_|refine aL fun _=>?_|apply ar|refine ao (hc:=fP _) ?_|refine ao (hc:=ei _ _ _) ?_|refine ao (hc:=gm _) ?_|refine ao (hc:=gl _) ?_|refine ao (hc:=ie _) ?_|refine ao (hc:=gz b.e b.s) ?_|(refine aW (vs:=[.int .i64 b.e,.int .i64 b.s]) (hv:=rfl) ?_)|((fail_if_success (refine aZ ?_));refine aR (ht:=?_) (hf:=?_);all_goals (intro hx_;first|have:=aP hx_|have:=aT hx_|skip))|fail)
 (all_goals (apply al;apply ap;rfl;rfl));all_goals (simp only [ballotR, *,ZQ,ZO,ZC,ZB,ZE,ZD,ZH,ZG,ZK,ZI,ZP,ZJ,ZN,ZF];done)
def plainD (d:DecD):Bool:=decide ((d.to.n:Int)=0)&&decide (d.n=0)
def reasonD (d:DecD):Bool:=decide ((d.text.size:Int)≤500)
def kindA (k:Int):Bool:=decide (k=0)||(decide (k=1)||(decide (k=4)||(decide (k=6)||decide (k=7))))
def kindO (k:Int):Bool:=decide (k=2)||(decide (k=3)||decide (k=5))
def termsB (d:DecD):Bool :=
 bif kindA d.kind then isId d.actor&&(seqB d.object ⟨#[]⟩&&(reasonD d&&plainD d))
 else bif kindO d.kind then seqB d.actor ⟨#[]⟩&&(isDigestB d.object&&(reasonD d&&plainD d))
 else bif decide (d.kind=8) then seqB d.actor ⟨#[]⟩&&(seqB d.object ⟨#[]⟩&&(reasonD d&&(isIds d.toL&&withinB d.n 1 (d.to.n:Nat))))
 else bif decide (d.kind=9) then seqB d.actor ⟨#[]⟩&&(seqB d.object ⟨#[]⟩&&(decide ((d.text.size:Int)≤4096)&&plainD d))
 else false
set_option maxHeartbeats 16000000 in
theorem mj (d:DecD):Pu Tryz.prog 120 #[d.v] (fun w=>d.at_ w) (.bool (termsB d)):=by
 refine ay (args:=[_]) _ Tryz.func120 rfl Tryz.ntmps120 rfl fun av bor w0=>?_
 have hids:=lH d.to d.toL
 repeat' (first|apply ab|apply Qt|apply Qu|refine aj ?_|refine ad ?_|refine aB ?_|refine aA ?_|refine aD ?_|refine aG ?_|refine bP ?_|refine cF ?_|refine cI ?_|refine bT ?_|refine aY ?_|refine aJ ?_|refine aL fun _=>?_|refine Qx ?_|apply Qw|apply Qv|apply ar|refine ao (hc:=fP _) ?_|refine ao (hc:=ei _ _ _) ?_|refine ao (hc:=gm _) ?_|(refine ao (hc:=hids) (hX:=fun w h=>h) ?_)|((fail_if_success (refine aZ ?_));refine aR (ht:=?_) (hf:=?_);all_goals (intro hx_;first|have:=aP hx_|have:=aT hx_|skip))|(refine aH (ht:=?_) (hf:=?_);all_goals (intro hx_;first|have:=aP hx_|have:=aT hx_)))
 all_goals (apply al;apply ap;rfl;rfl)
 all_goals first
  | rfl
  | (simp_all [termsB,plainD,reasonD,kindA,kindO];done)
  | (simp_all [termsB,plainD,reasonD,kindA,kindO];intros;omega)
def decR (d:DecD):Bool:=withinB d.server 0 19&&(withinB d.number 0 1073741824&&(withinB d.from_ 0 1099511627776&&(withinB d.until_ 0 1099511627776&&(decide (d.from_<d.until_)&&(termsB d&&sigB d.e d.s)))))
set_option maxHeartbeats 4000000 in
theorem jl (d:DecD):Pu Tryz.prog 76 #[d.v] (fun w=>d.at_ w) (.bool (decR d)):=by
 refine ay (args:=[_]) _ Tryz.func76 rfl Tryz.ntmps76 rfl fun av bor w0=>?_
 have hte:=mj d
 repeat' (first|apply ab|apply Qt|apply Qu|refine aj ?_|refine ad ?_|refine aB ?_|refine aA ?_|refine aF ?_|refine aD ?_|refine aG ?_|refine bj ?_|refine aJ ?_|refine aL fun _=>?_|apply ar|refine ao (hc:=ei _ _ _) ?_|refine ao (hc:=gl _) ?_|refine ao (hc:=ie _) ?_|(refine ao (hc:=hte) (hX:=fun w h=>h) ?_)|refine ao (hc:=gz d.e d.s) ?_|(refine aW (vs:=[.int .i64 d.e,.int .i64 d.s]) (hv:=rfl) ?_)|((fail_if_success (refine aZ ?_));refine aR (ht:=?_) (hf:=?_);all_goals (intro hx_;first|have:=aP hx_|have:=aT hx_|skip))|fail)
 (all_goals (apply al;apply ap;rfl;rfl));all_goals (simp only [decR, *,ZQ,ZO,ZC,ZB,ZE,ZD,ZH,ZG,ZK,ZI,ZP,ZJ,ZN,ZF];done)
theorem lS (s:SlV):Pu Tryz.prog 62 #[s.v,.slice none 0 0] (fun _=>True) (.bool (decide ((s.n:Int)=0))):=by
 refine ay (args:=[_,_]) _ Tryz.func62 rfl Tryz.ntmps62 rfl fun av bor w0=>?_
 by_cases h0:s.n=0
 · rw [h0]
   repeat' (first|refine am (eC false rfl rfl (by rw [h0];rfl)) rfl aC rfl ?_|apply ab|apply Qt|apply Qu|refine aj ?_|refine ad ?_|refine aY ?_|refine Qy ?_|apply Qw|apply Qv|fail)
   refine aU (ι:=Unit) (fun _=>⟨[(12,.int .i64 (s.n:Nat)),(13,.int .i64 0)],[],fun _=>True⟩) (fun _=>0) () (ax ⟨rfl,rfl,trivial⟩ (aE _) fun _ h=>h) fun _=>?_
   repeat' (first|refine am (bM false rfl rfl (by rw [h0];rfl)) rfl aC rfl ?_|apply ab|apply Qt|apply Qu|refine ad ?_|refine Qy ?_|apply ar|apply aQ|fail)
   all_goals exact al (ap rfl rfl) rfl
 · rw [Zn (by omega)]
   repeat' (first|refine am (eC true rfl rfl (by simp;omega)) rfl aC rfl ?_|apply ab|apply Qt|apply Qu|refine aj ?_|refine ad ?_|refine aY ?_|refine Qx ?_|apply ar|fail)
   all_goals exact al (ap rfl rfl) rfl
theorem rC (s:SlV):Pu Tryz.prog 63 #[s.v,.slice none 0 0] (fun _=>True) (.bool (decide ((s.n:Int)=0))):=by
 refine ay (args:=[_,_]) _ Tryz.func63 rfl Tryz.ntmps63 rfl fun av bor w0=>?_
 by_cases h0:s.n=0
 · rw [h0]
   repeat' (first|refine am (eC false rfl rfl (by rw [h0];rfl)) rfl aC rfl ?_|apply ab|apply Qt|apply Qu|refine aj ?_|refine ad ?_|refine aY ?_|refine Qy ?_|apply Qw|apply Qv|fail)
   refine aU (ι:=Unit) (fun _=>⟨[(12,.int .i64 (s.n:Nat)),(13,.int .i64 0)],[],fun _=>True⟩) (fun _=>0) () (ax ⟨rfl,rfl,trivial⟩ (aE _) fun _ h=>h) fun _=>?_
   repeat' (first|refine am (bM false rfl rfl (by rw [h0];rfl)) rfl aC rfl ?_|apply ab|apply Qt|apply Qu|refine ad ?_|refine Qy ?_|apply ar|apply aQ|fail)
   all_goals exact al (ap rfl rfl) rfl
 · rw [Zn (by omega)]
   repeat' (first|refine am (eC true rfl rfl (by simp;omega)) rfl aC rfl ?_|apply ab|apply Qt|apply Qu|refine aj ?_|refine ad ?_|refine aY ?_|refine Qx ?_|apply ar|fail)
   all_goals exact al (ap rfl rfl) rfl
section
variable {P:Program} {N:Nat} {av bor:List Nat} {w0:World} {ops:Array Oper} {rest:List Oper} {kk:St→Prop} {E:Env} {loc:List Res} {X:World→Prop} {n:Nat} {ty t2:TypeId} {pos:String} {af:Array Edge} {g:Option (Nat×Bool)} {bb want:Bool} {x y:Operand}
theorem eM {a b:ClaimD} (h:Sw Tryz.prog N av bor w0 ops rest ⟨(n,.bool (claimEq a b))::E,loc,X⟩ kk) (hx:ev E x=some (.agg a.cells.toArray):=by rfl) (hy:ev E y=some (.agg b.cells.toArray):=by rfl) (hg:gdB ops E g=some (bb,want):=by rfl) (hbb:bb=want:=by exact aC) (hd:Nat.blt n N=true:=by rfl) :
  Sw Tryz.prog N av bor w0 ops (⟨some n,.binOp .eql 51 x y t2,ty,pos,af,g⟩::rest) ⟨E,loc,X⟩ kk:=am (me hx hy) hg hbb hd h
theorem eu {a b:BallotD} (h:Sw Tryz.prog N av bor w0 ops rest ⟨(n,.bool (ballotEq a b))::E,loc,X⟩ kk) (hx:ev E x=some (.agg a.cells.toArray):=by rfl) (hy:ev E y=some (.agg b.cells.toArray):=by rfl) (hg:gdB ops E g=some (bb,want):=by rfl) (hbb:bb=want:=by exact aC) (hd:Nat.blt n N=true:=by rfl) :
  Sw Tryz.prog N av bor w0 ops (⟨some n,.binOp .eql 53 x y t2,ty,pos,af,g⟩::rest) ⟨E,loc,X⟩ kk:=am (km hx hy) hg hbb hd h
theorem vM {st:St} {a b c e:Int} (hx:ev st.env x=some (.agg #[.int .i64 a,.int .i64 b])) (hy:ev st.env y=some (.agg #[.int .i64 c,.int .i64 e])) :
  Sy.Yields Tryz.prog N av bor w0 st (.binOp .eql 44 x y t2) ty (.bool (decide (a=c)&&(decide (b=e)&&true))):=Sy.Yields.mk fun A w ok d pos af g=>by
 have h1:=run_eql_struct (P:=Tryz.prog) w 44 #[.int .i64 a,.int .i64 b] #[.int .i64 c,.int .i64 e]
 rw [show (10000:Nat)=9998+2 from rfl,lT] at h1
 have hgu:Tryz.prog.eqGuardType Tryz.prog.depth 44=false:=by kernel_rfl
 simp [execOp,ok.eval (st:=st) hx,ok.eval (st:=st) hy,run_eqGuard_agg _ _ _ _ _ _ _ hgu,h1]
theorem jg {a b c e:Int} (h:Sw Tryz.prog N av bor w0 ops rest ⟨(n,.bool (decide (a=c)&&(decide (b=e)&&true)))::E,loc,X⟩ kk) (hx:ev E x=some (.agg #[.int .i64 a,.int .i64 b]):=by rfl) (hy:ev E y=some (.agg #[.int .i64 c,.int .i64 e]):=by rfl) (hg:gdB ops E g=some (bb,want):=by rfl) (hbb:bb=want:=by exact aC) (hd:Nat.blt n N=true:=by rfl) :
  Sw Tryz.prog N av bor w0 ops (⟨some n,.binOp .eql 44 x y t2,ty,pos,af,g⟩::rest) ⟨E,loc,X⟩ kk:=am (vM hx hy) hg hbb hd h
end
def actZ (a:ActD):Bool:=seqB a.author ⟨#[]⟩&&(decide (a.seq=0)&&(seqB a.prev ⟨#[]⟩&&(decide (a.kind=0)&&(decide (a.time=0)&&(seqB a.object ⟨#[]⟩&&(seqB a.target ⟨#[]⟩&&(decide (a.scope=0)&&(seqB a.group ⟨#[]⟩&&(decide ((a.to.n:Int)=0)&&(seqB a.text ⟨#[]⟩&&(boxEq a.body BoxD.zero&&(decide (a.epoch=0)&&(decide ((a.wraps.n:Int)=0)&&(decide (a.n=0)&&(decide (a.m=0)&&(decide (a.e=0)&&(decide (a.s=0)&&true)))))))))))))))))
set_option maxRecDepth 20000 in
set_option maxHeartbeats 8000000 in
theorem qu (a:ActD):Pu Tryz.prog 30 #[a.v,ActD.zero.v] (fun _=>True) (.bool (actZ a)):=by
 refine ay (args:=[_,_]) _ Tryz.func30 rfl Tryz.ntmps30 rfl fun av bor w0=>?_
 repeat' (first|apply ab|apply Qt|apply Qu|refine aj ?_|refine ad ?_|refine aB ?_|refine aA ?_|refine aD ?_|refine aG ?_|refine bP ?_|refine cI ?_|refine aJ ?_|refine aL fun _=>?_|apply ar|refine ao (hc:=lS a.to) ?_|refine ao (hc:=rC a.wraps) ?_|(refine iu (a:=a.body) (b:=BoxD.zero) ?_)|(refine jg (a:=a.e) (b:=a.s) (c:=0) (e:=0) ?_)|(refine aW ?_)|((fail_if_success (refine aZ ?_));refine aR (ht:=?_) (hf:=?_);all_goals (intro hx_;first|have:=aP hx_|have:=aT hx_|skip))|fail)
 all_goals refine al (ap rfl rfl) ?_
 all_goals rw [actZ]
 all_goals simp_all [ActD.zero]
def decZ (d:DecD):Bool:=decide (d.server=0)&&(decide (d.number=0)&&(decide (d.kind=0)&&(seqB d.actor ⟨#[]⟩&&(seqB d.object ⟨#[]⟩&&(seqB d.text ⟨#[]⟩&&(decide ((d.to.n:Int)=0)&&(decide (d.n=0)&&(decide (d.from_=0)&&(decide (d.until_=0)&&(decide (d.e=0)&&(decide (d.s=0)&&true)))))))))))
set_option maxRecDepth 20000 in
set_option maxHeartbeats 8000000 in
theorem qk (d:DecD):Pu Tryz.prog 121 #[d.v,DecD.zero.v] (fun _=>True) (.bool (decZ d)):=by
 refine ay (args:=[_,_]) _ Tryz.func121 rfl Tryz.ntmps121 rfl fun av bor w0=>?_
 repeat' (first|apply ab|apply Qt|apply Qu|refine aj ?_|refine ad ?_|refine aB ?_|refine aA ?_|refine aD ?_|refine aG ?_|refine bP ?_|refine cI ?_|refine aJ ?_|refine aL fun _=>?_|apply ar|refine ao (hc:=lS d.to) ?_|(refine jg (a:=d.e) (b:=d.s) (c:=0) (e:=0) ?_)|(refine aW (vs:=[.int .i64 d.e,.int .i64 d.s]) (hv:=rfl) ?_)|(refine aW (vs:=[.int .i64 0,.int .i64 0]) (hv:=rfl) ?_)|((fail_if_success (refine aZ ?_));refine aR (ht:=?_) (hf:=?_);all_goals (intro hx_;first|have:=aP hx_|have:=aT hx_|skip))|fail)
 all_goals refine al (ap rfl rfl) ?_
 all_goals rw [decZ]
 all_goals simp_all [DecD.zero]
def sameIZ (i:ItemD):Bool:=decide (i.kind=0)&&(actZ i.act&&(claimEq i.claim ClaimD.zero&&(ballotEq i.ballot BallotD.zero&&decZ i.dec)))
set_option maxRecDepth 20000 in
set_option maxHeartbeats 8000000 in
theorem fa (i:ItemD):Pu Tryz.prog 77 #[i.v,ItemD.zero.v] (fun _=>True) (.bool (sameIZ i)):=by
 refine ay (args:=[_,_]) _ Tryz.func77 rfl Tryz.ntmps77 rfl fun av bor w0=>?_
 repeat' (first|apply ab|apply Qt|apply Qu|refine aj ?_|refine ad ?_|refine aB ?_|refine aA ?_|refine aD ?_|refine aG ?_|refine bP ?_|refine aJ ?_|refine aL fun _=>?_|apply ar|refine ao (hc:=qu i.act) ?_|refine ao (hc:=qk i.dec) ?_|(refine eM (a:=i.claim) (b:=ClaimD.zero) ?_)|(refine eu (a:=i.ballot) (b:=BallotD.zero) ?_)|(refine aW (vs:=i.act.cells) (hv:=rfl) ?_)|(refine aW (vs:=i.claim.cells) (hv:=rfl) ?_)|(refine aW (vs:=i.ballot.cells) (hv:=rfl) ?_)|(refine aW (vs:=i.dec.cells) (hv:=rfl) ?_)|(refine aW (vs:=ActD.zero.cells) (hv:=rfl) ?_)|(refine aW (vs:=ClaimD.zero.cells) (hv:=rfl) ?_)|(refine aW (vs:=BallotD.zero.cells) (hv:=rfl) ?_)|(refine aW (vs:=DecD.zero.cells) (hv:=rfl) ?_)|((fail_if_success (refine aZ ?_));refine aR (ht:=?_) (hf:=?_);all_goals (intro hx_;first|have:=aP hx_|have:=aT hx_|skip))|fail)
 all_goals refine al (ap rfl rfl) ?_
 all_goals rw [sameIZ]
 all_goals simp_all [ItemD.zero,ofActI]
end Go.Proofs.YtcdilibijnboeaaGreatDoor
