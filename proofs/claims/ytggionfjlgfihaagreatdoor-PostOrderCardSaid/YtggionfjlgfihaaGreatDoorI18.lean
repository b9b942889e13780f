/- Joined. -/
import Derived.Test.YtggionfjlgfihaaGreatDoorI0
import Derived.Test.YtggionfjlgfihaaGreatDoorI17
import Derived.Test.YtggionfjlgfihaaGreatDoorI1
import Derived.Test.YtggionfjlgfihaaGreatDoorI13
set_option linter.unusedVariables false
set_option linter.unusedSimpArgs false
set_option maxHeartbeats 16000000
namespace Go.Proofs.YtggionfjlgfihaaGreatDoor
open Go Go.Proofs Sy SrG
namespace SrB
structure StaI (P:List Xp) (n w:Nat) where
 a:Nat
 b:Nat
 h1:a≤n
 h2:b=a+w
 Q:List Xp
 hQ:Rel P Q
structure StaO (P:List Xp) (n:Nat) where
 z:Nat
 h1:1≤z
 h2:z≤2*n+20
 Q:List Xp
 hQ:Rel P Q
set_option maxRecDepth 20000 in
theorem d4 (s:Xj) (P:List Xp) (hs:s.n=P.length) (hm:s.n≤1000000):Ct Tryz.prog 260 #[s.v,.int .i64 (s.n:Nat),cmpF] [postR s P] (fun _=>True) (RelAt s P):=by
 have hP:Rel P P:=Rel.refl P
 refine bT Tryz.func260 Tryz.ntmps260 fun av bor w0=>?_
 repeat' (first|refine gs ?_|fail)
 refine am (ι:=StaI P s.n 20) (fun r=>⟨[(0,s.v),(1,.int .i64 (s.n:Nat)),(2,cmpF),(6,.int .i64 20),(7,.int .i64 (r.a:Nat)),(8,.int .i64 (r.b:Nat))],[postR s r.Q],fun _=>True⟩) (fun r=>s.n-r.a) ⟨0,20,Nat.zero_le _,rfl,P,hP⟩ (ae al (aj _) fun _ h=>h) fun r=>?_
 obtain ⟨a,b,h1,h2,Q,hQ⟩:=r
 simp only
 repeat' (first|refine aK (q:=20) (hq:=by omega) ?_|refine gs ?_|(refine bP (P:=P) (hQ:=by assumption) (hc:=fun Q hQ=>bY s Q a b (hs.trans hQ.1.length_eq.symm) hm aa aa) (h:=fun Q2 hQ2=>?_))|(refine bP (P:=P) (hQ:=by assumption) (hc:=fun Q hQ=>bY s Q a s.n (hs.trans hQ.1.length_eq.symm) hm aa aa) (h:=fun Q2 hQ2=>?_))|(refine gp ?_ ?_<;>intro hx_ this)|fail)
 · exact ⟨(⟨b,b+20,by omega,rfl,Q2,hQ2⟩:StaI P s.n 20),(by show s.n-b<s.n-a;omega),ae al (aj _) fun _ h=>h⟩
 · refine am (ι:=StaO P s.n) (fun r=>⟨[(0,s.v),(1,.int .i64 (s.n:Nat)),(2,cmpF),(6,.int .i64 (r.z:Nat))],[postR s r.Q],fun _=>True⟩) (fun r=>s.n-r.z) ⟨20,by omega,by omega,Q2,hQ2⟩ (ae al (aj _) fun _ h=>h) fun r=>?_
   clear h1 h2 hQ hQ2
   obtain ⟨z,h1,h2,Q,hQ⟩:=r
   simp only
   repeat' (first|refine dq (p:=2) (hq:=by omega) ?_|refine gs ?_|(refine gp ?_ ?_<;>intro hx_ this)|fail)
   · have hzn:z<s.n:=by omega
     refine am (ι:=StaI P s.n (2*z)) (fun r=>⟨[(0,s.v),(1,.int .i64 (s.n:Nat)),(2,cmpF),(6,.int .i64 (z:Nat)),(7,.int .i64 (r.a:Nat)),(8,.int .i64 (r.b:Nat))],[postR s r.Q],fun _=>True⟩) (fun r=>s.n-r.a) ⟨0,2*z,Nat.zero_le _,(Nat.zero_add _).symm,Q,hQ⟩ (ae al (aj _) fun _ h=>h) fun r=>?_
     obtain ⟨a,b,h3,h4,Q3,hQ3⟩:=r
     simp only
     repeat' (first|refine aK (hq:=by omega) ?_|refine dq (p:=2) (hq:=by omega) ?_|refine dq (q:=2) (hq:=by omega) ?_|refine gs ?_|(refine bP (P:=P) (hQ:=by assumption) (hc:=fun Q hQ=>bZ (b-a) s Q a (a+z) b (Nat.le_refl _) (hs.trans hQ.1.length_eq.symm) hm aa aa aa) (h:=fun Q2 hQ2=>?_))|(refine bP (P:=P) (hQ:=by assumption) (hc:=fun Q hQ=>bZ (s.n-a) s Q a (a+z) s.n (Nat.le_refl _) (hs.trans hQ.1.length_eq.symm) hm aa aa aa) (h:=fun Q2 hQ2=>?_))|(refine gp ?_ ?_<;>intro hx_ this)|fail)
     · exact ⟨(⟨b,b+2*z,by omega,rfl,Q2,hQ2⟩:StaI P s.n (2*z)),(by show s.n-b<s.n-a;omega),ae al (aj _) fun _ h=>h⟩
     all_goals
      refine ⟨(⟨z*2,by omega,by omega,_,?_⟩:StaO P s.n),(by show s.n-z*2<s.n-z;omega),ae al (aj _) fun _ h=>h⟩
      assumption
   · exact aI (aA rfl) ⟨rfl,Q,hQ,rfl⟩
theorem sortStable_ct (s:Xj) (P:List Xp) (hs:s.n=P.length) (hm:s.n≤1000000):Ct Tryz.prog 253 #[s.v,cmpF] [postR s P] (fun _=>True) (RelAt s P):=by
 have hP:Rel P P:=Rel.refl P
 refine bT Tryz.func253 Tryz.ntmps253 fun av bor w0=>?_
 repeat' (first|refine gs ?_|(refine bP (P:=P) (hQ:=by assumption) (hc:=fun Q hQ=>d4 s Q (hs.trans hQ.1.length_eq.symm) hm) (h:=fun Q2 hQ2=>?_))|(refine gp ?_ ?_<;>intro hx_ this)|fail)
 exact aI (aA rfl) ⟨rfl,Q2,hQ2,rfl⟩
end SrB
end Go.Proofs.YtggionfjlgfihaaGreatDoor
namespace Go.Proofs.YtggionfjlgfihaaGreatDoor
open Go Go.Proofs Sy
def fndOfB (dI:Xb→ByteArray) (it:Xb):Xp:=⟨0,dI it,it.ballot⟩
def selBB (au:ByteArray) (gn:Int) (rI:Xb→Bool) (it:Xb):Bool:=wantB au gn it&&rI it
def selFB (au:ByteArray) (gn:Int) (rI:Xb→Bool) (dI:Xb→ByteArray) (I:List Xb):List Xp:=(I.filter (selBB au gn rI)).map (fndOfB dI)
def selB2 (au:ByteArray) (gn:Int) (rI:Xb→Bool) (I:List Xb):List Xi:=(I.filter (selBB au gn rI)).map Xb.ballot
theorem yL (au:ByteArray) (gn:Int) (rI:Xb→Bool) (dI:Xb→ByteArray) (I:List Xb):(selFB au gn rI dI I).map Xp.a=selB2 au gn rI I:=by rw [selFB,selB2,List.map_map];rfl
structure PikIB (I:List Xb) (au:ByteArray) (gn:Int) (rI:Xb→Bool) (dI:Xb→ByteArray) where
 k:Nat
 hk:k≤I.length
 A:Option Addr
 c:Nat
 n:Nat
 hn:n=(selFB au gn rI dI (I.take k)).length
 xs:List Value
 hxs:xs=((selFB au gn rI dI (I.take k)).map Xp.cells).flatten
structure ValIB (Q:List Xp) where
 k:Nat
 hk:k≤Q.length
 A:Option Addr
 c:Nat
 xs:List Value
 hxs:xs=((Q.take k).map fun f=>f.a.cells).flatten
def wantVB (bW bG:Nat):Value:=.func (.func 237) #[] #[.pointer (some ⟨bW,0,none⟩),.pointer (some ⟨bG,0,none⟩)]
theorem uo (ks ki:Xj) (I:List Xb) (bW bG:Nat) (au:ByteArray) (gn:Int) (rI:Xb→Bool) (dI:Xb→ByteArray)
  (hR:∀ it∈I,Pu Tryz.prog 23 #[it.v] (fun w=>it.at_ w) (.bool (rI it)))
  (hD:∀ it∈I,Pu Tryz.prog 19 #[it.v] (fun w=>it.at_ w∧Xf w) (.string (dI it)))
  (hI:I.length≤1000) (hasc:SrB.Srt (selFB au gn rI dI I)) :
  Mk Tryz.prog 236 #[.agg #[ks.v,ki.v],wantVB bW bG] (fun w=>(Items w ki I∧(CelD bW [.string au] w∧CelD bG [.int .i64 gn] w))∧Xf w)
   (fun u X'=>∃ s:Xj,u=s.v∧∀ w,X' w→Ballots w s (selB2 au gn rI I)):=by
 refine cC Tryz.func236 Tryz.ntmps236 fun av bor w0=>?_
 refine aH (p:=ki.n=I.length∧ki.n≤maxLen∧(0<I.length→ki.p.isSome=true)) (fun w h=>⟨h.1.1.len_,h.1.1.max_,h.1.1.some_⟩) fun ⟨hkn,hkm,hkp⟩=>?_
 simp only [maxLen] at hkm
 repeat' (first|refine gs ?_|refine gs1 fun _=>?_|fail)
 rename_i b2
 refine bA 311 9 ?_
 refine am (ι:=PikIB I au gn rI dI) (fun i=>⟨[(1,wantVB bW bG),(5,.slice i.A i.n i.c),(15,ki.v),(16,.int .i64 (ki.n:Nat)),(17,.int .i64 (i.k:Nat))],[orow 311 9 (.slice i.A i.n i.c) i.n i.xs],fun w=>(Items w ki I∧(CelD bW [.string au] w∧CelD bG [.int .i64 gn] w))∧Xf w⟩) (fun i=>I.length-i.k) ⟨0,Nat.zero_le _,none,0,0,rfl,[],rfl⟩ (ae al (.cons_cons _ (List.nil_sublist _)) fun _ h=>h) fun i=>?_
 obtain ⟨k,hk,A,c,n,hn,xs,hxs⟩:=i
 simp only
 repeat' (first|refine gs ?_|refine gs1 fun _=>?_|(refine gp ?_ ?_<;>intro hx_ this)|fail)
 · have hlt:k<I.length:=by omega
   have hkp':=hkp aa
   obtain ⟨it,hit⟩:∃ it,I[k]?=some it:=⟨_,List.getElem?_eq_getElem hlt⟩
   have him:=List.mem_of_getElem? hit
   have hnl:n≤1000:=by
    rw [hn,selFB,List.length_map]
    exact Nat.le_trans (List.length_filter_le _ _) (by rw [List.length_take];omega)
   repeat' (first|refine gs ?_|refine gs1 fun _=>?_|(refine aE (q:=k*49) ?_)|(refine aS (cs:=it.cells) (hF:=fun w h=>h.1.1.get hit) ?_)|(refine gp ?_ ?_<;>intro hx_ this)|fail)
   rename_i b7
   have hri:=hR it him
   have hdi:=hD it him
   have hwa:=vK bW bG au gn it
   have htk:selFB au gn rI dI (I.take (k+1))=selFB au gn rI dI (I.take k)++(bif selBB au gn rI it then [fndOfB dI it] else []):=by
    rw [selFB,selFB,List.take_add_one,hit,List.filter_append,List.map_append,Option.toList_some]
    congr 1
    cases hb:selBB au gn rI it with
    | true=>simp [hb]
    | false=>simp [hb]
   cases hwt:wantB au gn it with
   | false =>
    rw [hwt] at hwa
    have hno:selFB au gn rI dI (I.take (k+1))=selFB au gn rI dI (I.take k):=by rw [htk,selBB,hwt];exact List.append_nil _
    refine dH (args:=[it.v]) (all:=[it.v,.pointer (some ⟨bW,0,none⟩),.pointer (some ⟨bG,0,none⟩)]) (first:=#[]) (caps:=#[.pointer (some ⟨bW,0,none⟩),.pointer (some ⟨bG,0,none⟩)]) (hx:=rfl) (ha:=rfl) (hall:=rfl) (hc:=hwa) (hX:=fun w h=>h.1.2) (h:=?_)
    repeat' (first|refine gs ?_|refine gs1 fun _=>?_|(refine gp ?_ ?_<;>intro hx_ this)|fail)
    exact ⟨(⟨k+1,hlt,A,c,n,by rw [hno];exact hn,xs,by rw [hno];exact hxs⟩:PikIB I au gn rI dI),(by show I.length-(k+1)<I.length-k;omega),ae al (.cons _ (.cons _ (aj _))) fun _ h=>h⟩
   | true =>
    rw [hwt] at hwa
    cases hrt:rI it with
    | false =>
     rw [hrt] at hri
     have hno:selFB au gn rI dI (I.take (k+1))=selFB au gn rI dI (I.take k):=by rw [htk,selBB,hwt,hrt];exact List.append_nil _
     refine dH (args:=[it.v]) (all:=[it.v,.pointer (some ⟨bW,0,none⟩),.pointer (some ⟨bG,0,none⟩)]) (first:=#[]) (caps:=#[.pointer (some ⟨bW,0,none⟩),.pointer (some ⟨bG,0,none⟩)]) (hx:=rfl) (ha:=rfl) (hall:=rfl) (hc:=hwa) (hX:=fun w h=>h.1.2) (h:=?_)
     repeat' (first|(refine ag (hc:=hri) (hX:=fun w h=>h.1.1.2 it him) ?_)|refine gs ?_|refine gs1 fun _=>?_|(refine gp ?_ ?_<;>intro hx_ this)|fail)
     exact ⟨(⟨k+1,hlt,A,c,n,by rw [hno];exact hn,xs,by rw [hno];exact hxs⟩:PikIB I au gn rI dI),(by show I.length-(k+1)<I.length-k;omega),ae al (.cons _ (.cons _ (aj _))) fun _ h=>h⟩
    | true =>
     rw [hrt] at hri
     have hyes:selFB au gn rI dI (I.take (k+1))=selFB au gn rI dI (I.take k)++[fndOfB dI it]:=by rw [htk,selBB,hwt,hrt];rfl
     refine dH (args:=[it.v]) (all:=[it.v,.pointer (some ⟨bW,0,none⟩),.pointer (some ⟨bG,0,none⟩)]) (first:=#[]) (caps:=#[.pointer (some ⟨bW,0,none⟩),.pointer (some ⟨bG,0,none⟩)]) (hx:=rfl) (ha:=rfl) (hall:=rfl) (hc:=hwa) (hX:=fun w h=>h.1.2) (h:=?_)
     repeat' (first|(refine ag (hc:=hri) (hX:=fun w h=>h.1.1.2 it him) ?_)|refine gs ?_|refine gs1 fun _=>?_|(refine gp ?_ ?_<;>intro hx_ this)|fail)
     rename_i b8
     (refine ao ⟨[0,1,2,4],[(3,⟨[5],[(6,⟨[],[(7,⟨[8],[]⟩)]⟩)]⟩)]⟩ [cel b8 41 it.ballot.cells,cel b7 45 it.cells] (fun w=>(Items w ki I∧(CelD bW [.string au] w∧CelD bG [.int .i64 gn] w))∧Xf w) (h:=?_))
     all_goals repeat' (first|(refine ag (hc:=hdi) (hX:=fun w h=>⟨h.1.1.2 it him,h.2⟩) ?_)|refine gdz ?_|refine ax (hsub:=by exact aF) (hy:=by first|(apply dp (cs:=(fndOfB dI it).cells);rfl;rfl)) ?_|refine ay ?_ (h':=?_)|exact az|refine bL (size:=9) (vs:=[.agg (fndOfB dI it).cells.toArray]) (css:=(fndOfB dI it).cells) (hsz:=by rfl) (hcs:=by rfl) fun _=>?_|(refine fU ?_;refine aC (size:=9) (news:=(fndOfB dI it).cells) (q:=1) rfl rfl rfl rfl (fun _=>At.there _ (At.there _ (At.there _ (At.here _)))) (fun w G=>aU G ap rfl rfl 1) aa (by simp only [maxLen];omega) rfl ?_ rfl ?_;(first|with_reducible rfl|with_reducible assumption|with_reducible exact Bool.not_false|with_reducible exact Bool.not_true);intro A2 c2)|refine gs1 fun _=>?_|(refine gq ?_ ?_<;>intro hx_ this)|fail)
     all_goals
      repeat' (first|refine gs ?_|refine gs1 fun _=>?_|(refine gp ?_ ?_<;>intro hx_ this)|fail)
      exact ⟨(⟨k+1,hlt,A2,c2,n+1,by rw [hyes,List.length_append,←hn];rfl,xs++(fndOfB dI it).cells,by rw [hyes,hxs];simp⟩:PikIB I au gn rI dI),(by show I.length-(k+1)<I.length-k;omega),ae al (.cons _ (.cons _ (.cons _ (aj _)))) fun _ h=>h⟩
 have hkE:k=I.length:=by omega
 rw [hkE,List.take_length] at hn hxs
 obtain ⟨P,hP⟩:∃ P,selFB au gn rI dI I=P:=⟨_,rfl⟩
 rw [hP] at hn hxs
 have hPl:P.length≤I.length:=by rw [←hP,selFB,List.length_map];exact List.length_filter_le _ _
 subst hxs
 refine aZ (pre:=[SrB.postR ⟨A,n,c⟩ P]) (fr:=[]) (first:=#[]) (caps:=#[]) (hc:=SrB.sortStable_ct ⟨A,n,c⟩ P hn (by show n≤1000000;omega)) (hX:=fun _ _=>trivial) (h:=?_)
 rintro v R X' ⟨rfl,Q,hQ,rfl⟩
 have hQP:Q=P:=hQ.2 (by rw [←hP];exact hasc)
 subst hQP
 have hQl:Q.length=n:=hn.symm
 have hnI:n≤1000:=by omega
 refine bS (X':=fun w=>(Items w ki I∧(CelD bW [.string au] w∧CelD bG [.int .i64 gn] w))∧Xf w) (fun w h=>h.1) ?_
 repeat' (first|refine gs ?_|refine gs1 fun _=>?_|(refine eU (c:=n) (hm:=Nat.ble_eq_true_of_le aa) (hm2:=Nat.ble_eq_true_of_le aa) fun bv=>?_)|(refine gp ?_ ?_<;>intro hx_ this)|fail)
 refine bH (r:=SrB.postR ⟨A,n,c⟩ Q) aL (p:=0<n→A.isSome=true) (fun w h h0=>bu h h0) fun hAp=>?_
 refine am (ι:=ValIB Q) (fun i=>⟨[(11,.slice i.A i.k i.c),(47,.slice A n c),(48,.int .i64 (n:Nat)),(49,.int .i64 (i.k:Nat))],[orow 41 7 (.slice i.A i.k i.c) i.k i.xs,SrB.postR ⟨A,n,c⟩ Q],fun w=>(Items w ki I∧(CelD bW [.string au] w∧CelD bG [.int .i64 gn] w))∧Xf w⟩) (fun i=>Q.length-i.k) ⟨0,Nat.zero_le _,_,_,[],rfl⟩ (ae al (aj _) fun _ h=>h) fun i=>?_
 obtain ⟨k2,hk2,A2,c2,xs2,hxs2⟩:=i
 simp only
 repeat' (first|refine gs ?_|refine gs1 fun _=>?_|(refine gp ?_ ?_<;>intro hx_ this)|fail)
 · have hlt:k2<Q.length:=by omega
   have hAp':=hAp aa
   obtain ⟨f,hf⟩:∃ f,Q[k2]?=some f:=⟨_,List.getElem?_eq_getElem hlt⟩
   repeat' (first|refine bL (size:=7) (vs:=[f.a.v]) (css:=f.a.cells) (hsz:=by rfl) (hcs:=by rfl) fun _=>?_|refine gs ?_|refine gs1 fun _=>?_|(refine aE (q:=k2*9) ?_)|(refine ak (eZ (size:=9) (m:=n) (i:=k2) (xs:=Q.map Xp.cells) (cs:=f.cells) rfl (.tail _ (.head _)) (by rw [List.length_map];exact hQl.symm) (SrB.cellsF Q) (by simp [hf])) rfl rfl rfl ?_)|(refine aB (vs:=f.a.cells) (hv:=rfl) ?_)|(refine gp ?_ ?_<;>intro hx_ this)|fail)
   refine aC (size:=7) (news:=f.a.cells) (q:=1) rfl rfl rfl rfl (fun _=>At.there _ (At.there _ (At.here _))) (fun w G=>aU G ap rfl rfl 1) aa (by simp only [maxLen];omega) rfl ?_ rfl ?_
   · (first|with_reducible rfl|with_reducible assumption|with_reducible exact Bool.not_false|with_reducible exact Bool.not_true)
   intro A3 c3
   repeat' (first|refine gs ?_|refine gs1 fun _=>?_|(refine gp ?_ ?_<;>intro hx_ this)|fail)
   exact ⟨(⟨k2+1,hlt,A3,c3,xs2++f.a.cells,by rw [List.take_add_one,hf,hxs2];simp⟩:ValIB Q),(by show Q.length-(k2+1)<Q.length-k2;omega),ae al (.cons _ (.cons _ (aj _))) fun _ h=>h⟩
 have hk2E:k2=Q.length:=by omega
 rw [hk2E,List.take_length] at hxs2
 have hLp:Q.map Xp.a=selB2 au gn rI I:=by rw [←yL au gn rI dI I,hP]
 refine ab (ai rfl rfl) ⟨⟨A2,k2,c2⟩,rfl,fun w h=>?_⟩
 rw [←hLp]
 have hr:=h.2 (orow 41 7 (.slice A2 k2 c2) k2 xs2) (.head _)
 exact aV (xs:=(Q.map Xp.a).map Xi.cells) (by rw [List.map_map];rw [hxs2] at hr;exact hr) (by rw [List.length_map,List.length_map];exact hk2E) (ot _)
theorem jl (ks ki:Xj) (I:List Xb) (au:ByteArray) (gn:Int) (rI:Xb→Bool) (dI:Xb→ByteArray)
  (hR:∀ it∈I,Pu Tryz.prog 23 #[it.v] (fun w=>it.at_ w) (.bool (rI it)))
  (hD:∀ it∈I,Pu Tryz.prog 19 #[it.v] (fun w=>it.at_ w∧Xf w) (.string (dI it)))
  (hI:I.length≤1000) (hasc:SrB.Srt (selFB au gn rI dI I)) :
  Mk Tryz.prog 226 #[.agg #[ks.v,ki.v],.string au,.int .i64 gn] (fun w=>Items w ki I∧Xf w)
   (fun u X'=>∃ s:Xj,u=s.v∧∀ w,X' w→Ballots w s (selB2 au gn rI I)):=by
 refine cC Tryz.func226 Tryz.ntmps226 fun av bor w0=>?_
 repeat' (first|refine gs ?_|refine gs1 fun _=>?_|(refine cL ?_)|(refine gp ?_ ?_<;>intro hx_ this)|fail)
 rename_i b2 b3 b4
 refine aW ?_
 refine aW ?_
 refine bm (hc:=uo ks ki I b3 b4 au gn rI dI hR hD hI hasc) (hX:=fun w h=>⟨⟨h.1.1.1,ei h.2,ei h.1.2⟩,h.1.1.2⟩) fun v X1 h1=>?_
 obtain ⟨s,rfl,hw⟩:=h1
 repeat' (first|refine gs ?_|refine gs1 fun _=>?_|(refine gp ?_ ?_<;>intro hx_ this)|fail)
 exact ab (ai rfl rfl) ⟨s,rfl,fun w h=>hw w h.1.2⟩
end Go.Proofs.YtggionfjlgfihaaGreatDoor
