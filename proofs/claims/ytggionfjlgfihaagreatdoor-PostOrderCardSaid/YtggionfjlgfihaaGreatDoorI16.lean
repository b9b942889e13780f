/- Joined. -/
import Derived.Test.YtggionfjlgfihaaGreatDoorI0
import Derived.Test.YtggionfjlgfihaaGreatDoorI15
import Derived.Test.YtggionfjlgfihaaGreatDoorI1
import Derived.Test.YtggionfjlgfihaaGreatDoorI13
set_option linter.unusedVariables false
set_option linter.unusedSimpArgs false
set_option maxHeartbeats 16000000
namespace Go.Proofs.YtggionfjlgfihaaGreatDoor
open Go Go.Proofs Sy SrG
namespace SrC
structure StaI (P:List Xn) (n w:Nat) where
 a:Nat
 b:Nat
 h1:a≤n
 h2:b=a+w
 Q:List Xn
 hQ:Rel P Q
structure StaO (P:List Xn) (n:Nat) where
 z:Nat
 h1:1≤z
 h2:z≤2*n+20
 Q:List Xn
 hQ:Rel P Q
set_option maxRecDepth 20000 in
theorem d4 (s:Xj) (P:List Xn) (hs:s.n=P.length) (hm:s.n≤1000000):Ct Tryz.prog 235 #[s.v,.int .i64 (s.n:Nat),cmpF] [postR s P] (fun _=>True) (RelAt s P):=by
 have hP:Rel P P:=Rel.refl P
 refine bT Tryz.func235 Tryz.ntmps235 fun av bor w0=>?_
 repeat' (first|refine gs ?_|fail)
 refine am (ι:=StaI P s.n 20) (fun r=>⟨[(0,s.v),(1,.int .i64 (s.n:Nat)),(2,cmpF),(6,.int .i64 20),(7,.int .i64 (r.a:Nat)),(8,.int .i64 (r.b:Nat))],[postR s r.Q],fun _=>True⟩) (fun r=>s.n-r.a) ⟨0,20,Nat.zero_le _,rfl,P,hP⟩ (ae al (aj _) fun _ h=>h) fun r=>?_
 obtain ⟨a,b,h1,h2,Q,hQ⟩:=r
 simp only
 repeat' (first|refine aK (q:=20) (hq:=by omega) ?_|refine gs ?_|(refine bP (P:=P) (hQ:=by assumption) (hc:=fun Q hQ=>bY s Q a b (hs.trans hQ.1.length_eq.symm) hm aa aa) (h:=fun Q2 hQ2=>?_))|(refine bP (P:=P) (hQ:=by assumption) (hc:=fun Q hQ=>bY s Q a s.n (hs.trans hQ.1.length_eq.symm) hm aa aa) (h:=fun Q2 hQ2=>?_))|(refine gp ?_ ?_<;>intro hx_ this)|fail)
 · exact ⟨(⟨b,b+20,by omega,rfl,Q2,hQ2⟩:StaI P s.n 20),(by show s.n-b<s.n-a;omega),ae al (aj _) fun _ h=>h⟩
 · refine am (ι:=StaO P s.n) (fun r=>⟨[(0,s.v),(1,.int .i64 (s.n:Nat)),(2,cmpF),(6,.int .i64 (r.z:Nat))],[postR s r.Q],fun _=>True⟩) (fun r=>s.n-r.z) ⟨20,by omega,by omega,Q2,hQ2⟩ (ae al (aj _) fun _ h=>h) fun r=>?_
   clear h1 h2 hQ hQ2
   obtain ⟨z,h1,h2,Q,hQ⟩:=r
   simp only
   repeat' (first|refine dq (p:=2) (hq:=by omega) ?_|refine gs ?_|(refine gp ?_ ?_<;>intro hx_ this)|fail)
   · have hzn:z<s.n:=by omega
     refine am (ι:=StaI P s.n (2*z)) (fun r=>⟨[(0,s.v),(1,.int .i64 (s.n:Nat)),(2,cmpF),(6,.int .i64 (z:Nat)),(7,.int .i64 (r.a:Nat)),(8,.int .i64 (r.b:Nat))],[postR s r.Q],fun _=>True⟩) (fun r=>s.n-r.a) ⟨0,2*z,Nat.zero_le _,(Nat.zero_add _).symm,Q,hQ⟩ (ae al (aj _) fun _ h=>h) fun r=>?_
     obtain ⟨a,b,h3,h4,Q3,hQ3⟩:=r
     simp only
     repeat' (first|refine aK (hq:=by omega) ?_|refine dq (p:=2) (hq:=by omega) ?_|refine dq (q:=2) (hq:=by omega) ?_|refine gs ?_|(refine bP (P:=P) (hQ:=by assumption) (hc:=fun Q hQ=>bZ (b-a) s Q a (a+z) b (Nat.le_refl _) (hs.trans hQ.1.length_eq.symm) hm aa aa aa) (h:=fun Q2 hQ2=>?_))|(refine bP (P:=P) (hQ:=by assumption) (hc:=fun Q hQ=>bZ (s.n-a) s Q a (a+z) s.n (Nat.le_refl _) (hs.trans hQ.1.length_eq.symm) hm aa aa aa) (h:=fun Q2 hQ2=>?_))|(refine gp ?_ ?_<;>intro hx_ this)|fail)
     · exact ⟨(⟨b,b+2*z,by omega,rfl,Q2,hQ2⟩:StaI P s.n (2*z)),(by show s.n-b<s.n-a;omega),ae al (aj _) fun _ h=>h⟩
     all_goals
      refine ⟨(⟨z*2,by omega,by omega,_,?_⟩:StaO P s.n),(by show s.n-z*2<s.n-z;omega),ae al (aj _) fun _ h=>h⟩
      assumption
   · exact aI (aA rfl) ⟨rfl,Q,hQ,rfl⟩
theorem sortStable_ct (s:Xj) (P:List Xn) (hs:s.n=P.length) (hm:s.n≤1000000):Ct Tryz.prog 223 #[s.v,cmpF] [postR s P] (fun _=>True) (RelAt s P):=by
 have hP:Rel P P:=Rel.refl P
 refine bT Tryz.func223 Tryz.ntmps223 fun av bor w0=>?_
 repeat' (first|refine gs ?_|(refine bP (P:=P) (hQ:=by assumption) (hc:=fun Q hQ=>d4 s Q (hs.trans hQ.1.length_eq.symm) hm) (h:=fun Q2 hQ2=>?_))|(refine gp ?_ ?_<;>intro hx_ this)|fail)
 exact aI (aA rfl) ⟨rfl,Q2,hQ2,rfl⟩
end SrC
end Go.Proofs.YtggionfjlgfihaaGreatDoor
namespace Go.Proofs.YtggionfjlgfihaaGreatDoor
open Go Go.Proofs Sy
theorem un (ks ki:Xj) (I:List Xb) (bW:Nat) (au:ByteArray) (rI:Xb→Bool) (dI:Xb→ByteArray)
  (hR:∀ it∈I,Pu Tryz.prog 23 #[it.v] (fun w=>it.at_ w) (.bool (rI it)))
  (hD:∀ it∈I,Pu Tryz.prog 19 #[it.v] (fun w=>it.at_ w∧Xf w) (.string (dI it)))
  (hI:I.length≤1000) (hasc:SrC.Srt (selFC au rI dI I)) :
  Mk Tryz.prog 209 #[.agg #[ks.v,ki.v],wantVC bW] (fun w=>(Items w ki I∧CelD bW [.string au] w)∧Xf w)
   (fun u X'=>∃ s:Xj,u=s.v∧∀ w,X' w→Claims w s (selC au rI I)):=by
 refine cC Tryz.func209 Tryz.ntmps209 fun av bor w0=>?_
 refine aH (p:=ki.n=I.length∧ki.n≤maxLen∧(0<I.length→ki.p.isSome=true)) (fun w h=>⟨h.1.1.len_,h.1.1.max_,h.1.1.some_⟩) fun ⟨hkn,hkm,hkp⟩=>?_
 simp only [maxLen] at hkm
 repeat' (first|refine gs ?_|refine gs1 fun _=>?_|fail)
 rename_i b2
 refine bA 285 11 ?_
 refine am (ι:=PikIC I au rI dI) (fun i=>⟨[(1,wantVC bW),(5,.slice i.A i.n i.c),(15,ki.v),(16,.int .i64 (ki.n:Nat)),(17,.int .i64 (i.k:Nat))],[orow 285 11 (.slice i.A i.n i.c) i.n i.xs],fun w=>(Items w ki I∧CelD bW [.string au] w)∧Xf w⟩) (fun i=>I.length-i.k) ⟨0,Nat.zero_le _,none,0,0,rfl,[],rfl⟩ (ae al (.cons_cons _ (List.nil_sublist _)) fun _ h=>h) fun i=>?_
 obtain ⟨k,hk,A,c,n,hn,xs,hxs⟩:=i
 simp only
 repeat' (first|refine gs ?_|refine gs1 fun _=>?_|(refine gp ?_ ?_<;>intro hx_ this)|fail)
 · have hlt:k<I.length:=by omega
   have hkp':=hkp aa
   obtain ⟨it,hit⟩:∃ it,I[k]?=some it:=⟨_,List.getElem?_eq_getElem hlt⟩
   have him:=List.mem_of_getElem? hit
   have hnl:n≤1000:=by
    rw [hn,selFC,List.length_map]
    exact Nat.le_trans (List.length_filter_le _ _) (by rw [List.length_take];omega)
   repeat' (first|refine gs ?_|refine gs1 fun _=>?_|(refine aE (q:=k*49) ?_)|(refine aS (cs:=it.cells) (hF:=fun w h=>h.1.1.get hit) ?_)|(refine gp ?_ ?_<;>intro hx_ this)|fail)
   rename_i b7
   have hri:=hR it him
   have hdi:=hD it him
   have hwa:=oB bW au it
   have htk:selFC au rI dI (I.take (k+1))=selFC au rI dI (I.take k)++(bif selBC au rI it then [fndOfC dI it] else []):=by
    rw [selFC,selFC,List.take_add_one,hit,List.filter_append,List.map_append,Option.toList_some]
    congr 1
    cases hb:selBC au rI it with
    | true=>simp [hb]
    | false=>simp [hb]
   cases hwt:wantC au it with
   | false =>
    rw [hwt] at hwa
    have hno:selFC au rI dI (I.take (k+1))=selFC au rI dI (I.take k):=by rw [htk,selBC,hwt];exact List.append_nil _
    refine dH (args:=[it.v]) (all:=[it.v,.pointer (some ⟨bW,0,none⟩)]) (first:=#[]) (caps:=#[.pointer (some ⟨bW,0,none⟩)]) (hx:=rfl) (ha:=rfl) (hall:=rfl) (hc:=hwa) (hX:=fun w h=>h.1.2) (h:=?_)
    repeat' (first|refine gs ?_|refine gs1 fun _=>?_|(refine gp ?_ ?_<;>intro hx_ this)|fail)
    exact ⟨(⟨k+1,hlt,A,c,n,by rw [hno];exact hn,xs,by rw [hno];exact hxs⟩:PikIC I au rI dI),(by show I.length-(k+1)<I.length-k;omega),ae al (.cons _ (.cons _ (aj _))) fun _ h=>h⟩
   | true =>
    rw [hwt] at hwa
    cases hrt:rI it with
    | false =>
     rw [hrt] at hri
     have hno:selFC au rI dI (I.take (k+1))=selFC au rI dI (I.take k):=by rw [htk,selBC,hwt,hrt];exact List.append_nil _
     refine dH (args:=[it.v]) (all:=[it.v,.pointer (some ⟨bW,0,none⟩)]) (first:=#[]) (caps:=#[.pointer (some ⟨bW,0,none⟩)]) (hx:=rfl) (ha:=rfl) (hall:=rfl) (hc:=hwa) (hX:=fun w h=>h.1.2) (h:=?_)
     repeat' (first|(refine ag (hc:=hri) (hX:=fun w h=>h.1.1.2 it him) ?_)|refine gs ?_|refine gs1 fun _=>?_|(refine gp ?_ ?_<;>intro hx_ this)|fail)
     exact ⟨(⟨k+1,hlt,A,c,n,by rw [hno];exact hn,xs,by rw [hno];exact hxs⟩:PikIC I au rI dI),(by show I.length-(k+1)<I.length-k;omega),ae al (.cons _ (.cons _ (aj _))) fun _ h=>h⟩
    | true =>
     rw [hrt] at hri
     have hyes:selFC au rI dI (I.take (k+1))=selFC au rI dI (I.take k)++[fndOfC dI it]:=by rw [htk,selBC,hwt,hrt];rfl
     refine dH (args:=[it.v]) (all:=[it.v,.pointer (some ⟨bW,0,none⟩)]) (first:=#[]) (caps:=#[.pointer (some ⟨bW,0,none⟩)]) (hx:=rfl) (ha:=rfl) (hall:=rfl) (hc:=hwa) (hX:=fun w h=>h.1.2) (h:=?_)
     repeat' (first|(refine ag (hc:=hri) (hX:=fun w h=>h.1.1.2 it him) ?_)|refine gs ?_|refine gs1 fun _=>?_|(refine gp ?_ ?_<;>intro hx_ this)|fail)
     rename_i b8
     (refine ao ⟨[0,1,2,4],[(3,⟨[5],[(6,⟨[],[(7,⟨[8],[]⟩)]⟩)]⟩)]⟩ [cel b8 39 it.claim.cells,cel b7 45 it.cells] (fun w=>(Items w ki I∧CelD bW [.string au] w)∧Xf w) (h:=?_))
     all_goals repeat' (first|(refine ag (hc:=hdi) (hX:=fun w h=>⟨h.1.1.2 it him,h.2⟩) ?_)|refine gdz ?_|refine ax (hsub:=by exact aF) (hy:=by first|(apply dp (cs:=(fndOfC dI it).cells);rfl;rfl)) ?_|refine ay ?_ (h':=?_)|exact az|refine bL (size:=11) (vs:=[.agg (fndOfC dI it).cells.toArray]) (css:=(fndOfC dI it).cells) (hsz:=by rfl) (hcs:=by rfl) fun _=>?_|(refine fU ?_;refine aC (size:=11) (news:=(fndOfC dI it).cells) (q:=1) rfl rfl rfl rfl (fun _=>At.there _ (At.there _ (At.there _ (At.here _)))) (fun w G=>aU G ap rfl rfl 1) aa (by simp only [maxLen];omega) rfl ?_ rfl ?_;(first|with_reducible rfl|with_reducible assumption|with_reducible exact Bool.not_false|with_reducible exact Bool.not_true);intro A2 c2)|refine gs1 fun _=>?_|(refine gq ?_ ?_<;>intro hx_ this)|fail)
     all_goals
      repeat' (first|refine gs ?_|refine gs1 fun _=>?_|(refine gp ?_ ?_<;>intro hx_ this)|fail)
      exact ⟨(⟨k+1,hlt,A2,c2,n+1,by rw [hyes,List.length_append,←hn];rfl,xs++(fndOfC dI it).cells,by rw [hyes,hxs];simp⟩:PikIC I au rI dI),(by show I.length-(k+1)<I.length-k;omega),ae al (.cons _ (.cons _ (.cons _ (aj _)))) fun _ h=>h⟩
 have hkE:k=I.length:=by omega
 rw [hkE,List.take_length] at hn hxs
 obtain ⟨P,hP⟩:∃ P,selFC au rI dI I=P:=⟨_,rfl⟩
 rw [hP] at hn hxs
 have hPl:P.length≤I.length:=by rw [←hP,selFC,List.length_map];exact List.length_filter_le _ _
 subst hxs
 refine aZ (pre:=[SrC.postR ⟨A,n,c⟩ P]) (fr:=[]) (first:=#[]) (caps:=#[]) (hc:=SrC.sortStable_ct ⟨A,n,c⟩ P hn (by show n≤1000000;omega)) (hX:=fun _ _=>trivial) (h:=?_)
 rintro v R X' ⟨rfl,Q,hQ,rfl⟩
 have hQP:Q=P:=hQ.2 (by rw [←hP];exact hasc)
 subst hQP
 have hQl:Q.length=n:=hn.symm
 have hnI:n≤1000:=by omega
 refine bS (X':=fun w=>(Items w ki I∧CelD bW [.string au] w)∧Xf w) (fun w h=>h.1) ?_
 repeat' (first|refine gs ?_|refine gs1 fun _=>?_|(refine eU (c:=n) (hm:=Nat.ble_eq_true_of_le aa) (hm2:=Nat.ble_eq_true_of_le aa) fun bv=>?_)|(refine gp ?_ ?_<;>intro hx_ this)|fail)
 refine bH (r:=SrC.postR ⟨A,n,c⟩ Q) aL (p:=0<n→A.isSome=true) (fun w h h0=>bu h h0) fun hAp=>?_
 refine am (ι:=ValIC Q) (fun i=>⟨[(11,.slice i.A i.k i.c),(47,.slice A n c),(48,.int .i64 (n:Nat)),(49,.int .i64 (i.k:Nat))],[orow 39 9 (.slice i.A i.k i.c) i.k i.xs,SrC.postR ⟨A,n,c⟩ Q],fun w=>(Items w ki I∧CelD bW [.string au] w)∧Xf w⟩) (fun i=>Q.length-i.k) ⟨0,Nat.zero_le _,_,_,[],rfl⟩ (ae al (aj _) fun _ h=>h) fun i=>?_
 obtain ⟨k2,hk2,A2,c2,xs2,hxs2⟩:=i
 simp only
 repeat' (first|refine gs ?_|refine gs1 fun _=>?_|(refine gp ?_ ?_<;>intro hx_ this)|fail)
 · have hlt:k2<Q.length:=by omega
   have hAp':=hAp aa
   obtain ⟨f,hf⟩:∃ f,Q[k2]?=some f:=⟨_,List.getElem?_eq_getElem hlt⟩
   repeat' (first|refine bL (size:=9) (vs:=[f.a.v]) (css:=f.a.cells) (hsz:=by rfl) (hcs:=by rfl) fun _=>?_|refine gs ?_|refine gs1 fun _=>?_|(refine aE (q:=k2*11) ?_)|(refine ak (eZ (size:=11) (m:=n) (i:=k2) (xs:=Q.map Xn.cells) (cs:=f.cells) rfl (.tail _ (.head _)) (by rw [List.length_map];exact hQl.symm) (pS Q) (by simp [hf])) rfl rfl rfl ?_)|(refine aB (vs:=f.a.cells) (hv:=rfl) ?_)|(refine gp ?_ ?_<;>intro hx_ this)|fail)
   refine aC (size:=9) (news:=f.a.cells) (q:=1) rfl rfl rfl rfl (fun _=>At.there _ (At.there _ (At.here _))) (fun w G=>aU G ap rfl rfl 1) aa (by simp only [maxLen];omega) rfl ?_ rfl ?_
   · (first|with_reducible rfl|with_reducible assumption|with_reducible exact Bool.not_false|with_reducible exact Bool.not_true)
   intro A3 c3
   repeat' (first|refine gs ?_|refine gs1 fun _=>?_|(refine gp ?_ ?_<;>intro hx_ this)|fail)
   exact ⟨(⟨k2+1,hlt,A3,c3,xs2++f.a.cells,by rw [List.take_add_one,hf,hxs2];simp⟩:ValIC Q),(by show Q.length-(k2+1)<Q.length-k2;omega),ae al (.cons _ (.cons _ (aj _))) fun _ h=>h⟩
 have hk2E:k2=Q.length:=by omega
 rw [hk2E,List.take_length] at hxs2
 have hLp:Q.map Xn.a=selC au rI I:=by rw [←sd au rI dI I,hP]
 refine ab (ai rfl rfl) ⟨⟨A2,k2,c2⟩,rfl,fun w h=>?_⟩
 rw [←hLp]
 have hr:=h.2 (orow 39 9 (.slice A2 k2 c2) k2 xs2) (.head _)
 exact aV (xs:=(Q.map Xn.a).map Xg.cells) (by rw [List.map_map];rw [hxs2] at hr;exact hr) (by rw [List.length_map,List.length_map];exact hk2E) (jT _)
theorem j3 (ks ki:Xj) (I:List Xb) (au:ByteArray) (rI:Xb→Bool) (dI:Xb→ByteArray)
  (hR:∀ it∈I,Pu Tryz.prog 23 #[it.v] (fun w=>it.at_ w) (.bool (rI it)))
  (hD:∀ it∈I,Pu Tryz.prog 19 #[it.v] (fun w=>it.at_ w∧Xf w) (.string (dI it)))
  (hI:I.length≤1000) (hasc:SrC.Srt (selFC au rI dI I)) :
  Mk Tryz.prog 191 #[.agg #[ks.v,ki.v],.string au] (fun w=>Items w ki I∧Xf w)
   (fun u X'=>∃ s:Xj,u=s.v∧∀ w,X' w→Claims w s (selC au rI I)):=by
 refine cC Tryz.func191 Tryz.ntmps191 fun av bor w0=>?_
 repeat' (first|refine gs ?_|refine gs1 fun _=>?_|(refine cL ?_)|(refine gp ?_ ?_<;>intro hx_ this)|fail)
 rename_i b2 b3
 refine aW ?_
 refine bm (hc:=un ks ki I b3 au rI dI hR hD hI hasc) (hX:=fun w h=>⟨⟨h.1.1,ei h.2⟩,h.1.2⟩) fun v X1 h1=>?_
 obtain ⟨s,rfl,hw⟩:=h1
 repeat' (first|refine gs ?_|refine gs1 fun _=>?_|(refine gp ?_ ?_<;>intro hx_ this)|fail)
 exact ab (ai rfl rfl) ⟨s,rfl,fun w h=>hw w h.1.2⟩
end Go.Proofs.YtggionfjlgfihaaGreatDoor
