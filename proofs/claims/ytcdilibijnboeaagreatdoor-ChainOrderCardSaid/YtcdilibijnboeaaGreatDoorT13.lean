/- Joined by program out of: Yh Yi Yr Ys Jh Ye Oh Oi Yf Yt Po. -/
import Derived.Test.YtcdilibijnboeaaGreatDoorT12
import Derived.Test.YtcdilibijnboeaaGreatDoorCards
import Derived.Test.YtcdilibijnboeaaGreatDoorTie
import Derived.WalkKit
import Derived.ProofKit
import Derived.Deep.DeepHandedRow
import Derived.Lib.LaidTab
set_option linter.unusedVariables false
set_option linter.unusedSimpArgs false
namespace Go.Proofs.YtcdilibijnboeaaGreatDoor
open Go Go.Proofs Sy
theorem yQ (ks ki:SlV) (L:List Int) (I:List ItemD) (it:ItemD) (hdn:it.dec.to.n=it.dec.toL.length) (hs:signedIt L it=false) :
  Pu Tryz.prog 18 #[.agg #[ks.v,ki.v],it.v] (fun w=>((Ints w ks L∧Items w ki I)∧it.at_ w)∧Glob w) (.tuple #[.agg #[ks.v,ki.v],.bool false]):=by
 refine ay (args:=[_,_]) _ Tryz.func18 rfl Tryz.ntmps18 rfl fun av bor w0=>?_
 have hR:=dN it
 have hS:=gx ks L it hdn
 rw [hs] at hS
 repeat' (first|apply ab|apply Qt|apply Qu|refine aj ?_|refine ad ?_|refine aB ?_|refine aA ?_|refine aF ?_|refine aD ?_|refine aG ?_|refine bD ?_|refine bR ?_|refine aM fun _=>?_|refine aL fun _=>?_|refine aK ?_|refine Qx ?_|apply ar|(refine ao (hc:=hR) (hX:=fun w h=>h.1.2) ?_)|(refine ao (hc:=hS) (hX:=fun w h=>⟨⟨h.1.1.1,h.1.2⟩,h.2⟩) ?_)|((fail_if_success (refine aZ ?_));refine aR (ht:=?_) (hf:=?_);all_goals (intro hx_;skip))|fail)
 all_goals first
  | exact al (cV rfl rfl rfl bU (by rfl)) rfl
structure DupI (p:Nat) where
 k:Nat
 hk:k≤p
 at0:Int
set_option maxHeartbeats 16000000 in
theorem vJ (ks ki:SlV) (L:List Int) (I:List ItemD) (it:ItemD) (hr:∀ i∈I,i.act.Rng) (hd:∀ i∈I,i.dec.to.n=i.dec.toL.length) (hit:it.act.Rng) (hdn:it.dec.to.n=it.dec.toL.length) (hI:I.length≤1000) (hs:signedIt L it=true)
  (p:Nat) (x0:ItemD) (hp:I[p]?=some x0) (he:digIt x0=digIt it) (hno:∀ (j:Nat) (y:ItemD),j<p→I[j]?=some y→seqB (digIt y) (digIt it)=false) :
  Pu Tryz.prog 18 #[.agg #[ks.v,ki.v],it.v] (fun w=>((Ints w ks L∧Items w ki I)∧it.at_ w)∧Glob w) (.tuple #[.agg #[ks.v,ki.v],.bool false]):=by
 refine ay (args:=[_,_]) _ Tryz.func18 rfl Tryz.ntmps18 rfl fun av bor w0=>?_
 have hR:=dN it
 have hS:=gx ks L it hdn
 rw [hs] at hS
 have hri:rightIt it=true:=by
  rw [signedIt,ZM] at hs
  exact hs.1
 rw [hri] at hR
 have hD0:=dA it hit hdn
 have hD:=fun x (hx:x∈I)=>dA x (hr x hx) (hd x hx)
 have hplt:=(List.getElem?_eq_some_iff.1 hp).1
 refine bJ (p:=ki.n=I.length∧ki.n≤maxLen∧(0<I.length→ki.p.isSome=true)) (fun w h=>⟨h.1.1.2.len_,h.1.1.2.max_,h.1.1.2.some_⟩) fun ⟨hkn,hkm,hkp⟩=>?_
 simp only [maxLen] at hkm
 have hkp':=hkp ae
 generalize digIt it=d at *
 clear hs hri hr hd hit hdn
 repeat' (first|apply ab|apply Qt|apply Qu|refine aj ?_|refine ad ?_|refine aB ?_|refine aA ?_|refine aF ?_|refine aG ?_|refine bD ?_|refine aY ?_|refine aM fun _=>?_|refine aL fun _=>?_|refine Qy ?_|apply Qw|apply Qv|(refine ao (hc:=hR) (hX:=fun w h=>h.1.2) ?_)|(refine ao (hc:=hS) (hX:=fun w h=>⟨⟨h.1.1.1,h.1.2⟩,h.2⟩) ?_)|(refine ao (hc:=hD0) (hX:=fun w h=>⟨h.1.2,h.2⟩) ?_)|fail)
 rename_i b2 b3 b4
 refine aU (ι:=DupI p) (fun i=>⟨[(2,.pointer (some ⟨b2,0,none⟩)),(3,.pointer (some ⟨b3,0,none⟩)),(4,.pointer (some ⟨b4,0,none⟩)),(6,.string d),(7,.int .i64 i.at0),(29,ki.v),(30,.int .i64 (ki.n:Nat)),(31,.int .i64 (i.k:Nat))],[cel b4 25 [.slice none 0 0,.slice none 0 0],cel b3 57 it.cells,cel b2 25 [ks.v,ki.v]],fun w=>((Ints w ks L∧Items w ki I)∧it.at_ w)∧Glob w⟩) (fun i=>p-i.k) ⟨0,Nat.zero_le _,(ki.n:Nat)⟩ (ax ⟨rfl,rfl,rfl,rfl,rfl,rfl,rfl,rfl,trivial⟩ (aE _) fun _ h=>h) fun i=>?_
 obtain ⟨k,hk,at0⟩:=i
 simp only
 obtain ⟨x,hx⟩:∃ x,I[k]?=some x:=⟨_,Zm ae⟩
 have hxm:=List.mem_of_getElem? hx
 have hDx:=hD x hxm
 by_cases hkp2:k=p
 · obtain rfl:x=x0:=by rw [hkp2,hp] at hx;exact (Option.some.inj hx).symm
   rw [he] at hDx
   have hdd:seqB d d=true:=cf _
   repeat' (first|refine am (bM true rfl rfl (ZA ae)) rfl aC rfl ?_|refine am (dw true rfl rfl hdd) rfl aC rfl ?_|apply ab|apply Qt|apply Qu|refine aj ?_|refine ad ?_|refine aF ?_|refine aM fun _=>?_|refine aK ?_|refine Qx ?_|apply Qw|apply Qv|apply ar|(refine bx (q:=k*49) ?_)|(refine cr (cs:=x.cells) (hF:=fun w h=>h.1.1.2.get hx) ?_)|(refine ao (hc:=hDx) (hX:=fun w h=>⟨h.1.1.2.2 x hxm,h.2⟩) ?_)|fail)
   all_goals first
    | exact al (cV rfl rfl rfl bU (by rfl)) rfl
 · have hne:=hno k x ae hx
   cases hg:gtB (digIt x) d
   all_goals
    repeat' (first|refine am (bM true rfl rfl (ZA ae)) rfl aC rfl ?_|refine am (dw false rfl rfl hne) rfl aC rfl ?_|refine am (j8 _ rfl rfl hg) rfl aC rfl ?_|apply ab|apply Qt|apply Qu|refine aj ?_|refine ad ?_|refine aB ?_|refine aA ?_|refine aF ?_|refine aD ?_|refine aG ?_|refine bP ?_|refine aY ?_|refine be (h:=?_)|refine aJ ?_|refine aM fun _=>?_|refine aK ?_|refine Qx ?_|refine Qy ?_|apply Qw|apply Qv|(refine bx (q:=k*49) ?_)|(refine cr (cs:=x.cells) (hF:=fun w h=>h.1.1.2.get hx) ?_)|(refine ao (hc:=hDx) (hX:=fun w h=>⟨h.1.1.2.2 x hxm,h.2⟩) ?_)|(refine aH (ht:=?_) (hf:=?_);all_goals (intro hx_;first|have:=aP hx_|have:=aT hx_)))
   all_goals first
    | exact ⟨(⟨k+1,by omega,at0⟩:DupI p),(by show p-(k+1)<p-k;omega),ax ⟨rfl,rfl,rfl,rfl,rfl,rfl,rfl,rfl,trivial⟩ (.cons _ (aE _)) fun _ h=>h⟩
    | exact ⟨(⟨k+1,by omega,(k:Nat)⟩:DupI p),(by show p-(k+1)<p-k;omega),ax ⟨rfl,rfl,rfl,rfl,rfl,rfl,rfl,rfl,trivial⟩ (.cons _ (aE _)) fun _ h=>h⟩
def canAdd (L:List Int) (I:List ItemD) (it:ItemD):Bool:=signedIt L it&&!(I.any fun x=>seqB (digIt x) (digIt it))
def addK (L:List Int) (I:List ItemD) (it:ItemD):List ItemD:=bif canAdd L I it then addV digIt it I else I
theorem pT {P:Program} {f:FuncId} {args:Array Value} {X:World→Prop} {v:Value} {Φ:Value→(World→Prop)→Prop} (h:Pu P f args X v) (hi:∀ X',Φ v X'):Mk P f args X Φ:=by
 unfold Pu at h
 unfold Mk
 exact h.mono fun u R X' ⟨h1,h2⟩=>⟨h1▸hi X',h2⟩
theorem vv {I:List ItemD} {d:ByteArray}:(∃ x∈I,digIt x=d)→∃ (p:Nat) (x0:ItemD),I[p]?=some x0∧digIt x0=d∧∀ (j:Nat) (y:ItemD),j<p→I[j]?=some y→seqB (digIt y) d=false:=by
 induction I with
 | nil=>rintro ⟨x,hx,_⟩;cases hx
 | cons a I ih =>
  rintro ⟨x,hx,e⟩
  by_cases ha:digIt a=d
  · exact ⟨0,a,rfl,ha,fun j y hj=>absurd hj (Nat.not_lt_zero _)⟩
  · rcases List.mem_cons.1 hx with rfl|hx
    · exact absurd e ha
    · obtain ⟨p,x0,h1,h2,h3⟩:=ih ⟨x,hx,e⟩
      refine ⟨p+1,x0,h1,h2,fun j y hj hy=>?_⟩
      cases j with
      | zero =>
       obtain rfl:a=y:=by simpa using hy
       cases hs:seqB (digIt a) d with
       | false=>rfl
       | true=>exact absurd (seqB_iff.1 hs) ha
      | succ j=>exact h3 j y ae hy
theorem oD (ks ki:SlV) {L:List Int} {I:List ItemD} (h:KnR L I) (it:ItemD) (hit:it.act.Rng) (hdn:it.dec.to.n=it.dec.toL.length) :
  Mk Tryz.prog 18 #[.agg #[ks.v,ki.v],it.v] (fun w=>((Ints w ks L∧Items w ki I)∧it.at_ w)∧Glob w)
   (fun u X'=>∃ s:SlV,u=.tuple #[.agg #[ks.v,s.v],.bool (canAdd L I it)]∧∀ w,(Items w ki I∧X' w)→Items w s (addK L I it)):=by
 have hlen:=h.len
 cases hs:signedIt L it with
 | false =>
  have e:canAdd L I it=false:=by rw [canAdd,hs];rfl
  rw [addK,e]
  exact pT (yQ ks ki L I it hdn hs) fun X'=>⟨ki,rfl,fun w h=>h.1⟩
 | true =>
  cases hn:I.any fun x=>seqB (digIt x) (digIt it) with
  | true =>
   have e:canAdd L I it=false:=by rw [canAdd,hs,hn];rfl
   rw [addK,e]
   obtain ⟨x,hx,hx2⟩:=List.any_eq_true.1 hn
   obtain ⟨p,x0,h1,h2,h3⟩:=vv ⟨x,hx,seqB_iff.1 hx2⟩
   exact pT (vJ ks ki L I it h.rng h.dn hit hdn ae hs p x0 h1 h2 h3) fun X'=>⟨ki,rfl,fun w h=>h.1⟩
  | false =>
   have e:canAdd L I it=true:=by rw [canAdd,hs,hn];rfl
   rw [addK,e]
   have hri:rightIt it=true:=by
    rw [signedIt,ZM] at hs
    exact hs.1
   have hR:=dN it
   have hS:=gx ks L it hdn
   rw [hri] at hR
   rw [hs] at hS
   exact sX (Bl (fun w=>Ints w ks L) ks ki I it rightIt digIt hR hS (dA it hit hdn) (fun x hx=>dA x (h.rng x hx) (h.dn x hx)) ae fun x hx=>by
    cases hb:seqB (digIt x) (digIt it) with
    | false=>rfl
    | true=>exact absurd (List.any_eq_true.2 ⟨x,hx,hb⟩) (by rw [hn];decide)) fun u X' ⟨s,h1,h2⟩=>⟨s,h1,fun w h=>h2 w h.2⟩
theorem yq {a b:ByteArray} (h:gtB a b=true):ltB b a=true:=by
 rw [gtB,Bool.not_eq_true',Bool.or_eq_false_iff] at h
 cases hh:ltB b a with
 | true=>rfl
 | false =>
  have:=mW (a:=a) (b:=b) h.1 hh
  rw [this,cf] at h
  exact absurd h.2 (by decide)
theorem vn {a b:ByteArray} (h:gtB a b=false) (hn:a≠b):ltB a b=true:=by
 rw [gtB,Bool.not_eq_false',Bool.or_eq_true] at h
 rcases h with h|h
 · exact h
 · exact absurd (seqB_iff.1 h) hn
theorem fX (dI:ItemD→ByteArray) (it:ItemD) (I:List ItemD):(addV dI it I).Perm (it::I):=by
 rw [addV]
 refine List.perm_middle.trans ?_
 rw [List.take_append_drop]
theorem jW (dI:ItemD→ByteArray) {it:ItemD} (I:List ItemD) {q:ItemD→Bool} (h:q it=false):(addV dI it I).filter q=I.filter q:=by
 rw [addV,List.filter_append,List.filter_cons_of_neg (by rw [h];decide),←List.filter_append,List.take_append_drop]
theorem yP (dI:ItemD→ByteArray) (it:ItemD) (I:List ItemD) (h:Asc (I.map dI)) (hn:∀ x∈I,dI x≠dI it):Asc ((addV dI it I).map dI):=by
 obtain ⟨p,hp⟩:∃ p,addAt dI (dI it) I I.length=p:=⟨_,rfl⟩
 have hlow:∀ (j:Nat) (x:ItemD),j<p→I[j]?=some x→ltB (dI x) (dI it)=true:=fun j x hj hx=>by
  refine vn ?_ (hn x (List.mem_of_getElem? hx))
  rw [addAt,List.take_length] at hp
  obtain ⟨hlt,e⟩:=List.getElem?_eq_some_iff.1 hx
  cases hf:I.findIdx? fun x=>gtB (dI x) (dI it) with
  | none =>
   have:=List.findIdx?_eq_none_iff.1 hf x (List.mem_of_getElem? hx)
   exact this
  | some q =>
   rw [hf] at hp
   obtain ⟨h1,h2,h3⟩:=List.findIdx?_eq_some_iff_getElem.1 hf
   have:=h3 j (by rw [Option.getD_some] at hp;omega)
   rw [e] at this
   simpa using this
 have hhigh:∀ (j:Nat) (x:ItemD),p≤j→I[j]?=some x→ltB (dI it) (dI x)=true:=fun j x hj hx=>by
  rw [addAt,List.take_length] at hp
  obtain ⟨hlt,e⟩:=List.getElem?_eq_some_iff.1 hx
  cases hf:I.findIdx? fun x=>gtB (dI x) (dI it) with
  | none =>
   rw [hf,Option.getD_none] at hp
   omega
  | some q =>
   rw [hf,Option.getD_some] at hp
   subst hp
   obtain ⟨h1,h2,h3⟩:=List.findIdx?_eq_some_iff_getElem.1 hf
   have h4:=yq h2
   rcases Nat.lt_or_eq_of_le hj with h5|h5
   · exact fT h4 (ja h h5 (by rw [List.getElem?_map,Zm h1];rfl) (by rw [List.getElem?_map,hx];rfl))
   · subst h5
     rw [e] at h4
     exact h4
 rw [addV,hp,Qm,Qs]
 refine List.pairwise_append.2 ⟨iZ h ((List.take_sublist _ _).map dI),List.pairwise_cons.2 ⟨fun y hy=>?_,iZ h ((List.drop_sublist _ _).map dI)⟩,fun x hx y hy=>?_⟩
 · obtain ⟨z,hz,rfl⟩:=List.mem_map.1 hy
   obtain ⟨j,hj⟩:=List.mem_iff_getElem?.1 hz
   rw [List.getElem?_drop] at hj
   exact hhigh _ z ae hj
 · obtain ⟨z,hz,rfl⟩:=List.mem_map.1 hx
   obtain ⟨j,hj⟩:=List.mem_iff_getElem?.1 hz
   rw [List.getElem?_take] at hj
   split at hj
   · rename_i hjp
     have h1:=hlow j z hjp hj
     rcases List.mem_cons.1 hy with rfl|hy
     · exact h1
     · obtain ⟨u,hu,rfl⟩:=List.mem_map.1 hy
       obtain ⟨k,hk⟩:=List.mem_iff_getElem?.1 hu
       rw [List.getElem?_drop] at hk
       exact fT h1 (hhigh _ u ae hk)
   · cases hj
theorem rJ {L:List Int} {I:List ItemD} {it:ItemD} (h:canAdd L I it=true):signedIt L it=true∧rightIt it=true∧∀ x∈I,digIt x≠digIt it:=by
 rw [canAdd,ZM,Bool.not_eq_true'] at h
 refine ⟨h.1,?_,fun x hx e=>?_⟩
 · have h1:=h.1
   rw [signedIt,ZM] at h1
   exact h1.1
 · rw [List.any_eq_true.2 ⟨x,hx,seqB_iff.2 e⟩] at h
   exact absurd h.2 (by decide)
theorem p5 {L:List Int} {I:List ItemD} (h:KnR L I) {it:ItemD} (hit:it.act.Rng) (hsm:it.act.Sm) (hdn:it.dec.to.n=it.dec.toL.length) (hl:I.length<100):KnR L (addK L I it):=by
 rw [addK]
 cases hc:canAdd L I it with
 | false=>exact h
 | true =>
  obtain ⟨h1,h2,h3⟩:=rJ hc
  have hp:=fX digIt it I
  have hm:∀ i∈addV digIt it I,i=it∨i∈I:=fun i hi=>List.mem_cons.1 (hp.subset hi)
  show KnR L (addV digIt it I)
  refine ⟨h.sv,by rw [hp.length_eq,ZY];omega,fun i hi=>?_,fun i hi=>?_,fun i hi=>?_,fun i hi=>?_,yP digIt it I h.asc h3⟩
  · rcases hm i hi with rfl|hi
    · exact hit
    · exact h.rng i hi
  · rcases hm i hi with rfl|hi
    · exact hsm
    · exact h.sm i hi
  · rcases hm i hi with rfl|hi
    · exact hdn
    · exact h.dn i hi
  · rcases hm i hi with rfl|hi
    · exact h2
    · exact h.right i hi
theorem xv {I:List ItemD} {au:ByteArray} {it:ItemD}:(selA au rightIt (addV digIt it I)).Perm (bif selB au rightIt it then it.act::selA au rightIt I else selA au rightIt I):=by
 have h:=((fX digIt it I).filter (selB au rightIt)).map ItemD.act
 cases hs:selB au rightIt it with
 | true =>
  rw [List.filter_cons_of_pos hs,Qs] at h
  exact h
 | false =>
  rw [List.filter_cons_of_neg (by rw [hs];decide)] at h
  exact h
theorem jq {L:List Int} {I I':List ItemD} {au:ByteArray} {c n:ChainD} {kl kl':List KeyD} (hW:OfWK L.length I' au=OfWK L.length I au) (hA:(selA au rightIt I').Perm (selA au rightIt I)) (q:QK L I au c kl) (q':QK L I' au n kl'):SameC n c∧kl'=kl:=by
 obtain ⟨A,sa,sk,st,f,p,r,rfl,rfl⟩:=q
 obtain ⟨A',sa',sk',st',f',p',r',rfl,rfl⟩:=q'
 rw [hW] at r'
 have r2:=rs (OfWK L.length I au) ((p'.trans hA).trans p.symm) r'
 obtain ⟨rfl,rfl⟩:=vb r2 r
 exact ⟨⟨rfl,rfl,rfl,rfl,rfl⟩,rfl⟩
theorem vC (s:SlV) (L:List Int) (hb:L.length≤1000000):Mk Tryz.prog 43 #[s.v] (fun w=>Ints w s L) (fun u X'=>∃ t:SlV,u=t.v∧∀ w,X' w→Ints w t L):=by
 refine cq (args:=[_]) _ Tryz.func43 rfl Tryz.ntmps43 rfl fun av bor w0=>?_
 refine bJ (p:=s.n=L.length∧(s.p.isNone=true→L=[])) (fun w h=>⟨h.len_,fun hn=>by have:=h.none_nil hn;simpa using this⟩) fun ⟨hl,hnil⟩=>?_
 have h1:∀ cs∈L.map (fun n=>[intV n]),cs.all (·.oneCell')=true:=fun cs hcs=>by
  obtain ⟨x,_,rfl⟩:=List.mem_map.1 hcs
  rfl
 repeat' (first|refine iq ?_|refine j9 fun _=>?_|apply ab|apply Qt|apply Qu|refine aj ?_|refine ad ?_|apply Qw|apply ar|(refine aH (ht:=?_) (hf:=?_);all_goals (intro hx_;skip)))
 · refine al (ap rfl rfl) ⟨⟨none,0,0⟩,rfl,fun w _=>?_⟩
   rw [hnil hx_]
   exact cB w 1
 refine aV (size:=1) (z:=.int .i64 0) (news:=(L.map (fun n=>[intV n])).flatten) (q:=s.n) rfl rfl rfl rfl (fun _=>At.here _) (fun w G=>fK G.keep.now h1) ?_ ?_ rfl ?_ rfl ?_
 · omega
 · simp only [maxLen];omega
 · rfl
 intro A c
 repeat' (first|apply ab|refine ad ?_|apply ar|fail)
 refine al (ap rfl rfl) ⟨⟨A,0+s.n,c⟩,rfl,fun w h=>?_⟩
 exact cb (h.2 _ aI) (by rw [Z3];omega) fun r hr=>by
  obtain ⟨x,_,rfl⟩:=List.mem_map.1 hr
  rfl
theorem An (s:SlV) (L:List Int) (hb:L.length≤1000000):Mk Tryz.prog 17 #[s.v] (fun w=>Ints w s L) (fun u X'=>∃ t:SlV,u=.agg #[t.v,.slice none 0 0]∧∀ w,X' w→Ints w t L):=by
 refine cq (args:=[_]) _ Tryz.func17 rfl Tryz.ntmps17 rfl fun av bor w0=>?_
 repeat' (first|apply ab|apply Qt|apply Qu|refine aj ?_|refine aM fun _=>?_|fail)
 refine cR (hc:=vC s L hb) (hX:=fun w h=>h) fun v X1 h1=>?_
 obtain ⟨t,rfl,hw⟩:=h1
 repeat' (first|apply ab|refine aK ?_|apply ar|(refine br (cs:=[t.v,.slice none 0 0]) (hf:=by rfl) ?_)|fail)
 exact al (dz rfl rfl bU (by rfl)) ⟨t,rfl,fun w h=>hw w h.1.2⟩
def SameL (C D:List ChK):Prop:=All2 (fun p q=>SameC p.1 q.1∧p.2=q.2) C D
theorem All2.get {α β:Type} {R:α→β→Prop} {l:List α} {m:List β} (h:All2 R l m):∀ {i:Nat} {a:α} {b:β},l[i]?=some a→m[i]?=some b→R a b:=by
 induction h with
 | nil=>intro i a b ha;simp at ha
 | cons h1 _ ih =>
  intro i a b ha hb
  cases i with
  | zero=>simp at ha hb;subst ha;subst hb;exact h1
  | succ i=>exact ih (by simpa using ha) (by simpa using hb)
def ChsAt (w:World) (s:SlV) (C:List ChK):Prop:=Chains w s (C.map Prod.fst)∧∀ p∈C,Keyz w p.1.keys p.2
set_option maxHeartbeats 8000000 in
theorem qU (s r:SlV) (C D:List ChK) (h:SameL C D) (hr:∀ p∈C,∀ x∈p.1.actsL,x.Rng) :
  Pu Tryz.prog 20 #[s.v,r.v] (fun w=>ChsAt w s C∧ChsAt w r D) (.bool true):=by
 have hl:=h.len
 refine ay (args:=[_,_]) _ Tryz.func20 rfl Tryz.ntmps20 rfl fun av bor w0=>?_
 refine bJ (p:=(s.n=C.length∧s.n≤maxLen∧(0<C.length→s.p.isSome=true))∧r.n=C.length∧(0<C.length→r.p.isSome=true)) (fun w h=>⟨⟨by have:=h.1.1.len_;simpa using this,h.1.1.max_,fun h0=>h.1.1.some_ (by simpa using h0)⟩,by have:=h.2.1.len_;rw [Z3] at this;omega,fun h0=>h.2.1.some_ (by rw [Z3];omega)⟩) fun ⟨⟨hn,hm,hp⟩,hn',hp'⟩=>?_
 simp only [maxLen] at hm
 repeat' (first|refine eP (hab:=by omega) ?_|apply ab|apply Qt|apply Qu|refine aj ?_|refine ad ?_|refine aY ?_|refine Qy ?_|apply Qw|apply Qv|fail)
 refine aU (ι:=Kth C.length) (fun i=>⟨[(0,s.v),(1,r.v),(5,.int .i64 i.k)],[],fun w=>ChsAt w s C∧ChsAt w r D⟩) (fun i=>C.length-i.k) ⟨0,Nat.zero_le _⟩ (ax ⟨rfl,rfl,rfl,trivial⟩ (aE _) fun _ h=>h) fun i=>?_
 obtain ⟨k,hk⟩:=i
 simp only
 by_cases hlt:k<C.length
 · have p1':=hp ae
   have p2':=hp' ae
   obtain ⟨x,hx⟩:∃ x,C[k]?=some x:=⟨_,Zm hlt⟩
   obtain ⟨y,hy⟩:∃ y,D[k]?=some y:=⟨_,Zm ae⟩
   have hxm:=List.mem_of_getElem? hx
   have hym:=List.mem_of_getElem? hy
   obtain ⟨g1,g2⟩:=h.get hx hy
   have hsa:=fL x.1 y.1 x.2 g1 (hr x hxm)
   repeat' (first|refine am (bM true rfl rfl (ZA ae)) rfl aC rfl ?_|apply ab|apply Qt|apply Qu|refine aj ?_|refine aY ?_|refine Qx ?_|apply Qw|apply Qv|fail)
   (apply bI;kernel_rfl)
   all_goals refine aa 0 ?_<;>refine aa 1 ?_<;>(refine aa 2 (hy:=by (apply aN (q:=k*6);rfl;rfl;omega;omega;assumption;omega)) ?_)<;>(refine aa 3 (hy:=by (apply cX (cs:=x.1.cells);rfl;exact (fun w h=>Chains.get h.1.1 (by rw [List.getElem?_map,hx];rfl)))) ?_)<;>refine aa 4 ?_<;>refine aa 5 ?_<;>(refine aa 6 (hy:=by (apply aN (q:=k*6);rfl;rfl;omega;omega;assumption;omega)) ?_)<;>(refine aa 7 (hy:=by (apply cX (cs:=y.1.cells);rfl;exact (fun w h=>Chains.get h.2.1 (by rw [List.getElem?_map,hy];rfl)))) ?_)<;>(refine ag 8 ?_;(refine ao (hc:=hsa) (hX:=fun w h=>⟨⟨h.1.1.2 x.1 (List.mem_map_of_mem hxm),h.1.2 x hxm⟩,h.2.1.2 y.1 (List.mem_map_of_mem hym),g2▸h.2.2 y hym⟩) ?_);apply ab;refine ai ?_)<;>refine aa 9 ?_<;>(refine aw ?_)
   all_goals
    repeat' (first|apply ab|apply Qt|apply Qu|refine aj ?_|refine ad ?_|refine bD ?_|refine be (h:=?_)|refine Qy ?_|apply Qw|fail)
    exact ⟨(⟨k+1,hlt⟩:Kth C.length),(by show C.length-(k+1)<C.length-k;omega),ax ⟨rfl,rfl,rfl,trivial⟩ (aE _) fun _ h=>h⟩
 · repeat' (first|refine am (bM false rfl rfl (Zn ae)) rfl aC rfl ?_|apply ab|apply Qt|apply Qu|refine aj ?_|refine ad ?_|refine aY ?_|refine Qy ?_|apply ar|apply aQ|fail)
   exact al (ap rfl rfl) rfl
theorem eT {f:ItemD→ByteArray}:∀ (I J:List ItemD),Asc (I.map f)→Asc (J.map f)→(∀ x∈J,x∈I)→J.Sublist I
 | [],J,_,_,hs=>by
  cases J with
  | nil=>exact aE _
  | cons b J=>exact absurd (hs b aI) (by simp)
 | a::I,[],_,_,_=>ZR _
 | a::I,b::J,hI,hJ,hs=>by
  rw [Qs] at hI hJ
  obtain ⟨hI1,hI2⟩:=List.pairwise_cons.1 hI
  obtain ⟨hJ1,hJ2⟩:=List.pairwise_cons.1 hJ
  have hgt:∀ x∈J,ltB (f b) (f x)=true:=fun x hx=>hJ1 (f x) (List.mem_map_of_mem hx)
  rcases List.mem_cons.1 (hs b aI) with rfl|hb
  · refine (eT I J hI2 hJ2 fun x hx=>?_).cons_cons b
    rcases List.mem_cons.1 (hs x (ZS _ hx)) with rfl|h
    · have:=hgt x hx
      rw [fo] at this
      cases this
    · exact h
  · refine (eT I (b::J) hI2 (by rw [Qs];exact hJ) fun x hx=>?_).cons a
    rcases List.mem_cons.1 hx with rfl|hx2
    · exact hb
    · rcases List.mem_cons.1 (hs x hx) with rfl|h
      · have h1:=hgt x hx2
        have h2:ltB (f x) (f b)=true:=hI1 (f b) (List.mem_map_of_mem hb)
        rw [ju h1] at h2
        cases h2
      · exact h
theorem Bi {f:ItemD→ByteArray} {I J:List ItemD} (hI:Asc (I.map f)) (hJ:Asc (J.map f)) (h1:∀ x∈J,x∈I) (h2:∀ x∈I,x∈J):J=I :=
 (eT I J hI hJ h1).eq_of_length_le (eT J I hJ hI h2).length_le
structure PartK (L:List Int) (I J:List ItemD):Prop where
 kn:KnR L J
 sub:∀ x∈J,x∈I
theorem PartK.len {L:List Int} {I J:List ItemD} (h:PartK L I J) (hI:KnR L I):J.length≤I.length:=(eT I J hI.asc h.kn.asc h.sub).length_le
theorem PartK.add {L:List Int} {I J:List ItemD} (h:PartK L I J) (hI:KnR L I) (hl:I.length≤40) (hsg:∀ i∈I,signedIt L i=true) {x:ItemD} (hx:x∈I):PartK L I (addK L J x)∧x∈addK L J x∧∀ y∈J,y∈addK L J x:=by
 have h1:=h.len hI
 refine ⟨⟨p5 h.kn (hI.rng x hx) (hI.sm x hx) (hI.dn x hx) ae,fun y hy=>?_⟩,?_,fun y hy=>?_⟩
 · rw [addK] at hy
   cases hc:canAdd L J x with
   | false=>rw [hc] at hy;exact h.sub y hy
   | true =>
    rw [hc] at hy
    rcases List.mem_cons.1 ((fX digIt x J).subset hy) with rfl|hy
    · exact hx
    · exact h.sub y hy
 · rw [addK]
   cases hc:canAdd L J x with
   | true=>exact (fX digIt x J).symm.subset aI
   | false =>
    rw [canAdd,hsg x hx,ZD,Bool.not_eq_false'] at hc
    obtain ⟨y,hy,e⟩:=List.any_eq_true.1 hc
    have:=tB hI.asc (h.sub y hy) hx (seqB_iff.1 e)
    rw [←this]
    exact hy
 · rw [addK]
   cases hc:canAdd L J x with
   | true=>exact (fX digIt x J).symm.subset (ZS _ hy)
   | false=>exact hy
theorem PartK.all {L:List Int} {I J:List ItemD} (h:PartK L I J) (hI:KnR L I) (h2:∀ x∈I,x∈J):J=I:=Bi hI.asc h.kn.asc h.sub h2
theorem uZ {L:List Int} {I:List ItemD} (h:KnR L I):PartK L I []:=⟨⟨h.sv,by simp,fun i hi=>absurd hi (by simp),fun i hi=>absurd hi (by simp),fun i hi=>absurd hi (by simp),fun i hi=>absurd hi (by simp),List.Pairwise.nil⟩,fun x hx=>absurd hx (by simp)⟩
theorem x4 (n:Nat) (I:List ItemD) (au:ByteArray) {it:ItemD} (h1:seqB it.claim.actor au=false) (h2:seqB it.ballot.actor au=false):OfWK n (addV digIt it I) au=OfWK n I au:=by
 have h3:claimsV (addV digIt it I) au=claimsV I au:=by
  rw [claimsV,claimsV,selC,selC,jW]
  rw [selBC,wantC,h1,ZH,ZG]
 have h4:∀ g,selB2 au g rightIt (addV digIt it I)=selB2 au g rightIt I:=fun g=>by
  rw [selB2,selB2,jW]
  rw [selBB,wantB,h2,ZG,ZH,ZG]
 have h5:∀ g,wonK n (addV digIt it I) au g=wonK n I au g:=fun g=>by rw [wonK,wonK,h3,h4]
 have h6:genB n (addV digIt it I) au=genB n I au:=by
  rw [genB,genB,h3]
  congr 1
  funext g
  exact h5 g
 rw [OfWK,OfWK,h6]
 congr 1
 funext g
 rw [h5]
theorem B9 {L:List Int} {I:List ItemD} {it:ItemD} {au:ByteArray} {c n:ChainD} {kl kl':List KeyD} (h0:seqB it.act.author au=false) (h1:seqB it.claim.actor au=false) (h2:seqB it.ballot.actor au=false) (q:QK L I au c kl) (q':QK L (addK L I it) au n kl'):SameC n c∧kl'=kl:=by
 rw [addK] at q'
 cases hc:canAdd L I it with
 | false =>
  rw [hc] at q'
  exact jq rfl (List.Perm.refl _) q q'
 | true =>
  rw [hc] at q'
  refine jq (x4 _ I au h1 h2) ?_ q q'
  have:=xv (I:=I) (au:=au) (it:=it)
  rw [show selB au rightIt it=false from by rw [selB,wantA,h0,ZH,ZG],ZB] at this
  exact this
theorem allSame {L:List Int} {I:List ItemD}:∀ {ids:List ByteArray} {M N:List ChK},All2 (fun id p=>QK L I id p.1 p.2) ids M→All2 (fun id p=>QK L I id p.1 p.2) ids N→SameL (M.filter neK) (N.filter neK):=by
 intro ids M N h
 induction h generalizing N with
 | nil =>
  intro k
  cases k
  exact .nil
 | @cons a b l m h1 _ ih =>
  intro k
  cases k with
  | @cons _ b2 _ m2 h2 k =>
   obtain ⟨e1,e2⟩:=jq rfl (List.Perm.refl _) h2 h1
   have el:b.1.actsL.length=b2.1.actsL.length:=by simpa using congrArg List.length e1.acts.symm
   have en:neK b=neK b2:=by rw [neK,neK,el]
   rw [List.filter_cons,List.filter_cons,en]
   cases neK b2 with
   | true=>exact .cons ⟨e1,e2⟩ (ih k)
   | false=>exact ih k
theorem Bj {L:List Int} {I:List ItemD}:∀ {ids:List ByteArray} {M:List ChK},All2 (fun id p=>QK L I id p.1 p.2) ids M→M.map (fun p=>p.1.id)=ids:=by
 intro ids M h
 induction h with
 | nil=>rfl
 | cons h1 _ ih =>
  obtain ⟨A,sa,sk,st,f,p,r,e,_⟩:=h1
  rw [Qs,ih,e]
theorem Bk {L:List Int} {I:List ItemD} {ids:List ByteArray} {M:List ChK} (h:All2 (fun id p=>QK L I id p.1 p.2) ids M) (ha:Asc ids):Asc ((M.filter neK).map fun p=>p.1.id):=by
 rw [←Bj h] at ha
 exact iZ ha (List.filter_sublist.map _)
theorem All2.left {α β:Type} {R:α→β→Prop} {l:List α} {m:List β} (h:All2 R l m):∀ a∈l,∃ b∈m,R a b:=by
 induction h with
 | nil=>exact fun a ha=>absurd ha (by simp)
 | cons h1 _ ih =>
  intro a ha
  rcases List.mem_cons.1 ha with rfl|ha
  · exact ⟨_,aI,h1⟩
  · obtain ⟨b,hb,r⟩:=ih a ha
    exact ⟨b,ZS _ hb,r⟩
theorem lu {L:List Int} {I:List ItemD} {au:ByteArray} {c n:ChainD} {kl kl':List KeyD} (q:QK L I au c kl) (q':QK L I au n kl'):n.actsL.length=c.actsL.length:=by
 have:=congrArg List.length (jq rfl (List.Perm.refl _) q q').1.acts
 simpa using this.symm
theorem rk {L:List Int} {I:List ItemD} {au:ByteArray} {c:ChainD} {kl:List KeyD} (q:QK L I au c kl):c.id=au:=by
 obtain ⟨A,sa,sk,st,f,p,r,rfl,rfl⟩:=q
 rfl
theorem yx {L:List Int} {I:List ItemD} {ids:List ByteArray} {M:List ChK} (h:All2 (fun id p=>QK L I id p.1 p.2) ids M) {id:ByteArray} (hid:id∈ids) {c:ChainD} {kl:List KeyD} (q:QK L I id c kl) :
  (findC ((M.filter neK).map Prod.fst) id).isSome=decide (0<c.actsL.length):=by
 cases hf:findC ((M.filter neK).map Prod.fst) id with
 | some d =>
  have h1:=List.find?_some hf
  have h2:=List.mem_of_find?_eq_some hf
  obtain ⟨p,hp,rfl⟩:=List.mem_map.1 h2
  obtain ⟨hp1,hp2⟩:=List.mem_filter.1 hp
  obtain ⟨id2,_,q2⟩:=h.right p hp1
  have e:id2=id:=by rw [←rk q2];exact seqB_iff.1 h1
  subst e
  have:=lu q q2
  rw [neK,ZT] at hp2
  exact (ZA ae).symm
 | none =>
  obtain ⟨p,hp,q2⟩:=h.left id hid
  have:=lu q q2
  cases hn:neK p with
  | true =>
   have h3:=List.find?_eq_none.1 hf p.1 (List.mem_map_of_mem (List.mem_filter.2 ⟨hp,hn⟩))
   rw [rk q2,cf] at h3
   exact absurd rfl h3
  | false =>
   rw [neK,decide_eq_false_iff_not] at hn
   exact (Zn ae).symm
theorem rG:Pu Tryz.prog 43 #[.slice none 0 0] (fun _=>True) (.slice none 0 0):=by
 refine ay (args:=[_]) _ Tryz.func43 rfl Tryz.ntmps43 rfl fun av bor w0=>?_
 repeat' (first|refine iq ?_|apply ab|apply Qt|apply Qu|refine aj ?_|refine ad ?_|refine bS fun _=>?_|apply Qw|apply ar|(refine aH (ht:=?_) (hf:=?_);all_goals (intro hx_;skip)))
 all_goals first
  | exact al (ap rfl rfl) rfl
  | exact absurd hx_ (by decide)
theorem sW:Pu Tryz.prog 17 #[.slice none 0 0] (fun _=>True) (.agg #[.slice none 0 0,.slice none 0 0]):=by
 refine ay (args:=[_]) _ Tryz.func17 rfl Tryz.ntmps17 rfl fun av bor w0=>?_
 repeat' (first|apply ab|apply Qt|apply Qu|refine aj ?_|refine aM fun _=>?_|refine aK ?_|apply ar|(refine ao (hc:=rG) (hX:=fun _ _=>trivial) ?_)|(refine br (cs:=[.slice none 0 0,.slice none 0 0]) (hf:=by rfl) ?_)|fail)
 exact al (dz rfl rfl bU (by rfl)) rfl
theorem itemsNil (w:World):Items w ⟨none,0,0⟩ []:=⟨cB w 49,fun i hi=>absurd hi (by simp)⟩
theorem chainsNil0 (w:World):Chains w ⟨none,0,0⟩ []:=⟨cB w 6,fun i hi=>absurd hi (by simp)⟩
def chZ0 (id:ByteArray):ChainD:=⟨id,⟨none,0,0⟩,⟨none,0,0⟩,⟨#[]⟩,0,false,[]⟩
theorem Bd (id:ByteArray) (w:World):(chZ0 id).at_ w∧Keyz w (chZ0 id).keys []:=⟨⟨cB w 20,fun i hi=>(List.not_mem_nil hi).elim⟩,cB w 3⟩
set_option maxRecDepth 20000 in
set_option maxHeartbeats 8000000 in
theorem qQ:Pu Tryz.prog 7 #[] Glob (.bool true):=by
 refine ay (args:=[]) _ Tryz.func7 rfl Tryz.ntmps7 rfl fun av bor w0=>?_
 have hof:=fun au=>fw ⟨none,0,0⟩ ⟨none,0,0⟩ td au
 have hall:=mc (QK [] []) ⟨none,0,0⟩ ⟨none,0,0⟩ [] [] (by simp) hof
 have hids:compB (sortB (authI []))=[]:=by decide +kernel
 rw [hids] at hall
 repeat' (first|apply ab|apply Qt|apply Qu|refine aj ?_|refine ad ?_|refine aF ?_|refine aM fun _=>?_|refine aK ?_|(refine ao (hc:=sW) (hX:=fun _ _=>trivial) ?_)|(refine cR (hc:=hof _) (hX:=fun w h=>⟨⟨cB w 1,itemsNil w⟩,h⟩) fun v X1 h1=>?_;obtain ⟨c,kl,hQ,rfl,hw1⟩:=h1)|fail)
 obtain ⟨hcA,rfl,hcp,hcg,hcf,hci⟩:=B8 hQ
 have G:=tj td hQ
 refine iy (p:=c.acts.n=0) (fun w h=>by have:=(hw1 w h.2).1.len_;rw [hcA] at this;exact this) fun hcn=>?_
 have hseq:(c.acts.n:Int)=0:=by omega
 have hia:seqB c.id ⟨#[48,49,50,51,52,53,54,55,56,57,97,98,99,100,101,102]⟩=true:=by rw [hci];exact cf _
 have hip:seqB c.prev ⟨#[]⟩=true:=by rw [hcp];exact cf _
 have hdr:=yD c 0 7
 have hkey:Pu Tryz.prog 11 #[c.v,.int .i64 0] (fun w=>c.at_ w∧Keyz w c.keys []) (.tuple #[KeyD.zero.v,.bool false]):=by
  have h1:=qp c [] 0
  have e:keyV c.acts.n [] 0=none:=by rw [keyV];cases (decide ((0:Int)<0)||decide ((c.acts.n:Int)<0))<;>rfl
  rw [e] at h1
  exact h1
 have hidx:Pu Tryz.prog 13 #[c.v,.string ⟨#[]⟩] (fun w=>c.at_ w∧Glob w) (.tuple #[.int .i64 0,.bool false]):=by
  have h1:=ym c G.ok ⟨#[]⟩
  have e:idxV c.actsL ⟨#[]⟩=none:=by rw [hcA];rfl
  rw [e] at h1
  exact h1
 have hfind:Pu Tryz.prog 21 #[.slice none 0 0,.string ⟨#[48,49,50,51,52,53,54,55,56,57,97,98,99,100,101,102]⟩] (fun w=>Chains w ⟨none,0,0⟩ []) (.tuple #[ChainD.zero.v,.bool false]):=tk ⟨none,0,0⟩ [] _
 have hsame:=fL c (chZ0 ⟨#[48,49,50,51,52,53,54,55,56,57,97,98,99,100,101,102]⟩) [] ⟨hci,hcp,hcg,hcf,by rw [hcA];rfl⟩ (fun x hx=>by rw [hcA] at hx;exact (List.not_mem_nil hx).elim)
 clear hcA hcp hcg hcf hci
 repeat' (first|refine am (dw true rfl rfl (by first|exact hia|exact hip)) rfl aC rfl ?_|refine bm (hab:=by first|exact hseq|rfl|omega) ?_|apply ab|apply Qt|apply Qu|refine aj ?_|refine ad ?_|refine aB ?_|refine aA ?_|refine aF ?_|refine aD ?_|refine bD ?_|refine aY ?_|refine bV ?_|refine aM fun _=>?_|refine aK ?_|apply ar|(refine ao (hc:=hdr) (hX:=fun _ _=>trivial) ?_)|(refine ao (hc:=hkey) (hX:=fun w h=>hw1 w h.2) ?_)|(refine ao (hc:=hidx) (hX:=fun w h=>⟨(hw1 w h.2).1,h.1⟩) ?_)|(refine ao (hc:=hfind) (hX:=fun w h=>chainsNil0 w) ?_)|(refine ao (hc:=hsame) (hX:=fun w h=>⟨hw1 w h.2,Bd _ w⟩) ?_)|(refine br (cs:=(chZ0 ⟨#[48,49,50,51,52,53,54,55,56,57,97,98,99,100,101,102]⟩).cells) (hf:=by rfl) ?_)|(refine ao (hc:=sW) (hX:=fun _ _=>trivial) ?_)|(refine cR (hc:=hall) (hX:=fun w h=>⟨⟨cB w 1,itemsNil w⟩,h.1⟩) fun v X2 h2=>?_;obtain ⟨s,M,hM,rfl,hws⟩:=h2;cases hM;refine iy (p:=s.n=0) (fun w h=>(hws w h.2).1.len_) fun hsn=>?_)|fail)
 all_goals first
  | exact al (ap rfl rfl) rfl
theorem Items.sub {w:World} {s:SlV} {l:List ItemD} (h:Items w s l) {k off n:Nat} {x:ItemD} {cs:List Value} (hx:l[k]?=some x) (hc:(x.cells.drop off).take n=cs) (hn:cs.length=n) :
  cs.length=n∧s.p.isSome=true∧∀ j u,cs[j]?=some u→CellAt w s.p (k*49+off+j) u:=by
 refine ⟨hn,(h.get hx).2.1,fun j u hu=>?_⟩
 have h1:x.cells[off+j]?=some u:=by
  rw [←hc,List.getElem?_take] at hu
  split at hu
  · rw [List.getElem?_drop] at hu
    exact hu
  · cases hu
 rw [Z6]
 exact (h.get hx).2.2 (off+j) u h1
def bigIt (i:ItemD):Bool:=decide (8<(i.act.to.n:Int))||decide (8<(i.act.wraps.n:Int))||decide (8<(i.dec.to.n:Int))||decide (600<(i.act.text.size:Int))||decide (600<(i.act.body.data.size:Int))||decide (600<(i.dec.text.size:Int))
def badFw (I:List ItemD) (k:Nat):Bool:=bigIt (I.getD k ItemD.zero)
def fewB (L:List Int) (I:List ItemD):Bool:=!(decide (40<(I.length:Int))||decide (20<(L.length:Int)))&&(allB I.length (badFw I)&&rightKn L I)
set_option maxRecDepth 20000 in
set_option maxHeartbeats 16000000 in
theorem Cy (ks ki:SlV) (L:List Int) (I:List ItemD) (hs:∀ i∈I,i.Str) (hdn:∀ i∈I,i.dec.to.n=i.dec.toL.length) :
  Pu Tryz.prog 8 #[.agg #[ks.v,ki.v]] (fun w=>Ints w ks L∧Items w ki I) (.bool (fewB L I)):=by
 refine ay (args:=[_]) _ Tryz.func8 rfl Tryz.ntmps8 rfl fun av bor w0=>?_
 refine bJ (p:=(ks.n=L.length∧ks.n≤maxLen∧(0<L.length→ks.p.isSome=true))∧(ki.n=I.length∧ki.n≤maxLen∧(0<I.length→ki.p.isSome=true))) (fun w h=>⟨⟨h.1.len_,Qp (RowsD.cap h.1) (RowsD.max h.1),h.1.some_⟩,h.2.len_,h.2.max_,h.2.some_⟩) fun ⟨⟨hn,hm,hp⟩,hin,him,hip⟩=>?_
 simp only [maxLen] at hm him
 have hkr:=nU ks ki L I hs hdn
 clear hs hdn
 by_cases h40:I.length≤40∧L.length≤20
 · have e:fewB L I=(allB I.length (badFw I)&&rightKn L I):=by rw [fewB,Zn ae,Zn (by omega)];rfl
   rw [e]
   repeat' (first|apply ab|apply Qt|apply Qu|refine aj ?_|refine ad ?_|refine aB ?_|refine aA ?_|refine aD ?_|refine aG ?_|refine cG ?_|refine aY ?_|refine bR ?_|refine aL fun _=>?_|refine Qx ?_|apply Qw|apply Qv|apply ar|((fail_if_success (refine aZ ?_));refine aR (ht:=?_) (hf:=?_);all_goals (intro hx_;first|have:=aP hx_|have:=aT hx_))|(refine aH (ht:=?_) (hf:=?_);all_goals (intro hx_;first|have:=aP hx_|have:=aT hx_)))
   all_goals try (exfalso;omega)
   all_goals try (exfalso;simp at *;omega)
   rename_i b _ _
   refine aU (ι:=Upto I.length (badFw I)) (fun j=>⟨[(1,.pointer (some ⟨b,0,none⟩)),(3,.int .i64 (j.k:Nat))],[cel b 25 [ks.v,ki.v]],fun w=>Ints w ks L∧Items w ki I⟩) (fun j=>I.length-j.k) (Upto.zero _ _) (ax ⟨rfl,rfl,trivial⟩ (aE _) fun _ h=>h) fun j=>?_
   have hjk:=j.hk
   by_cases hlt:j.k<I.length
   · have hki:=hip ae
     obtain ⟨x,hx⟩:∃ x,I[j.k]?=some x:=⟨_,Zm hlt⟩
     have hxm:=List.mem_of_getElem? hx
     have hxD:I.getD j.k ItemD.zero=x:=by rw [ZL,hx];rfl
     have hbf:badFw I j.k=bigIt x:=by rw [badFw,hxD]
     repeat' (first|refine SrG.sy_lssT_g (hab:=by omega) (h:=?_)|apply ab|apply Qt|apply Qu|refine aj ?_|refine ad ?_|refine aB ?_|refine aA ?_|refine aD ?_|refine aG ?_|refine cG ?_|refine bT ?_|refine aY ?_|refine be (h:=?_)|refine bR ?_|refine aM fun _=>?_|refine aK ?_|refine Qx ?_|apply Qw|apply Qv|apply ar|(refine bx (q:=j.k*49) ?_)|(refine eX ?_)|(refine cr (cs:=x.act.cells) (hF:=fun w h=>Items.sub (off:=1) h.2 hx rfl rfl) ?_)|(refine cr (cs:=x.dec.cells) (hF:=fun w h=>Items.sub (off:=37) h.2 hx rfl rfl) ?_)|((fail_if_success (refine aZ ?_));refine aR (ht:=?_) (hf:=?_);all_goals (intro hx_;first|have:=aP hx_|have:=aT hx_))|(refine aH (ht:=?_) (hf:=?_);all_goals (intro hx_;first|have:=aP hx_|have:=aT hx_)))
     all_goals first
      | (refine al (ap rfl rfl) ?_;rw [du hlt (by rw [hbf];simp only [bigIt, *,ZQ,ZO,ZC,ZB,ZE,ZD,ZH,ZG,ZK,ZI,ZP,ZJ,ZN,ZF]),ZG];done)
      | exact ⟨j.next hlt (by rw [hbf];simp only [bigIt, *,ZQ,ZO,ZC,ZB,ZE,ZD,ZH,ZG,ZK,ZI,ZP,ZJ,ZN,ZF]),(by show I.length-(j.k+1)<I.length-j.k;omega),ax ⟨rfl,rfl,trivial⟩ (List.Sublist.cons _ (List.Sublist.cons _ (aE _))) fun _ h=>h⟩
   · rw [j.all hlt,ZD]
     repeat' (first|refine SrG.sy_lssF_g (hab:=by omega) (h:=?_)|apply ab|apply Qt|apply Qu|refine aj ?_|refine ad ?_|refine aB ?_|refine aA ?_|refine aF ?_|refine aY ?_|refine Qy ?_|apply ar|apply aQ|(refine ao (hc:=hkr) (hX:=fun w h=>h) ?_)|fail)
     all_goals first
      | exact al (ap rfl rfl) rfl
 · have e:fewB L I=false:=by
    rw [fewB]
    by_cases h1:I.length≤40
    · rw [ZA (show 20<(L.length:Int) by omega),ZP]
      rfl
    · rw [ZA (show 40<(I.length:Int) by omega),ZJ]
      rfl
   rw [e]
   repeat' (first|apply ab|apply Qt|apply Qu|refine aj ?_|refine ad ?_|refine aB ?_|refine aA ?_|refine aD ?_|refine aG ?_|refine cG ?_|refine aY ?_|refine bR ?_|refine aL fun _=>?_|refine Qx ?_|apply Qw|apply Qv|apply ar|((fail_if_success (refine aZ ?_));refine aR (ht:=?_) (hf:=?_);all_goals (intro hx_;first|have:=aP hx_|have:=aT hx_))|(refine aH (ht:=?_) (hf:=?_);all_goals (intro hx_;first|have:=aP hx_|have:=aT hx_)))
   all_goals first
    | (exfalso;omega)
    | exact al (ap rfl rfl) rfl
theorem ot {L:List Int} {I:List ItemD} (h:fewB L I=true):I.length≤40∧rightKn L I=true∧∀ i∈I,bigIt i=false:=by
 rw [fewB,ZM,ZM,Bool.not_eq_true',Bool.or_eq_false_iff] at h
 refine ⟨by have:=aT h.1.1;omega,h.2.2,fun i hi=>?_⟩
 obtain ⟨k,hk⟩:=List.mem_iff_getElem?.1 hi
 obtain ⟨hlt,_⟩:=List.getElem?_eq_some_iff.1 hk
 have h1:=jb h.2.1 hlt
 rw [badFw,ZL,hk] at h1
 exact h1
theorem Av {L:List Int} {I:List ItemD} (h:fewB L I=true) (hs:∀ i∈I,i.Str) (hd:∀ i∈I,i.dec.to.n=i.dec.toL.length):KnR L I:=by
 obtain ⟨h1,h2,h3⟩:=ot h
 refine Cg h2 ae (fun i hi=>(hs i hi).rng) (fun i hi=>?_) hd
 have h4:=h3 i hi
 simp only [bigIt,Bool.or_eq_false_iff,decide_eq_false_iff_not] at h4
 obtain ⟨⟨⟨⟨⟨g1,g2⟩,_⟩,_⟩,_⟩,_⟩:=h4
 exact ⟨by omega,by omega,(hs i hi).act.target⟩
theorem qB {P:Program} {N:Nat} {av bor:List Nat} {w0:World} {st:St} {t ty:TypeId} {x:Operand} {b:Bool} (v:Bool) (hx:ev st.env x=some (.bool b)) (hv:(!b)=v):Sy.Yields P N av bor w0 st (.unOp .not t x) ty (.bool v):=hv▸rX hx
structure CutN (len:Nat) where
 k:Nat
 h1:1≤k
 h2:k≤len∨k=1
theorem mC {N:Nat} {av bor:List Nat} {w0:World} {st:St} {ty:TypeId} {x:Operand} (c:ChainD) (hx:ev st.env x=some c.v):Sy.Yields Tryz.prog N av bor w0 st (.field 31 x 1) ty c.acts.v:=Sy.Yields.mk fun A w ok d pos af g=>by
 have p0:(part 28 c.cells.toArray 1).run Tryz.prog w=.ok c.acts.v w:=by
  simp [part,isAgg,run_underlying Tryz.underlying28,ChainD.cells]
 simp only [ChainD.v] at hx
 simp [execOp,ok.eval hx,Instr.field,run_underlying Tryz.underlying31,asAgg,p0]
theorem SameC.symm {a b:ChainD} (h:SameC a b):SameC b a:=⟨h.id.symm,h.prev.symm,h.gen.symm,h.fork.symm,h.acts.symm⟩
structure OrdI (L:List Int) (I:List ItemD) (n:Nat) where
 k:Nat
 hk:k≤n
 s:SlV
 J:List ItemD
 hp:PartK L I J
structure OrdJ (L:List Int) (I:List ItemD) where
 k:Nat
 hk:k≤I.length
 s:SlV
 J:List ItemD
 hp:PartK L I J
 hall:∀ (q:Nat) (x:ItemD),k≤q→I[q]?=some x→x∈J
set_option maxRecDepth 20000 in
set_option maxHeartbeats 16000000 in
theorem mx (ks ki:SlV) (L:List Int) (I:List ItemD) (hs:∀ i∈I,i.Str) (hd:∀ i∈I,i.dec.to.n=i.dec.toL.length) (so:SlV) (O:List Int) (it:ItemD) (hit:it.Str) (hdi:it.dec.to.n=it.dec.toL.length) :
  Pu Tryz.prog 4 #[.agg #[ks.v,ki.v],so.v,it.v] (fun w=>(((Ints w ks L∧Items w ki I)∧Ints w so O)∧it.at_ w)∧Glob w) (.bool true):=by
 have hsm:=qQ
 have hfw:=Cy ks ki L I hs hd
 refine ay (args:=[_,_,_]) _ Tryz.func4 rfl Tryz.ntmps4 rfl fun av bor w0=>?_
 cases hfB:fewB L I with
 | false =>
  rw [hfB] at hfw
  repeat' (first|apply ab|apply Qt|apply Qu|refine aj ?_|refine ad ?_|refine aF ?_|refine aD ?_|refine bD ?_|refine bR ?_|refine aL fun _=>?_|refine Qx ?_|apply ar|(refine ao (hc:=hsm) (hX:=fun w h=>h.2) ?_)|(refine ao (hc:=hfw) (hX:=fun w h=>h.1.1.1) ?_)|fail)
  exact al (ap rfl rfl) rfl
 | true =>
  rw [hfB] at hfw
  have hK:=Av hfB hs hd
  have hsg:=gA (ot hfB).2.1
  have hI40:=(ot hfB).1
  refine bJ (p:=(ki.n=I.length∧(0<I.length→ki.p.isSome=true))∧so.n=O.length∧so.n≤maxLen∧(0<O.length→so.p.isSome=true)) (fun w h=>⟨⟨h.1.1.1.2.len_,h.1.1.1.2.some_⟩,h.1.1.2.len_,Qp (RowsD.cap h.1.1.2) (RowsD.max h.1.1.2),h.1.1.2.some_⟩) fun ⟨⟨hkn,hkp⟩,hon,hom,hop⟩=>?_
  by_cases hbig:80<(so.n:Int)∨8<(it.act.to.n:Int)∨8<(it.act.wraps.n:Int)
  · repeat' (first|apply ab|apply Qt|apply Qu|refine aj ?_|refine ad ?_|refine aB ?_|refine aA ?_|refine aF ?_|refine aD ?_|refine aG ?_|refine bD ?_|refine cG ?_|refine aY ?_|refine bR ?_|refine aL fun _=>?_|refine Qx ?_|apply Qw|apply ar|(refine ao (hc:=hsm) (hX:=fun w h=>h.2) ?_)|(refine ao (hc:=hfw) (hX:=fun w h=>h.1.1.1) ?_)|((fail_if_success (refine aZ ?_));refine aR (ht:=?_) (hf:=?_);all_goals (intro hx_;first|have:=aP hx_|have:=aT hx_))|(refine aH (ht:=?_) (hf:=?_);all_goals (intro hx_;first|have:=aP hx_|have:=aT hx_)))
    all_goals first
     | exact al (ap rfl rfl) rfl
     | (exfalso;omega)
  · have hnw:=An ks L (by have:=hK.sv;omega)
    repeat' (first|refine ir (hab:=by omega) ?_|apply ab|apply Qt|apply Qu|refine aj ?_|refine ad ?_|refine aB ?_|refine aA ?_|refine aF ?_|refine aG ?_|refine bD ?_|refine aY ?_|refine aM fun _=>?_|refine aL fun _=>?_|refine aK ?_|refine Qy ?_|apply Qw|apply Qv|(refine ao (hc:=hsm) (hX:=fun w h=>h.2) ?_)|(refine ao (hc:=hfw) (hX:=fun w h=>h.1.1.1) ?_)|(refine cR (hc:=hnw) (hX:=fun w h=>h.1.1.1.1) fun v X1 h1=>?_;obtain ⟨t,rfl,hw1⟩:=h1)|fail)
    rename_i b3 b5 b8
    clear hsm hfw hfB hs hnw
    refine aU (ι:=OrdI L I O.length) (fun i=>⟨[(1,so.v),(3,.pointer (some ⟨b3,0,none⟩)),(5,.pointer (some ⟨b5,0,none⟩)),(7,.bool true),(8,.pointer (some ⟨b8,0,none⟩)),(9,.int .i64 (i.k:Nat))],[cel b8 25 [t.v,i.s.v],cel b5 57 it.cells,cel b3 25 [ks.v,ki.v]],fun w=>(((((Ints w ks L∧Items w ki I)∧Ints w so O)∧it.at_ w)∧Glob w)∧Ints w t L)∧Items w i.s i.J⟩) (fun i=>O.length-i.k) ⟨0,Nat.zero_le _,⟨none,0,0⟩,[],uZ hK⟩ (ax ⟨rfl,rfl,rfl,rfl,rfl,rfl,trivial⟩ (aE _) fun w h=>⟨⟨h.1,hw1 w h.2⟩,itemsNil w⟩) fun i=>?_
    obtain ⟨k,hk,s,J,hp⟩:=i
    simp only
    by_cases hlt:k<O.length
    · have hop':=hop ae
      have hget:∀ w,Ints w so O→CellAt w so.p k (.int .i64 (O.getD k 0)):=fun w h=>Ints.get h hlt
      generalize O.getD k 0=o at *
      repeat' (first|refine am (bM true rfl rfl (ZA ae)) rfl aC rfl ?_|apply ab|apply Qt|apply Qu|refine aj ?_|refine aY ?_|refine Qx ?_|apply Qw|apply Qv|fail)
      by_cases h1:0≤o
      · by_cases h2:o<(ki.n:Int)
        · have hkp':=hkp ae
          obtain ⟨x,hx⟩:∃ x,I[o.toNat]?=some x:=⟨_,Zm ae⟩
          have hxm:=List.mem_of_getElem? hx
          obtain ⟨g1,g2,g3⟩:=hp.add hK hI40 hsg hxm
          (refine aS [cel b8 25 [t.v,s.v],cel b5 57 it.cells,cel b3 25 [ks.v,ki.v]] (fun w=>(((((Ints w ks L∧Items w ki I)∧Ints w so O)∧it.at_ w)∧Glob w)∧Ints w t L)∧Items w s J) ak ?_)
          all_goals refine aa 0 ?_<;>refine aa 1 ?_<;>(refine aa 2 (hy:=by (apply aN (q:=k);rfl;rfl;omega;omega;assumption;omega)) ?_)<;>(refine aa 3 (hy:=by (apply dv (q:=k) (u:=.int .i64 o);rfl;exact fun w h=>hget w h.1.1.1.1.2)) ?_)<;>(refine aa 4 (hy:=by (apply eJ true;rfl;rfl;exact ZA h1)) ?_)<;>refine aa 5 ?_<;>refine aa 6 ?_<;>refine aa 7 ?_<;>(refine aa 8 (hy:=by (apply aN (q:=k);rfl;rfl;omega;omega;assumption;omega)) ?_)<;>(refine aa 9 (hy:=by (apply dv (q:=k) (u:=.int .i64 o);rfl;exact fun w h=>hget w h.1.1.1.1.2)) ?_)<;>refine aa 10 ?_<;>refine aa 11 ?_<;>refine aa 12 ?_<;>(refine aa 13 (hy:=by (apply bM true;rfl;rfl;exact ZA h2)) ?_)<;>refine aa 14 ?_<;>(refine aw ?_)
          repeat' (first|refine Qx ?_|fail)
          (refine aS [cel b5 57 it.cells,cel b3 25 [ks.v,ki.v]] (fun w=>(((((Ints w ks L∧Items w ki I)∧Ints w so O)∧it.at_ w)∧Glob w)∧Ints w t L)∧Items w s J) ak ?_)
          all_goals refine aa 1 ?_<;>refine aa 2 ?_<;>refine aa 3 ?_<;>refine aa 4 ?_<;>(refine aa 5 (hy:=by (apply aN (q:=k);rfl;rfl;omega;omega;assumption;omega)) ?_)<;>(refine aa 6 (hy:=by (apply dv (q:=k) (u:=.int .i64 o);rfl;exact fun w h=>hget w h.1.1.1.1.2)) ?_)<;>(refine aa 7 (hy:=by (apply aN (q:=o.toNat * 49);rfl;rfl;omega;omega;assumption;omega)) ?_)<;>(refine aa 8 (hy:=by (apply cX (cs:=x.cells);rfl;exact fun w h=>Items.get h.1.1.1.1.1.2 hx)) ?_)<;>(refine ag 0 ?_;(refine aF ?_);apply ab;refine ai ?_)<;>(refine ag 9 ?_;(refine cR (hc:=oD t s hp.kn x (hK.rng x hxm) (hK.dn x hxm)) (hX:=fun w h=>⟨⟨⟨h.1.2,h.2⟩,h.1.1.1.1.1.2.2 x hxm⟩,h.1.1.2⟩) fun v X4 h4=>?_;obtain ⟨s',rfl,hw4⟩:=h4);apply ab;refine ai ?_)<;>refine aa 10 ?_<;>refine aa 11 ?_<;>refine aa 12 ?_<;>(refine ag 13 ?_;(refine aK ?_);apply ab;refine ai ?_)<;>(refine aw ?_)
          all_goals
           repeat' (first|apply ab|apply Qu|refine aj ?_|refine ad ?_|refine be (h:=?_)|fail)
           exact ⟨(⟨k+1,hlt,s',addK L J x,g1⟩:OrdI L I O.length),(by show O.length-(k+1)<O.length-k;omega),ax ⟨rfl,rfl,rfl,rfl,rfl,rfl,trivial⟩ (aE _) fun w h=>⟨h.1.1,hw4 w ⟨h.1.2,h.2⟩⟩⟩
        · (refine aS [cel b8 25 [t.v,s.v],cel b5 57 it.cells,cel b3 25 [ks.v,ki.v]] (fun w=>(((((Ints w ks L∧Items w ki I)∧Ints w so O)∧it.at_ w)∧Glob w)∧Ints w t L)∧Items w s J) ak ?_)
          all_goals refine aa 0 ?_<;>refine aa 1 ?_<;>(refine aa 2 (hy:=by (apply aN (q:=k);rfl;rfl;omega;omega;assumption;omega)) ?_)<;>(refine aa 3 (hy:=by (apply dv (q:=k) (u:=.int .i64 o);rfl;exact fun w h=>hget w h.1.1.1.1.2)) ?_)<;>(refine aa 4 (hy:=by (apply eJ true;rfl;rfl;exact ZA h1)) ?_)<;>refine aa 5 ?_<;>refine aa 6 ?_<;>refine aa 7 ?_<;>(refine aa 8 (hy:=by (apply aN (q:=k);rfl;rfl;omega;omega;assumption;omega)) ?_)<;>(refine aa 9 (hy:=by (apply dv (q:=k) (u:=.int .i64 o);rfl;exact fun w h=>hget w h.1.1.1.1.2)) ?_)<;>refine aa 10 ?_<;>refine aa 11 ?_<;>refine aa 12 ?_<;>(refine aa 13 (hy:=by (apply bM false;rfl;rfl;exact Zn h2)) ?_)<;>refine aa 14 ?_<;>(refine aw ?_)
          all_goals
           repeat' (first|apply ab|apply Qu|refine aj ?_|refine ad ?_|refine be (h:=?_)|refine Qy ?_|apply Qw|fail)
           exact ⟨(⟨k+1,hlt,s,J,hp⟩:OrdI L I O.length),(by show O.length-(k+1)<O.length-k;omega),ax ⟨rfl,rfl,rfl,rfl,rfl,rfl,trivial⟩ (aE _) fun w h=>h⟩
      · (refine aS [cel b8 25 [t.v,s.v],cel b5 57 it.cells,cel b3 25 [ks.v,ki.v]] (fun w=>(((((Ints w ks L∧Items w ki I)∧Ints w so O)∧it.at_ w)∧Glob w)∧Ints w t L)∧Items w s J) ak ?_)
        all_goals refine aa 0 ?_<;>refine aa 1 ?_<;>(refine aa 2 (hy:=by (apply aN (q:=k);rfl;rfl;omega;omega;assumption;omega)) ?_)<;>(refine aa 3 (hy:=by (apply dv (q:=k) (u:=.int .i64 o);rfl;exact fun w h=>hget w h.1.1.1.1.2)) ?_)<;>(refine aa 4 (hy:=by (apply eJ false;rfl;rfl;exact Zn h1)) ?_)<;>refine aa 5 ?_<;>refine az 6 ?_<;>refine az 7 ?_<;>refine az 8 ?_<;>refine az 9 ?_<;>refine az 10 ?_<;>refine az 11 ?_<;>refine az 12 ?_<;>refine az 13 ?_<;>refine aa 14 ?_<;>(refine aw ?_)
        all_goals
         repeat' (first|apply ab|apply Qu|refine aj ?_|refine ad ?_|refine be (h:=?_)|refine Qy ?_|apply Qw|fail)
         exact ⟨(⟨k+1,hlt,s,J,hp⟩:OrdI L I O.length),(by show O.length-(k+1)<O.length-k;omega),ax ⟨rfl,rfl,rfl,rfl,rfl,rfl,trivial⟩ (aE _) fun w h=>h⟩
    · repeat' (first|refine am (bM false rfl rfl (Zn ae)) rfl aC rfl ?_|apply ab|apply Qt|apply Qu|refine aj ?_|refine ad ?_|refine aB ?_|refine aA ?_|refine aY ?_|refine de (h:=?_)|refine Qy ?_|apply Qv|apply aQ|fail)
      refine aU (ι:=OrdJ L I) (fun i=>⟨[(1,so.v),(3,.pointer (some ⟨b3,0,none⟩)),(5,.pointer (some ⟨b5,0,none⟩)),(7,.bool true),(8,.pointer (some ⟨b8,0,none⟩)),(10,.int .i64 ((i.k:Nat)-1))],[cel b8 25 [t.v,i.s.v],cel b5 57 it.cells,cel b3 25 [ks.v,ki.v]],fun w=>(((((Ints w ks L∧Items w ki I)∧Ints w so O)∧it.at_ w)∧Glob w)∧Ints w t L)∧Items w i.s i.J⟩) (fun i=>i.k) ⟨I.length,Qo _,s,J,hp,fun q x hq hx=>absurd (List.getElem?_eq_some_iff.1 hx).1 ae⟩ (ax ⟨rfl,rfl,rfl,rfl,rfl,(by show some (Value.int .i64 ((ki.n:Int)-1))=some (Value.int .i64 ((I.length:Int)-1));rw [hkn]),trivial⟩ (aE _) fun w h=>h) fun i=>?_
      clear hlt hp hk
      obtain ⟨k,hk,s,J,hp,hall⟩:=i
      simp only
      by_cases hk0:0<k
      · have hkp':=hkp ae
        obtain ⟨x,hx⟩:∃ x,I[k-1]?=some x:=⟨_,Zm ae⟩
        have hxm:=List.mem_of_getElem? hx
        obtain ⟨g1,g2,g3⟩:=hp.add hK hI40 hsg hxm
        repeat' (first|refine am (eJ true rfl rfl (ZA ae)) rfl aC rfl ?_|apply ab|apply Qt|apply Qu|refine aj ?_|refine Qx ?_|apply Qw|apply Qv|fail)
        (refine aS [cel b5 57 it.cells,cel b3 25 [ks.v,ki.v]] (fun w=>(((((Ints w ks L∧Items w ki I)∧Ints w so O)∧it.at_ w)∧Glob w)∧Ints w t L)∧Items w s J) ak ?_)
        all_goals refine aa 1 ?_<;>refine aa 2 ?_<;>refine aa 3 ?_<;>(refine aa 4 (hy:=by (apply aN (q:=(k-1)*49);rfl;rfl;omega;omega;assumption;omega)) ?_)<;>(refine aa 5 (hy:=by (apply cX (cs:=x.cells);rfl;exact fun w h=>Items.get h.1.1.1.1.1.2 hx)) ?_)<;>(refine ag 0 ?_;(refine aF ?_);apply ab;refine ai ?_)<;>(refine ag 6 ?_;(refine cR (hc:=oD t s hp.kn x (hK.rng x hxm) (hK.dn x hxm)) (hX:=fun w h=>⟨⟨⟨h.1.2,h.2⟩,h.1.1.1.1.1.2.2 x hxm⟩,h.1.1.2⟩) fun v X4 h4=>?_;obtain ⟨s',rfl,hw4⟩:=h4);apply ab;refine ai ?_)<;>refine aa 7 ?_<;>refine aa 8 ?_<;>refine aa 9 ?_<;>(refine ag 10 ?_;(refine aK ?_);apply ab;refine ai ?_)<;>(refine aw ?_)
        all_goals
         repeat' (first|apply ab|apply Qu|refine aj ?_|refine ad ?_|refine de (h:=?_)|fail)
         exact ⟨(⟨k-1,by omega,s',addK L J x,g1,fun q y hq hy=>by
          rcases Nat.lt_or_ge (k-1) q with h9|h9
          · exact g3 y (hall q y ae hy)
          · obtain rfl:q=k-1:=by omega
            rw [hx] at hy
            rw [←Option.some.inj hy]
            exact g2⟩:OrdJ L I),(by show k-1<k;omega),ax ⟨rfl,rfl,rfl,rfl,rfl,(by show some (Value.int .i64 ((k:Int)-1-1))=some (Value.int .i64 (((k-1:Nat):Int)-1));congr 2;omega),trivial⟩ (aE _) fun w h=>⟨h.1.1,hw4 w ⟨h.1.2,h.2⟩⟩⟩
      · obtain rfl:J=I:=hp.all hK fun x hx=>by
         obtain ⟨q,hq⟩:=List.mem_iff_getElem?.1 hx
         exact hall q x ae hq
        have hlen:=hK.len
        have hal1:=mc (QK L J) ks ki L J ae fun au=>fw ks ki hK au
        have hal2:=mc (QK L J) t s L J ae fun au=>fw t s hK au
        have hids:=j6 (authI J)
        repeat' (first|refine am (eJ false rfl rfl (Zn ae)) rfl aC rfl ?_|apply ab|apply Qt|apply Qu|refine aj ?_|refine ad ?_|refine aF ?_|refine Qy ?_|apply aQ|(refine cR (hc:=hal1) (hX:=fun w h=>⟨h.1.1.1.1.1,h.1.1.2⟩) fun v X5 h5=>?_;obtain ⟨s1,M,hM,rfl,hw5⟩:=h5)|fail)
        have hrM:∀ p∈M.filter neK,∀ x∈p.1.actsL,x.Rng:=fun p hp2=>by
         obtain ⟨id,_,q⟩:=hM.right p (List.mem_filter.1 hp2).1
         exact (tj hK q).ok.rng
        repeat' (first|apply ab|apply Qt|apply Qu|refine aj ?_|refine ad ?_|refine aF ?_|refine bD ?_|refine bV ?_|refine aM fun _=>?_|refine aK ?_|refine Qy ?_|apply Qw|apply Qv|(refine cR (hc:=hal2) (hX:=fun w h=>⟨⟨h.1.1.2,h.1.2⟩,h.1.1.1.2⟩) fun v X6 h6=>?_;obtain ⟨s2,N,hN,rfl,hw6⟩:=h6)|(refine ao (hc:=qU s1 s2 (M.filter neK) (N.filter neK) (allSame hM hN) hrM) (hX:=fun w h=>⟨⟨(hw5 w h.1.2).1,fun p hp2=>(hw5 w h.1.2).2 p (List.mem_filter.1 hp2).1⟩,(hw6 w h.2).1,fun p hp2=>(hw6 w h.2).2 p (List.mem_filter.1 hp2).1⟩) ?_)|(refine cR (hc:=oD ks ki hK it hit.rng hdi) (hX:=fun w h=>⟨⟨h.1.1.1.1.1.1.1,h.1.1.1.1.1.2⟩,h.1.1.1.1.2⟩) fun v X7 h7=>?_;obtain ⟨s3,rfl,hw7⟩:=h7)|fail)
        rename_i b12
        have hK':KnR L (addK L J it):=p5 hK hit.rng ⟨by omega,by omega,hit.act.target⟩ hdi ae
        refine CC (X':=fun w=>((((Ints w ks L∧Items w ki J)∧Items w s3 (addK L J it))∧it.at_ w)∧Glob w)∧ChsAt w s1 (M.filter neK)) (fun w h=>⟨⟨⟨⟨h.1.1.1.1.1.1.1.1,hw7 w ⟨h.1.1.1.1.1.1.1.1.2,h.2⟩⟩,h.1.1.1.1.1.1.2⟩,h.1.1.1.1.1.2⟩,(hw5 w h.1.1.2).1,fun p hp2=>(hw5 w h.1.1.2).2 p (List.mem_filter.1 hp2).1⟩) ?_
        obtain ⟨C,hC⟩:∃ C,M.filter neK=C:=⟨_,rfl⟩
        have hasc:=Bk hM hids
        rw [hC] at hasc hrM ⊢
        clear hal1 hal2 hN hw6 hw7 hw5 hall hp
        refine bJ (p:=(s1.n=C.length∧s1.n≤maxLen∧(0<C.length→s1.p.isSome=true))∧∀ p∈C,p.1.acts.n=p.1.actsL.length) (fun w h=>⟨⟨by have:=h.2.1.len_;simpa using this,h.2.1.max_,fun h0=>h.2.1.some_ (by simpa using h0)⟩,fun p hp2=>(h.2.1.2 p.1 (List.mem_map_of_mem hp2)).len_⟩) fun ⟨⟨hcn,hcm,hcp⟩,hca⟩=>?_
        simp only [maxLen] at hcm
        refine aU (ι:=Kth C.length) (fun i=>⟨[(3,.pointer (some ⟨b3,0,none⟩)),(5,.pointer (some ⟨b5,0,none⟩)),(7,.bool true),(11,s1.v),(12,.pointer (some ⟨b12,0,none⟩)),(14,.int .i64 i.k)],[cel b12 25 [ks.v,s3.v],cel b5 57 it.cells,cel b3 25 [ks.v,ki.v]],fun w=>((((Ints w ks L∧Items w ki J)∧Items w s3 (addK L J it))∧it.at_ w)∧Glob w)∧ChsAt w s1 C⟩) (fun i=>C.length-i.k) ⟨0,Nat.zero_le _⟩ (ax ⟨rfl,rfl,rfl,rfl,rfl,rfl,trivial⟩ (.cons_cons _ (.cons _ (aE _))) fun _ h=>h) fun i=>?_
        obtain ⟨k2,hk2⟩:=i
        simp only
        by_cases hlt:k2<C.length
        · have hcp':=hcp ae
          obtain ⟨x,hx⟩:∃ x,C[k2]?=some x:=⟨_,Zm hlt⟩
          have hxm:=List.mem_of_getElem? hx
          have hxc:(C.map Prod.fst)[k2]?=some x.1:=by rw [List.getElem?_map,hx];rfl
          obtain ⟨hxM,hxn⟩:=List.mem_filter.1 (show x∈M.filter neK by rw [hC];exact hxm)
          have hxq:QK L J x.1.id x.1 x.2:=by
           obtain ⟨id,_,q⟩:=hM.right x hxM
           rw [rk q]
           exact q
          have hxr:=hrM x hxm
          have hxa:=hca x hxm
          rw [neK,ZT] at hxn
          repeat' (first|refine am (bM true rfl rfl (ZA ae)) rfl aC rfl ?_|apply ab|apply Qt|apply Qu|refine aj ?_|refine ad ?_|refine aY ?_|refine Qx ?_|apply Qw|apply Qv|(refine bx (q:=k2*6) ?_)|(refine eX ?_)|(refine dP (q:=k2*6) (u:=.string x.1.id) (hF:=fun w h=>(Chains.get h.2.1 hxc).2.2 0 _ rfl) ?_)|fail)
          refine iU (ι:=Unit) (fun _=>⟨[(3,.pointer (some ⟨b3,0,none⟩)),(5,.pointer (some ⟨b5,0,none⟩)),(7,.bool true),(11,s1.v),(12,.pointer (some ⟨b12,0,none⟩)),(14,.int .i64 (k2:Nat)),(15,.string x.1.id),(154,.bool false)],[cel b12 25 [ks.v,s3.v],cel b5 57 it.cells,cel b3 25 [ks.v,ki.v]],fun w=>((((Ints w ks L∧Items w ki J)∧Items w s3 (addK L J it))∧it.at_ w)∧Glob w)∧ChsAt w s1 C⟩) ?_ fun _=>?_
          · by_cases hk3:0<k2
            · obtain ⟨z,hz⟩:∃ z,C[k2-1]?=some z:=⟨_,Zm ae⟩
              have hzc:(C.map Prod.fst)[k2-1]?=some z.1:=by rw [List.getElem?_map,hz];rfl
              have hzx:ltB z.1.id x.1.id=true:=ja hasc (show k2-1<k2 by omega) (by rw [List.getElem?_map,hz];rfl) (by rw [List.getElem?_map,hx];rfl)
              (refine aS [cel b12 25 [ks.v,s3.v],cel b5 57 it.cells,cel b3 25 [ks.v,ki.v]] (fun w=>((((Ints w ks L∧Items w ki J)∧Items w s3 (addK L J it))∧it.at_ w)∧Glob w)∧ChsAt w s1 C) ak ?_)
              all_goals refine aa 0 ?_<;>refine aa 1 ?_<;>(refine aa 2 (hy:=by (apply aN (q:=k2*6);rfl;rfl;omega;omega;assumption;omega)) ?_)<;>(refine aa 3 (hy:=by (apply eU;rfl;assumption;rfl)) ?_)<;>(refine aa 4 (hy:=by (apply dv (q:=k2*6+1) (u:=x.1.acts.v);rfl;exact (fun w h=>(Chains.get h.2.1 hxc).2.2 1 _ rfl))) ?_)<;>refine aa 5 ?_<;>(refine aa 6 (hy:=by (apply eD false;rfl;rfl;exact Zn ae)) ?_)<;>refine aa 7 ?_<;>refine aa 8 ?_<;>(refine aa 9 (hy:=by (apply SrG.y_gtrT_g;rfl;rfl;omega)) ?_)<;>refine aa 10 ?_<;>refine aa 11 ?_<;>refine aa 12 ?_<;>refine aa 13 ?_<;>(refine aa 14 (hy:=by (apply aN (q:=(k2-1)*6);rfl;rfl;omega;omega;assumption;omega)) ?_)<;>(refine aa 15 (hy:=by (apply eU;rfl;assumption;rfl)) ?_)<;>(refine aa 16 (hy:=by (apply dv (q:=(k2-1)*6) (u:=.string z.1.id);rfl;exact (fun w h=>(Chains.get h.2.1 hzc).2.2 0 _ rfl))) ?_)<;>refine aa 17 ?_<;>(refine aa 18 (hy:=by (apply rW;rfl;rfl;exact hzx)) ?_)<;>refine aa 19 ?_<;>refine aa 20 ?_<;>refine aa 21 ?_<;>refine aa 22 ?_<;>refine aa 23 ?_<;>(refine aa 24 (hy:=by (apply aN (q:=k2*6);rfl;rfl;omega;omega;assumption;omega)) ?_)<;>(refine aa 25 (hy:=by (apply cX (cs:=x.1.cells);rfl;exact (fun w h=>Chains.get h.2.1 hxc))) ?_)<;>refine aa 26 ?_<;>refine aa 27 ?_<;>(refine ag 28 ?_;(refine cR (hc:=fw ks ki hK x.1.id) (hX:=fun w h=>⟨h.1.1.1.1,h.1.2⟩) fun v X8 h8=>?_;obtain ⟨n,kl',hQn,rfl,hwn⟩:=h8;obtain ⟨gc,gk⟩:=jq rfl (List.Perm.refl _) hQn hxq);apply ab;refine ai ?_)<;>(refine ag 29 ?_;(refine ao (hc:=fL x.1 n x.2 gc hxr) (hX:=fun w h=>⟨⟨h.1.2.1.2 x.1 (List.mem_map_of_mem hxm),h.1.2.2 x hxm⟩,(hwn w h.2).1,gk▸(hwn w h.2).2⟩) ?_);apply ab;refine ai ?_)<;>(refine aa 30 (hy:=by (apply qB false;rfl;rfl)) ?_)<;>refine aa 31 ?_<;>(refine aw ?_)
              all_goals exact ⟨(),ax ⟨rfl,rfl,rfl,rfl,rfl,rfl,rfl,rfl,trivial⟩ (aE _) fun _ h=>h.1⟩
            · (refine aS [cel b12 25 [ks.v,s3.v],cel b5 57 it.cells,cel b3 25 [ks.v,ki.v]] (fun w=>((((Ints w ks L∧Items w ki J)∧Items w s3 (addK L J it))∧it.at_ w)∧Glob w)∧ChsAt w s1 C) ak ?_)
              all_goals refine aa 0 ?_<;>refine aa 1 ?_<;>(refine aa 2 (hy:=by (apply aN (q:=k2*6);rfl;rfl;omega;omega;assumption;omega)) ?_)<;>(refine aa 3 (hy:=by (apply eU;rfl;assumption;rfl)) ?_)<;>(refine aa 4 (hy:=by (apply dv (q:=k2*6+1) (u:=x.1.acts.v);rfl;exact (fun w h=>(Chains.get h.2.1 hxc).2.2 1 _ rfl))) ?_)<;>refine aa 5 ?_<;>(refine aa 6 (hy:=by (apply eD false;rfl;rfl;exact Zn ae)) ?_)<;>refine aa 7 ?_<;>refine aa 8 ?_<;>(refine aa 9 (hy:=by (apply SrG.y_gtrF_g;rfl;rfl;omega)) ?_)<;>refine aa 10 ?_<;>refine az 11 ?_<;>refine az 12 ?_<;>refine az 13 ?_<;>refine az 14 ?_<;>refine az 15 ?_<;>refine az 16 ?_<;>refine az 17 ?_<;>refine az 18 ?_<;>refine aa 19 ?_<;>refine aa 20 ?_<;>refine aa 21 ?_<;>refine aa 22 ?_<;>refine aa 23 ?_<;>(refine aa 24 (hy:=by (apply aN (q:=k2*6);rfl;rfl;omega;omega;assumption;omega)) ?_)<;>(refine aa 25 (hy:=by (apply cX (cs:=x.1.cells);rfl;exact (fun w h=>Chains.get h.2.1 hxc))) ?_)<;>refine aa 26 ?_<;>refine aa 27 ?_<;>(refine ag 28 ?_;(refine cR (hc:=fw ks ki hK x.1.id) (hX:=fun w h=>⟨h.1.1.1.1,h.1.2⟩) fun v X8 h8=>?_;obtain ⟨n,kl',hQn,rfl,hwn⟩:=h8;obtain ⟨gc,gk⟩:=jq rfl (List.Perm.refl _) hQn hxq);apply ab;refine ai ?_)<;>(refine ag 29 ?_;(refine ao (hc:=fL x.1 n x.2 gc hxr) (hX:=fun w h=>⟨⟨h.1.2.1.2 x.1 (List.mem_map_of_mem hxm),h.1.2.2 x hxm⟩,(hwn w h.2).1,gk▸(hwn w h.2).2⟩) ?_);apply ab;refine ai ?_)<;>(refine aa 30 (hy:=by (apply qB false;rfl;rfl)) ?_)<;>refine aa 31 ?_<;>(refine aw ?_)
              all_goals exact ⟨(),ax ⟨rfl,rfl,rfl,rfl,rfl,rfl,rfl,rfl,trivial⟩ (aE _) fun _ h=>h.1⟩
          repeat' (first|apply Qt|refine Qy ?_|apply Qw|fail)
          refine iU (ι:=Unit) (fun _=>⟨[(3,.pointer (some ⟨b3,0,none⟩)),(5,.pointer (some ⟨b5,0,none⟩)),(7,.bool true),(11,s1.v),(12,.pointer (some ⟨b12,0,none⟩)),(14,.int .i64 (k2:Nat)),(184,.bool false)],[cel b12 25 [ks.v,s3.v],cel b5 57 it.cells,cel b3 25 [ks.v,ki.v]],fun w=>((((Ints w ks L∧Items w ki J)∧Items w s3 (addK L J it))∧it.at_ w)∧Glob w)∧ChsAt w s1 C⟩) ?_ fun _=>?_
          · cases hA:seqB it.act.author x.1.id with
            | true =>
             (refine aS [cel b12 25 [ks.v,s3.v],cel b5 57 it.cells,cel b3 25 [ks.v,ki.v]] (fun w=>((((Ints w ks L∧Items w ki J)∧Items w s3 (addK L J it))∧it.at_ w)∧Glob w)∧ChsAt w s1 C) ak ?_)
             all_goals refine aa 0 ?_<;>refine aa 1 ?_<;>refine aa 2 ?_<;>refine aa 3 ?_<;>(refine aa 4 (hy:=by (apply d8 false;rfl;rfl;(rw [hA];rfl))) ?_)<;>refine aa 5 ?_<;>refine az 6 ?_<;>refine az 7 ?_<;>refine az 8 ?_<;>refine az 9 ?_<;>refine az 10 ?_<;>refine aa 11 ?_<;>refine aa 12 ?_<;>refine az 13 ?_<;>refine az 14 ?_<;>refine az 15 ?_<;>refine az 16 ?_<;>refine az 17 ?_<;>refine aa 18 ?_<;>refine aa 19 ?_<;>refine az 20 ?_<;>refine az 21 ?_<;>refine az 22 ?_<;>refine az 23 ?_<;>refine az 24 ?_<;>refine az 25 ?_<;>(refine ag 26 ?_;(refine aJ ?_);apply ab;refine ai ?_)<;>(refine ag 27 ?_;(refine aJ ?_);apply ab;refine ai ?_)<;>refine az 28 ?_<;>refine aa 29 ?_<;>(refine aw ?_)
             all_goals exact ⟨(),ax ⟨rfl,rfl,rfl,rfl,rfl,rfl,rfl,trivial⟩ (aE _) fun _ h=>h⟩
            | false =>
             cases hB:seqB it.claim.actor x.1.id with
             | true =>
              (refine aS [cel b12 25 [ks.v,s3.v],cel b5 57 it.cells,cel b3 25 [ks.v,ki.v]] (fun w=>((((Ints w ks L∧Items w ki J)∧Items w s3 (addK L J it))∧it.at_ w)∧Glob w)∧ChsAt w s1 C) ak ?_)
              all_goals refine aa 0 ?_<;>refine aa 1 ?_<;>refine aa 2 ?_<;>refine aa 3 ?_<;>(refine aa 4 (hy:=by (apply d8 true;rfl;rfl;(rw [hA];rfl))) ?_)<;>refine aa 5 ?_<;>refine aa 6 ?_<;>refine aa 7 ?_<;>refine aa 8 ?_<;>refine aa 9 ?_<;>(refine aa 10 (hy:=by (apply d8 false;rfl;rfl;(rw [hB];rfl))) ?_)<;>refine aa 11 ?_<;>refine aa 12 ?_<;>refine az 13 ?_<;>refine az 14 ?_<;>refine az 15 ?_<;>refine az 16 ?_<;>refine az 17 ?_<;>refine aa 18 ?_<;>refine aa 19 ?_<;>refine az 20 ?_<;>refine az 21 ?_<;>refine az 22 ?_<;>refine az 23 ?_<;>refine az 24 ?_<;>refine az 25 ?_<;>(refine ag 26 ?_;(refine aJ ?_);apply ab;refine ai ?_)<;>(refine ag 27 ?_;(refine aJ ?_);apply ab;refine ai ?_)<;>refine az 28 ?_<;>refine aa 29 ?_<;>(refine aw ?_)
              all_goals exact ⟨(),ax ⟨rfl,rfl,rfl,rfl,rfl,rfl,rfl,trivial⟩ (aE _) fun _ h=>h⟩
             | false =>
              cases hD:seqB it.ballot.actor x.1.id with
              | true =>
               (refine aS [cel b12 25 [ks.v,s3.v],cel b5 57 it.cells,cel b3 25 [ks.v,ki.v]] (fun w=>((((Ints w ks L∧Items w ki J)∧Items w s3 (addK L J it))∧it.at_ w)∧Glob w)∧ChsAt w s1 C) ak ?_)
               all_goals refine aa 0 ?_<;>refine aa 1 ?_<;>refine aa 2 ?_<;>refine aa 3 ?_<;>(refine aa 4 (hy:=by (apply d8 true;rfl;rfl;(rw [hA];rfl))) ?_)<;>refine aa 5 ?_<;>refine aa 6 ?_<;>refine aa 7 ?_<;>refine aa 8 ?_<;>refine aa 9 ?_<;>(refine aa 10 (hy:=by (apply d8 true;rfl;rfl;(rw [hB];rfl))) ?_)<;>refine aa 11 ?_<;>refine aa 12 ?_<;>refine aa 13 ?_<;>refine aa 14 ?_<;>refine aa 15 ?_<;>refine aa 16 ?_<;>(refine aa 17 (hy:=by (apply d8 false;rfl;rfl;(rw [hD];rfl))) ?_)<;>refine aa 18 ?_<;>refine aa 19 ?_<;>refine az 20 ?_<;>refine az 21 ?_<;>refine az 22 ?_<;>refine az 23 ?_<;>refine az 24 ?_<;>refine az 25 ?_<;>(refine ag 26 ?_;(refine aJ ?_);apply ab;refine ai ?_)<;>(refine ag 27 ?_;(refine aJ ?_);apply ab;refine ai ?_)<;>refine az 28 ?_<;>refine aa 29 ?_<;>(refine aw ?_)
               all_goals exact ⟨(),ax ⟨rfl,rfl,rfl,rfl,rfl,rfl,rfl,trivial⟩ (aE _) fun _ h=>h⟩
              | false =>
               (refine aS [cel b12 25 [ks.v,s3.v],cel b5 57 it.cells,cel b3 25 [ks.v,ki.v]] (fun w=>((((Ints w ks L∧Items w ki J)∧Items w s3 (addK L J it))∧it.at_ w)∧Glob w)∧ChsAt w s1 C) ak ?_)
               all_goals refine aa 0 ?_<;>refine aa 1 ?_<;>refine aa 2 ?_<;>refine aa 3 ?_<;>(refine aa 4 (hy:=by (apply d8 true;rfl;rfl;(rw [hA];rfl))) ?_)<;>refine aa 5 ?_<;>refine aa 6 ?_<;>refine aa 7 ?_<;>refine aa 8 ?_<;>refine aa 9 ?_<;>(refine aa 10 (hy:=by (apply d8 true;rfl;rfl;(rw [hB];rfl))) ?_)<;>refine aa 11 ?_<;>refine aa 12 ?_<;>refine aa 13 ?_<;>refine aa 14 ?_<;>refine aa 15 ?_<;>refine aa 16 ?_<;>(refine aa 17 (hy:=by (apply d8 true;rfl;rfl;(rw [hD];rfl))) ?_)<;>refine aa 18 ?_<;>refine aa 19 ?_<;>refine aa 20 ?_<;>refine aa 21 ?_<;>(refine aa 22 (hy:=by (apply aN (q:=k2*6);rfl;rfl;omega;omega;assumption;omega)) ?_)<;>(refine aa 23 (hy:=by (apply cX (cs:=x.1.cells);rfl;exact (fun w h=>Chains.get h.2.1 hxc))) ?_)<;>refine aa 24 ?_<;>refine aa 25 ?_<;>(refine ag 26 ?_;(refine cR (hc:=fw ks s3 hK' x.1.id) (hX:=fun w h=>⟨⟨h.1.1.1.1.1,h.1.1.1.2⟩,h.1.2⟩) fun v X8 h8=>?_;obtain ⟨n,kl',hQn,rfl,hwn⟩:=h8;obtain ⟨gc,gk⟩:=B9 hA hB hD hxq hQn;have gc:=gc.symm);apply ab;refine ai ?_)<;>(refine ag 27 ?_;(refine ao (hc:=fL x.1 n x.2 gc hxr) (hX:=fun w h=>⟨⟨h.1.2.1.2 x.1 (List.mem_map_of_mem hxm),h.1.2.2 x hxm⟩,(hwn w h.2).1,gk▸(hwn w h.2).2⟩) ?_);apply ab;refine ai ?_)<;>(refine aa 28 (hy:=by (apply qB false;rfl;rfl)) ?_)<;>refine aa 29 ?_<;>(refine aw ?_)
               all_goals exact ⟨(),ax ⟨rfl,rfl,rfl,rfl,rfl,rfl,rfl,trivial⟩ (aE _) fun _ h=>h.1⟩
          repeat' (first|apply ab|apply Qu|refine aj ?_|refine ad ?_|refine be (h:=?_)|refine Qy ?_|apply Qw|fail)
          exact ⟨(⟨k2+1,hlt⟩:Kth C.length),(by show C.length-(k2+1)<C.length-k2;omega),ax ⟨rfl,rfl,rfl,rfl,rfl,rfl,trivial⟩ (aE _) fun _ h=>h⟩
        · repeat' (first|refine am (bM false rfl rfl (Zn ae)) rfl aC rfl ?_|apply ab|apply Qt|apply Qu|refine aj ?_|refine ad ?_|refine aY ?_|refine Qy ?_|apply Qv|apply aQ|fail)
          refine aU (ι:=Kth J.length) (fun i=>⟨[(3,.pointer (some ⟨b3,0,none⟩)),(7,.bool true),(11,s1.v),(16,.int .i64 i.k)],[cel b3 25 [ks.v,ki.v]],fun w=>((Ints w ks L∧Items w ki J)∧Glob w)∧ChsAt w s1 C⟩) (fun i=>J.length-i.k) ⟨0,Nat.zero_le _⟩ (ax ⟨rfl,rfl,rfl,rfl,trivial⟩ (.cons _ (.cons _ (aE _))) fun w h=>⟨⟨h.1.1.1.1,h.1.2⟩,h.2⟩) fun i=>?_
          obtain ⟨k4,hk4⟩:=i
          simp only
          by_cases hlt4:k4<J.length
          · have hkp':=hkp ae
            obtain ⟨x,hx⟩:∃ x,J[k4]?=some x:=⟨_,Zm hlt4⟩
            have hxm:=List.mem_of_getElem? hx
            have hfi:=tk s1 (C.map Prod.fst) x.act.author
            by_cases hx0:x.kind=0
            · have hin:x.act.author∈compB (sortB (authI J)):=mem_compB_sortB.2 (List.mem_map.2 ⟨x,List.mem_filter.2 ⟨hxm,ZA hx0⟩,rfl⟩)
              have hbn:∀ n kl',QK L J x.act.author n kl'→n.acts.n=n.actsL.length→((findC (C.map Prod.fst) x.act.author).isSome != decide (0<(n.acts.n:Int)))=false:=fun n kl' q e=>by
               rw [←hC,yx hM hin q,e]
               have:decide (0<n.actsL.length)=decide (0<(n.actsL.length:Int)):=by
                by_cases h9:0<n.actsL.length
                · rw [ZA h9,ZA (by omega)]
                · rw [Zn h9,Zn (by omega)]
               rw [this]
               simp
              repeat' (first|refine am (bM true rfl rfl (ZA ae)) rfl aC rfl ?_|refine am (BI false rfl rfl (hbn _ _ (by assumption) (by assumption))) rfl aC rfl ?_|apply ab|apply Qt|apply Qu|refine aj ?_|refine ad ?_|refine aB ?_|refine aA ?_|refine aF ?_|refine aG ?_|refine cG ?_|refine aY ?_|refine bV ?_|refine be (h:=?_)|refine aJ ?_|refine aM fun _=>?_|refine aK ?_|refine Qx ?_|refine Qy ?_|apply Qw|apply Qv|(refine bx (q:=k4*49) ?_)|(refine eX ?_)|(refine dP (q:=k4*49+1) (u:=.string x.act.author) (hF:=fun w h=>(Items.get h.1.1.2 hx).2.2 1 _ rfl) ?_)|(refine ao (hc:=hfi) (hX:=fun w h=>h.2.1) ?_)|(refine cR (hc:=fw ks ki hK x.act.author) (hX:=fun w h=>h.1) fun v X9 h9=>?_;obtain ⟨n,kl',hQn,rfl,hwn⟩:=h9;refine iy (p:=n.acts.n=n.actsL.length) (fun w h=>(hwn w h.2).1.len_) fun hnn=>?_)|(refine am (mC n rfl) rfl rfl rfl ?_)|fail)
              all_goals first
               | exact ⟨(⟨k4+1,hlt4⟩:Kth J.length),(by show J.length-(k4+1)<J.length-k4;omega),ax ⟨rfl,rfl,rfl,rfl,trivial⟩ (.cons _ (aE _)) fun _ h=>h.1⟩
            · repeat' (first|refine am (bM true rfl rfl (ZA ae)) rfl aC rfl ?_|refine bt (hab:=hx0) ?_|refine dP (q:=k4*49+1) (u:=.string x.act.author) (hF:=fun w h=>(Items.get h.1.1.2 hx).2.2 1 _ rfl) ?_|refine dP (q:=k4*49) (u:=.int .i64 x.kind) (hF:=fun w h=>(Items.get h.1.1.1.2 hx).2.2 0 _ rfl) ?_|apply ab|apply Qt|apply Qu|refine aj ?_|refine ad ?_|refine aB ?_|refine aA ?_|refine aF ?_|refine aD ?_|refine aG ?_|refine cG ?_|refine aY ?_|refine bV ?_|refine be (h:=?_)|refine aJ ?_|refine aM fun _=>?_|refine aK ?_|refine Qx ?_|refine Qy ?_|apply Qw|apply Qv|refine iv ?_|(refine bx (q:=k4*49) ?_)|(refine eX ?_)|(refine ao (hc:=hfi) (hX:=fun w h=>h.2.1) ?_)|(refine cR (hc:=fw ks ki hK x.act.author) (hX:=fun w h=>h.1) fun v X9 h9=>?_;obtain ⟨n,kl',hQn,rfl,hwn⟩:=h9;refine iy (p:=n.acts.n=n.actsL.length) (fun w h=>(hwn w h.2).1.len_) fun hnn=>?_)|(refine am (mC n rfl) rfl rfl rfl ?_)|((fail_if_success (refine aZ ?_));refine aR (ht:=?_) (hf:=?_);all_goals (intro hx_;skip))|fail)
              all_goals first
               | exact ⟨(⟨k4+1,hlt4⟩:Kth J.length),(by show J.length-(k4+1)<J.length-k4;omega),ax ⟨rfl,rfl,rfl,rfl,trivial⟩ (.cons _ (aE _)) fun _ h=>h.1⟩
          · repeat' (first|refine am (bM false rfl rfl (Zn ae)) rfl aC rfl ?_|apply ab|apply Qt|apply Qu|refine aj ?_|refine ad ?_|refine aB ?_|refine aA ?_|refine aY ?_|refine Qy ?_|apply ar|apply aQ|fail)
            exact al (ap rfl rfl) rfl
end Go.Proofs.YtcdilibijnboeaaGreatDoor
namespace Go.Proofs.YtcdilibijnboeaaGreatDoor
open Go Go.Proofs Sy Go.RowKit Go.Deep Go.ChangeShapes Go.WideShapes
theorem laidOut:laidOutB Tryz.prog=true:=by kernel_rfl
theorem gW {H:Type} {enc:TypeId×Value→H} {P:Program} (hl:laidOutB P=true) {W W':World} {sp:Nat→Bool}:∀ (ts:List TypeId) (vs:List Value) (ds:List (DataW H)) (ps:List MemPlace),(∀ t∈ts,P.readableRec t=true∧t<P.types.size) →
  DataW.TrodAll enc P W 0 (fun _=>true) true ts vs ds ps→(∀ p∈ps,W.sameAt W' p)→(∀ p∈ps,sp p.block=true)→DataW.TrodAll enc P W' 0 sp true ts vs ds ps
 | [],vs,ds,ps,_,h,_,_=>by
  obtain ⟨rfl,rfl,rfl⟩:=trodAll_nil h
  exact trodAll_mk0
 | t::ts,vs,ds,ps,ht,h,hs,hp=>by
  obtain ⟨v,vs',d,ds',p,q,rfl,rfl,rfl,h1,h2⟩:=trodAll_cons h
  exact trodAll_cons_mk (WideElems.Trod_stays hl (ht t aI).1 (ht t aI).2 h1 (fun x hx=>hs x (List.mem_append_left _ hx)) (fun x hx=>hp x (List.mem_append_left _ hx)))
   (gW hl ts vs' ds' q (fun u hu=>ht u (ZS _ hu)) h2 (fun x hx=>hs x (List.mem_append_right _ hx)) (fun x hx=>hp x (List.mem_append_right _ hx)))
theorem vp {X:World→Prop} {w:World} (hX:X w) (hk:∀ w':World,(∀ k,k<w.heap.size→w'.heap[k]?=w.heap[k]?)→X w'):Gam [] (fps []) w [] X w :=
 ⟨Fr.refl _ _,fun k hk=>by simp at hk,by simp [fps],fun k hk=>by simp [fps] at hk,fun r hr=>by simp at hr,⟨fun k=>k<w.heap.size,fun k hk=>⟨hk,by simp [fps]⟩,hk⟩⟩
theorem qq {P:Program} {f:FuncId} {args:Array Value} {X:World→Prop} {v:Value} {w:World} (h:Pu P f args X v) (hX:X w) (hk:∀ w':World,(∀ k,k<w.heap.size→w'.heap[k]?=w.heap[k]?)→X w') :
  Calls P f args w fun e w'=>e=.returned v∧Below w.heap.size w w':=by
 unfold Pu at h
 exact (Ct.run h w [] (vp hX hk)).mono fun e w' ⟨u,R,X',he,⟨hu,hR⟩,G⟩=>⟨by rw [he,hu],G.fr.below⟩
theorem laidK:Rows.laid_agora_sum_constants (H:=Unit)=Lib.tabData .u32 kC:=by kernel_rfl
theorem laidI:Rows.laid_agora_sum_initial (H:=Unit)=Lib.tabData .u32 iniC:=by kernel_rfl
theorem lX {W:World} {name:String} {zs:List Int} {g:Nat} (h:Lib.TabIs Tryz.prog W name .u32 zs) (hg:Tryz.prog.globalNamed name=some g):CellsAt g (u32s zs) W:=fun j v hj=>by
 have hj':j<zs.length:=by have:=(List.getElem?_eq_some_iff.1 hj).1;simpa [u32s] using this
 rw [h.cell hg j hj']
 simp only [u32s,List.getElem?_map,Zm hj',Option.map_some,Qb] at hj
 rw [ZL,Zm hj',←hj]
 rfl
theorem AG {W:World} (h:laidMet Tryz.prog [("agora/sum.constants",Rows.laid_agora_sum_constants),("agora/sum.initial",Rows.laid_agora_sum_initial)] W):Glob W:=by
 rw [laidK,laidI] at h
 have h1:=Lib.tabIs_of_head (g:=1) (t:=168) (e:=128) (n:=64) ak ak Tryz.underlying168 Tryz.underlying128 ak ak h
 obtain ⟨ps,⟨g',t',cs,fuel,p,q,hg',ht',hvar,hd,hrest,hpq⟩,_⟩:=h
 obtain ⟨g2,t2,cs2,fuel2,p2,q2,hg2,ht2,hvar2,hd2,_,_⟩:=hrest
 have h2:Lib.TabIs Tryz.prog W "agora/sum.initial" .u32 iniC:=by
  have e1:Tryz.prog.globalNamed "agora/sum.initial"=some 0:=by kernel_rfl
  have e2:(Tryz.prog.globals[0]?).map (·.type)=some 129:=by kernel_rfl
  obtain rfl:=Option.some.inj (e1.symm.trans hg2)
  obtain rfl:=Option.some.inj (e2.symm.trans ht2)
  unfold Lib.TabIs
  rw [hvar2,←Lib.cells_of_tab Tryz.underlying129 Tryz.underlying128 ak ak hd2]
 exact ⟨lX h2 ak,lX h1 ak⟩
def layRow (l:List Value):Obj→Obj
 | .cells _ t frozen=>.cells l.toArray t frozen
 | o=>o
noncomputable def laidWorld (os:Os):World :=
 { World.holding Tryz.prog os ⟨#[],#[],[]⟩ with heap:=((World.holding Tryz.prog os ⟨#[],#[],[]⟩).heap.modify 0 (layRow (u32s iniC))).modify 1 (layRow (u32s kC)) }
end Go.Proofs.YtcdilibijnboeaaGreatDoor
