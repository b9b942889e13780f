/- Joined by program out of: Ci Ks Rl Ro Me We Fs Rp Rb Hp Nu Ue Uf Ug. -/
import Derived.Test.YtfnjklhjngphmaaGreatDoorQ5
set_option linter.unusedVariables false
set_option linter.unusedSimpArgs false
namespace Go.Proofs.YtfnjklhjngphmaaGreatDoor
open Go Go.Proofs Sy
theorem nj (c:ChainD) (n:Int):Pu Tryz.prog 266 #[c.v,.int .i64 n] (fun _=>True) (.int .i64 (limN n c.acts.n)):=by
 refine aN (args:=[_,_]) _ Tryz.func266 rfl Tryz.ntmps266 rfl fun av bor w0=>?_
 repeat' (first|apply ab|apply aj|apply ai|refine ae ?_|refine ac ?_|refine aM ?_|refine aL ?_|refine bg ?_|refine aT fun _=>?_|apply aA|refine wZ ?_|refine xa ?_|fail)
 apply aq;apply aB;rfl;rfl
 congr 1
 unfold limN
 split<;>split<;>omega
def gOk (a:ActD) (sc:Int) (g:ByteArray) (nx:Nat):Bool:=decide (a.kind=16)&&decide (a.scope=sc)&&seqB a.group g&&decide (a.epoch=(nx:Int))
def grantF (l:List ActD) (sc:Int) (g:ByteArray):Nat→Nat×Nat
 | 0=>(0,0)
 | i+1=>bif gOk (l.getD i ActD.zero) sc g (grantF l sc g i).2 then (i,(grantF l sc g i).2+1) else grantF l sc g i
theorem fD (l:List ActD) (sc:Int) (g:ByteArray):∀ k,(grantF l sc g k).2≤k∧(0<(grantF l sc g k).2→(grantF l sc g k).1<k)
 | 0=>⟨Nat.le_refl _,fun h=>absurd h (Nat.lt_irrefl _)⟩
 | k+1=>by
  have ih:=fD l sc g k
  simp only [grantF]
  cases gOk (l.getD k ActD.zero) sc g (grantF l sc g k).2 with
  | true=>exact ⟨by simp only [cond_true];omega,fun _=>by simp only [cond_true];omega⟩
  | false=>exact ⟨by simp only [cond_false];omega,fun h=>by simp only [cond_false] at h ⊢;have:=ih.2 h;omega⟩
def grantV (l:List ActD) (n sc:Int) (g:ByteArray):Nat×Nat:=grantF l sc g (limN n l.length)
theorem vu (c:ChainD) (n sc:Int) (g:ByteArray):Pu Tryz.prog 205 #[c.v,.int .i64 n,.int .i64 sc,.string g] (XC c) (.tuple #[.int .i64 ((grantV c.actsL n sc g).1:Nat),.bool (decide ((0:Int)<((grantV c.actsL n sc g).2:Nat)))]):=by
 refine aN (args:=[_,_,_,_]) _ Tryz.func205 rfl Tryz.ntmps205 rfl fun av bor w0=>?_
 refine bt XC.know fun ⟨hl,hm,hp,hcap⟩=>?_
 simp only [maxLen] at hm
 have hlim:=ew n c.acts.n
 repeat' (first|apply ab|apply aj|apply ai|refine ae ?_|refine ac ?_|refine aG ?_|refine aT fun _=>?_|apply aw|refine aC (hc:=nj c n) ?_)
 rename_i b4
 refine be (ι:=Kth (limN n c.acts.n)) (fun i=>⟨[(2,.int .i64 sc),(3,.string g),(4,.pointer (some ⟨b4,0,none⟩)),(10,.int .i64 ((grantF c.actsL sc g i.k).1:Nat)),(11,.int .i64 ((grantF c.actsL sc g i.k).2:Nat)),(16,.int .i64 (limN n c.acts.n)),(17,.int .i64 i.k)],[cel b4 31 c.cells],XC c⟩) (fun i=>limN n c.acts.n-i.k) ⟨0,Nat.zero_le _⟩
  (aF ⟨rfl,rfl,rfl,rfl,rfl,rfl,rfl,trivial⟩ (aQ _) fun _ h=>h) fun i=>?_
 have hik:=i.hk
 have hg:=(fD c.actsL sc g i.k).1
 repeat' (first|apply ab|apply aj|apply ai|refine ae ?_|refine ac ?_|refine aM ?_|refine aL ?_|refine bu ?_|refine cP ?_|apply ay|apply aw|apply aA|apply aV|(refine aO (ht:=?_) (hf:=?_);all_goals (intro hx_;first|have:=aY hx_|have:=aZ hx_)))
 · have hlt:i.k<limN n c.acts.n:=by omega
   have hltL:i.k<c.actsL.length:=by omega
   have hp':=hp ag
   obtain ⟨x,hx⟩:∃ x,c.actsL[i.k]?=some x:=⟨_,List.getElem?_eq_getElem hltL⟩
   have hstep:grantF c.actsL sc g (i.k+1)=bif gOk x sc g (grantF c.actsL sc g i.k).2 then (i.k,(grantF c.actsL sc g i.k).2+1) else grantF c.actsL sc g i.k:=by simp only [grantF,List.getD_eq_getElem?_getD,hx,Option.getD_some]
   repeat' (first|apply ab|apply aj|apply ai|refine ae ?_|refine ac ?_|refine aM ?_|refine aL ?_|refine aJ ?_|refine aH ?_|refine bR ?_|refine co ?_|refine bm (h:=?_)|refine aW ?_|refine aP fun _=>?_|refine aK ?_|refine aD ?_|apply ay|(refine bf (q:=i.k*20) ?_)|(refine bD (cs:=x.cells) (hF:=fun w h=>Acts.get h.1 hx) ?_)|((fail_if_success (refine bA ?_));refine bj (ht:=?_) (hf:=?_);all_goals (intro hx_;first|have:=aY hx_|have:=aZ hx_|skip))|(refine aO (ht:=?_) (hf:=?_);all_goals (intro hx_;first|have:=aY hx_|have:=aZ hx_)))
   all_goals exact ⟨(⟨i.k+1,hlt⟩:Kth (limN n c.acts.n)),(by show limN n c.acts.n-(i.k+1)<limN n c.acts.n-i.k;omega),aF (by
    simp only [hstep,gOk, *,decide_true,decide_false,cond_true,cond_false,Bool.and_true,Bool.true_and,Bool.and_false,Bool.false_and,Bool.not_true,Bool.not_false,Bool.or_true,Bool.true_or,Bool.or_false,Bool.false_or]
    exact ⟨rfl,rfl,rfl,rfl,rfl,rfl,rfl,trivial⟩) (List.Sublist.cons _ (aQ _)) fun _ h=>h⟩
 have hk:i.k=limN n c.acts.n:=by omega
 apply aq;apply cO;rfl;rfl;rfl
 simp only [grantV,←hl]
 rw [hk]
def epochO (l:List ActD) (n sc:Int) (g:ByteArray):Option ActD:=bif decide ((0:Int)<((grantV l n sc g).2:Nat)) then l[(grantV l n sc g).1]? else none
def EpochAt (o:Option ActD) (u:Value) (X:World→Prop):Prop:=∃ s:SlV,u=.tuple #[.int .i64 ((o.map (·.epoch)).getD 0),s.v,.bool o.isSome]∧∀ w,X w→Strs w s ((o.map (·.toL)).getD [])
theorem yL (c:ChainD) (hc:ActsOk c.actsL) (n sc:Int) (g:ByteArray):Mk Tryz.prog 206 #[c.v,.int .i64 n,.int .i64 sc,.string g] (XC c) (EpochAt (epochO c.actsL n sc g)):=by
 refine bL (args:=[_,_,_,_]) _ Tryz.func206 rfl Tryz.ntmps206 rfl fun av bor w0=>?_
 refine bt XC.know fun ⟨hl,hm,hp,hcap⟩=>?_
 simp only [maxLen] at hm
 have hgl:=fD c.actsL sc g (limN n c.actsL.length)
 have hlim:=ew n c.actsL.length
 have hO:epochO c.actsL n sc g=bif decide ((0:Int)<((grantV c.actsL n sc g).2:Nat)) then c.actsL[(grantV c.actsL n sc g).1]? else none:=rfl
 have hgp:=vu c n sc g
 change (grantV c.actsL n sc g).2≤_∧(0<(grantV c.actsL n sc g).2→(grantV c.actsL n sc g).1<_) at hgl
 generalize grantV c.actsL n sc g=gv at *
 obtain ⟨k,nx⟩:=gv
 simp only at hgl hgp hO
 repeat' (first|apply ab|apply aj|apply ai|refine ae ?_|refine ac ?_|refine aG ?_|refine bE ?_|refine bC ?_|refine aT fun _=>?_|apply ay|apply aA|refine aC (hc:=hgp) ?_|(refine aO (ht:=?_) (hf:=?_);all_goals (intro hx_;skip)))
 · have hz:decide ((0:Int)<(nx:Nat))=false:=by simpa using hx_
   apply aq
   · apply iv;rfl;rfl;rfl;rfl
   · rw [hO,hz]
     exact ⟨⟨none,0,0⟩,rfl,fun w _=>bz w 1⟩
 · have hz:decide ((0:Int)<(nx:Nat))=true:=by simpa using hx_
   have hnx:=aY hz
   have hkl:k<c.actsL.length:=by have:=hgl.2 ag;omega
   have hp':=hp ag
   obtain ⟨x,hx⟩:∃ x,c.actsL[k]?=some x:=⟨_,List.getElem?_eq_getElem hkl⟩
   have hxm:x∈c.actsL:=List.mem_of_getElem? hx
   (apply ci;kernel_rfl)
   all_goals refine aa 0 ?_
   all_goals refine aa 1 ?_
   all_goals refine aa 2 ?_
   all_goals (refine aa 3 (hy:=by (apply bp (q:=k*20);rfl;rfl;omega;omega;assumption;omega)) ?_)
   all_goals (refine aa 4 (hy:=by (apply cw;rfl;assumption;rfl)) ?_)
   all_goals (refine aa 5 (hy:=by (apply cC;rfl;exact fun w h=>(Acts.get h.1 hx).2.2 14 _ rfl)) ?_)
   all_goals refine aa 6 ?_
   all_goals refine aa 7 ?_
   all_goals refine aa 8 ?_
   all_goals (refine aa 9 (hy:=by (apply bp (q:=k*20);rfl;rfl;omega;omega;assumption;omega)) ?_)
   all_goals (refine aa 10 (hy:=by (apply cw;rfl;assumption;rfl)) ?_)
   all_goals (refine aa 11 (hy:=by (apply cC;rfl;exact fun w h=>(Acts.get h.1 hx).2.2 9 _ rfl)) ?_)
   all_goals (refine ao 12 ?_;(refine bN (hc:=eR x.to (strs x.toL) (hc.sm x hxm).to (jb _)) (hX:=fun w h=>(h.1.2 x hxm).1) fun v1 X1 h1=>?_;obtain ⟨s1,rfl,hn1,hw1⟩:=h1);apply ab;refine ak ?_)
   all_goals refine aa 13 ?_
   all_goals refine aa 14 ?_
   all_goals refine aa 15 ?_
   all_goals (refine aI ?_)
   repeat' (first|apply aA|fail)
   apply aq
   · apply iv;rfl;rfl;rfl;rfl
   · rw [hO,hz,cond_true,hx]
     exact ⟨s1,rfl,fun w h=>hw1 w h.1.2⟩
theorem iP {e n:Nat} {v:Value} {ss:List ByteArray}:Ct Tryz.prog 56 #[v] [orow e 1 v n (ss.map encB)] (fun _=>True) fun u R _=>∃ A c,u=.slice A (compB ss).length c∧R=[orow e 1 u (compB ss).length ((compB ss).map encB)]:=by
 have h:=compS_c.ct (e:=e) (n:=n) (v:=v) (ss:=ss.map bl)
 rw [pL ss]
 refine h.mono fun u R X' ⟨A,c,h1,h2⟩=>⟨A,c,?_,?_⟩
 · rw [h1];simp [compB]
 · rw [h2,gX,compB];simp
def circF (l:List ActD) (g:ByteArray):Nat→Option ActD
 | 0=>none
 | i+1=>bif decide ((l.getD i ActD.zero).kind=15)&&seqB (l.getD i ActD.zero).group g then some (l.getD i ActD.zero) else circF l g i
theorem jt {l:List ActD} {g:ByteArray}:∀ {k:Nat} {x:ActD},k≤l.length→circF l g k=some x→x∈l
 | 0,x,_,h=>by cases h
 | k+1,x,hk,h=>by
  simp only [circF] at h
  have h0:l.getD k ActD.zero∈l:=by
   rw [List.getD_eq_getElem?_getD,List.getElem?_eq_getElem (by omega)]
   exact List.getElem_mem ag
  cases hb:(decide ((l.getD k ActD.zero).kind=15)&&seqB (l.getD k ActD.zero).group g) with
  | true=>rw [hb] at h;simp only [cond_true,Option.some.injEq] at h;exact h▸h0
  | false=>rw [hb] at h;exact jt ag h
def listOf (c:ChainD) (n sc:Int) (g:ByteArray) (toL:List ByteArray):List ByteArray :=
 bif decide (sc=1) then sortB (tieV c.actsL n).a else bif decide (sc=2) then ((circF c.actsL g (limN n c.actsL.length)).map (·.toL)).getD [] else bif decide (sc=3) then toL else []
def keepM (c:ChainD) (bs:List ByteArray) (x:ByteArray):Bool:=!seqB x c.id&&!hasS bs x
def membersV (c:ChainD) (n sc:Int) (g:ByteArray) (toL:List ByteArray):List ByteArray:=compB (sortB ((listOf c n sc g toL).filter (keepM c (sortB (tieV c.actsL n).b))))
structure FilS (m:Nat) where
 k:Nat
 hk:k≤m
 A:Option Addr
 c:Nat
end Go.Proofs.YtfnjklhjngphmaaGreatDoor
namespace Go.Proofs.YtfnjklhjngphmaaGreatDoor
open Go Go.Proofs Sy Go.Shelf Go.Maps Go.Sort
theorem keysSet_c:KeysC Tryz.prog 343 350 318 where
 keys:=fun mb W=>(callsIn_wide (n:=5)).1 (AnyZ.keys_in Tryz.keys_agora_relation_set_string_bool Fence.wide 5 trivial rfl mb W)
theorem sortedSet_c:SortedSC Tryz.prog 342 350 9 where
 key:=Tryz.underlying9
 sorted:=fun w Bm q nn D0 hB hc hown h1 h2=>(callsIn_wide (n:=5)).1 (AnyZ.sorted_in Tryz.sortedS Fence.wide 5 trivial trivial trivial trivial rfl ag (sortsS _) (enters_of Tryz.func55 ar rfl) _ _ trivial (enters_of Tryz.func350 ar rfl) _ _ h1 h2 _
  (AnyZ.keys_gives (ρ:=Tryz.keys_agora_relation_set_string_bool_ren) { Tryz.keys_agora_relation_set_string_bool with } Fence.wide _ trivial rfl ag Bm q nn D0 w hB hc hown))
end Go.Proofs.YtfnjklhjngphmaaGreatDoor
namespace Go.Proofs.YtfnjklhjngphmaaGreatDoor
open Go Go.Proofs Sy
theorem fV (q:Nat) (ks:List ByteArray) (hs:∀ k∈ks,k.size≤maxLen) (hl:ks.length≤1000000) :
  Ct Tryz.prog 311 #[.map (some q)] [mapr q (setM ks)] (fun _=>True) fun u R _=>∃ A c,u=.slice A ks.length c∧R=[orow 9 1 u ks.length ((sortB ks).map encB),mapr q (setM ks)]:=by
 refine dD (args:=[_]) (Post:=fun u R=>∃ A c,u=.slice A ks.length c∧R=[orow 9 1 u ks.length ((sortB ks).map encB),mapr q (setM ks)]) _ Tryz.func311 rfl Tryz.ntmps311 rfl fun av bor w0=>?_
 have hsl:(setM ks).length=ks.length:=by simp [setM]
 have hsm:(setM ks).map (·.1)=ks:=by simp [setM,Function.comp_def]
 have hsk:=sortedSet_c.ct (M:=318)
 repeat' (first|apply ab|apply aj|apply ai|refine ae ?_|refine ac ?_|fail)
 refine dj (pre:=[]) (fr:=[mapr q (setM ks)]) (hc:=keysSet_c.ct (some q)) (hX:=fun _ _=>trivial) (h:=?_)
 rintro v R X' ⟨b,rfl,rfl⟩
 refine dj (pre:=[cel b 318 [.map (some q)],mapr q (setM ks)]) (fr:=[]) (hc:=sortedSet_c.ct b q (setM ks) (fun p hp=>by simp only [setM,List.mem_map] at hp;obtain ⟨k,hk,rfl⟩:=hp;exact hs k hk) (by rw [hsl];exact hl)) (hX:=fun _ _=>trivial) (h:=?_)
 rintro v R X' ⟨A,c,rfl,rfl⟩
 rw [hsl,hsm]
 repeat' (first|apply ab|refine ac ?_|apply aA|fail)
 exact aq (aB rfl rfl) ⟨_,List.Sublist.cons_cons _ (List.Sublist.cons _ (aQ _)),A,c,rfl,rfl⟩
theorem xx (c:ChainD) (hc:ActsOk c.actsL) (hl:c.actsL.length≤1000000) (n:Int):Mk Tryz.prog 274 #[c.v,.int .i64 n] (fun w=>c.at_ w∧Glob w) (TiesAt (tieV c.actsL n)):=by
 refine yk (args:=[_,_]) _ Tryz.func274 rfl Tryz.ntmps274 rfl fun av bor w0=>?_
 have hB:=kx hc n
 repeat' (first|apply ab|apply aj|apply ai|refine ae ?_|refine aG ?_|refine aP fun _=>?_|refine aT fun _=>?_|fail)
 rename_i b2 b4
 refine dj (pre:=[]) (fr:=[cel b4 298 [.slice none 0 0,.slice none 0 0,.slice none 0 0,.slice none 0 0],cel b2 31 c.cells]) (hc:=B6 c hc n) (hX:=fun _ h=>h) (h:=?_)
 rintro _ _ X' ⟨q1,q2,q3,q4,rfl,rfl⟩
 generalize tieV c.actsL n=t at *
 repeat' (first|apply ab|apply aj|refine aP fun _=>?_|refine aK ?_|fail)
 rename_i b5
 unfold setsR
 (refine bo [cel b5 320 (setsV q1 q2 q3 q4).cells.toList] (fun _=>True) ar ?_)
 all_goals refine aa 0 ?_
 all_goals refine aa 1 ?_
 all_goals refine aa 3 ?_
 all_goals refine aa 4 ?_
 all_goals refine aa 6 ?_
 all_goals refine aa 7 ?_
 all_goals refine aa 9 ?_
 all_goals refine aa 10 ?_
 all_goals (refine ao 2 ?_;(refine fb (hc:=fV q1 t.f hB.f.size (Nat.le_trans hB.f.len hl)) (hX:=fun _ _=>trivial) ?_;rintro _ _ X1 ⟨A1,c1,rfl,rfl⟩;refine dX ?_);apply ab;refine ak ?_)
 all_goals (refine ao 5 ?_;(refine fb (hc:=fV q2 t.a hB.a.size (Nat.le_trans hB.a.len hl)) (hX:=fun _ _=>trivial) ?_;rintro _ _ X2 ⟨A2,c2,rfl,rfl⟩;refine dX ?_);apply ab;refine ak ?_)
 all_goals (refine ao 8 ?_;(refine fb (hc:=fV q3 t.b hB.b.size (Nat.le_trans hB.b.len hl)) (hX:=fun _ _=>trivial) ?_;rintro _ _ X3 ⟨A3,c3,rfl,rfl⟩;refine dX ?_);apply ab;refine ak ?_)
 all_goals (refine ao 11 ?_;(refine fb (hc:=fV q4 t.m hB.m.size (Nat.le_trans hB.m.len hl)) (hX:=fun _ _=>trivial) ?_;rintro _ _ X4 ⟨A4,c4,rfl,rfl⟩;refine dX ?_);apply ab;refine ak ?_)
 all_goals (refine aa 12 (hy:=by (apply cd;rfl;rfl)) ?_)
 all_goals (refine ao 13 ?_;(refine aK ?_);apply ab;refine ak ?_)
 all_goals (refine aI ?_)
 repeat' (first|apply aA|fail)
 refine aq (bT rfl rfl bF (by rfl)) ⟨⟨A1,t.f.length,c1⟩,⟨A2,t.a.length,c2⟩,⟨A3,t.b.length,c3⟩,⟨A4,t.m.length,c4⟩,rfl,fun w h=>⟨fS h.1.1.1.1.1.1.2 rfl,fS h.1.1.1.1.2 rfl,fS h.1.1.2 rfl,fS h.2 rfl⟩⟩
def OwnStrs (l:List ByteArray) (u:Value) (R:List Res):Prop:=∃ A c,u=.slice A l.length c∧R=[orow 9 1 u l.length (l.map encB)]
theorem mX {f:FuncId} {args:Array Value} {X:World→Prop} {l:List ByteArray} (h:Ct Tryz.prog f args [] X (fun u R _=>OwnStrs l u R)):Mk Tryz.prog f args X (StrsAt l):=by
 unfold Mk
 exact Ct.mk fun w av G=>(Ct.run h w av G).mono fun e w' ⟨u,R,X',he,hu,G'⟩=>⟨u,[],_,he,⟨by
  obtain ⟨A,c,rfl,rfl⟩:=hu
  exact ⟨⟨A,_,c⟩,rfl,fun w h=>il (h.2 _ aU) rfl⟩,rfl⟩,G'.giveAll⟩
set_option maxHeartbeats 2000000 in
theorem lH (c:ChainD) (hc:ActsOk c.actsL) (hcl:c.actsL.length≤1000000) (hto:∀ x∈c.actsL,x.to.n≤1000000) (n sc:Int) (g:ByteArray) (st:SlV) (toL:List ByteArray) (htl:toL.length≤1000000) :
    Ct Tryz.prog 219 #[c.v,.int .i64 n,.int .i64 sc,.string g,st.v] [] (fun w=>XC c w∧Strs w st toL) (fun u R _=>OwnStrs (membersV c n sc g toL) u R):=by
  refine dD (args:=[_,_,_,_,_]) (Post:=OwnStrs (membersV c n sc g toL)) _ Tryz.func219 rfl Tryz.ntmps219 rfl fun av bor w0=>?_
  refine bt (fun w h=>XC.know w h.1) fun ⟨hl,hm,hp,hcap⟩=>?_
  simp only [maxLen] at hm
  have hB:=kx hc n
  have hM:membersV c n sc g toL=compB (sortB ((listOf c n sc g toL).filter (keepM c (sortB (tieV c.actsL n).b)))):=rfl
  repeat' (first|apply ab|apply aj|apply ai|refine ae ?_|refine ac ?_|refine aG ?_|refine aT fun _=>?_|fail)
  refine bN (hc:=xx c hc hcl n) (hX:=fun w h=>h.1) fun v1 X1 h1=>?_
  obtain ⟨s1,s2,s3,s4,rfl,hties⟩:=h1
  have hLo:listOf c n sc g toL=bif decide (sc=1) then sortB (tieV c.actsL n).a else bif decide (sc=2) then ((circF c.actsL g (limN n c.actsL.length)).map (·.toL)).getD [] else bif decide (sc=3) then toL else []:=rfl
  generalize tieV c.actsL n=t at *
  have hlim:=ew n c.acts.n
  repeat' (first|apply ab|apply aj|apply ai|refine ae ?_|refine ac ?_|refine bR ?_|refine aP fun _=>?_|refine aK ?_|apply aw|fail)
  rename_i b5 b11
  repeat' (first|apply ab|apply aj|apply ai|refine ae ?_|refine ac ?_|refine aM ?_|refine aL ?_|refine aG ?_|refine bR ?_|refine bg ?_|apply ay|apply aw|refine aC (hc:=nj c n) ?_|(refine aO (ht:=?_) (hf:=?_);all_goals (intro hx_;first|have:=aY hx_|have:=aZ hx_)))
  case refine_1 =>
    have hLe:listOf c n sc g toL=sortB t.a:=by rw [hLo,hx_];rfl
    have hSL:∀ w,(XC c w∧Strs w st toL)∧X1 w→Strs w s2 (sortB t.a):=fun w h=>(hties w h.2).2.1
    have hLl:(sortB t.a).length≤1000000:=by rw [eQ];have:=hB.a.len;omega
    generalize hLL:sortB t.a=L at *
    refine bt (p:=(s2).n=(L).length∧(s2).n≤maxLen∧(0<(L).length→(s2).p.isSome=true)) (fun w h=>⟨(hSL w h).len_,Nat.le_trans (RowsD.cap (hSL w h)) (RowsD.max (hSL w h)),(hSL w h).some_⟩) fun ⟨hSl,hSm,hSp⟩=>?_
    simp only [maxLen] at hSm
    refine cf 9 1 ?_
    refine be (ι:=FilS (L).length) (fun i=>⟨[(5,.pointer (some ⟨b5,0,none⟩)),(11,.pointer (some ⟨b11,0,none⟩)),(15,.slice i.A (((L).take i.k).filter (keepM c (sortB t.b))).length i.c),(54,(s2).v),(55,.int .i64 (s2).n),(56,.int .i64 i.k)],
      [orow 9 1 (.slice i.A (((L).take i.k).filter (keepM c (sortB t.b))).length i.c) (((L).take i.k).filter (keepM c (sortB t.b))).length ((((L).take i.k).filter (keepM c (sortB t.b))).map encB),cel b11 298 [s1.v,s2.v,s3.v,s4.v],cel b5 31 c.cells],fun w=>(XC c w∧Strs w st toL)∧X1 w⟩) (fun i=>(L).length-i.k) ⟨0,Nat.zero_le _,none,0⟩ (aF ⟨rfl,rfl,rfl,rfl,rfl,rfl,trivial⟩ (aQ _) fun _ h=>h) fun i=>?_
    have hik:=i.hk
    repeat' (first|apply ab|apply aj|apply ai|refine ae ?_|refine bu ?_|apply ay|apply aw|apply aV|(refine aO (ht:=?_) (hf:=?_);all_goals (intro hx_;first|have:=aY hx_|have:=aZ hx_)))
    · have hlt:i.k<(L).length:=by omega
      have hp2:=hSp ag
      have hfs:=ff (p:=(keepM c (sortB t.b))) (L) hlt
      have hfl:(((L).take i.k).filter (keepM c (sortB t.b))).length≤1000000:=by
        have h1:=List.length_filter_le (keepM c (sortB t.b)) ((L).take i.k)
        have h2:=List.length_take_le i.k (L)
        omega
      generalize hacc:((L).take i.k).filter (keepM c (sortB t.b))=acc at *
      generalize hxe:(L).getD i.k .empty=x at *
      repeat' (first|apply ab|apply aj|apply ai|refine ae ?_|refine ac ?_|refine aM ?_|refine aL ?_|refine aJ ?_|refine aH ?_|refine bE ?_|refine dp ?_|refine bm (h:=?_)|refine aW ?_|refine ca fun _=>?_|refine aD ?_|apply ay|(refine bf (q:=i.k) ?_)|(refine bU (u:=.string x) (hF:=fun w h=>hxe▸Strs.get (hSL w h) hlt) ?_)|(refine aC (hc:=ec s3 (sortB t.b) x) (hX:=fun w h=>(hties w h.2).2.2.1) ?_)|(refine aS (size:=1) (z:=.string ⟨#[]⟩) (news:=[encB x]) (q:=1) rfl rfl rfl rfl (fun _=>At.there _ (At.here _)) (fun w G=>bq G aU rfl rfl 1) ag (by simp only [maxLen];omega) rfl ?_ rfl ?_;(with_reducible rfl);intro A2 c2)|((fail_if_success (refine bA ?_));refine bj (ht:=?_) (hf:=?_);all_goals (intro hx_;skip))|(refine aO (ht:=?_) (hf:=?_);all_goals (intro hx_;skip)))
      all_goals first
        | (have e:((L).take (i.k+1)).filter (keepM c (sortB t.b))=acc++[x]:=by rw [hfs];simp only [keepM, *,decide_true,decide_false,cond_true,cond_false,Bool.and_true,Bool.true_and,Bool.and_false,Bool.false_and,Bool.not_true,Bool.not_false,Bool.or_true,Bool.true_or,Bool.or_false,Bool.false_or]
           refine ⟨(⟨i.k+1,hlt,A2,c2⟩:FilS (L).length),(by show (L).length-(i.k+1)<(L).length-i.k;omega),aF ?_ ?_ fun _ h=>h⟩
           · simp only [e,List.length_append,List.length_cons,List.length_nil,Nat.zero_add];exact ⟨rfl,rfl,rfl,rfl,rfl,rfl,trivial⟩
           · simp only [e,List.length_append,List.length_cons,List.length_nil,Nat.zero_add,List.map_append,List.map_cons,List.map_nil];exact List.Sublist.cons _ (aQ _))
        | (have e:((L).take (i.k+1)).filter (keepM c (sortB t.b))=acc:=by rw [hfs];simp only [keepM, *,decide_true,decide_false,cond_true,cond_false,Bool.and_true,Bool.true_and,Bool.and_false,Bool.false_and,Bool.not_true,Bool.not_false,Bool.or_true,Bool.true_or,Bool.or_false,Bool.false_or,List.append_nil]
           refine ⟨(⟨i.k+1,hlt,i.A,i.c⟩:FilS (L).length),(by show (L).length-(i.k+1)<(L).length-i.k;omega),aF ?_ ?_ fun _ h=>h⟩
           · simp only [e];exact ⟨rfl,rfl,rfl,rfl,rfl,rfl,trivial⟩
           · simp only [e];exact aQ _)
    have hfl:(((L).take i.k).filter (keepM c (sortB t.b))).length≤1000000000:=by
      have h1:=List.length_filter_le (keepM c (sortB t.b)) ((L).take i.k)
      have h2:=List.length_take_le i.k (L)
      omega
    have hk:i.k=(L).length:=by omega
    have hfin:membersV c n sc g toL=compB (sortB (((L).take i.k).filter (keepM c (sortB t.b)))):=by rw [hM,hLe,hk,List.take_length]
    refine fa (hc:=im hfl) (hX:=fun _ _=>trivial) ?_
    repeat' (first|apply ab|apply aj|apply ai|refine ae ?_|fail)
    refine fb (hc:=iP) (hX:=fun _ _=>trivial) ?_
    rintro _ _ X2 ⟨A3,c3,rfl,rfl⟩
    repeat' (first|apply ab|refine ac ?_|apply aA|fail)
    rw [hfin]
    exact aq (aB rfl rfl) ⟨_,List.Sublist.cons_cons _ (List.nil_sublist _),A3,c3,rfl,rfl⟩
  case refine_2.refine_1 =>
    refine be (ι:=Kth (limN n c.acts.n)) (fun i=>⟨[(3,.string g),(5,.pointer (some ⟨b5,0,none⟩)),(11,.pointer (some ⟨b11,0,none⟩)),(12,((((circF c.actsL g i.k).map (fun x:ActD=>x.to)).getD (⟨none,0,0⟩:SlV)):SlV).v),(21,.int .i64 sc),(30,.int .i64 (limN n c.acts.n)),(31,.int .i64 i.k)],
      [cel b11 298 [s1.v,s2.v,s3.v,s4.v],cel b5 31 c.cells],fun w=>(XC c w∧Strs w st toL)∧X1 w⟩) (fun i=>limN n c.acts.n-i.k) ⟨0,Nat.zero_le _⟩ (aF ⟨rfl,rfl,rfl,rfl,rfl,rfl,rfl,trivial⟩ (aQ _) fun _ h=>h) fun i=>?_
    have hik:=i.hk
    repeat' (first|apply ab|apply aj|apply ai|refine ae ?_|refine ac ?_|refine aM ?_|refine aL ?_|refine bu ?_|refine bg ?_|apply ay|apply aw|apply aV|(refine aO (ht:=?_) (hf:=?_);all_goals (intro hx_;first|have:=aY hx_|have:=aZ hx_)))
    · have hlt:i.k<limN n c.acts.n:=by omega
      have hltL:i.k<c.actsL.length:=by omega
      have hp':=hp ag
      obtain ⟨x,hx⟩:∃ x,c.actsL[i.k]?=some x:=⟨_,List.getElem?_eq_getElem hltL⟩
      have hstep:circF c.actsL g (i.k+1)=bif decide (x.kind=15)&&seqB x.group g then some x else circF c.actsL g i.k:=by simp only [circF,List.getD_eq_getElem?_getD,hx,Option.getD_some]
      repeat' (first|apply ab|apply aj|apply ai|refine ae ?_|refine ac ?_|refine aM ?_|refine aL ?_|refine aJ ?_|refine aH ?_|refine bR ?_|refine co ?_|refine bm (h:=?_)|refine aW ?_|refine aP fun _=>?_|refine aK ?_|refine aD ?_|apply ay|(refine bf (q:=i.k*20) ?_)|(refine bD (cs:=x.cells) (hF:=fun w h=>Acts.get h.1.1.1 hx) ?_)|((fail_if_success (refine bA ?_));refine bj (ht:=?_) (hf:=?_);all_goals (intro hx_;first|have:=aY hx_|have:=aZ hx_))|(refine aO (ht:=?_) (hf:=?_);all_goals (intro hx_;skip)))
      all_goals exact ⟨(⟨i.k+1,hlt⟩:Kth (limN n c.acts.n)),(by show limN n c.acts.n-(i.k+1)<limN n c.acts.n-i.k;omega),aF (by
        have e:circF c.actsL g (i.k+1)=_:=hstep.trans (by simp only [*,Int.reduceEq,decide_true,decide_false,cond_true,cond_false,Bool.and_true,Bool.true_and,Bool.and_false,Bool.false_and,Bool.not_true,Bool.not_false,Bool.or_true,Bool.true_or,Bool.or_false,Bool.false_or];rfl)
        simp only [e]
        exact ⟨rfl,rfl,rfl,rfl,rfl,rfl,rfl,trivial⟩) (List.Sublist.cons _ (aQ _)) fun _ h=>h⟩
    have hk:i.k=limN n c.acts.n:=by omega
    have hLe:listOf c n sc g toL=((circF c.actsL g i.k).map (·.toL)).getD []:=by
      rw [hLo,‹decide (sc=1)=false›,‹decide (sc=2)=true›,hk,hl]
      rfl
    have hmem:∀ x,circF c.actsL g i.k=some x→x∈c.actsL:=fun x hx=>jt ag hx
    repeat' (first|apply ab|fail)
    generalize circF c.actsL g i.k=o at *
    obtain ⟨S,L,hS1,hL1,hSL,hLl⟩:∃ (S:SlV) (L:List ByteArray),(o.map (fun x:ActD=>x.to)).getD (⟨none,0,0⟩:SlV)=S∧(o.map (fun x:ActD=>x.toL)).getD []=L∧(∀ w,(XC c w∧Strs w st toL)∧X1 w→Strs w S L)∧L.length≤1000000:=by
      cases o with
      | none=>exact ⟨_,_,rfl,rfl,fun w _=>bz w 1,by simp⟩
      | some x=>exact ⟨_,_,rfl,rfl,fun w h=>(h.1.1.1.2 x (hmem x rfl)).1,by have h1:=(hc.rng x (hmem x rfl)).to_len;have h2:=hto x (hmem x rfl);show x.toL.length≤1000000;omega⟩
    rw [hL1] at hLe
    rw [hS1]
    refine bt (p:=(S).n=(L).length∧(S).n≤maxLen∧(0<(L).length→(S).p.isSome=true)) (fun w h=>⟨(hSL w h).len_,Nat.le_trans (RowsD.cap (hSL w h)) (RowsD.max (hSL w h)),(hSL w h).some_⟩) fun ⟨hSl,hSm,hSp⟩=>?_
    simp only [maxLen] at hSm
    refine cf 9 1 ?_
    refine be (ι:=FilS (L).length) (fun i=>⟨[(5,.pointer (some ⟨b5,0,none⟩)),(11,.pointer (some ⟨b11,0,none⟩)),(15,.slice i.A (((L).take i.k).filter (keepM c (sortB t.b))).length i.c),(54,(S).v),(55,.int .i64 (S).n),(56,.int .i64 i.k)],
      [orow 9 1 (.slice i.A (((L).take i.k).filter (keepM c (sortB t.b))).length i.c) (((L).take i.k).filter (keepM c (sortB t.b))).length ((((L).take i.k).filter (keepM c (sortB t.b))).map encB),cel b11 298 [s1.v,s2.v,s3.v,s4.v],cel b5 31 c.cells],fun w=>(XC c w∧Strs w st toL)∧X1 w⟩) (fun i=>(L).length-i.k) ⟨0,Nat.zero_le _,none,0⟩ (aF ⟨rfl,rfl,rfl,rfl,rfl,rfl,trivial⟩ (aQ _) fun _ h=>h) fun i=>?_
    have hik:=i.hk
    repeat' (first|apply ab|apply aj|apply ai|refine ae ?_|refine bu ?_|apply ay|apply aw|apply aV|(refine aO (ht:=?_) (hf:=?_);all_goals (intro hx_;first|have:=aY hx_|have:=aZ hx_)))
    · have hlt:i.k<(L).length:=by omega
      have hp2:=hSp ag
      have hfs:=ff (p:=(keepM c (sortB t.b))) (L) hlt
      have hfl:(((L).take i.k).filter (keepM c (sortB t.b))).length≤1000000:=by
        have h1:=List.length_filter_le (keepM c (sortB t.b)) ((L).take i.k)
        have h2:=List.length_take_le i.k (L)
        omega
      generalize hacc:((L).take i.k).filter (keepM c (sortB t.b))=acc at *
      generalize hxe:(L).getD i.k .empty=x at *
      repeat' (first|apply ab|apply aj|apply ai|refine ae ?_|refine ac ?_|refine aM ?_|refine aL ?_|refine aJ ?_|refine aH ?_|refine bE ?_|refine dp ?_|refine bm (h:=?_)|refine aW ?_|refine ca fun _=>?_|refine aD ?_|apply ay|(refine bf (q:=i.k) ?_)|(refine bU (u:=.string x) (hF:=fun w h=>hxe▸Strs.get (hSL w h) hlt) ?_)|(refine aC (hc:=ec s3 (sortB t.b) x) (hX:=fun w h=>(hties w h.2).2.2.1) ?_)|(refine aS (size:=1) (z:=.string ⟨#[]⟩) (news:=[encB x]) (q:=1) rfl rfl rfl rfl (fun _=>At.there _ (At.here _)) (fun w G=>bq G aU rfl rfl 1) ag (by simp only [maxLen];omega) rfl ?_ rfl ?_;(with_reducible rfl);intro A2 c2)|((fail_if_success (refine bA ?_));refine bj (ht:=?_) (hf:=?_);all_goals (intro hx_;skip))|(refine aO (ht:=?_) (hf:=?_);all_goals (intro hx_;skip)))
      all_goals first
        | (have e:((L).take (i.k+1)).filter (keepM c (sortB t.b))=acc++[x]:=by rw [hfs];simp only [keepM, *,decide_true,decide_false,cond_true,cond_false,Bool.and_true,Bool.true_and,Bool.and_false,Bool.false_and,Bool.not_true,Bool.not_false,Bool.or_true,Bool.true_or,Bool.or_false,Bool.false_or]
           refine ⟨(⟨i.k+1,hlt,A2,c2⟩:FilS (L).length),(by show (L).length-(i.k+1)<(L).length-i.k;omega),aF ?_ ?_ fun _ h=>h⟩
           · simp only [e,List.length_append,List.length_cons,List.length_nil,Nat.zero_add];exact ⟨rfl,rfl,rfl,rfl,rfl,rfl,trivial⟩
           · simp only [e,List.length_append,List.length_cons,List.length_nil,Nat.zero_add,List.map_append,List.map_cons,List.map_nil];exact List.Sublist.cons _ (aQ _))
        | (have e:((L).take (i.k+1)).filter (keepM c (sortB t.b))=acc:=by rw [hfs];simp only [keepM, *,decide_true,decide_false,cond_true,cond_false,Bool.and_true,Bool.true_and,Bool.and_false,Bool.false_and,Bool.not_true,Bool.not_false,Bool.or_true,Bool.true_or,Bool.or_false,Bool.false_or,List.append_nil]
           refine ⟨(⟨i.k+1,hlt,i.A,i.c⟩:FilS (L).length),(by show (L).length-(i.k+1)<(L).length-i.k;omega),aF ?_ ?_ fun _ h=>h⟩
           · simp only [e];exact ⟨rfl,rfl,rfl,rfl,rfl,rfl,trivial⟩
           · simp only [e];exact aQ _)
    have hfl:(((L).take i.k).filter (keepM c (sortB t.b))).length≤1000000000:=by
      have h1:=List.length_filter_le (keepM c (sortB t.b)) ((L).take i.k)
      have h2:=List.length_take_le i.k (L)
      omega
    have hk:i.k=(L).length:=by omega
    have hfin:membersV c n sc g toL=compB (sortB (((L).take i.k).filter (keepM c (sortB t.b)))):=by rw [hM,hLe,hk,List.take_length]
    refine fa (hc:=im hfl) (hX:=fun _ _=>trivial) ?_
    repeat' (first|apply ab|apply aj|apply ai|refine ae ?_|fail)
    refine fb (hc:=iP) (hX:=fun _ _=>trivial) ?_
    rintro _ _ X2 ⟨A3,c3,rfl,rfl⟩
    repeat' (first|apply ab|refine ac ?_|apply aA|fail)
    rw [hfin]
    exact aq (aB rfl rfl) ⟨_,List.Sublist.cons_cons _ (List.nil_sublist _),A3,c3,rfl,rfl⟩
  case refine_2.refine_2.refine_1 =>
    have hLe:listOf c n sc g toL=toL:=by
      rw [hLo,‹decide (sc=1)=false›,‹decide (sc=2)=false›,‹decide (sc=3)=true›]
      rfl
    have hSL:∀ w,(XC c w∧Strs w st toL)∧X1 w→Strs w st toL:=fun w h=>h.1.2
    have hLl:=htl
    refine bt (p:=(st).n=(toL).length∧(st).n≤maxLen∧(0<(toL).length→(st).p.isSome=true)) (fun w h=>⟨(hSL w h).len_,Nat.le_trans (RowsD.cap (hSL w h)) (RowsD.max (hSL w h)),(hSL w h).some_⟩) fun ⟨hSl,hSm,hSp⟩=>?_
    simp only [maxLen] at hSm
    refine cf 9 1 ?_
    refine be (ι:=FilS (toL).length) (fun i=>⟨[(5,.pointer (some ⟨b5,0,none⟩)),(11,.pointer (some ⟨b11,0,none⟩)),(15,.slice i.A (((toL).take i.k).filter (keepM c (sortB t.b))).length i.c),(54,(st).v),(55,.int .i64 (st).n),(56,.int .i64 i.k)],
      [orow 9 1 (.slice i.A (((toL).take i.k).filter (keepM c (sortB t.b))).length i.c) (((toL).take i.k).filter (keepM c (sortB t.b))).length ((((toL).take i.k).filter (keepM c (sortB t.b))).map encB),cel b11 298 [s1.v,s2.v,s3.v,s4.v],cel b5 31 c.cells],fun w=>(XC c w∧Strs w st toL)∧X1 w⟩) (fun i=>(toL).length-i.k) ⟨0,Nat.zero_le _,none,0⟩ (aF ⟨rfl,rfl,rfl,rfl,rfl,rfl,trivial⟩ (aQ _) fun _ h=>h) fun i=>?_
    have hik:=i.hk
    repeat' (first|apply ab|apply aj|apply ai|refine ae ?_|refine bu ?_|apply ay|apply aw|apply aV|(refine aO (ht:=?_) (hf:=?_);all_goals (intro hx_;first|have:=aY hx_|have:=aZ hx_)))
    · have hlt:i.k<(toL).length:=by omega
      have hp2:=hSp ag
      have hfs:=ff (p:=(keepM c (sortB t.b))) (toL) hlt
      have hfl:(((toL).take i.k).filter (keepM c (sortB t.b))).length≤1000000:=by
        have h1:=List.length_filter_le (keepM c (sortB t.b)) ((toL).take i.k)
        have h2:=List.length_take_le i.k (toL)
        omega
      generalize hacc:((toL).take i.k).filter (keepM c (sortB t.b))=acc at *
      generalize hxe:(toL).getD i.k .empty=x at *
      repeat' (first|apply ab|apply aj|apply ai|refine ae ?_|refine ac ?_|refine aM ?_|refine aL ?_|refine aJ ?_|refine aH ?_|refine bE ?_|refine dp ?_|refine bm (h:=?_)|refine aW ?_|refine ca fun _=>?_|refine aD ?_|apply ay|(refine bf (q:=i.k) ?_)|(refine bU (u:=.string x) (hF:=fun w h=>hxe▸Strs.get (hSL w h) hlt) ?_)|(refine aC (hc:=ec s3 (sortB t.b) x) (hX:=fun w h=>(hties w h.2).2.2.1) ?_)|(refine aS (size:=1) (z:=.string ⟨#[]⟩) (news:=[encB x]) (q:=1) rfl rfl rfl rfl (fun _=>At.there _ (At.here _)) (fun w G=>bq G aU rfl rfl 1) ag (by simp only [maxLen];omega) rfl ?_ rfl ?_;(with_reducible rfl);intro A2 c2)|((fail_if_success (refine bA ?_));refine bj (ht:=?_) (hf:=?_);all_goals (intro hx_;skip))|(refine aO (ht:=?_) (hf:=?_);all_goals (intro hx_;skip)))
      all_goals first
        | (have e:((toL).take (i.k+1)).filter (keepM c (sortB t.b))=acc++[x]:=by rw [hfs];simp only [keepM, *,decide_true,decide_false,cond_true,cond_false,Bool.and_true,Bool.true_and,Bool.and_false,Bool.false_and,Bool.not_true,Bool.not_false,Bool.or_true,Bool.true_or,Bool.or_false,Bool.false_or]
           refine ⟨(⟨i.k+1,hlt,A2,c2⟩:FilS (toL).length),(by show (toL).length-(i.k+1)<(toL).length-i.k;omega),aF ?_ ?_ fun _ h=>h⟩
           · simp only [e,List.length_append,List.length_cons,List.length_nil,Nat.zero_add];exact ⟨rfl,rfl,rfl,rfl,rfl,rfl,trivial⟩
           · simp only [e,List.length_append,List.length_cons,List.length_nil,Nat.zero_add,List.map_append,List.map_cons,List.map_nil];exact List.Sublist.cons _ (aQ _))
        | (have e:((toL).take (i.k+1)).filter (keepM c (sortB t.b))=acc:=by rw [hfs];simp only [keepM, *,decide_true,decide_false,cond_true,cond_false,Bool.and_true,Bool.true_and,Bool.and_false,Bool.false_and,Bool.not_true,Bool.not_false,Bool.or_true,Bool.true_or,Bool.or_false,Bool.false_or,List.append_nil]
           refine ⟨(⟨i.k+1,hlt,i.A,i.c⟩:FilS (toL).length),(by show (toL).length-(i.k+1)<(toL).length-i.k;omega),aF ?_ ?_ fun _ h=>h⟩
           · simp only [e];exact ⟨rfl,rfl,rfl,rfl,rfl,rfl,trivial⟩
           · simp only [e];exact aQ _)
    have hfl:(((toL).take i.k).filter (keepM c (sortB t.b))).length≤1000000000:=by
      have h1:=List.length_filter_le (keepM c (sortB t.b)) ((toL).take i.k)
      have h2:=List.length_take_le i.k (toL)
      omega
    have hk:i.k=(toL).length:=by omega
    have hfin:membersV c n sc g toL=compB (sortB (((toL).take i.k).filter (keepM c (sortB t.b)))):=by rw [hM,hLe,hk,List.take_length]
    refine fa (hc:=im hfl) (hX:=fun _ _=>trivial) ?_
    repeat' (first|apply ab|apply aj|apply ai|refine ae ?_|fail)
    refine fb (hc:=iP) (hX:=fun _ _=>trivial) ?_
    rintro _ _ X2 ⟨A3,c3,rfl,rfl⟩
    repeat' (first|apply ab|refine ac ?_|apply aA|fail)
    rw [hfin]
    exact aq (aB rfl rfl) ⟨_,List.Sublist.cons_cons _ (List.nil_sublist _),A3,c3,rfl,rfl⟩
  case refine_2.refine_2.refine_2 =>
    have hLe:listOf c n sc g toL=[]:=by
      rw [hLo,‹decide (sc=1)=false›,‹decide (sc=2)=false›,‹decide (sc=3)=false›]
      rfl
    have hSL:∀ w,(XC c w∧Strs w st toL)∧X1 w→Strs w ⟨none,0,0⟩ []:=fun w _=>bz w 1
    have hLl:([]:List ByteArray).length≤1000000:=by simp
    refine bt (p:=((⟨none,0,0⟩:SlV)).n=(([]:List ByteArray)).length∧((⟨none,0,0⟩:SlV)).n≤maxLen∧(0<(([]:List ByteArray)).length→((⟨none,0,0⟩:SlV)).p.isSome=true)) (fun w h=>⟨((show Strs w ⟨none,0,0⟩ [] from bz w 1)).len_,Nat.le_trans (RowsD.cap ((show Strs w ⟨none,0,0⟩ [] from bz w 1))) (RowsD.max ((show Strs w ⟨none,0,0⟩ [] from bz w 1))),((show Strs w ⟨none,0,0⟩ [] from bz w 1)).some_⟩) fun ⟨hSl,hSm,hSp⟩=>?_
    simp only [maxLen] at hSm
    refine cf 9 1 ?_
    refine be (ι:=FilS (([]:List ByteArray)).length) (fun i=>⟨[(5,.pointer (some ⟨b5,0,none⟩)),(11,.pointer (some ⟨b11,0,none⟩)),(15,.slice i.A (((([]:List ByteArray)).take i.k).filter (keepM c (sortB t.b))).length i.c),(54,((⟨none,0,0⟩:SlV)).v),(55,.int .i64 ((⟨none,0,0⟩:SlV)).n),(56,.int .i64 i.k)],
      [orow 9 1 (.slice i.A (((([]:List ByteArray)).take i.k).filter (keepM c (sortB t.b))).length i.c) (((([]:List ByteArray)).take i.k).filter (keepM c (sortB t.b))).length ((((([]:List ByteArray)).take i.k).filter (keepM c (sortB t.b))).map encB),cel b11 298 [s1.v,s2.v,s3.v,s4.v],cel b5 31 c.cells],fun w=>(XC c w∧Strs w st toL)∧X1 w⟩) (fun i=>(([]:List ByteArray)).length-i.k) ⟨0,Nat.zero_le _,none,0⟩ (aF ⟨rfl,rfl,rfl,rfl,rfl,rfl,trivial⟩ (aQ _) fun _ h=>h) fun i=>?_
    have hik:=i.hk
    repeat' (first|apply ab|apply aj|apply ai|refine ae ?_|refine bu ?_|apply ay|apply aw|apply aV|(refine aO (ht:=?_) (hf:=?_);all_goals (intro hx_;first|have:=aY hx_|have:=aZ hx_)))
    · have hlt:i.k<(([]:List ByteArray)).length:=by omega
      have hp2:=hSp ag
      have hfs:=ff (p:=(keepM c (sortB t.b))) (([]:List ByteArray)) hlt
      have hfl:(((([]:List ByteArray)).take i.k).filter (keepM c (sortB t.b))).length≤1000000:=by
        have h1:=List.length_filter_le (keepM c (sortB t.b)) ((([]:List ByteArray)).take i.k)
        have h2:=List.length_take_le i.k (([]:List ByteArray))
        omega
      generalize hacc:((([]:List ByteArray)).take i.k).filter (keepM c (sortB t.b))=acc at *
      generalize hxe:(([]:List ByteArray)).getD i.k .empty=x at *
      repeat' (first|apply ab|apply aj|apply ai|refine ae ?_|refine ac ?_|refine aM ?_|refine aL ?_|refine aJ ?_|refine aH ?_|refine bE ?_|refine dp ?_|refine bm (h:=?_)|refine aW ?_|refine ca fun _=>?_|refine aD ?_|apply ay|(refine bf (q:=i.k) ?_)|(refine bU (u:=.string x) (hF:=fun w h=>hxe▸Strs.get ((show Strs w ⟨none,0,0⟩ [] from bz w 1)) hlt) ?_)|(refine aC (hc:=ec s3 (sortB t.b) x) (hX:=fun w h=>(hties w h.2).2.2.1) ?_)|(refine aS (size:=1) (z:=.string ⟨#[]⟩) (news:=[encB x]) (q:=1) rfl rfl rfl rfl (fun _=>At.there _ (At.here _)) (fun w G=>bq G aU rfl rfl 1) ag (by simp only [maxLen];omega) rfl ?_ rfl ?_;(with_reducible rfl);intro A2 c2)|((fail_if_success (refine bA ?_));refine bj (ht:=?_) (hf:=?_);all_goals (intro hx_;skip))|(refine aO (ht:=?_) (hf:=?_);all_goals (intro hx_;skip)))
      all_goals first
        | (have e:((([]:List ByteArray)).take (i.k+1)).filter (keepM c (sortB t.b))=acc++[x]:=by rw [hfs];simp only [keepM, *,decide_true,decide_false,cond_true,cond_false,Bool.and_true,Bool.true_and,Bool.and_false,Bool.false_and,Bool.not_true,Bool.not_false,Bool.or_true,Bool.true_or,Bool.or_false,Bool.false_or]
           refine ⟨(⟨i.k+1,hlt,A2,c2⟩:FilS (([]:List ByteArray)).length),(by show (([]:List ByteArray)).length-(i.k+1)<(([]:List ByteArray)).length-i.k;omega),aF ?_ ?_ fun _ h=>h⟩
           · simp only [e,List.length_append,List.length_cons,List.length_nil,Nat.zero_add];exact ⟨rfl,rfl,rfl,rfl,rfl,rfl,trivial⟩
           · simp only [e,List.length_append,List.length_cons,List.length_nil,Nat.zero_add,List.map_append,List.map_cons,List.map_nil];exact List.Sublist.cons _ (aQ _))
        | (have e:((([]:List ByteArray)).take (i.k+1)).filter (keepM c (sortB t.b))=acc:=by rw [hfs];simp only [keepM, *,decide_true,decide_false,cond_true,cond_false,Bool.and_true,Bool.true_and,Bool.and_false,Bool.false_and,Bool.not_true,Bool.not_false,Bool.or_true,Bool.true_or,Bool.or_false,Bool.false_or,List.append_nil]
           refine ⟨(⟨i.k+1,hlt,i.A,i.c⟩:FilS (([]:List ByteArray)).length),(by show (([]:List ByteArray)).length-(i.k+1)<(([]:List ByteArray)).length-i.k;omega),aF ?_ ?_ fun _ h=>h⟩
           · simp only [e];exact ⟨rfl,rfl,rfl,rfl,rfl,rfl,trivial⟩
           · simp only [e];exact aQ _)
    have hfl:(((([]:List ByteArray)).take i.k).filter (keepM c (sortB t.b))).length≤1000000000:=by
      have h1:=List.length_filter_le (keepM c (sortB t.b)) ((([]:List ByteArray)).take i.k)
      have h2:=List.length_take_le i.k (([]:List ByteArray))
      omega
    have hk:i.k=(([]:List ByteArray)).length:=by omega
    have hfin:membersV c n sc g toL=compB (sortB (((([]:List ByteArray)).take i.k).filter (keepM c (sortB t.b)))):=by rw [hM,hLe,hk,List.take_length]
    refine fa (hc:=im hfl) (hX:=fun _ _=>trivial) ?_
    repeat' (first|apply ab|apply aj|apply ai|refine ae ?_|fail)
    refine fb (hc:=iP) (hX:=fun _ _=>trivial) ?_
    rintro _ _ X2 ⟨A3,c3,rfl,rfl⟩
    repeat' (first|apply ab|refine ac ?_|apply aA|fail)
    rw [hfin]
    exact aq (aB rfl rfl) ⟨_,List.Sublist.cons_cons _ (List.nil_sublist _),A3,c3,rfl,rfl⟩
theorem qZ (c:ChainD) (hc:ActsOk c.actsL) (hcl:c.actsL.length≤1000000) (hto:∀ x∈c.actsL,x.to.n≤1000000) (n sc:Int) (g:ByteArray) (st:SlV) (toL:List ByteArray) (htl:toL.length≤1000000) :
  Mk Tryz.prog 219 #[c.v,.int .i64 n,.int .i64 sc,.string g,st.v] (fun w=>XC c w∧Strs w st toL) (StrsAt (membersV c n sc g toL)):=mX (lH c hc hcl hto n sc g st toL htl)
def wellA (c:ChainD) (i:Int) (a:ActD):Bool:=(postK a.kind||decide (a.kind=14))&&(decide (a.scope=1)||decide (a.scope=2)||decide (a.scope=3))&&(match epochO c.actsL i a.scope a.group with
 | some e=>decide (e.epoch=a.epoch)&&eqL e.toL (membersV c i a.scope a.group a.toL)
 | none=>false)
def wellV (c:ChainD) (i:Int):Bool:=decide (0≤i)&&(match c.actsL[i.toNat]? with
 | some a=>wellA c i a
 | none=>false)
set_option maxHeartbeats 2000000 in
theorem zl (c:ChainD) (hc:ActsOk c.actsL) (hcl:c.actsL.length≤1000000) (hto:∀ x∈c.actsL,x.to.n≤1000000) (i:Int):Pu Tryz.prog 218 #[c.v,.int .i64 i] (XC c) (.bool (wellV c i)):=by
 refine aN (args:=[_,_]) _ Tryz.func218 rfl Tryz.ntmps218 rfl fun av bor w0=>?_
 refine bt XC.know fun ⟨hl,hm,hp,hcap⟩=>?_
 simp only [maxLen] at hm
 repeat' (first|apply ab|apply aj|apply ai|refine ae ?_|refine ac ?_|refine aM ?_|refine aL ?_|refine aJ ?_|refine aH ?_|refine bu ?_|refine cL ?_|refine bg ?_|refine bI ?_|refine aT fun _=>?_|refine aE ?_|apply ay|apply aA|((fail_if_success (refine bA ?_));refine bj (ht:=?_) (hf:=?_);all_goals (intro hx_;first|have:=aY hx_|have:=aZ hx_))|(refine aO (ht:=?_) (hf:=?_);all_goals (intro hx_;first|have:=aY hx_|have:=aZ hx_)))
 · apply aq;apply aB;rfl;rfl
   rw [wellV,decide_eq_false ag,Bool.false_and]
 · apply aq;apply aB;rfl;rfl
   rw [wellV,List.getElem?_eq_none ag,Bool.and_false]
 have hi0:0≤i:=by omega
 obtain ⟨q,rfl⟩:=Int.eq_ofNat_of_zero_le hi0
 have hlt:q<c.actsL.length:=by omega
 have hp':=hp ag
 obtain ⟨x,hx⟩:∃ x,c.actsL[q]?=some x:=⟨_,List.getElem?_eq_getElem hlt⟩
 have hxm:x∈c.actsL:=List.mem_of_getElem? hx
 have hW:wellV c (q:Int)=wellA c q x:=by
  rw [wellV,decide_eq_true ag,Bool.true_and]
  show (match c.actsL[q]? with|some a=>wellA c q a|none=>false)=_
  rw [hx]
 have hA:wellA c q x=((postK x.kind||decide (x.kind=14))&&(decide (x.scope=1)||decide (x.scope=2)||decide (x.scope=3))&&(match epochO c.actsL q x.scope x.group with
  | some e=>decide (e.epoch=x.epoch)&&eqL e.toL (membersV c q x.scope x.group x.toL)
  | none=>false)):=rfl
 have hxr:=(hc.rng x hxm).to_len
 have hxs:=hto x hxm
 have hep:=yL c hc q x.scope x.group
 have hme:=qZ c hc hcl hto q x.scope x.group x.to x.toL ag
 generalize epochO c.actsL q x.scope x.group=o at *
 generalize membersV c q x.scope x.group x.toL=M at *
 rw [hW,hA]
 repeat' (first|apply ab|apply aj|apply ai|refine ae ?_|refine ac ?_|refine aM ?_|refine aL ?_|refine aG ?_|refine aJ ?_|refine aH ?_|refine bE ?_|refine bR ?_|refine cZ ?_|refine bC ?_|refine aW ?_|refine aP fun _=>?_|refine aK ?_|refine aE ?_|refine aD ?_|apply ay|apply aw|apply aA|(refine bf (q:=q*20) ?_)|(refine bD (cs:=x.cells) (hF:=fun w h=>Acts.get h.1 hx) ?_)|refine aC (hc:=eX x.kind) ?_|(refine bN (hc:=hep) (hX:=fun w h=>h) fun v1 X1 h1=>?_;obtain ⟨s1,rfl,hs1⟩:=h1)|(refine bN (hc:=hme) (hX:=fun w h=>⟨h.1,(h.1.1.2 x hxm).1⟩) fun v2 X2 h2=>?_;obtain ⟨s2,rfl,hs2⟩:=h2)|(refine aC (hc:=nd s1 s2 _ _) (hX:=fun w h=>⟨hs1 w h.1.2,hs2 w h.2⟩) ?_)|((fail_if_success (refine bA ?_));refine bj (ht:=?_) (hf:=?_);all_goals (intro hx_;first|have:=aY hx_|have:=aZ hx_|skip))|(refine aO (ht:=?_) (hf:=?_);all_goals (intro hx_;first|have:=aY hx_|have:=aZ hx_|skip)))
 all_goals
  apply aq;apply aB;rfl;rfl
  cases o<;>simp only [*,decide_true,decide_false,cond_true,cond_false,Bool.and_true,Bool.true_and,Bool.and_false,Bool.false_and,Bool.not_true,Bool.not_false,Bool.or_true,Bool.true_or,Bool.or_false,Bool.false_or,Option.isSome_some,Option.isSome_none,Option.map_some,Option.map_none,Option.getD_some,Option.getD_none]<;>simp_all
structure Agree (n:Nat) (l l':List ActD):Prop where
 at_:∀ k,k<n→l[k]?=l'[k]?
 left:n≤l.length
 right:n≤l'.length
theorem Agree.getD {n:Nat} {l l':List ActD} (h:Agree n l l') {k:Nat} (hk:k<n):l.getD k ActD.zero=l'.getD k ActD.zero:=by
 rw [List.getD_eq_getElem?_getD,List.getD_eq_getElem?_getD,h.at_ k hk]
theorem Agree.symm {n:Nat} {l l':List ActD} (h:Agree n l l'):Agree n l' l:=⟨fun k hk=>(h.at_ k hk).symm,h.right,h.left⟩
def rtextV (c:ChainD) (i:Int):Bool:=decide (0≤i)&&(match c.actsL[i.toNat]? with
 | some a=>postK a.kind||decide (a.kind=14)
 | none=>false)
def rmemV (c:ChainD) (i:Int):List ByteArray:=bif wellV c i then (match c.actsL[i.toNat]? with
 | some a=>membersV c i a.scope a.group a.toL
 | none=>[]) else []
def pubV (c:ChainD) (i:Int):Bool:=match c.actsL[i.toNat]? with
 | some a=>decide (a.scope=0)
 | none=>false
def mayV (c:ChainD) (i:Int) (r:ByteArray):Bool:=rtextV c i&&(seqB r c.id||pubV c i||hasS (rmemV c i) r)
theorem mI {c:ChainD} {i:Int} {a:ActD} (h:c.actsL[i.toNat]?=some a):rmemV c i=bif wellV c i then membersV c i a.scope a.group a.toL else []:=by
 rw [rmemV,h]
structure ReadF (c:ChainD) (i:Int) (a:ActD) (l:List ByteArray):Prop where
 asc:Asc l
 own:c.id∈l
 mem:∀ x∈l,x≠c.id→x∈membersV c i a.scope a.group a.toL
 len:l.length=1+(bif wellV c i then (membersV c i a.scope a.group a.toL).length else 0)
theorem nO (sc:Int):(decide (sc=1)||decide (sc=2)||decide (sc=3))=(decide (1≤sc)&&decide (sc≤3)):=by
 rw [Bool.eq_iff_iff]
 simp only [Bool.or_eq_true,Bool.and_eq_true,decide_eq_true_eq]
 omega
theorem xu (c:ChainD) (i:Int):Pu Tryz.prog 134 #[c.v,.int .i64 i] (XC c) (.bool (rtextV c i)):=by
  refine aN (args:=[_,_]) _ Tryz.func134 rfl Tryz.ntmps134 rfl fun av bor w0=>?_
  refine bt XC.know fun ⟨hl,hm,hp,hcap⟩=>?_
  simp only [maxLen] at hm
  by_cases hi:0≤i∧i<c.actsL.length
  · obtain ⟨hi0,hi1⟩:=hi
    have hlt:i.toNat<c.actsL.length:=by omega
    have hp':=hp ag
    obtain ⟨x,hx⟩:∃ x,c.actsL[i.toNat]?=some x:=⟨_,List.getElem?_eq_getElem hlt⟩
    have hT:rtextV c i=(postK x.kind||decide (x.kind=14)):=by
      rw [rtextV,decide_eq_true ag,Bool.true_and,hx]
    repeat' (first|apply ab|apply aj|apply ai|refine ae ?_|refine ac ?_|refine aM ?_|refine aL ?_|refine aJ ?_|refine aH ?_|refine bR ?_|refine bu ?_|refine cF ?_|refine bg ?_|refine aW ?_|refine bI ?_|refine dq ?_|refine aT fun _=>?_|apply aA|(refine bf (q:=i.toNat * 20) ?_)|(refine cT ?_)|(refine bU (q:=i.toNat * 20+3) (u:=.int .i64 x.kind) (hF:=fun w h=>(Acts.get h.1 hx).2.2 3 _ rfl) ?_)|refine aC (hc:=eX x.kind) ?_|((fail_if_success (refine bA ?_));refine bj (ht:=?_) (hf:=?_);all_goals (intro hx_;first|have:=aY hx_|have:=aZ hx_|skip))|fail)
    all_goals first
      | (exfalso;omega)
      | (apply aq;apply aB;rfl;rfl
         simp only [hT, *,decide_true,decide_false,cond_true,cond_false,Bool.and_true,Bool.true_and,Bool.and_false,Bool.false_and,Bool.not_true,Bool.not_false,Bool.or_true,Bool.true_or,Bool.or_false,Bool.false_or])
  · have hT:rtextV c i=false:=by
      rw [rtextV]
      by_cases h0:0≤i
      · rw [List.getElem?_eq_none ag,Bool.and_false]
      · rw [decide_eq_false h0,Bool.false_and]
    repeat' (first|apply ab|apply aj|apply ai|refine ae ?_|refine ac ?_|refine aM ?_|refine aL ?_|refine aJ ?_|refine aH ?_|refine bu ?_|refine cF ?_|refine bg ?_|refine aW ?_|refine dq ?_|refine aT fun _=>?_|apply aA|((fail_if_success (refine bA ?_));refine bj (ht:=?_) (hf:=?_);all_goals (intro hx_;first|have:=aY hx_|have:=aZ hx_))|fail)
    all_goals first
      | (exfalso;omega)
      | (apply aq;apply aB;rfl;rfl
         simp only [hT, *,decide_true,decide_false,cond_true,cond_false,Bool.and_true,Bool.true_and,Bool.and_false,Bool.false_and,Bool.not_true,Bool.not_false,Bool.or_true,Bool.true_or,Bool.or_false,Bool.false_or])
theorem qB {c:ChainD} {i:Int} (h:rtextV c i=true):∃ q x,i=(q:Nat)∧c.actsL[q]?=some x:=by
 simp only [rtextV,Bool.and_eq_true,decide_eq_true_eq] at h
 obtain ⟨q,rfl⟩:=Int.eq_ofNat_of_zero_le h.1
 have h2:=h.2
 rw [Int.toNat_natCast] at h2
 cases hx:c.actsL[q]? with
 | none=>rw [hx] at h2;cases h2
 | some x=>exact ⟨q,x,rfl,hx⟩
theorem tB {c:ChainD} {i:Int} (h:wellV c i=true):∃ q x,i=(q:Nat)∧c.actsL[q]?=some x:=by
 simp only [wellV,Bool.and_eq_true,decide_eq_true_eq] at h
 obtain ⟨q,rfl⟩:=Int.eq_ofNat_of_zero_le h.1
 have h2:=h.2
 rw [Int.toNat_natCast] at h2
 cases hx:c.actsL[q]? with
 | none=>rw [hx] at h2;cases h2
 | some x=>exact ⟨q,x,rfl,hx⟩
theorem oY (c:ChainD) (hc:ActsOk c.actsL) (hcl:c.actsL.length≤1000000) (hto:∀ x∈c.actsL,x.to.n≤1000000) (i:Int):Ct Tryz.prog 136 #[c.v,.int .i64 i] [] (XC c) (fun u R _=>OwnStrs (rmemV c i) u R):=by
 refine dD (args:=[_,_]) (Post:=OwnStrs (rmemV c i)) _ Tryz.func136 rfl Tryz.ntmps136 rfl fun av bor w0=>?_
 refine bt XC.know fun ⟨hl,hm,hp,hcap⟩=>?_
 simp only [maxLen] at hm
 have hwe:=zl c hc hcl hto i
 cases hw:wellV c i with
 | false =>
  rw [hw] at hwe
  refine cf 9 1 ?_
  repeat' (first|apply ab|apply aj|apply ai|refine ae ?_|refine ac ?_|refine aG ?_|refine bE ?_|refine aT fun _=>?_|refine aE ?_|apply aA|(refine aC (hc:=hwe) (hX:=fun w h=>h) ?_)|fail)
  have e:rmemV c i=[]:=by rw [rmemV,hw];rfl
  rw [e]
  exact aq (aB rfl rfl) ⟨_,List.Sublist.cons _ (aQ _),none,0,rfl,rfl⟩
 | true =>
  rw [hw] at hwe
  obtain ⟨q,x,rfl,hx⟩:=tB hw
  have hlt:=(List.getElem?_eq_some_iff.1 hx).1
  have hp':=hp ag
  have hxm:=List.mem_of_getElem? hx
  have h1:=(hc.rng x hxm).to_len
  have h2:=hto x hxm
  have e:rmemV c (q:Nat)=membersV c (q:Nat) x.scope x.group x.toL:=by rw [mI (a:=x) (by rw [Int.toNat_natCast];exact hx),hw];rfl
  rw [e]
  have hme:=lH c hc hcl hto (q:Nat) x.scope x.group x.to x.toL ag
  generalize membersV c (q:Nat) x.scope x.group x.toL=M at *
  repeat' (first|apply ab|apply aj|apply ai|refine ae ?_|refine ac ?_|refine aM ?_|refine aL ?_|refine aG ?_|refine bE ?_|refine aP fun _=>?_|refine aT fun _=>?_|refine aK ?_|refine aD ?_|apply ay|apply aA|(refine aC (hc:=hwe) (hX:=fun w h=>h) ?_)|(refine bf (q:=q*20) ?_)|(refine bD (cs:=x.cells) (hF:=fun w h=>Acts.get h.1 hx) ?_)|(refine nM (hc:=hme) (hX:=fun w h=>⟨h,(h.1.2 x hxm).1⟩) ?_;rintro v R X' ⟨A,c2,rfl,rfl⟩)|fail)
  exact aq (aB rfl rfl) ⟨_,List.Sublist.cons_cons _ (List.nil_sublist _),A,c2,rfl,rfl⟩
theorem ym (c:ChainD) (hc:ActsOk c.actsL) (hcl:c.actsL.length≤1000000) (hto:∀ x∈c.actsL,x.to.n≤1000000) (i:Int) (r:ByteArray):Pu Tryz.prog 80 #[c.v,.int .i64 i,.string r] (XC c) (.bool (mayV c i r)):=by
 refine aN (args:=[_,_,_]) _ Tryz.func80 rfl Tryz.ntmps80 rfl fun av bor w0=>?_
 refine bt XC.know fun ⟨hl,hm,hp,hcap⟩=>?_
 simp only [maxLen] at hm
 have hte:=xu c i
 cases ht:rtextV c i with
 | false =>
  rw [ht] at hte
  repeat' (first|apply ab|apply aj|apply ai|refine ae ?_|refine ac ?_|refine aG ?_|refine bE ?_|refine aT fun _=>?_|refine aE ?_|apply aA|(refine aC (hc:=hte) (hX:=fun w h=>h) ?_)|fail)
  apply aq;apply aB;rfl;rfl
  rw [mayV,ht]
  rfl
 | true =>
  rw [ht] at hte
  obtain ⟨q,x,rfl,hx⟩:=qB ht
  have hlt:=(List.getElem?_eq_some_iff.1 hx).1
  have hp':=hp ag
  have hpb:pubV c (q:Nat)=decide (x.scope=0):=by rw [pubV,Int.toNat_natCast,hx]
  have hM:mayV c (q:Nat) r=(seqB r c.id||decide (x.scope=0)||hasS (rmemV c (q:Nat)) r):=by rw [mayV,ht,hpb];rfl
  rw [hM]
  have hrm:=mX (oY c hc hcl hto (q:Nat))
  generalize rmemV c (q:Nat)=M at *
  repeat' (first|apply ab|apply aj|apply ai|refine ae ?_|refine ac ?_|refine aM ?_|refine aL ?_|refine aG ?_|refine aJ ?_|refine aH ?_|refine bE ?_|refine bR ?_|refine co ?_|refine bI ?_|refine aT fun _=>?_|refine aE ?_|refine aD ?_|apply ay|apply aA|(refine aC (hc:=hte) (hX:=fun w h=>h) ?_)|(refine bf (q:=q*20) ?_)|(refine cT ?_)|(refine bU (q:=q*20+7) (u:=.int .i64 x.scope) (hF:=fun w h=>(Acts.get h.1 hx).2.2 7 _ rfl) ?_)|(refine bN (hc:=hrm) (hX:=fun w h=>h) fun v1 X1 h1=>?_;obtain ⟨s1,rfl,hs1⟩:=h1)|(refine aC (hc:=ec s1 M r) (hX:=fun w h=>hs1 w h.2) ?_)|((fail_if_success (refine bA ?_));refine bj (ht:=?_) (hf:=?_);all_goals (intro hx_;skip))|(refine aO (ht:=?_) (hf:=?_);all_goals (intro hx_;first|have:=aY hx_|have:=aZ hx_)))
  all_goals
   apply aq;apply aB;rfl;rfl
   simp only [*,decide_true,decide_false,cond_true,cond_false,Bool.and_true,Bool.true_and,Bool.and_false,Bool.false_and,Bool.not_true,Bool.not_false,Bool.or_true,Bool.true_or,Bool.or_false,Bool.false_or]
def intV (n:Int):Value:=.int .i64 n
def histV (l:List ChainD) (p:PostD) (r:ByteArray):List Int:=bif p.gone then [] else match findC l p.author with
 | none=>[]
 | some c=>((p.pos:Int)::p.edL).filter fun i=>mayV c i r
structure ChOk (c:ChainD):Prop where
 acts:ActsOk c.actsL
 len:c.actsL.length≤1000000
 to:∀ x∈c.actsL,x.to.n≤1000000
def IntsAt (l:List Int) (u:Value) (X:World→Prop):Prop:=∃ s:SlV,u=s.v∧∀ w,X w→Ints w s l
theorem dN {w:World} {e n c:Nat} {A:Option Addr} {l:List Int} (h:ORow w e 1 (.slice A n c) n (l.map intV)) (hn:n=l.length):Ints w ⟨A,n,c⟩ l:=by
 have e1:(l.map fun n=>[(.int .i64 n:Value)]).flatten=l.map intV:=by
  clear h hn
  induction l with
  | nil=>rfl
  | cons a l ih=>rw [List.map_cons,List.flatten_cons,ih];rfl
 rw [←e1] at h
 exact bJ h (by rw [List.length_map,hn]) fun r hr=>by
  obtain ⟨n,_,rfl⟩:=List.mem_map.1 hr
  rfl
theorem xy {p:PostD} {b:Bool} (h:p.gone=b):p.v=.agg #[.string p.id,.string p.author,.int .i64 (p.pos:Nat),.int .i64 p.kind,.int .i64 p.scope,.string p.group,p.to.v,.string p.object,.int .i64 p.time,p.ed.v,.bool b]:=by rw [PostD.v,PostD.cells,h]
theorem lT {l:List ChainD} {k:ByteArray} {c:ChainD} (h:findC l k=some c):c∈l:=List.mem_of_find?_eq_some h
structure HisI (m:Nat) where
 k:Nat
 hk:k≤m
 A:Option Addr
 c:Nat
theorem gj {α:Type} (f:α→Bool) (a:α) (L:List α) {k:Nat} {x:α} (hx:L[k]?=some x):((a::L).take (k+2)).filter f=((a::L).take (k+1)).filter f++bif f x then [x] else []:=by
 have e:(a::L).take (k+2)=(a::L).take (k+1)++[x]:=by
  rw [List.take_add_one (i:=k+1),List.getElem?_cons_succ,hx];rfl
 rw [e,List.filter_append]
 cases h:f x<;>simp [h]
set_option maxHeartbeats 8000000 in
theorem rf (s:SlV) (l:List ChainD) (p:PostD) (r:ByteArray) (hok:∀ c∈l,ChOk c) (hel:p.edL.length≤1000000) :
  Mk Tryz.prog 38 #[s.v,p.v,.string r] (fun w=>(Chains w s l∧Ints w p.ed p.edL)∧Glob w) (IntsAt (histV l p r)):=by
 refine bL (args:=[_,_,_]) _ Tryz.func38 rfl Tryz.ntmps38 rfl fun av bor w0=>?_
 cases hg:p.gone with
 | true =>
  have e:histV l p r=[]:=by rw [histV,hg];rfl
  rw [e]
  rw [xy hg]
  repeat' (first|apply ab|apply aj|apply ai|refine ac ?_|refine aM ?_|refine aL ?_|refine aT fun _=>?_|refine aE ?_|apply aA|fail)
  all_goals exact aq (aB rfl rfl) ⟨⟨none,0,0⟩,rfl,fun w _=>bz w 1⟩
 | false =>
  refine bt (p:=p.ed.n=p.edL.length∧p.ed.n≤maxLen∧(0<p.edL.length→p.ed.p.isSome=true)) (fun w h=>⟨h.1.2.len_,Nat.le_trans (RowsD.cap h.1.2) (RowsD.max h.1.2),h.1.2.some_⟩) fun ⟨hn,hm,hp⟩=>?_
  simp only [maxLen] at hm
  have hfi:=te s l p.author
  cases hf:findC l p.author with
  | none =>
   rw [hf] at hfi
   replace hfi:Pu Tryz.prog 22 #[s.v,.string p.author] (fun w=>Chains w s l) (.tuple #[ChainD.zero.v,.bool false]):=hfi
   have e:histV l p r=[]:=by rw [histV,hg,hf];rfl
   rw [e]
   clear e
   rw [xy hg]
   repeat' (first|apply ab|apply aj|apply ai|refine ae ?_|refine ac ?_|refine aM ?_|refine aL ?_|refine bE ?_|refine bC ?_|refine aP fun _=>?_|refine aT fun _=>?_|refine aK ?_|refine aE ?_|refine aD ?_|apply ay|apply aA|(refine aC (hc:=hfi) (hX:=fun w h=>h.1.1) ?_)|fail)
   all_goals exact aq (aB rfl rfl) ⟨⟨none,0,0⟩,rfl,fun w _=>bz w 1⟩
  | some c =>
   rw [hf] at hfi
   replace hfi:Pu Tryz.prog 22 #[s.v,.string p.author] (fun w=>Chains w s l) (.tuple #[c.v,.bool true]):=hfi
   have hcm:=lT hf
   have hco:=hok c hcm
   have e:histV l p r=((p.pos:Int)::p.edL).filter fun i=>mayV c i r:=by rw [histV,hg,hf];rfl
   rw [e]
   clear e
   have hmay:=fun i=>ym c hco.acts hco.len hco.to i r
   rw [xy hg]
   refine cf 3 1 ?_
   repeat' (first|apply ab|apply aj|apply ai|refine ae ?_|refine ac ?_|refine aM ?_|refine aL ?_|refine aG ?_|refine bE ?_|refine bC ?_|refine aP fun _=>?_|refine aT fun _=>?_|refine aK ?_|refine aD ?_|apply ay|(refine aC (hc:=hfi) (hX:=fun w h=>h.1.1) ?_)|fail)
   rename_i b1 b2
   generalize hcs:(Value.agg #[.string p.id,.string p.author,.int .i64 (p.pos:Nat),.int .i64 p.kind,.int .i64 p.scope,.string p.group,p.to.v,.string p.object,.int .i64 p.time,p.ed.v,.bool false])=pv
   have hF1:∀ k x,p.edL[k]?=some x→(((p.pos:Int)::p.edL).take (k+1+1)).filter (fun i=>mayV c i r)=(((p.pos:Int)::p.edL).take (k+1)).filter (fun i=>mayV c i r)++bif mayV c x r then [x] else []:=fun k x hx=>gj (fun i=>mayV c i r) _ _ hx
   have hFl:∀ k,((((p.pos:Int)::p.edL).take (k+1)).filter fun i=>mayV c i r).length≤1000001:=fun k=>by
    have h1:=List.length_filter_le (fun i=>mayV c i r) (((p.pos:Int)::p.edL).take (k+1))
    have h2:=List.length_take_le (k+1) ((p.pos:Int)::p.edL)
    have h3:((p.pos:Int)::p.edL).length=p.edL.length+1:=rfl
    have h4:=List.length_take_le' (k+1) ((p.pos:Int)::p.edL)
    omega
   have hFe:(((p.pos:Int)::p.edL).take (p.edL.length+1)).filter (fun i=>mayV c i r)=((p.pos:Int)::p.edL).filter fun i=>mayV c i r:=by rw [List.take_of_length_le (by simp)]
   have hF0:(((p.pos:Int)::p.edL).take (0+1)).filter (fun i=>mayV c i r)=bif mayV c p.pos r then [(p.pos:Int)] else []:=by
    show [(p.pos:Int)].filter _=_
    cases h:mayV c p.pos r<;>simp [h]
   have hd:=hmay p.pos
   generalize hFF:(fun k:Nat=>(((p.pos:Int)::p.edL).take (k+1)).filter fun i=>mayV c i r)=F at *
   have hF:∀ k,(((p.pos:Int)::p.edL).take (k+1)).filter (fun i=>mayV c i r)=F k:=fun k=>congrFun hFF k
   rw [←hFe]
   simp only [hF] at *
   cases h0:mayV c p.pos r
   · rw [h0] at hd hF0
     simp only [cond_true,cond_false] at hF0
     subst hcs
     repeat' (first|apply ab|apply aj|apply ai|refine ae ?_|refine aM ?_|refine aL ?_|refine bg ?_|refine aD ?_|apply ay|apply aw|(refine aC (hc:=hd) (hX:=fun w h=>⟨h.1.1.2 c hcm,h.2⟩) ?_)|fail)
     refine be (ι:=HisI p.edL.length) (fun i=>⟨[(2,.string r),(4,.pointer (some ⟨b1,0,none⟩)),(7,.pointer (some ⟨b2,0,none⟩)),(9,.slice i.A (F i.k).length i.c),(34,p.ed.v),(35,.int .i64 (p.ed.n:Nat)),(36,.int .i64 (i.k:Nat))],[cel b2 31 c.cells,cel b1 84 [.string p.id,.string p.author,.int .i64 (p.pos:Nat),.int .i64 p.kind,.int .i64 p.scope,.string p.group,p.to.v,.string p.object,.int .i64 p.time,p.ed.v,.bool false],orow 3 1 (.slice i.A (F i.k).length i.c) (F i.k).length ((F i.k).map intV)],fun w=>(Chains w s l∧Ints w p.ed p.edL)∧Glob w⟩) (fun i=>p.edL.length-i.k) ⟨0,Nat.zero_le _,none,0⟩ (aF (by simp only [hF0,List.length_nil,List.length_cons];exact ⟨rfl,rfl,rfl,rfl,rfl,rfl,rfl,trivial⟩) (by simp only [hF0,List.length_nil,List.length_cons,List.map_nil,List.map_cons];exact aQ _) fun _ h=>h) fun i=>?_
     have hik:=i.hk
     obtain ⟨k,hk,A,cp⟩:=i
     simp only at hik ⊢
     repeat' (first|apply ab|apply aj|apply ai|refine ae ?_|refine ac ?_|refine bu ?_|apply ay|apply aw|apply aA|apply aV|(refine aO (ht:=?_) (hf:=?_);all_goals (intro hx_;first|have:=aY hx_|have:=aZ hx_)))
     · have hlt:k<p.edL.length:=by omega
       have hp':=hp ag
       obtain ⟨x,hx⟩:∃ x,p.edL[k]?=some x:=⟨_,List.getElem?_eq_getElem hlt⟩
       have hxD:p.edL.getD k 0=x:=by rw [List.getD_eq_getElem?_getD,hx];rfl
       have hfl:=hFl k
       have hst:=hF1 k x hx
       have hdx:=hmay x
       generalize hac:F k=acc at *
       cases hmx:mayV c x r
       · rw [hmx] at hdx hst
         simp only [cond_false,List.append_nil] at hst
         repeat' (first|apply ab|apply aj|apply ai|refine ae ?_|refine ac ?_|refine aG ?_|refine bm (h:=?_)|refine aD ?_|apply ay|(refine bf (q:=k) ?_)|(refine bU (u:=.int .i64 x) (hF:=fun w h=>hxD▸Ints.get h.1.2 hlt) ?_)|(refine aC (hc:=hdx) (hX:=fun w h=>⟨h.1.1.2 c hcm,h.2⟩) ?_)|fail)
         exact ⟨(⟨k+1,hlt,A,cp⟩:HisI p.edL.length),(by show p.edL.length-(k+1)<p.edL.length-k;omega),aF (by simp only [hst];exact ⟨rfl,rfl,rfl,rfl,rfl,rfl,rfl,trivial⟩) (by simp only [hst];exact aQ _) fun _ h=>h⟩
       · rw [hmx] at hdx hst
         simp only [cond_true] at hst
         repeat' (first|apply ab|apply aj|apply ai|refine ae ?_|refine ac ?_|refine aG ?_|refine bm (h:=?_)|refine ca fun _=>?_|refine aE ?_|(refine bf (q:=k) ?_)|(refine bU (u:=.int .i64 x) (hF:=fun w h=>hxD▸Ints.get h.1.2 hlt) ?_)|(refine aC (hc:=hdx) (hX:=fun w h=>⟨h.1.1.2 c hcm,h.2⟩) ?_)|(refine aS (size:=1) (news:=[intV x]) (q:=1) rfl rfl rfl rfl (fun _=>At.there _ (At.there _ (At.there _ (At.here _)))) (fun w G=>bq G aU rfl rfl 1) ag (by simp only [maxLen];omega) rfl ?_ rfl ?_;(with_reducible rfl);intro A2 c2)|fail)
         exact ⟨(⟨k+1,hlt,A2,c2⟩:HisI p.edL.length),(by show p.edL.length-(k+1)<p.edL.length-k;omega),aF (by simp only [hst,List.length_append,List.length_cons,List.length_nil,Nat.zero_add];exact ⟨rfl,rfl,rfl,rfl,rfl,rfl,rfl,trivial⟩) (by simp only [hst,List.length_append,List.length_cons,List.length_nil,Nat.zero_add,List.map_append,List.map_cons,List.map_nil];exact List.Sublist.cons _ (aQ _)) fun _ h=>h⟩
     · have hkE:k=p.edL.length:=by omega
       subst hkE
       exact aq (aB rfl rfl) ⟨⟨A,(F p.edL.length).length,cp⟩,rfl,fun w h=>dN (h.2 (orow 3 1 (.slice A (F p.edL.length).length cp) (F p.edL.length).length ((F p.edL.length).map intV)) (.tail _ (.tail _ (.head _)))) rfl⟩
   · rw [h0] at hd hF0
     simp only [cond_true,cond_false] at hF0
     subst hcs
     repeat' (first|apply ab|apply aj|apply ai|refine ae ?_|refine ac ?_|refine aM ?_|refine aL ?_|refine bg ?_|refine ca fun _=>?_|refine aE ?_|apply aw|(refine aC (hc:=hd) (hX:=fun w h=>⟨h.1.1.2 c hcm,h.2⟩) ?_)|(refine aS (size:=1) (news:=[intV p.pos]) (q:=1) rfl rfl rfl rfl (fun _=>At.there _ (At.there _ (At.there _ (At.here _)))) (fun w G=>bq G aU rfl rfl 1) ag (by simp only [maxLen];omega) rfl ?_ rfl ?_;(with_reducible rfl);intro A2 c2)|fail)
     refine be (ι:=HisI p.edL.length) (fun i=>⟨[(2,.string r),(4,.pointer (some ⟨b1,0,none⟩)),(7,.pointer (some ⟨b2,0,none⟩)),(9,.slice i.A (F i.k).length i.c),(34,p.ed.v),(35,.int .i64 (p.ed.n:Nat)),(36,.int .i64 (i.k:Nat))],[cel b2 31 c.cells,cel b1 84 [.string p.id,.string p.author,.int .i64 (p.pos:Nat),.int .i64 p.kind,.int .i64 p.scope,.string p.group,p.to.v,.string p.object,.int .i64 p.time,p.ed.v,.bool false],orow 3 1 (.slice i.A (F i.k).length i.c) (F i.k).length ((F i.k).map intV)],fun w=>(Chains w s l∧Ints w p.ed p.edL)∧Glob w⟩) (fun i=>p.edL.length-i.k) ⟨0,Nat.zero_le _,A2,c2⟩ (aF (by simp only [hF0,List.length_nil,List.length_cons];exact ⟨rfl,rfl,rfl,rfl,rfl,rfl,rfl,trivial⟩) (by simp only [hF0,List.length_nil,List.length_cons,List.map_nil,List.map_cons];exact List.Sublist.cons _ (aQ _)) fun _ h=>h) fun i=>?_
     have hik:=i.hk
     obtain ⟨k,hk,A,cp⟩:=i
     simp only at hik ⊢
     repeat' (first|apply ab|apply aj|apply ai|refine ae ?_|refine ac ?_|refine bu ?_|apply ay|apply aw|apply aA|apply aV|(refine aO (ht:=?_) (hf:=?_);all_goals (intro hx_;first|have:=aY hx_|have:=aZ hx_)))
     · have hlt:k<p.edL.length:=by omega
       have hp':=hp ag
       obtain ⟨x,hx⟩:∃ x,p.edL[k]?=some x:=⟨_,List.getElem?_eq_getElem hlt⟩
       have hxD:p.edL.getD k 0=x:=by rw [List.getD_eq_getElem?_getD,hx];rfl
       have hfl:=hFl k
       have hst:=hF1 k x hx
       have hdx:=hmay x
       generalize hac:F k=acc at *
       cases hmx:mayV c x r
       · rw [hmx] at hdx hst
         simp only [cond_false,List.append_nil] at hst
         repeat' (first|apply ab|apply aj|apply ai|refine ae ?_|refine ac ?_|refine aG ?_|refine bm (h:=?_)|refine aD ?_|apply ay|(refine bf (q:=k) ?_)|(refine bU (u:=.int .i64 x) (hF:=fun w h=>hxD▸Ints.get h.1.2 hlt) ?_)|(refine aC (hc:=hdx) (hX:=fun w h=>⟨h.1.1.2 c hcm,h.2⟩) ?_)|fail)
         exact ⟨(⟨k+1,hlt,A,cp⟩:HisI p.edL.length),(by show p.edL.length-(k+1)<p.edL.length-k;omega),aF (by simp only [hst];exact ⟨rfl,rfl,rfl,rfl,rfl,rfl,rfl,trivial⟩) (by simp only [hst];exact aQ _) fun _ h=>h⟩
       · rw [hmx] at hdx hst
         simp only [cond_true] at hst
         repeat' (first|apply ab|apply aj|apply ai|refine ae ?_|refine ac ?_|refine aG ?_|refine bm (h:=?_)|refine ca fun _=>?_|refine aE ?_|(refine bf (q:=k) ?_)|(refine bU (u:=.int .i64 x) (hF:=fun w h=>hxD▸Ints.get h.1.2 hlt) ?_)|(refine aC (hc:=hdx) (hX:=fun w h=>⟨h.1.1.2 c hcm,h.2⟩) ?_)|(refine aS (size:=1) (news:=[intV x]) (q:=1) rfl rfl rfl rfl (fun _=>At.there _ (At.there _ (At.there _ (At.here _)))) (fun w G=>bq G aU rfl rfl 1) ag (by simp only [maxLen];omega) rfl ?_ rfl ?_;(with_reducible rfl);intro A2 c2)|fail)
         exact ⟨(⟨k+1,hlt,A2,c2⟩:HisI p.edL.length),(by show p.edL.length-(k+1)<p.edL.length-k;omega),aF (by simp only [hst,List.length_append,List.length_cons,List.length_nil,Nat.zero_add];exact ⟨rfl,rfl,rfl,rfl,rfl,rfl,rfl,trivial⟩) (by simp only [hst,List.length_append,List.length_cons,List.length_nil,Nat.zero_add,List.map_append,List.map_cons,List.map_nil];exact List.Sublist.cons _ (aQ _)) fun _ h=>h⟩
     · have hkE:k=p.edL.length:=by omega
       subst hkE
       exact aq (aB rfl rfl) ⟨⟨A,(F p.edL.length).length,cp⟩,rfl,fun w h=>dN (h.2 (orow 3 1 (.slice A (F p.edL.length).length cp) (F p.edL.length).length ((F p.edL.length).map intV)) (.tail _ (.tail _ (.head _)))) rfl⟩
def lastV (l:List ChainD) (p:PostD) (r:ByteArray):Value:=.tuple #[.int .i64 ((histV l p r).getLast?.getD 0),.bool (histV l p r).getLast?.isSome]
theorem AW (s:SlV) (l:List ChainD) (p:PostD) (r:ByteArray) (hok:∀ c∈l,ChOk c) (hel:p.edL.length≤1000000) :
  Pu Tryz.prog 35 #[s.v,p.v,.string r] (fun w=>(Chains w s l∧Ints w p.ed p.edL)∧Glob w) (lastV l p r):=by
 refine aN (args:=[_,_,_]) _ Tryz.func35 rfl Tryz.ntmps35 rfl fun av bor w0=>?_
 have hh:=rf s l p r hok hel
 rw [lastV]
 generalize histV l p r=H at *
 repeat' (first|apply ab|apply aj|apply ai|refine ae ?_|refine ac ?_|refine aG ?_|refine aT fun _=>?_|fail)
 refine bN (hc:=hh) (hX:=fun w h=>h) fun v1 X1 h1=>?_
 obtain ⟨s1,rfl,hs1⟩:=h1
 refine gD (p:=s1.n=H.length∧s1.n≤maxLen∧(0<H.length→s1.p.isSome=true)) (fun w h=>⟨(hs1 w h.2).len_,Nat.le_trans (RowsD.cap (hs1 w h.2)) (RowsD.max (hs1 w h.2)),(hs1 w h.2).some_⟩) fun ⟨hn,hm,hp⟩=>?_
 simp only [maxLen] at hm
 by_cases h0:H.length=0
 · have e:H=[]:=List.length_eq_zero_iff.1 h0
   subst e
   repeat' (first|refine bM (hab:=by omega) ?_|apply ab|apply aj|apply ai|refine ae ?_|refine ac ?_|refine bg ?_|refine aE ?_|apply aA|fail)
   exact aq (cO rfl rfl rfl) rfl
 · have hlt:H.length-1<H.length:=by omega
   have hp':=hp ag
   have e:H.getLast?=some (H.getD (H.length-1) 0):=by
    rw [List.getLast?_eq_getElem?,List.getD_eq_getElem?_getD,List.getElem?_eq_getElem hlt];rfl
   rw [e]
   repeat' (first|refine bQ (hab:=by omega) ?_|apply ab|apply aj|apply ai|refine ae ?_|refine ac ?_|refine bg ?_|refine cJ (h:=?_)|refine aD ?_|apply ay|apply aA|(refine bf (q:=H.length-1) ?_)|(refine bU (u:=.int .i64 (H.getD (H.length-1) 0)) (hF:=fun w h=>Ints.get (hs1 w h.2) hlt) ?_)|fail)
   exact aq (cO rfl rfl rfl) rfl
structure OwnP (c:ChainD) (p:PostD):Prop where
 author:p.author=c.id
 text:rtextV c (p.pos:Int)=true
 ed:∀ e∈p.edL,rtextV c e=true
section
variable {P:Program} {N:Nat} {av bor:List Nat} {w0:World} {E:Env} {loc:List Res} {X:World→Prop}
theorem ql {k:IntKind} {a b:Int} {st:St} {t t2 ty:TypeId} {x y:Operand} [hI:TyInt P t k] (v:Bool) (hx:ev st.env x=some (.int k a)) (hy:ev st.env y=some (.int k b)) (hv:decide (b<a)=v):Sy.Yields P N av bor w0 st (.binOp .gtr t x y t2) ty (.bool v):=hv▸mo hx hy
theorem B0 {p q:Bool} {st:St} {t t2 ty:TypeId} {x y:Operand} (r:Bool) [hI:TyBool P t] (hx:ev st.env x=some (.bool p)) (hy:ev st.env y=some (.bool q)) (hr:(p != q)=r):Sy.Yields P N av bor w0 st (.binOp .neq t x y t2) ty (.bool r):=hr▸vL hx hy
theorem AF {E':Env} {l':List Res} {r:Res} {X':World→Prop} (he:sub E E') (hl:(r::l').Sublist loc) (hx:∀ w,X w→r.F w→X' w):∀ a w,Ok N av bor w0 ⟨E,loc,X⟩ a w→Ok N av bor w0 ⟨E',l',X'⟩ a w:=fun a w ok=>by
 have h1:=aF (E':=E') (l':=r::l') (X':=X) he hl (fun _ h=>h) a w ok
 exact h1.via fun M G=>(Gam.give G).imp fun w h=>hx w h.1 h.2
end
def accL (vs hs:List Nat):Nat→List Nat
 | 0=>vs
 | i+1=>(accL vs hs i).set i (((accL vs hs i).getD i 0+hs.getD i 0)%4294967296)
theorem qb (vs hs:List Nat):∀ i,(accL vs hs i).length=vs.length
 | 0=>rfl
 | i+1=>by rw [accL,List.length_set,qb vs hs i]
structure RowA (n:Nat) where
 k:Nat
 hk:k≤n
 A:Option Addr
 c:Nat
set_option maxRecDepth 20000 in
set_option maxHeartbeats 8000000 in
theorem qG (sh sb:SlV) (h:S8) (hh:h.Lt) (l:List Nat) (hl:l.length=64) (hb:∀ x∈l,x<256):Mk Tryz.prog 242 #[sh.v,sb.v] (fun w=>U32s w sh h.l∧U8s w sb l) (fun u X'=>∃ s':SlV,u=s'.v∧∀ w,X' w→U32s w s' (mixN h (winN (fW l) 0)).l):=by
 refine bL (args:=[_,_]) _ Tryz.func242 rfl Tryz.ntmps242 rfl fun av bor w0=>?_
 have hwo:=pp sb l hl hb
 refine bt (p:=sh.n=8∧sh.p.isSome=true) (fun w h1=>⟨by rw [gG (f:=fun n=>.int .u32 (n:Int)) h1.1];rfl,fy (f:=fun n=>.int .u32 (n:Int)) h1.1 (by rw [show h.l.length=8 from rfl];omega)⟩) fun ⟨hsn,hsp⟩=>?_
 have hkl:kN.length=64:=by kernel_rfl
 have hwl:(row2 l 48).length=64:=iu l 48
 repeat' (first|refine dY fun _=>?_|apply ab|apply aj|apply ai|refine ae ?_|refine ac ?_|apply aw|(refine bN (hc:=hwo) (hX:=fun w h=>h.2) fun v1 X1 h1=>?_;obtain ⟨sw,rfl,hW⟩:=h1)|(refine bN (hc:=qO) (hX:=fun _ _=>trivial) fun v2 X2 h2=>?_;obtain ⟨sk,rfl,hK⟩:=h2)|(refine aS (size:=1) (news:=u32n h.l) (q:=sh.n) rfl rfl rfl rfl (fun _=>At.here _) (fun w G=>zq G.keep.now.1.1.1) ag (by simp only [maxLen];omega) rfl ?_ rfl ?_;(with_reducible rfl);intro A0 c0)|fail)
 rw [hsn]
 refine bt (p:=(sw.n=64∧sw.p.isSome=true)∧(sk.n=64∧sk.p.isSome=true)) (fun w h1=>⟨⟨by rw [gG (f:=fun n=>.int .u32 (n:Int)) (hW w h1.1.2),hwl],fy (f:=fun n=>.int .u32 (n:Int)) (hW w h1.1.2) ag⟩,⟨by rw [gG (f:=fun n=>.int .u32 (n:Int)) (hK w h1.2),hkl],fy (f:=fun n=>.int .u32 (n:Int)) (hK w h1.2) ag⟩⟩) fun ⟨⟨hwn,hwp⟩,⟨hkn,hkp⟩⟩=>?_
 refine be (ι:=RowA 64) (fun i=>⟨[(0,sh.v),(5,sw.v),(6,sk.v),(7,.slice i.A 8 i.c),(8,.int .i64 (i.k:Nat))],[orow 148 1 (.slice i.A 8 i.c) 8 (u32n (rndN (fW l) h i.k).l)],fun w=>(U32s w sh h.l∧U32s w sw (row2 l 48))∧U32s w sk kN⟩) (fun i=>64-i.k) ⟨0,by omega,A0,c0⟩ (aF ⟨rfl,rfl,rfl,rfl,rfl,trivial⟩ (aQ _) fun w h1=>⟨⟨h1.1.1.1,hW w h1.1.2⟩,hK w h1.2⟩) fun i=>?_
 obtain ⟨k,hk,A,c⟩:=i
 simp only
 refine de aU (fun w h=>cR h ag) fun hAs=>?_
 repeat' (first|apply ab|apply aj|apply ai|refine ae ?_|refine ac ?_|refine bu ?_|apply ay|apply aw|apply aV|(refine aO (ht:=?_) (hf:=?_);all_goals (intro hx_;first|have:=aY hx_|have:=aZ hx_)))
 · have hlt:k<64:=by omega
   have hLt:=xv (fW l) hh k
   obtain ⟨kk,hkk⟩:∃ x,x=kN.getD k 0:=⟨_,rfl⟩
   obtain ⟨ww,hww⟩:∃ x,x=sN (fW l) 48 k:=⟨_,rfl⟩
   have hgk:∀ w,(U32s w sh h.l∧U32s w sw (row2 l 48))∧U32s w sk kN→CellAt w sk.p k (.int .u32 (kk:Int)):=fun w h1=>hkk▸ir (f:=fun n=>.int .u32 (n:Int)) h1.2 ag
   have hgw:∀ w,(U32s w sh h.l∧U32s w sw (row2 l 48))∧U32s w sk kN→CellAt w sw.p k (.int .u32 (ww:Int)):=fun w h1=>by
    have h2:=ir (f:=fun n=>.int .u32 (n:Int)) h1.1.2 (i:=k) ag
    rw [oV l ag,←hww] at h2
    exact h2
   have hnext:rndN (fW l) h (k+1)=roundN (rndN (fW l) h k) kk ww:=by rw [rndN,hkk,hww]
   rw [oW] at hnext
   generalize rndN (fW l) h k=S at *
   obtain ⟨a,b,d,e,f,g,p,q⟩:=S
   obtain ⟨ha,hbb,hd,he,hf,hg,hp,hq⟩:=hLt
   simp only at ha hbb hd he hf hg hp hq hnext
   simp only [S8.l]
   have hn:8=(u32n [a,b,d,e,f,g,p,q]).length:=rfl
   have hg0:(u32n [a,b,d,e,f,g,p,q])[0]?=some (.int .u32 (a:Int)):=rfl
   have hg1:(u32n [a,b,d,e,f,g,p,q])[1]?=some (.int .u32 (b:Int)):=rfl
   have hg2:(u32n [a,b,d,e,f,g,p,q])[2]?=some (.int .u32 (d:Int)):=rfl
   have hg3:(u32n [a,b,d,e,f,g,p,q])[3]?=some (.int .u32 (e:Int)):=rfl
   have hg4:(u32n [a,b,d,e,f,g,p,q])[4]?=some (.int .u32 (f:Int)):=rfl
   have hg5:(u32n [a,b,d,e,f,g,p,q])[5]?=some (.int .u32 (g:Int)):=rfl
   have hg6:(u32n [a,b,d,e,f,g,p,q])[6]?=some (.int .u32 (p:Int)):=rfl
   have hg7:(u32n [a,b,d,e,f,g,p,q])[7]?=some (.int .u32 (q:Int)):=rfl
   have t6:=dm f 6 hf ag ag
   have t11:=dm f 11 hf ag ag
   have t25:=dm f 25 hf ag ag
   have t2:=dm a 2 ha ag ag
   have t13:=dm a 13 ha ag ag
   have t22:=dm a 22 ha ag ag
   have l6:=fj (n:=6) hf ag ag
   have l11:=fj (n:=11) hf ag ag
   have l25:=fj (n:=25) hf ag ag
   have l2:=fj (n:=2) ha ag ag
   have l13:=fj (n:=13) ha ag ag
   have l22:=fj (n:=22) ha ag ag
   have e1:t1N q f g p kk ww=((((q+((rot (2 ^ (32-6)) (2 ^ 6) f ^^^ rot (2 ^ (32-11)) (2 ^ 11) f) ^^^ rot (2 ^ (32-25)) (2 ^ 25) f))%4294967296+((f &&& g) ^^^ ((4294967295 ^^^ f) &&& p)))%4294967296+kk)%4294967296+ww)%4294967296:=rfl
   have e2:t2N a b d=(((rot (2 ^ (32-2)) (2 ^ 2) a ^^^ rot (2 ^ (32-13)) (2 ^ 13) a) ^^^ rot (2 ^ (32-22)) (2 ^ 22) a)+(((a &&& b) ^^^ (a &&& d)) ^^^ (b &&& d)))%4294967296:=rfl
   rw [e1,e2] at hnext
   clear e1 e2
   generalize rot (2 ^ (32-6)) (2 ^ 6) f=r6 at *
   generalize rot (2 ^ (32-11)) (2 ^ 11) f=r11 at *
   generalize rot (2 ^ (32-25)) (2 ^ 25) f=r25 at *
   generalize rot (2 ^ (32-2)) (2 ^ 2) a=r2 at *
   generalize rot (2 ^ (32-13)) (2 ^ 13) a=r13 at *
   generalize rot (2 ^ (32-22)) (2 ^ 22) a=r22 at *
   have x1:=Nat.xor_lt_two_pow (n:=32) l6 l11
   have x3:=Nat.xor_lt_two_pow (n:=32) l2 l13
   have x5:f &&& g<4294967296:=Nat.lt_of_le_of_lt Nat.and_le_left hf
   have x6:4294967295 ^^^ f<4294967296:=Nat.xor_lt_two_pow (n:=32) (by decide) hf
   have x7:(4294967295 ^^^ f) &&& p<4294967296:=Nat.lt_of_le_of_lt Nat.and_le_left x6
   have x8:a &&& b<4294967296:=Nat.lt_of_le_of_lt Nat.and_le_left ha
   have x9:a &&& d<4294967296:=Nat.lt_of_le_of_lt Nat.and_le_left ha
   have x10:b &&& d<4294967296:=Nat.lt_of_le_of_lt Nat.and_le_left hbb
   have x11:(a &&& b) ^^^ (a &&& d)<4294967296:=Nat.xor_lt_two_pow (n:=32) x8 x9
   (refine bo [orow 148 1 (.slice A 8 c) 8 (u32n [a,b,d,e,f,g,p,q])] (fun w=>(U32s w sh h.l∧U32s w sw (row2 l 48))∧U32s w sk kN) ar ?_)
   all_goals refine aa 0 ?_
   all_goals (refine aa 1 (hy:=by (apply bp (q:=4);rfl;rfl;omega;omega;assumption;omega)) ?_)
   all_goals (refine aa 2 (hy:=by (apply cY;rfl;exact aU;exact hn;exact hg4)) ?_)
   all_goals refine aa 4 ?_
   all_goals (refine aa 5 (hy:=by (apply bp (q:=4);rfl;rfl;omega;omega;assumption;omega)) ?_)
   all_goals (refine aa 6 (hy:=by (apply cY;rfl;exact aU;exact hn;exact hg4)) ?_)
   all_goals refine aa 9 ?_
   all_goals (refine aa 10 (hy:=by (apply bp (q:=4);rfl;rfl;omega;omega;assumption;omega)) ?_)
   all_goals (refine aa 11 (hy:=by (apply cY;rfl;exact aU;exact hn;exact hg4)) ?_)
   all_goals (refine ao 3 ?_;(refine aC (hc:=t6) (hX:=fun _ _=>trivial) ?_);apply ab;refine ak ?_)
   all_goals (refine ao 7 ?_;(refine aC (hc:=t11) (hX:=fun _ _=>trivial) ?_);apply ab;refine ak ?_)
   all_goals (refine aa 8 (hy:=by (apply gg;rfl;rfl;assumption;assumption)) ?_)
   all_goals (refine ao 12 ?_;(refine aC (hc:=t25) (hX:=fun _ _=>trivial) ?_);apply ab;refine ak ?_)
   all_goals (refine aa 13 (hy:=by (apply gg;rfl;rfl;assumption;assumption)) ?_)
   all_goals refine aa 14 ?_
   all_goals (refine aI ?_)
   apply aj
   (refine bo [orow 148 1 (.slice A 8 c) 8 (u32n [a,b,d,e,f,g,p,q])] (fun w=>(U32s w sh h.l∧U32s w sw (row2 l 48))∧U32s w sk kN) ar ?_)
   all_goals refine aa 0 ?_
   all_goals (refine aa 1 (hy:=by (apply bp (q:=7);rfl;rfl;omega;omega;assumption;omega)) ?_)
   all_goals (refine aa 2 (hy:=by (apply cY;rfl;exact aU;exact hn;exact hg7)) ?_)
   all_goals refine aa 3 ?_
   all_goals (refine aa 4 (hy:=by (apply d8;rfl;rfl)) ?_)
   all_goals refine aa 5 ?_
   all_goals (refine aa 6 (hy:=by (apply bp (q:=4);rfl;rfl;omega;omega;assumption;omega)) ?_)
   all_goals (refine aa 7 (hy:=by (apply cY;rfl;exact aU;exact hn;exact hg4)) ?_)
   all_goals refine aa 8 ?_
   all_goals (refine aa 9 (hy:=by (apply bp (q:=5);rfl;rfl;omega;omega;assumption;omega)) ?_)
   all_goals (refine aa 10 (hy:=by (apply cY;rfl;exact aU;exact hn;exact hg5)) ?_)
   all_goals (refine aa 11 (hy:=by (apply kr;rfl;rfl;assumption;assumption)) ?_)
   all_goals refine aa 12 ?_
   all_goals (refine aa 13 (hy:=by (apply bp (q:=4);rfl;rfl;omega;omega;assumption;omega)) ?_)
   all_goals (refine aa 14 (hy:=by (apply cY;rfl;exact aU;exact hn;exact hg4)) ?_)
   all_goals (refine aa 15 (hy:=by (apply BV;rfl;assumption)) ?_)
   all_goals refine aa 16 ?_
   all_goals (refine aa 17 (hy:=by (apply bp (q:=6);rfl;rfl;omega;omega;assumption;omega)) ?_)
   all_goals (refine aa 18 (hy:=by (apply cY;rfl;exact aU;exact hn;exact hg6)) ?_)
   all_goals (refine aa 19 (hy:=by (apply kr;rfl;rfl;assumption;assumption)) ?_)
   all_goals (refine aa 20 (hy:=by (apply gg;rfl;rfl;assumption;assumption)) ?_)
   all_goals (refine aa 21 (hy:=by (apply d8;rfl;rfl)) ?_)
   all_goals refine aa 22 ?_
   all_goals refine aa 23 ?_
   all_goals (refine aa 24 (hy:=by (apply bp (q:=k);rfl;rfl;omega;omega;assumption;omega)) ?_)
   all_goals (refine aa 25 (hy:=by (apply cC (q:=k) (u:=.int .u32 (kk:Int));rfl;exact hgk)) ?_)
   all_goals (refine aa 26 (hy:=by (apply d8;rfl;rfl)) ?_)
   all_goals refine aa 27 ?_
   all_goals refine aa 28 ?_
   all_goals (refine aa 29 (hy:=by (apply bp (q:=k);rfl;rfl;omega;omega;assumption;omega)) ?_)
   all_goals (refine aa 30 (hy:=by (apply cC (q:=k) (u:=.int .u32 (ww:Int));rfl;exact hgw)) ?_)
   all_goals (refine aa 31 (hy:=by (apply d8;rfl;rfl)) ?_)
   all_goals refine aa 32 ?_
   all_goals (refine aI ?_)
   apply aj
   (refine bo [orow 148 1 (.slice A 8 c) 8 (u32n [a,b,d,e,f,g,p,q])] (fun w=>(U32s w sh h.l∧U32s w sw (row2 l 48))∧U32s w sk kN) ar ?_)
   all_goals refine aa 0 ?_
   all_goals (refine aa 1 (hy:=by (apply bp (q:=0);rfl;rfl;omega;omega;assumption;omega)) ?_)
   all_goals (refine aa 2 (hy:=by (apply cY;rfl;exact aU;exact hn;exact hg0)) ?_)
   all_goals refine aa 4 ?_
   all_goals (refine aa 5 (hy:=by (apply bp (q:=0);rfl;rfl;omega;omega;assumption;omega)) ?_)
   all_goals (refine aa 6 (hy:=by (apply cY;rfl;exact aU;exact hn;exact hg0)) ?_)
   all_goals refine aa 9 ?_
   all_goals (refine aa 10 (hy:=by (apply bp (q:=0);rfl;rfl;omega;omega;assumption;omega)) ?_)
   all_goals (refine aa 11 (hy:=by (apply cY;rfl;exact aU;exact hn;exact hg0)) ?_)
   all_goals (refine ao 3 ?_;(refine aC (hc:=t2) (hX:=fun _ _=>trivial) ?_);apply ab;refine ak ?_)
   all_goals (refine ao 7 ?_;(refine aC (hc:=t13) (hX:=fun _ _=>trivial) ?_);apply ab;refine ak ?_)
   all_goals (refine aa 8 (hy:=by (apply gg;rfl;rfl;assumption;assumption)) ?_)
   all_goals (refine ao 12 ?_;(refine aC (hc:=t22) (hX:=fun _ _=>trivial) ?_);apply ab;refine ak ?_)
   all_goals (refine aa 13 (hy:=by (apply gg;rfl;rfl;assumption;assumption)) ?_)
   all_goals refine aa 14 ?_
   all_goals (refine aI ?_)
   apply aj
   (refine bo [orow 148 1 (.slice A 8 c) 8 (u32n [a,b,d,e,f,g,p,q])] (fun w=>(U32s w sh h.l∧U32s w sw (row2 l 48))∧U32s w sk kN) ar ?_)
   all_goals refine aa 0 ?_
   all_goals refine aa 1 ?_
   all_goals (refine aa 2 (hy:=by (apply bp (q:=0);rfl;rfl;omega;omega;assumption;omega)) ?_)
   all_goals (refine aa 3 (hy:=by (apply cY;rfl;exact aU;exact hn;exact hg0)) ?_)
   all_goals refine aa 4 ?_
   all_goals (refine aa 5 (hy:=by (apply bp (q:=1);rfl;rfl;omega;omega;assumption;omega)) ?_)
   all_goals (refine aa 6 (hy:=by (apply cY;rfl;exact aU;exact hn;exact hg1)) ?_)
   all_goals (refine aa 7 (hy:=by (apply kr;rfl;rfl;assumption;assumption)) ?_)
   all_goals refine aa 8 ?_
   all_goals (refine aa 9 (hy:=by (apply bp (q:=0);rfl;rfl;omega;omega;assumption;omega)) ?_)
   all_goals (refine aa 10 (hy:=by (apply cY;rfl;exact aU;exact hn;exact hg0)) ?_)
   all_goals refine aa 11 ?_
   all_goals (refine aa 12 (hy:=by (apply bp (q:=2);rfl;rfl;omega;omega;assumption;omega)) ?_)
   all_goals (refine aa 13 (hy:=by (apply cY;rfl;exact aU;exact hn;exact hg2)) ?_)
   all_goals (refine aa 14 (hy:=by (apply kr;rfl;rfl;assumption;assumption)) ?_)
   all_goals (refine aa 15 (hy:=by (apply gg;rfl;rfl;assumption;assumption)) ?_)
   all_goals refine aa 16 ?_
   all_goals (refine aa 17 (hy:=by (apply bp (q:=1);rfl;rfl;omega;omega;assumption;omega)) ?_)
   all_goals (refine aa 18 (hy:=by (apply cY;rfl;exact aU;exact hn;exact hg1)) ?_)
   all_goals refine aa 19 ?_
   all_goals (refine aa 20 (hy:=by (apply bp (q:=2);rfl;rfl;omega;omega;assumption;omega)) ?_)
   all_goals (refine aa 21 (hy:=by (apply cY;rfl;exact aU;exact hn;exact hg2)) ?_)
   all_goals (refine aa 22 (hy:=by (apply kr;rfl;rfl;assumption;assumption)) ?_)
   all_goals (refine aa 23 (hy:=by (apply gg;rfl;rfl;assumption;assumption)) ?_)
   all_goals (refine aa 24 (hy:=by (apply d8;rfl;rfl)) ?_)
   all_goals refine aa 25 ?_
   all_goals (refine aI ?_)
   obtain ⟨one,h1⟩:∃ x,x=((((q+((r6 ^^^ r11) ^^^ r25))%4294967296+((f &&& g) ^^^ ((4294967295 ^^^ f) &&& p)))%4294967296+kk)%4294967296+ww)%4294967296:=⟨_,rfl⟩
   obtain ⟨two,h2⟩:∃ x,x=(((r2 ^^^ r13) ^^^ r22)+(((a &&& b) ^^^ (a &&& d)) ^^^ (b &&& d)))%4294967296:=⟨_,rfl⟩
   rw [←h1,←h2] at hnext
   rw [←h1,←h2]
   (refine bo [orow 148 1 (.slice A 8 c) 8 (u32n [a,b,d,e,f,g,p,q])] (fun w=>(U32s w sh h.l∧U32s w sw (row2 l 48))∧U32s w sk kN) ar ?_)
   all_goals refine aa 0 ?_
   all_goals refine aa 1 ?_
   all_goals (refine aa 2 (hy:=by (apply d8;rfl;rfl)) ?_)
   all_goals refine aa 3 ?_
   all_goals (refine aa 4 (hy:=by (apply bp (q:=0);rfl;rfl;omega;omega;assumption;omega)) ?_)
   all_goals (refine aa 5 (hy:=by (apply cY;rfl;exact aU;exact hn;exact hg0)) ?_)
   all_goals refine aa 6 ?_
   all_goals (refine aa 7 (hy:=by (apply bp (q:=1);rfl;rfl;omega;omega;assumption;omega)) ?_)
   all_goals (refine aa 8 (hy:=by (apply cY;rfl;exact aU;exact hn;exact hg1)) ?_)
   all_goals refine aa 9 ?_
   all_goals (refine aa 10 (hy:=by (apply bp (q:=2);rfl;rfl;omega;omega;assumption;omega)) ?_)
   all_goals (refine aa 11 (hy:=by (apply cY;rfl;exact aU;exact hn;exact hg2)) ?_)
   all_goals refine aa 12 ?_
   all_goals (refine aa 13 (hy:=by (apply bp (q:=3);rfl;rfl;omega;omega;assumption;omega)) ?_)
   all_goals (refine aa 14 (hy:=by (apply cY;rfl;exact aU;exact hn;exact hg3)) ?_)
   all_goals refine aa 15 ?_
   all_goals (refine aa 16 (hy:=by (apply d8;rfl;rfl)) ?_)
   all_goals refine aa 17 ?_
   all_goals (refine aa 18 (hy:=by (apply bp (q:=4);rfl;rfl;omega;omega;assumption;omega)) ?_)
   all_goals (refine aa 19 (hy:=by (apply cY;rfl;exact aU;exact hn;exact hg4)) ?_)
   all_goals refine aa 20 ?_
   all_goals (refine aa 21 (hy:=by (apply bp (q:=5);rfl;rfl;omega;omega;assumption;omega)) ?_)
   all_goals (refine aa 22 (hy:=by (apply cY;rfl;exact aU;exact hn;exact hg5)) ?_)
   all_goals refine aa 23 ?_
   all_goals (refine aa 24 (hy:=by (apply bp (q:=6);rfl;rfl;omega;omega;assumption;omega)) ?_)
   all_goals (refine aa 25 (hy:=by (apply cY;rfl;exact aU;exact hn;exact hg6)) ?_)
   all_goals (refine ao 26 ?_;(refine ca (vs:=u32n [(one+two)%4294967296,a,b,d,(e+one)%4294967296,f,g,p]) fun bb=>?_;refine nK 1 8 rfl (by decide) ?_);apply ab;refine ak ?_)
   all_goals refine aa 27 ?_
   all_goals (refine aI ?_)
   repeat' (first|apply ab|apply ai|refine ae ?_|refine ac ?_|refine bm (h:=?_)|fail)
   exact ⟨(⟨k+1,hlt,some ⟨bb,0,none⟩,8⟩:RowA 64),(by show 64-(k+1)<64-k;omega),aF ⟨rfl,rfl,rfl,rfl,rfl,trivial⟩ (by rw [hnext];exact .cons_cons _ (List.nil_sublist _)) fun _ h=>h⟩
 · obtain rfl:k=64:=by omega
   have hmix:=Di h (winN (fW l) 0)
   rw [qC] at hmix
   generalize rndN (fW l) h 64=S at *
   refine be (ι:=RowA 8) (fun i=>⟨[(0,sh.v),(7,.slice A 8 c),(13,.int .i64 (i.k:Nat))],[orow 148 1 (.slice A 8 c) 8 (u32n (accL S.l h.l i.k))],fun w=>U32s w sh h.l⟩) (fun i=>8-i.k) ⟨0,by omega,A,c⟩ (aF ⟨rfl,rfl,rfl,trivial⟩ (aQ _) fun _ h=>h.1.1) fun i=>?_
   obtain ⟨k,hk,_,_⟩:=i
   simp only
   have hlen:(accL S.l h.l k).length=8:=qb _ _ k
   repeat' (first|apply ab|apply aj|apply ai|refine ae ?_|refine ac ?_|refine bu ?_|apply ay|apply aw|apply aA|apply aV|(refine aO (ht:=?_) (hf:=?_);all_goals (intro hx_;first|have:=aY hx_|have:=aZ hx_)))
   · have hlt:k<8:=by omega
     have hn:8=(u32n (accL S.l h.l k)).length:=by rw [oF,hlen]
     obtain ⟨v,hv⟩:∃ v,v=(accL S.l h.l k).getD k 0:=⟨_,rfl⟩
     obtain ⟨u,hu⟩:∃ u,u=h.l.getD k 0:=⟨_,rfl⟩
     have hg:(u32n (accL S.l h.l k))[k]?=some (.int .u32 (v:Int)):=by rw [oG ag,hv]
     have hget:∀ w,U32s w sh h.l→CellAt w sh.p k (.int .u32 (u:Int)):=fun w h1=>hu▸ir (f:=fun n=>.int .u32 (n:Int)) h1 (by rw [show h.l.length=8 from rfl];exact hlt)
     have hacc:accL S.l h.l (k+1)=(accL S.l h.l k).set k ((v+u)%4294967296):=by rw [accL,hv,hu]
     have hset:=vW (accL S.l h.l k) (i:=k) (v:=(v+u)%4294967296) ag
     rw [←hacc] at hset
     (refine bo [] (fun w=>U32s w sh h.l) ar ?_)
     all_goals refine aa 0 ?_
     all_goals refine aa 1 ?_
     all_goals refine aa 2 ?_
     all_goals refine aa 3 ?_
     all_goals (refine aa 4 (hy:=by (apply bp (q:=k);rfl;rfl;omega;omega;assumption;omega)) ?_)
     all_goals refine aa 6 ?_
     all_goals refine aa 7 ?_
     all_goals (refine aa 8 (hy:=by (apply bp (q:=k);rfl;rfl;omega;omega;assumption;omega)) ?_)
     all_goals (refine aa 9 (hy:=by (apply cC (q:=k) (u:=.int .u32 (u:Int));rfl;exact hget)) ?_)
     all_goals (refine ao 5 ?_;(refine ax (cY rfl aU hn hg) rfl aR rfl ?_);apply ab;refine ak ?_)
     all_goals (refine aa 10 (hy:=by (apply d8;rfl;rfl)) ?_)
     all_goals (refine aa 11 (hy:=by (apply bp (q:=k);rfl;rfl;omega;omega;assumption;omega)) ?_)
     all_goals (refine ao 12 ?_;(refine xd (A:=A) (m:=8) (c:=c) (e:=148) (size:=1) (i:=k) (xs:=u32n (accL S.l h.l k)) (xs':=u32n (accL S.l h.l (k+1))) (vs:=[.int .u32 (((v+u)%4294967296:Nat):Int)]) (v:=.int .u32 (((v+u)%4294967296:Nat):Int)) ar (by rw [Nat.mul_one];rfl) rfl rfl rfl rfl hlt hset (At.here _) rfl aR rfl ?_);apply ab;refine ak ?_)
     all_goals (refine aI ?_)
     repeat' (first|apply ab|apply ai|refine ae ?_|refine ac ?_|refine bm (h:=?_)|fail)
     exact ⟨(⟨k+1,hlt,A,c⟩:RowA 8),(by show 8-(k+1)<8-k;omega),aF ⟨rfl,rfl,rfl,trivial⟩ (aQ _) fun _ h=>h⟩
   · obtain rfl:k=8:=by omega
     have he:accL S.l h.l 8=(mixN h (winN (fW l) 0)).l:=by
      rw [hmix]
      obtain ⟨a,b,d,e,f,g,p,q⟩:=S
      obtain ⟨a',b',d',e',f',g',p',q'⟩:=h
      simp only [accL,S8.l,List.set_cons_zero,List.set_cons_succ,List.getD_cons_zero,List.getD_cons_succ,List.cons.injEq,and_true,Nat.add_comm]
     rw [he]
     exact aq (aB rfl rfl) ⟨⟨A,8,c⟩,rfl,fun w h1=>U32s.of_row (h1.2 (orow 148 1 (.slice A 8 c) 8 (u32n (mixN h (winN (fW l) 0)).l)) aU) rfl⟩
theorem B4 (l:List Nat):u8s (l.map fun (n:Nat)=>(n:Int))=l.map fun (n:Nat)=>(.int .u8 (n:Int):Value):=by simp [u8s]
theorem U8s.of_row {w:World} {e n c:Nat} {A:Option Addr} {l:List Nat} (h:ORow w e 1 (.slice A n c) n (u8s (l.map fun (n:Nat)=>(n:Int)))) (hn:n=l.length):U8s w ⟨A,n,c⟩ l:=by
 have e1:(l.map fun (n:Nat)=>[(.int .u8 (n:Int):Value)]).flatten=u8s (l.map fun (n:Nat)=>(n:Int)):=by
  rw [B4]
  clear h hn
  induction l with
  | nil=>rfl
  | cons a l ih=>rw [List.map_cons,List.flatten_cons,ih];rfl
 rw [←e1] at h
 exact bJ h (by rw [List.length_map,hn]) fun r hr=>by
  obtain ⟨n,_,rfl⟩:=List.mem_map.1 hr
  rfl
theorem U8s.part {w:World} {s:SlV} {l:List Nat} (h:U8s w s l) {i n:Nat} (hi:i+n≤l.length):U8s w ⟨(s.from 1 i).p,n,s.c-i⟩ ((l.drop i).take n):=by
 have h1:=RowsD.drop h (n:=i) (by rw [List.length_map];omega)
 rw [←List.map_drop] at h1
 have h2:=RowsD.take h1 (n:=n) (by rw [List.length_map,List.length_drop];omega)
 rw [←List.map_take] at h2
 exact h2
def padI (s:ByteArray):List Int:=endL s++List.replicate (padN (s.size+1)) 0++sizeB s.size 8
theorem AB (s:ByteArray) (hs:s.size<2305843009213693952):padI s=(padL (nl s)).map fun (n:Nat)=>(n:Int):=by
 rw [padI,endL,ju,padL,cU,oP s.size hs]
 simp
theorem Cm (l:List Nat) (h:∀ x∈l,x<256):∀ x∈padL l,x<256:=fun x hx=>by
 rw [padL] at hx
 rcases List.mem_append.1 hx with hx|hx
 · exact h x hx
 · rcases List.mem_cons.1 hx with rfl|hx
   · omega
   · rcases List.mem_append.1 hx with hx|hx
     · rw [(List.mem_replicate.1 hx).2];omega
     · rw [sizeN] at hx
       simp only [List.mem_cons,List.not_mem_nil,or_false] at hx
       rcases hx with rfl|rfl|rfl|rfl|rfl|rfl|rfl|rfl<;>exact Nat.mod_lt _ ag
theorem sI (l:List Nat):(padL l).length=l.length+1+padN (l.length+1)+8:=by
 rw [padL]
 simp [sizeN]
 omega
theorem qR (l:List Nat):(padL l).length%64=0:=by
 rw [sI,padN]
 omega
section
variable {P:Program} {N:Nat} {av bor:List Nat} {w0:World} {st:St} {ty:TypeId} {x y z:Operand} {t t2:TypeId} {a b:Nat}
theorem vM (hx:ev st.env x=some (.int .i64 (a:Int))) (hy:ev st.env y=some (.int .i64 (b:Int))) (hc:a+b<9223372036854775808):Sy.Yields P N av bor w0 st (.binOp .add t x y t2) ty (.int .i64 ((a+b:Nat):Int)) :=
 mq hx hy (by rw [←Int.natCast_add];exact IntWalk.i64_in _ ag)
theorem BS {e size b':Nat} [hI:TySl P t e size b'] {s:SlV} {i n:Nat} (hx:ev st.env x=some s.v) (hy:ev st.env y=some (.int .i64 (i:Int))) (hz:ev st.env z=some (.int .i64 ((i+n:Nat):Int))) (h2:i+n≤s.c) :
  Sy.Yields P N av bor w0 st (.slice t x (some y) (some z) none) ty (⟨(s.from size i).p,n,s.c-i⟩:SlV).v:=by
 have h:=zd (P:=P) (N:=N) (av:=av) (bor:=bor) (w0:=w0) (st:=st) (ty:=ty) (t:=t) (size:=size) hx hy hz ag ag ag
 have e1:((i:Nat):Int).toNat=i:=rfl
 have e2:((i+n:Nat):Int).toNat-i=n:=by omega
 rw [e1,e2] at h
 exact h
end
def outB (S:S8) (i:Nat):Nat:=(S.l.getD (i/4) 0/2 ^ (24-8*(i%4)))%256
theorem Bs (S:S8):digN S=(List.range 32).map (outB S):=by
 obtain ⟨a,b,c,d,e,f,g,h⟩:=S
 simp [digN,d4N,outB,S8.l,List.range,List.range.loop]
structure ShaI (L:List Nat) (m:Nat) where
 k:Nat
 hk:k≤m
 s:SlV
 S:S8
 lt:S.Lt
 run:runN (m-k) S (L.drop (64*k))=runN m iniN L
set_option maxRecDepth 20000 in
set_option maxHeartbeats 8000000 in
theorem uT (s:ByteArray) (hs:s.size≤1099511627776):Pu Tryz.prog 146 #[.string s] (fun _=>True) (.string (shaV s)):=by
 refine aN (args:=[_]) _ Tryz.func146 rfl Tryz.ntmps146 rfl fun av bor w0=>?_
 repeat' (first|apply ab|apply aj|apply ai|refine ae ?_|refine ac ?_|refine ca fun _=>?_|(refine qt fun A c=>?_))
 refine aS (size:=1) (z:=.int .u8 0) (news:=u8s [128]) (q:=1) rfl rfl rfl rfl (fun _=>At.there _ (At.here _)) (fun w G=>bq G aU rfl rfl 1) ?_ ?_ rfl ?_ rfl ?_
 · omega
 · simp only [maxLen];omega
 · rfl
 intro A1 c1
 repeat' (first|apply ab|apply aj|refine ac ?_|apply aw|fail)
 have hel:=lV s
 refine be (ι:=EndS (padN (s.size+1))) (fun i=>⟨[(0,.string s),(3,.slice i.A (s.size+1+i.k) i.c)],[orow 5 1 (.slice i.A (s.size+1+i.k) i.c) (s.size+1+i.k) (u8s (endL s++List.replicate i.k 0))],fun _=>True⟩) (fun i=>padN (s.size+1)-i.k) ⟨0,Nat.zero_le _,A1,c1⟩ (aF ⟨rfl,rfl,trivial⟩ ?_ fun _ h=>h) fun i=>?_
 · refine List.Sublist.cons _ ?_
   rw [←cK]
   simp only [List.replicate_zero,List.append_nil]
   exact aQ _
 have hik:=i.hk
 have hp:padN (s.size+1)<64:=Nat.mod_lt _ ag
 have hp2:padN (s.size+1)=(120-(s.size+1)%64)%64:=rfl
 have htm:Int.tmod ((s.size+1+i.k:Nat):Int) 64=(((s.size+1+i.k)%64:Nat):Int):=Int.ofNat_tmod _ _
 repeat' (first|apply aj|apply ai|refine ae ?_|refine bg ?_|fail)
 refine gl (hc:=htm) ?_
 repeat' (first|apply ab|apply aj|apply ai|refine ae ?_|refine ac ?_|refine cZ ?_|refine cr ?_|refine ca fun _=>?_|apply ay|apply aw|apply aV|refine dw (h:=?_)|refine dH (h:=?_)|(refine aO (ht:=?_) (hf:=?_);all_goals (intro hx_;skip)))
 · have hlt:i.k<padN (s.size+1):=by
    have h1:¬ (((s.size+1+i.k)%64:Nat):Int)=56:=by simpa using hx_
    omega
   refine aS (size:=1) (z:=.int .u8 0) (news:=u8s [0]) (q:=1) rfl rfl rfl rfl (fun _=>At.there _ (At.here _)) (fun w G=>bq G aU rfl rfl 1) ?_ ?_ rfl ?_ rfl ?_
   · omega
   · simp only [maxLen];omega
   · rfl
   intro A2 c2
   repeat' (first|apply ab|refine ac ?_|fail)
   refine ⟨(⟨i.k+1,hlt,A2,c2⟩:EndS (padN (s.size+1))),(by show padN (s.size+1)-(i.k+1)<padN (s.size+1)-i.k;omega),aF ⟨rfl,rfl,trivial⟩ ?_ fun _ h=>h⟩
   refine List.Sublist.cons _ ?_
   rw [←cK]
   simp only [List.replicate_succ',List.append_assoc]
   exact aQ _
 have hk:i.k=padN (s.size+1):=by
  have h1:(((s.size+1+i.k)%64:Nat):Int)=56:=by simpa using hx_
  omega
 have hl1:(endL s++List.replicate (padN (s.size+1)) 0:List Int).length=s.size+1+padN (s.size+1):=by simp [hel]
 rw [hk]
 have hpad:=AB s ag
 have hplen:(padL (nl s)).length=s.size+1+padN (s.size+1)+8:=by rw [sI,cU]
 rw [padI] at hpad
 have h8:IntKind.u64.wrap (8*IntKind.u64.wrap (s.size:Int))=IntKind.u64.wrap (IntKind.u64.wrap (s.size:Int)*8):=by rw [Int.mul_comm]
 rw [h8]
 generalize hL:(endL s++List.replicate (padN (s.size+1)) 0:List Int)=L0 at *
 refine be (ι:=EndS 8) (fun j=>⟨[(3,.slice j.A (s.size+1+padN (s.size+1)+j.k) j.c),(4,.int .u64 (IntKind.u64.wrap (IntKind.u64.wrap (s.size:Int)*8))),(5,.int .i64 (56-8*(j.k:Int)))],[orow 5 1 (.slice j.A (s.size+1+padN (s.size+1)+j.k) j.c) (s.size+1+padN (s.size+1)+j.k) (u8s (L0++sizeB s.size j.k))],fun _=>True⟩) (fun j=>8-j.k) ⟨0,Nat.zero_le _,i.A,i.c⟩ (aF ⟨rfl,rfl,rfl,trivial⟩ ?_ fun _ h=>h) fun j=>?_
 · have e:sizeB (s.size:Int) 0=[]:=rfl
   simp only [e,List.append_nil]
   exact aQ _
 have hjk:=j.hk
 repeat' (first|apply ab|apply aj|apply ai|refine ae ?_|refine cL ?_|refine ca fun _=>?_|apply ay|apply aw|apply aV|refine eI (h:=?_)|refine dH (h:=?_)|(refine aO (ht:=?_) (hf:=?_);all_goals (intro hx_;first|have:=aY hx_|have:=aZ hx_)))
 · have hlt:j.k<8:=by omega
   refine aS (size:=1) (z:=.int .u8 0) (news:=u8s [IntKind.u8.wrap (shrV .u64 (IntKind.u64.wrap (IntKind.u64.wrap (s.size:Int)*8)) (56-8*(j.k:Int)))]) (q:=1) rfl rfl rfl rfl (fun _=>At.there _ (At.here _)) (fun w G=>bq G aU rfl rfl 1) ?_ ?_ rfl ?_ rfl ?_
   · omega
   · simp only [maxLen];omega
   · rfl
   intro A2 c2
   repeat' (first|apply ab|apply ai|refine ae ?_|refine ac ?_|refine cJ (h:=?_)|fail)
   refine ⟨(⟨j.k+1,hlt,A2,c2⟩:EndS 8),(by show 8-(j.k+1)<8-j.k;omega),aF ⟨rfl,rfl,?_,trivial⟩ ?_ fun _ h=>h⟩
   · show some (Value.int .i64 (56-8*(j.k:Int)-8))=some (Value.int .i64 (56-8*((j.k+1:Nat):Int)))
     congr 2
     omega
   refine List.Sublist.cons _ ?_
   rw [←cK]
   have e:sizeB (s.size:Int) (j.k+1)=sizeB s.size j.k++[IntKind.u8.wrap (shrV .u64 (IntKind.u64.wrap (IntKind.u64.wrap (s.size:Int)*8)) (56-8*(j.k:Int)))]:=by simp [sizeB,List.range_succ]
   simp only [e,List.append_assoc]
   exact aQ _
 have hj8:j.k=8:=by omega
 rw [hj8,hpad]
 obtain ⟨sp,hsp⟩:∃ sp:SlV,sp=⟨j.A,s.size+1+padN (s.size+1)+8,j.c⟩:=⟨_,rfl⟩
 have hLt:=Cm (nl s) (jL s)
 have hLm:=qR (nl s)
 have hsha:=nN s ag
 rw [shaL] at hsha
 obtain ⟨L,hLL⟩:∃ L,L=padL (nl s):=⟨_,rfl⟩
 rw [←hLL] at hplen hLt hLm hsha
 obtain ⟨m,hm⟩:∃ m,m=L.length/64:=⟨_,rfl⟩
 rw [←hm] at hsha
 have hL64:L.length=64*m:=by omega
 refine dX ?_
 repeat' (first|apply ab|apply aj|apply ai|refine ac ?_|apply aw|(refine bN (hc:=nR) (hX:=fun _ _=>trivial) fun v1 X1 h1=>?_;obtain ⟨sh0,rfl,hw0⟩:=h1)|fail)
 have hspD:∀ w,(True∧(orow 5 1 (.slice j.A (s.size+1+padN (s.size+1)+8) j.c) (s.size+1+padN (s.size+1)+8) (u8s ((padL (nl s)).map fun (n:Nat)=>(n:Int)))).F w)→U8s w sp L:=fun w h=>by
  rw [hsp,hLL]
  exact U8s.of_row h.2 (by rw [←hLL];exact hplen.symm)
 have hp0:0<L.length:=by omega
 refine bt (p:=sp.c≥L.length∧sp.p.isSome=true) (fun w h=>⟨by
  have h1:=RowsD.cap (hspD w h.1)
  have h2:=gG (f:=fun n=>.int .u8 (n:Int)) (hspD w h.1)
  omega,fy (f:=fun n=>.int .u8 (n:Int)) (hspD w h.1) hp0⟩) fun ⟨hsc,hspp⟩=>?_
 have hspn:sp.n=L.length:=by rw [hsp,hplen]
 have hspv:sp.v=.slice j.A (s.size+1+padN (s.size+1)+8) j.c:=by rw [hsp];rfl
 refine be (ι:=ShaI L m) (fun i=>⟨[(3,sp.v),(6,i.s.v),(7,.int .i64 ((64*i.k:Nat):Int))],[],fun w=>U8s w sp L∧U32s w i.s i.S.l⟩) (fun i=>m-i.k) ⟨0,Nat.zero_le _,sh0,iniN,Cz,by rw [Nat.mul_zero,List.drop_zero,Nat.sub_zero]⟩ (aF ⟨by rw [hspv];rfl,rfl,rfl,trivial⟩ (aQ _) fun w h=>⟨hspD w h.1,hw0 w h.2⟩) fun i=>?_
 obtain ⟨k,hk2,sh,S,hSl,hrun⟩:=i
 simp only
 repeat' (first|refine ax (vM (b:=64) rfl rfl ag) rfl aR rfl ?_|apply ab|apply aj|apply ai|refine ae ?_|refine ac ?_|refine bu ?_|refine bg ?_|apply ay|apply aw|apply aV|(refine aO (ht:=?_) (hf:=?_);all_goals (intro hx_;first|have:=aY hx_|have:=aZ hx_)))
 · have hlt:k<m:=by omega
   have hdl:(L.drop (64*k)).length=64*(m-k):=by rw [List.length_drop];omega
   have hpl:((L.drop (64*k)).take 64).length=64:=by rw [List.length_take];omega
   have hpb:∀ x∈(L.drop (64*k)).take 64,x<256:=fun x hx=>hLt x (List.mem_of_mem_drop (List.mem_of_mem_take hx))
   have hne:=qG sh ⟨(sp.from 1 (64*k)).p,64,sp.c-64*k⟩ S hSl _ hpl hpb
   have hcg:winN (fW ((L.drop (64*k)).take 64)) 0=winN (fW (L.drop (64*k))) 0:=kw fun t ht=>ti t ht
   rw [hcg] at hne
   have hrun2:runN (m-(k+1)) (mixN S (winN (fW (L.drop (64*k))) 0)) (L.drop (64*(k+1)))=runN m iniN L:=by
    have e1:m-k=(m-(k+1))+1:=by omega
    rw [e1,fx ag,List.drop_drop] at hrun
    rw [show 64*(k+1)=64*k+64 from by omega]
    exact hrun
   repeat' (first|refine ax (vM (b:=64) rfl rfl ag) rfl aR rfl ?_|apply ab|apply ai|refine ae ?_|refine ac ?_|(refine ax (BS (size:=1) rfl rfl rfl ag) rfl aR rfl ?_)|(refine bN (hc:=hne) (hX:=fun w h=>⟨h.2,U8s.part h.1 ag⟩) fun v2 X2 h2=>?_;obtain ⟨s2,rfl,hw2⟩:=h2)|fail)
   exact ⟨(⟨k+1,hlt,s2,_,Cx _ _,hrun2⟩:ShaI L m),(by show m-(k+1)<m-k;omega),aF ⟨rfl,rfl,rfl,trivial⟩ (aQ _) fun w h=>⟨h.1.1,hw2 w h.2⟩⟩
 · obtain rfl:k=m:=by omega
   rw [Nat.sub_self] at hrun
   have hS:S=runN k iniN L:=hrun
   rw [←hS,Bs] at hsha
   refine bt (p:=sh.n=8∧sh.p.isSome=true) (fun w h1=>⟨by rw [gG (f:=fun n=>.int .u32 (n:Int)) h1.2];rfl,fy (f:=fun n=>.int .u32 (n:Int)) h1.2 (by rw [show S.l.length=8 from rfl];omega)⟩) fun ⟨hsn,hshp⟩=>?_
   refine cf 5 1 ?_
   refine be (ι:=RowA 32) (fun i=>⟨[(6,sh.v),(8,.slice i.A i.k i.c),(9,.int .i64 (i.k:Nat))],[orow 5 1 (.slice i.A i.k i.c) i.k (u8s (((List.range i.k).map (outB S)).map fun (n:Nat)=>(n:Int)))],fun w=>U32s w sh S.l⟩) (fun i=>32-i.k) ⟨0,by omega,none,0⟩ (aF ⟨rfl,rfl,rfl,trivial⟩ (.cons_cons _ (List.nil_sublist _)) fun _ h=>h.2) fun i=>?_
   obtain ⟨k2,hk3,A3,c3⟩:=i
   simp only
   clear hspD hrun hLt hLm hplen
   repeat' (first|apply ab|apply aj|apply ai|refine ae ?_|refine bu ?_|apply ay|apply aw|apply aV|(refine aO (ht:=?_) (hf:=?_);all_goals (intro hx_;first|have:=aY hx_|have:=aZ hx_)))
   · have hlt:k2<32:=by omega
     obtain ⟨q,hq⟩:∃ q,q=k2/4:=⟨_,rfl⟩
     obtain ⟨r,hr⟩:∃ r,r=k2%4:=⟨_,rfl⟩
     have h1:IntKind.i64.wrap ((k2:Int).tdiv 4)=(q:Int):=by
      rw [show (k2:Int).tdiv 4=((k2/4:Nat):Int) from Int.ofNat_tdiv _ _,←hq]
      exact IntWalk.i64_in _ ag
     have h2:(k2:Int).tmod 4=(r:Int):=by rw [show (k2:Int).tmod 4=((k2%4:Nat):Int) from Int.ofNat_tmod _ _,←hr]
     obtain ⟨u,hu⟩:∃ u,u=24-8*r:=⟨_,rfl⟩
     have h3:IntKind.i64.wrap (24-((8*r:Nat):Int))=(u:Int):=by
      rw [show 24-((8*r:Nat):Int)=(u:Int) from by omega]
      exact IntWalk.i64_in _ ag
     obtain ⟨x,hx⟩:∃ x,x=S.l.getD q 0:=⟨_,rfl⟩
     have hx2:x<4294967296:=by
      obtain ⟨a,b,c,d,e,f,g,h⟩:=S
      obtain ⟨ha,hb,hc,hd,he,hf,hg,hh⟩:=hSl
      simp only at ha hb hc hd he hf hg hh
      have:q<8:=by omega
      rw [hx]
      have hq8:q=0∨q=1∨q=2∨q=3∨q=4∨q=5∨q=6∨q=7:=by omega
      rcases hq8 with h|h|h|h|h|h|h|h<;>rw [h]<;>assumption
     have hg:∀ w,U32s w sh S.l→CellAt w sh.p q (.int .u32 (x:Int)):=fun w h=>hx▸ir (f:=fun n=>.int .u32 (n:Int)) h (by rw [show S.l.length=8 from rfl];omega)
     have hpw:(2:Int) ^ (min ((u:Int)).toNat 32)=((2 ^ u:Nat):Int):=by
      rw [Int.toNat_natCast,Nat.min_eq_left (by omega)]
      simp
     have h8w:IntKind.u8.wrap ((x/2 ^ u:Nat):Int)=((outB S k2:Nat):Int):=by rw [wrap8,outB,←hq,←hr,←hu,←hx]
     have hrow:(List.range (k2+1)).map (outB S)=(List.range k2).map (outB S)++[outB S k2]:=by rw [List.range_succ,List.map_append];rfl
     have hou:outB S k2<256:=Nat.mod_lt _ ag
     generalize outB S k2=ob at *
     repeat' (first|refine ax (oB (c:=(q:Int)) rfl rfl (by decide) h1) rfl aR rfl ?_|refine ax (oA (c:=(r:Int)) rfl rfl (by decide) h2) rfl aR rfl ?_|refine ax (ko (a:=8) (b:=r) rfl rfl ag) rfl aR rfl ?_|refine ax (oz (c:=(u:Int)) rfl rfl h3) rfl aR rfl ?_|refine ax (qf (p:=2 ^ u) rfl rfl ag hx2 hpw) rfl aR rfl ?_|refine ax (jw rfl h8w) rfl aR rfl ?_|apply ab|apply ai|refine ae ?_|refine ac ?_|refine bm (h:=?_)|refine ca fun _=>?_|(refine bf (q:=q) ?_)|(refine bU (q:=q) (u:=.int .u32 (x:Int)) (hF:=hg) ?_)|(refine aS (size:=1) (z:=.int .u8 0) (news:=u8s [(ob:Int)]) (q:=1) rfl rfl rfl rfl (fun _=>At.there _ (At.here _)) (fun w G=>bq G aU rfl rfl 1) ag (by simp only [maxLen];omega) rfl ?_ rfl ?_;(with_reducible rfl);intro A4 c4)|fail)
     exact ⟨(⟨k2+1,hlt,A4,c4⟩:RowA 32),(by show 32-(k2+1)<32-k2;omega),aF ⟨rfl,rfl,rfl,trivial⟩ (by rw [hrow,List.map_append,cK];exact .cons _ (aQ _)) fun _ h=>h⟩
   · obtain rfl:k2=32:=by omega
     rw [←hsha]
     refine gS (hm:=aU) ?_
     repeat' (first|apply ab|refine ac ?_|apply aA|fail)
     refine aq (aB rfl rfl) ?_
     rw [←ju,fo]
theorem yD (s:ByteArray) {i:Nat} (h:i<s.size):(((s.get! i).toNat:Nat):Int)=byteAt s i:=by
 have hs:i<s.data.size:=h
 rw [byteAt,List.getD_eq_getElem?_getD,Array.getElem?_toList,Array.getElem?_eq_getElem hs]
 show (((s.data[i]!).toNat:Nat):Int)=_
 rw [getElem!_pos s.data i hs]
 rfl
theorem Bt {s:ByteArray} {i:Nat} (h:(s.get! i).toNat<128):Utf8.decode s i=((s.get! i).toNat,1):=by
 unfold Utf8.decode
 simp only [Nat.add_zero,h,if_true]
theorem yP {s:ByteArray} {i:Nat} (h:¬ (s.get! i).toNat<128):128≤(Utf8.decode s i).1:=by
 unfold Utf8.decode
 simp only [Nat.add_zero,h,if_false]
 repeat' split
 all_goals first
  | (simp only [Utf8.runeError];omega)
  | (simp_all;done)
  | (simp only [ge_iff_le] at *;omega)
  | (simp only [ge_iff_le,Bool.and_eq_true,decide_eq_true_eq] at *;omega)
theorem jy {bad:Nat→Int→Bool} {s:ByteArray} (hb:∀ q c,128≤c→bad q c=true):∀ f q,s.size≤f+q→runes bad s f q=(List.range' q (s.size-q)).all fun k=>!bad k (byteAt s k)
 | 0,q,h=>by
  rw [runes,show s.size-q=0 from by omega]
  rfl
 | f+1,q,h=>by
  rw [runes]
  by_cases hq:q<s.size
  · rw [decide_eq_true hq,cond_true]
    have e:s.size-q=(s.size-(q+1))+1:=by omega
    rw [e,List.range'_succ,List.all_cons]
    have hg:=yD s hq
    by_cases hl:(s.get! q).toNat<128
    · rw [Bt hl]
      simp only
      rw [hg]
      cases hbq:bad q (byteAt s q) with
      | true=>rfl
      | false =>
       rw [cond_false,jy hb f (q+1) (by omega)]
       rfl
    · have h1:=hb q _ (show (128:Int)≤((Utf8.decode s q).1:Int) by have:=yP hl;omega)
      have h2:=hb q (byteAt s q) (by rw [←hg];omega)
      rw [h1,h2]
      rfl
  · rw [decide_eq_false hq,show s.size-q=0 from by omega]
    rfl
theorem mG {bad:Nat→Int→Bool} {s:ByteArray} (hb:∀ q c,128≤c→bad q c=true):runes bad s s.size 0=allB s.size fun k=>bad k (byteAt s k):=by
 rw [jy hb s.size 0 ag,allB,List.range_eq_range']
 rfl
def inB (c l h:Int):Bool:=decide (l≤c)&&decide (c≤h)
theorem iw (c l h:Int):Pu Tryz.prog 315 #[.int .u8 c,.int .u8 l,.int .u8 h] (fun _=>True) (.bool (inB c l h)):=by
 refine aN (args:=[_,_,_]) _ Tryz.func315 rfl Tryz.ntmps315 rfl fun av bor w0=>?_
 repeat' (first|apply ab|apply aj|apply ai|refine ae ?_|refine ac ?_|refine aJ ?_|refine aH ?_|refine cF ?_|refine cL ?_|refine aW ?_|refine bI ?_|refine dq ?_|refine aE ?_|refine aD ?_|apply ay|apply aw|apply aA|apply aV|refine fP ?_|refine fM ?_|((fail_if_success (refine bA ?_));refine bj (ht:=?_) (hf:=?_);all_goals (intro hx_;first|have:=aY hx_|have:=aZ hx_|skip))|(refine aO (ht:=?_) (hf:=?_);all_goals (intro hx_;first|have:=aY hx_|have:=aZ hx_|skip)))
 (all_goals (apply aq;apply aB;rfl;rfl));all_goals first|rfl|(simp only [inB, *,decide_true,decide_false,cond_true,cond_false,Bool.and_true,Bool.true_and,Bool.and_false,Bool.false_and,Bool.not_true,Bool.not_false,Bool.or_true,Bool.true_or,Bool.or_false,Bool.false_or];done)|(simp_all [inB];done)
def badIdR (s:ByteArray) (k:Nat):Bool:=!inB (byteAt s k) 48 57&&!inB (byteAt s k) 97 102
theorem yV (s:ByteArray) (k:Nat):badId k (byteAt s k)=badIdR s k:=by
 simp only [badId,badIdR,dig,inB]
 congr 1
 rw [Bool.not_and,←decide_not,←decide_not]
 congr 1<;>exact decide_eq_decide.2 ag
theorem AY (s:ByteArray):isId s=(allB s.size (badIdR s)&&decide ((s.size:Int)=16)):=by
 rw [isId,mG (fun q c h=>by simp only [badId,dig];simp;omega),Bool.and_comm]
 congr 2
 exact funext fun k=>yV s k
theorem lu (s:ByteArray) (hs:s.size≤maxLen):Pu Tryz.prog 278 #[.string s] (fun _=>True) (.bool (isId s)):=by
 refine aN (args:=[_]) _ Tryz.func278 rfl Tryz.ntmps278 rfl fun av bor w0=>?_
 simp only [maxLen] at hs
 rw [AY]
 repeat' (first|apply ab|apply aj|apply ai|refine ae ?_|refine ac ?_|refine aJ ?_|refine aH ?_|refine bE ?_|refine bR ?_|refine bu ?_|refine co ?_|refine cr ?_|refine bg ?_|refine bm (h:=?_)|refine aW ?_|refine bI ?_|refine dq ?_|refine aE ?_|refine aD ?_|apply ay|apply aw|apply aA|apply aV|refine sy_beql (h:=?_)|refine fP ?_|refine fM ?_)
 refine be (ι:=Upto s.size (badIdR s)) (fun i=>⟨[(0,.string s),(3,.int .i64 (i.k:Nat))],[],fun w=>True⟩) (fun i=>s.size-i.k) (Upto.zero _ _) (aF ⟨rfl,rfl,trivial⟩ (aQ _) fun _ h=>h) fun i=>?_
 have hik:=i.hk
 have e1:((i.k:Nat):Int).toNat=i.k:=rfl
 have hc1:=iw (byteAt s i.k) 48 57
 have hc2:=iw (byteAt s i.k) 97 102
 repeat' (first|apply ab|apply aj|apply ai|refine ae ?_|refine ac ?_|refine aJ ?_|refine aH ?_|refine bE ?_|refine bR ?_|refine bu ?_|refine co ?_|refine cr ?_|refine bg ?_|refine bm (h:=?_)|refine aW ?_|refine bI ?_|refine dq ?_|refine aE ?_|refine aD ?_|apply ay|apply aw|apply aA|apply aV|refine sy_beql (h:=?_)|refine fP ?_|refine fM ?_|(refine aC (hc:=hc1) ?_)|(refine aC (hc:=hc2) ?_)|((fail_if_success (refine bA ?_));refine bj (ht:=?_) (hf:=?_);all_goals (intro hx_;first|have:=aY hx_|have:=aZ hx_|skip))|(refine aO (ht:=?_) (hf:=?_);all_goals (intro hx_;first|have:=aY hx_|have:=aZ hx_|skip)))
 all_goals first
  | (refine aq (aB rfl rfl) ?_;rw [dB (k:=i.k) ag (by simp only [badIdR, *,decide_true,decide_false,cond_true,cond_false,Bool.and_true,Bool.true_and,Bool.and_false,Bool.false_and,Bool.not_true,Bool.not_false,Bool.or_true,Bool.true_or,Bool.or_false,Bool.false_or]),Bool.false_and])
  | exact ⟨i.next ag (by simp only [badIdR, *,decide_true,decide_false,cond_true,cond_false,Bool.and_true,Bool.true_and,Bool.and_false,Bool.false_and,Bool.not_true,Bool.not_false,Bool.or_true,Bool.true_or,Bool.or_false,Bool.false_or]),(by show s.size-(i.k+1)<s.size-i.k;omega),aF ⟨rfl,rfl,trivial⟩ (aQ _) fun _ h=>h⟩
  | (refine aq (aB rfl rfl) ?_;rw [i.all ag,Bool.true_and])
def badNameR (s:ByteArray) (k:Nat):Bool:=!inB (byteAt s k) 97 122&&(decide ((k:Int)=0)||!inB (byteAt s k) 48 57&&!decide (byteAt s k=95))
theorem va (s:ByteArray):isName s=(allB s.size (badNameR s)&&(decide (1≤(s.size:Int))&&decide ((s.size:Int)≤24))):=by
 rw [isName,mG (fun q c h=>by simp only [badName,dig];simp;omega),da,Bool.and_comm]
 congr 1
 rw [←decide_not,←decide_not]
 congr 1<;>exact decide_eq_decide.2 ag
theorem gV (s:ByteArray) (hs:s.size≤maxLen):Pu Tryz.prog 317 #[.string s] (fun _=>True) (.bool (isName s)):=by
 refine aN (args:=[_]) _ Tryz.func317 rfl Tryz.ntmps317 rfl fun av bor w0=>?_
 simp only [maxLen] at hs
 rw [va]
 repeat' (first|apply ab|apply aj|apply ai|refine ae ?_|refine ac ?_|refine aJ ?_|refine aH ?_|refine bE ?_|refine bR ?_|refine cZ ?_|refine bu ?_|refine cF ?_|refine cL ?_|refine co ?_|refine dp ?_|refine cr ?_|refine bg ?_|refine bm (h:=?_)|refine aW ?_|refine bI ?_|refine dq ?_|refine aE ?_|refine aD ?_|apply ay|apply aw|apply aA|apply aV|refine sy_beql (h:=?_)|refine fO ?_|refine fP ?_|refine fM ?_)
 refine be (ι:=Upto s.size (badNameR s)) (fun i=>⟨[(0,.string s),(3,.int .i64 (i.k:Nat))],[],fun w=>True⟩) (fun i=>s.size-i.k) (Upto.zero _ _) (aF ⟨rfl,rfl,trivial⟩ (aQ _) fun _ h=>h) fun i=>?_
 have hik:=i.hk
 have e1:((i.k:Nat):Int).toNat=i.k:=rfl
 have hc1:=iw (byteAt s i.k) 97 122
 have hc2:=iw (byteAt s i.k) 48 57
 by_cases hlt:i.k<s.size
 · repeat' (first|apply ab|apply aj|apply ai|refine ae ?_|refine ac ?_|refine aJ ?_|refine aH ?_|refine bE ?_|refine bR ?_|refine cZ ?_|refine bu ?_|refine cF ?_|refine cL ?_|refine co ?_|refine dp ?_|refine cr ?_|refine bg ?_|refine bm (h:=?_)|refine aW ?_|refine bI ?_|refine dq ?_|refine aE ?_|refine aD ?_|apply ay|apply aw|apply aA|apply aV|refine sy_beql (h:=?_)|refine fO ?_|refine fP ?_|refine fM ?_|(refine aC (hc:=hc1) ?_)|(refine aC (hc:=hc2) ?_)|((fail_if_success (refine bA ?_));refine bj (ht:=?_) (hf:=?_);all_goals (intro hx_;first|have:=aY hx_|have:=aZ hx_|skip))|(refine aO (ht:=?_) (hf:=?_);all_goals (intro hx_;first|have:=aY hx_|have:=aZ hx_|skip)))
   all_goals simp only [Int.toNat_natCast] at *
   all_goals first
    | (exfalso;omega)
    | (refine aq (aB rfl rfl) ?_;rw [dB (k:=i.k) ag (by simp only [badNameR, *,decide_true,decide_false,cond_true,cond_false,Bool.and_true,Bool.true_and,Bool.and_false,Bool.false_and,Bool.not_true,Bool.not_false,Bool.or_true,Bool.true_or,Bool.or_false,Bool.false_or]),Bool.false_and])
    | exact ⟨i.next ag (by simp only [badNameR, *,decide_true,decide_false,cond_true,cond_false,Bool.and_true,Bool.true_and,Bool.and_false,Bool.false_and,Bool.not_true,Bool.not_false,Bool.or_true,Bool.true_or,Bool.or_false,Bool.false_or]),(by show s.size-(i.k+1)<s.size-i.k;omega),aF ⟨rfl,rfl,trivial⟩ (aQ _) fun _ h=>h⟩
    | skip
 · rw [i.all hlt,Bool.true_and]
   repeat' (first|apply ab|apply aj|apply ai|refine ae ?_|refine ac ?_|refine aJ ?_|refine aH ?_|refine bE ?_|refine bR ?_|refine cZ ?_|refine bu ?_|refine cF ?_|refine cL ?_|refine co ?_|refine dp ?_|refine cr ?_|refine bg ?_|refine bm (h:=?_)|refine aW ?_|refine bI ?_|refine dq ?_|refine aE ?_|refine aD ?_|apply ay|apply aw|apply aA|apply aV|refine sy_beql (h:=?_)|refine fO ?_|refine fP ?_|refine fM ?_|((fail_if_success (refine bA ?_));refine bj (ht:=?_) (hf:=?_);all_goals (intro hx_;first|have:=aY hx_|have:=aZ hx_|skip))|(refine aO (ht:=?_) (hf:=?_);all_goals (intro hx_;first|have:=aY hx_|have:=aZ hx_|skip)))
   all_goals first
    | (exfalso;omega)
    | (refine aq (aB rfl rfl) ?_;simp only [*,decide_true,decide_false,cond_true,cond_false,Bool.and_true,Bool.true_and,Bool.and_false,Bool.false_and,Bool.not_true,Bool.not_false,Bool.or_true,Bool.true_or,Bool.or_false,Bool.false_or];done)
end Go.Proofs.YtfnjklhjngphmaaGreatDoor
