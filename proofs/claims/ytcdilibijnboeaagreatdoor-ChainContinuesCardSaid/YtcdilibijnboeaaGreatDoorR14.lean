/- Joined by program out of: Yi Yj Yo Yp Jh Ye Oh Oi Yf Yk Yl Ym Yn Yq Po. -/
import Derived.Test.YtcdilibijnboeaaGreatDoorR13
import Derived.Test.YtcdilibijnboeaaGreatDoorCards
import Derived.Test.YtcdilibijnboeaaGreatDoorTie
import Derived.WalkKit
import Derived.ProofKit
import Derived.Deep.DeepHandedRow
import Derived.Lib.LaidTab
set_option linter.unusedVariables false
set_option linter.unusedSimpArgs false
namespace Go.Proofs.YtcdilibijnboeaaGreatDoor
open Go Go.Proofs Sy
theorem zl {a b:ByteArray} (h:gtB a b=true):ltB b a=true:=by
 rw [gtB,Bool.not_eq_true',Bool.or_eq_false_iff] at h
 cases hh:ltB b a with
 | true=>rfl
 | false =>
  have:=nC (a:=a) (b:=b) h.1 hh
  rw [this,bN] at h
  exact absurd h.2 (by decide)
theorem v7 {a b:ByteArray} (h:gtB a b=false) (hn:a≠b):ltB a b=true:=by
 rw [gtB,Bool.not_eq_false',Bool.or_eq_true] at h
 rcases h with h|h
 · exact h
 · exact absurd (seqB_iff.1 h) hn
theorem nU (dI:ItemD→ByteArray) (it:ItemD) (I:List ItemD):(addV dI it I).Perm (it::I):=by
 rw [addV]
 refine List.perm_middle.trans ?_
 rw [List.take_append_drop]
theorem kn (dI:ItemD→ByteArray) {it:ItemD} (I:List ItemD) {q:ItemD→Bool} (h:q it=false):(addV dI it I).filter q=I.filter q:=by
 rw [addV,List.filter_append,List.filter_cons_of_neg (by rw [h];decide),←List.filter_append,List.take_append_drop]
theorem zT (dI:ItemD→ByteArray) (it:ItemD) (I:List ItemD) (h:Asc (I.map dI)) (hn:∀ x∈I,dI x≠dI it):Asc ((addV dI it I).map dI):=by
 obtain ⟨p,hp⟩:∃ p,addAt dI (dI it) I I.length=p:=⟨_,rfl⟩
 have hlow:∀ (j:Nat) (x:ItemD),j<p→I[j]?=some x→ltB (dI x) (dI it)=true:=fun j x hj hx=>by
  refine v7 ?_ (hn x (List.mem_of_getElem? hx))
  rw [addAt,List.take_length] at hp
  obtain ⟨hlt,e⟩:=List.getElem?_eq_some_iff.1 hx
  cases hf:I.findIdx? fun x=>gtB (dI x) (dI it) with
  | none =>
   have:=List.findIdx?_eq_none_iff.1 hf x (List.mem_of_getElem? hx)
   exact this
  | some q =>
   rw [hf] at hp
   obtain ⟨h1,h2,h3⟩:=List.findIdx?_eq_some_iff_getElem.1 hf
   have:=h3 j (by rw [Option.getD_some] at hp;omega)
   rw [e] at this
   simpa using this
 have hhigh:∀ (j:Nat) (x:ItemD),p≤j→I[j]?=some x→ltB (dI it) (dI x)=true:=fun j x hj hx=>by
  rw [addAt,List.take_length] at hp
  obtain ⟨hlt,e⟩:=List.getElem?_eq_some_iff.1 hx
  cases hf:I.findIdx? fun x=>gtB (dI x) (dI it) with
  | none =>
   rw [hf,Option.getD_none] at hp
   omega
  | some q =>
   rw [hf,Option.getD_some] at hp
   subst hp
   obtain ⟨h1,h2,h3⟩:=List.findIdx?_eq_some_iff_getElem.1 hf
   have h4:=zl h2
   rcases Nat.lt_or_eq_of_le hj with h5|h5
   · exact fY h4 (kK h h5 (by rw [List.getElem?_map,Zm h1];rfl) (by rw [List.getElem?_map,hx];rfl))
   · subst h5
     rw [e] at h4
     exact h4
 rw [addV,hp,Qn,Qt]
 refine List.pairwise_append.2 ⟨kJ h ((List.take_sublist _ _).map dI),List.pairwise_cons.2 ⟨fun y hy=>?_,kJ h ((List.drop_sublist _ _).map dI)⟩,fun x hx y hy=>?_⟩
 · obtain ⟨z,hz,rfl⟩:=List.mem_map.1 hy
   obtain ⟨j,hj⟩:=List.mem_iff_getElem?.1 hz
   rw [List.getElem?_drop] at hj
   exact hhigh _ z ae hj
 · obtain ⟨z,hz,rfl⟩:=List.mem_map.1 hx
   obtain ⟨j,hj⟩:=List.mem_iff_getElem?.1 hz
   rw [List.getElem?_take] at hj
   split at hj
   · rename_i hjp
     have h1:=hlow j z hjp hj
     rcases List.mem_cons.1 hy with rfl|hy
     · exact h1
     · obtain ⟨u,hu,rfl⟩:=List.mem_map.1 hy
       obtain ⟨k,hk⟩:=List.mem_iff_getElem?.1 hu
       rw [List.getElem?_drop] at hk
       exact fY h1 (hhigh _ u ae hk)
   · cases hj
theorem mB {L:List Int} {I:List ItemD} {it:ItemD} (h:canAdd L I it=true):signedIt L it=true∧rightIt it=true∧∀ x∈I,digIt x≠digIt it:=by
 rw [canAdd,ZM,Bool.not_eq_true'] at h
 refine ⟨h.1,?_,fun x hx e=>?_⟩
 · have h1:=h.1
   rw [signedIt,ZM] at h1
   exact h1.1
 · rw [List.any_eq_true.2 ⟨x,hx,seqB_iff.2 e⟩] at h
   exact absurd h.2 (by decide)
theorem za {L:List Int} {I:List ItemD} (h:KnR L I) {it:ItemD} (hit:it.act.Rng) (hsm:it.act.Sm) (hdn:it.dec.to.n=it.dec.toL.length) (hl:I.length<100):KnR L (addK L I it):=by
 rw [addK]
 cases hc:canAdd L I it with
 | false=>exact h
 | true =>
  obtain ⟨h1,h2,h3⟩:=mB hc
  have hp:=nU digIt it I
  have hm:∀ i∈addV digIt it I,i=it∨i∈I:=fun i hi=>List.mem_cons.1 (hp.subset hi)
  show KnR L (addV digIt it I)
  refine ⟨h.sv,by rw [hp.length_eq,ZY];omega,fun i hi=>?_,fun i hi=>?_,fun i hi=>?_,fun i hi=>?_,zT digIt it I h.asc h3⟩
  · rcases hm i hi with rfl|hi
    · exact hit
    · exact h.rng i hi
  · rcases hm i hi with rfl|hi
    · exact hsm
    · exact h.sm i hi
  · rcases hm i hi with rfl|hi
    · exact hdn
    · exact h.dn i hi
  · rcases hm i hi with rfl|hi
    · exact h2
    · exact h.right i hi
theorem yQ (n:Nat) (I:List ItemD) (au:ByteArray) {it:ItemD} (hk:it.kind=0):OfWK n (addV digIt it I) au=OfWK n I au:=by
 have h1:claimsV (addV digIt it I) au=claimsV I au:=by
  rw [claimsV,claimsV,selC,selC,kn]
  rw [selBC,wantC,hk]
  rfl
 have h2:∀ g,selB2 au g rightIt (addV digIt it I)=selB2 au g rightIt I:=fun g=>by
  rw [selB2,selB2,kn]
  rw [selBB,wantB,hk]
  rfl
 have h3:∀ g,wonK n (addV digIt it I) au g=wonK n I au g:=fun g=>by rw [wonK,wonK,h1,h2]
 have h4:genB n (addV digIt it I) au=genB n I au:=by
  rw [genB,genB,h1]
  congr 1
  funext g
  exact h3 g
 rw [OfWK,OfWK,h4]
 congr 1
 funext g
 rw [h3]
theorem yj {I:List ItemD} {au:ByteArray} {it:ItemD}:(selA au rightIt (addV digIt it I)).Perm (bif selB au rightIt it then it.act::selA au rightIt I else selA au rightIt I):=by
 have h:=((nU digIt it I).filter (selB au rightIt)).map ItemD.act
 cases hs:selB au rightIt it with
 | true =>
  rw [List.filter_cons_of_pos hs,Qt] at h
  exact h
 | false =>
  rw [List.filter_cons_of_neg (by rw [hs];decide)] at h
  exact h
def lastK (kl:List KeyD):Int:=(kl.getD (kl.length-1) KeyD.zero).public_
theorem De {L:List Int} {I I':List ItemD} {au:ByteArray} {c n:ChainD} {kl kl':List KeyD} (hW:OfWK L.length I' au=OfWK L.length I au) (hA:(selA au rightIt I').Perm (selA au rightIt I)) (q:QK L I au c kl) (q':QK L I' au n kl'):SameC n c∧kl'=kl:=by
 obtain ⟨A,sa,sk,st,f,p,r,rfl,rfl⟩:=q
 obtain ⟨A',sa',sk',st',f',p',r',rfl,rfl⟩:=q'
 rw [hW] at r'
 have r2:=lW (OfWK L.length I au) ((p'.trans hA).trans p.symm) r'
 obtain ⟨rfl,rfl⟩:=vR r2 r
 exact ⟨⟨rfl,rfl,rfl,rfl,rfl⟩,rfl⟩
theorem DJ {n:Nat} {I:List ItemD} {au:ByteArray}:∀ g c,(OfWK n I au).won g=some c→g<(OfWK n I au).B:=fun g c hw=>(eS hw).1
theorem qw {W:OfW} {st:ChS} {f:Bool} (r:OfRes W st f) (h:0<st.acts.length):∃ b,oneA (firstL W)=some b∧st=finS W b:=by
 rw [OfRes] at r
 cases ho:oneA (firstL W) with
 | none =>
  rw [ho] at r
  rw [r.1] at h
  exact absurd h (by decide)
 | some b =>
  rw [ho] at r
  exact ⟨b,rfl,r.1⟩
theorem Bj {L:List Int} {I:List ItemD} {au:ByteArray} {c:ChainD} {kl:List KeyD} (q:QK L I au c kl) (h0:0<c.actsL.length):((kl.length:Int)=1+(movN c.actsL:Nat)+c.gen)∧∀ k∈kl,k.from_≤(c.actsL.length:Int):=by
 obtain ⟨A,sa,sk,st,f,p,r,rfl,rfl⟩:=q
 obtain ⟨b,hb,rfl⟩:=qw r h0
 have hK:=zc (W:=(OfWK L.length I au).at A) (a:=b) (by rw [fX hb];exact List.mem_singleton.2 rfl)
 refine ⟨?_,hK.le⟩
 have:=hK.len
 show ((finS ((OfWK L.length I au).at A) b).keys.length:Int)=1+(movN (finS ((OfWK L.length I au).at A) b).acts:Nat)+((finS ((OfWK L.length I au).at A) b).gen:Nat)
 omega
theorem tN {L:List Int} {I:List ItemD} (h:KnR L I) {it:ItemD} {au:ByteArray} {c n:ChainD} {kl kl':List KeyD} (hk:it.kind=0) (hs:selB au rightIt it=true) (q:QK L I au c kl) (q':QK L (addV digIt it I) au n kl')
  (h0:0<c.actsL.length) (h1:it.act.seq=(c.actsL.length:Int)) (h2:it.act.prev=c.prev) (hcn:c.acts.n=c.actsL.length) :
  bif !c.fork&&(fitsV c it.act (idxV c.actsL it.act.object)&&verV (lastK kl) it.act) then
   c.fork=false∧n.id=c.id∧∃ M K,n.actsL=c.actsL++it.act::M∧kl'=(kl++bif decide (it.act.kind=18) then [⟨((c.actsL.length+1:Nat):Int),it.act.n,it.act.m⟩] else [])++K∧(∀ k∈K,(c.actsL.length:Int)+1≤k.from_) ∧
    (M=[]→n.gen=c.gen→K=[]∧n.prev=digV it.act)
  else SameC n c∧kl'=kl:=by
 obtain ⟨A,sa,sk,st,f,p,r,rfl,rfl⟩:=q
 obtain ⟨A',sa',sk',st',f',p',r',rfl,rfl⟩:=q'
 rw [yQ _ I au hk] at r'
 have hsel:=yj (I:=I) (au:=au) (it:=it)
 rw [hs,ZC] at hsel
 have r2:=lW (OfWK L.length I au) ((p'.trans hsel).trans (p.symm.cons it.act)) r'
 obtain ⟨b,hb,hst⟩:=qw r h0
 have hx:=B2 (B4 h p) DJ hb r r2 h1 h2
 have hc:candB ((OfWK L.length I au).at A) st it.act=(fitsV (⟨au,sa,sk,st.prev,(st.gen:Nat),f,st.acts⟩:ChainD) it.act (idxV st.acts it.act.object)&&verV (lastK st.keys) it.act):=by
  have e:fitsV (st.ch au) it.act (idxV st.acts it.act.object)=fitsV (⟨au,sa,sk,st.prev,(st.gen:Nat),f,st.acts⟩:ChainD) it.act (idxV st.acts it.act.object):=jK rfl hcn.symm rfl rfl
  rw [←e]
  rfl
 rw [hc] at hx
 show bif !f&&(fitsV (⟨au,sa,sk,st.prev,(st.gen:Nat),f,st.acts⟩:ChainD) it.act (idxV st.acts it.act.object)&&verV (lastK st.keys) it.act) then _ else _
 cases hb2:!f&&(fitsV (⟨au,sa,sk,st.prev,(st.gen:Nat),f,st.acts⟩:ChainD) it.act (idxV st.acts it.act.object)&&verV (lastK st.keys) it.act) with
 | false =>
  rw [hb2,ZB] at hx
  obtain ⟨rfl,rfl⟩:=hx
  exact ⟨⟨rfl,rfl,rfl,rfl,rfl⟩,rfl⟩
 | true =>
  rw [hb2,ZC] at hx
  obtain ⟨hf,m,hm⟩:=hx
  obtain ⟨M,K,e1,e2,e3⟩:=tB (W:=(OfWK L.length I au).at (it.act::A)) m (addS st it.act)
  have el:((addS st it.act).acts.length:Int)=(st.acts.length:Int)+1:=by simp [addS]
  refine ⟨hf,rfl,M,K,?_,?_,fun k hk2=>?_,fun hM hg=>?_⟩
  · show st'.acts=_
    rw [hm,e1]
    simp [addS]
  · rw [hm,e2]
    congr 1
    show (bif decide (it.act.kind=18) then st.keys++[_] else st.keys)=_
    cases decide (it.act.kind=18)<;>simp
  · have:=e3 k hk2
    show (st.acts.length:Int)+1≤k.from_
    omega
  · have hgr:=iG (W:=(OfWK L.length I au).at (it.act::A)) m (addS st it.act)
    have hg2:st'.gen=st.gen:=by have:((st'.gen:Nat):Int)=(st.gen:Nat):=hg;omega
    have hg3:(addS st it.act).gen=st.gen:=rfl
    rw [hm] at hg2
    rw [hM,Z9] at e1
    have hfix:runS ((OfWK L.length I au).at (it.act::A)) m (addS st it.act)=addS st it.act:=by
     rcases hgr with hgr|hgr|⟨_,g,cc,g1,g2,_⟩
     · exact hgr
     · rw [e1] at hgr;omega
     · omega
    rw [hfix] at e2 hm
    refine ⟨?_,by rw [hm];rfl⟩
    have:=congrArg List.length e2
    rw [ZX] at this
    exact List.eq_nil_of_length_eq_zero ae
theorem uj {g N P:Nat} (h:g ^ N%P=1) (e:Nat):g ^ e%P=g ^ (e%N)%P:=by
 have h1:=Nat.div_add_mod e N
 have h2:g ^ e=(g ^ N) ^ (e/N)*g ^ (e%N):=by rw [←Nat.pow_mul,←Nat.pow_add,h1]
 have h3:1%P=1:=by
  rw [←h,Nat.mod_mod]
 rw [h2,Nat.mul_mod,Nat.pow_mod,h,Nat.one_pow,h3,Nat.one_mul,Nat.mod_mod]
theorem Ad {g N P:Nat} (h:g ^ N%P=1) (s nonce e:Nat) (he:e≤N):(g ^ ((nonce+e*s%N)%N)%P*((g ^ s%P) ^ (N-e)%P))%P=g ^ nonce%P:=by
 rw [←Nat.pow_mod,←Nat.mul_mod,←Nat.pow_mul,←Nat.pow_add,uj h,uj h nonce]
 congr 2
 have h1:e*s+s*(N-e)=s*N:=by
  rw [Nat.mul_comm e s,←Nat.mul_add]
  congr 1
  omega
 rw [Nat.mod_add_mod,Z7,Qj nonce,Z7,Nat.mod_add_mod,←Z7,h1,Qj,Nat.add_mul_mod_self_right]
theorem qL:expV 37 2305843009213693950=1:=by decide +kernel
theorem fx (a:Nat) {e:Nat} (he:e<9223372036854775808) {P:Nat} (hP:P=2305843009213693951):expV a e=a ^ e%P:=by
 rw [hP]
 exact Rf4.expV_pow a e he
theorem wV {N P:Nat} (hN:N=2305843009213693950) (hP:P=2305843009213693951) (s nonce e:Nat) (he:e<N) (hs:s<N) (hn:nonce≤N) :
  expV 37 ((nonce+e*s%N)%N)*expV (expV 37 s) (N-e)%P=expV 37 nonce:=by
 have hg:37 ^ N%P=1:=by
  rw [←fx 37 ae hP,hN]
  exact qL
 have h1:(nonce+e*s%N)%N<N:=Nat.mod_lt _ ae
 rw [fx 37 (e:=(nonce+e*s%N)%N) ae hP,fx 37 (e:=s) ae hP,fx _ (e:=N-e) ae hP,fx 37 (e:=nonce) ae hP]
 exact Ad hg s nonce e ae
theorem Bk {s:Nat} {N P:Nat} (hN:N=2305843009213693950) (hP:P=2305843009213693951) (hs:s<N):1≤expV 37 s∧expV 37 s<P:=by
 have hg:37 ^ N%P=1:=by
  rw [←fx 37 ae hP,hN]
  exact qL
 rw [fx 37 ae hP]
 refine ⟨?_,Nat.mod_lt _ ae⟩
 rcases Nat.eq_zero_or_pos (37 ^ s%P) with h0|h0
 · have h1:37 ^ N=37 ^ s*37 ^ (N-s):=by rw [←Nat.pow_add];congr 1;omega
   rw [h1,Nat.mul_mod,h0,Nat.zero_mul,Nat.zero_mod] at hg
   cases hg
 · exact h0
theorem rN {k:KyD} (h:rightK k=true):∃ s:Nat,k.s=(s:Int)∧1≤s∧s<2305843009213693950∧k.p=(expV 37 s:Nat):=by
 rw [rightK,ZM,ZT,eqKy,ZM,ZT,ZT] at h
 obtain ⟨h1,h2,h3⟩:=h
 by_cases h4:2305843009213693949<k.s
 · rw [ofK,ZA h4,ZP,ZC] at h2
   have:k.s=0:=h2
   omega
 · rw [ofK,Zn ae,Zn h4] at h3
   exact ⟨k.s.toNat,by omega,by omega,by omega,h3⟩
theorem wU {k:KyD} (h:rightK k=true) (msg:ByteArray):verN k.p msg (signV k msg).e (signV k msg).s=true:=by
 obtain ⟨s,hs,h1,h2,hp⟩:=rN h
 have hr:=Bk rfl rfl h2
 have hn:nonceN k.s msg≤2305843009213693950:=by
  have:=Nat.mod_lt (hashN (nonceP k.s msg)) (show 2305843009213693949>0 by decide)
  rw [nonceN,reduceN]
  omega
 have he:sigE k msg<2305843009213693950:=Nat.mod_lt _ (by decide)
 have hS:sigS k msg<2305843009213693950:=Nat.mod_lt _ (by decide)
 have hst:k.s.toNat=s:=by omega
 have hpt:k.p.toNat=expV 37 s:=by omega
 have hv:signV k msg=⟨(sigE k msg:Nat),(sigS k msg:Nat)⟩:=by rw [signV,h];rfl
 rw [hv]
 show verN k.p msg ((sigE k msg:Nat):Int) ((sigS k msg:Nat):Int)=true
 have ho:∀ n:Nat,n<2305843009213693950→ordV (n:Int)=true:=fun n hn=>by
  rw [ordV,ZM,ZT,ZT]
  omega
 rw [verN,ho _ he,ho _ hS,Zn ae,Zn (by omega)]
 show decide _=true
 refine ZA ?_
 rw [Qr,Qr,hpt]
 have hc:=wV rfl rfl s (nonceN k.s msg) (sigE k msg) he h2 hn
 have hS2:sigS k msg=(nonceN k.s msg+sigE k msg*s%2305843009213693950)%2305843009213693950:=by rw [sigS,hst]
 rw [hS2,hc]
 show (sigE k msg:Int)=_
 rw [sigE,hpt]
def ItemTo (b:ActD) (u:Value) (X:World→Prop):Prop:=∃ s1 s2:SlV,u=(ofActI (b.re s1 s2)).v∧s1.n=b.to.n∧s2.n=b.wraps.n∧∀ w,X w→(b.re s1 s2).at_ w
set_option maxRecDepth 20000 in
theorem vS (a:ActD) (hr:a.Rng) (hs:a.Sm):Mk Tryz.prog 15 #[a.v] (ActD.at_ · a) (ItemTo a):=by
 refine cf (args:=[_]) _ Tryz.func15 rfl Tryz.ntmps15 rfl fun av bor w0=>?_
 repeat' (first|apply ab|apply Qu|apply Qv|refine az ?_|refine aA ?_|refine aI fun _=>?_|refine aK fun _=>?_|fail)
 refine cM (hc:=jR a.to (strs a.toL) hs.to (fun cs hcs=>by simp only [strs,List.mem_map] at hcs;obtain ⟨x,_,rfl⟩:=hcs;rfl)) (hX:=fun w h=>h.1) fun v1 X1 h1=>?_
 obtain ⟨s1,rfl,hn1,hw1⟩:=h1
 repeat' (first|apply ab|apply Qu|apply Qv|refine az ?_|refine aA ?_|refine bc ?_|fail)
 refine cM (hc:=jQ a.wraps (a.wrapsL.map WrapD.cells) hs.wraps (fun cs hcs=>by simp only [List.mem_map] at hcs;obtain ⟨x,_,rfl⟩:=hcs;rfl)) (hX:=fun w h=>h.1.2) fun v2 X2 h2=>?_
 obtain ⟨s2,rfl,hn2,hw2⟩:=h2
 repeat' (first|apply ab|apply Qu|apply Qv|refine az ?_|refine aD ?_|refine bc ?_|refine aH ?_|apply ar|(refine bm ?_))
 have e1:s1.n=a.to.n:=by rw [hn1,hr.to_len];simp [strs]
 have e2:s2.n=a.wraps.n:=by rw [hn2,hr.wraps_len];simp
 apply ak;refine cJ rfl rfl bL ?_
 · rfl
 refine ⟨s1,s2,rfl,e1,e2,fun w h=>⟨?_,?_⟩⟩
 · exact hw1 w h.1.1.2
 · exact hw2 w h.1.2
theorem g6 {a:ActD} (h:a.Rng) {s1 s2:SlV} (h1:s1.n=a.to.n) (h2:s2.n=a.wraps.n):(a.re s1 s2).Rng:=⟨h.ints,h.wints,h1.trans h.to_len,h2.trans h.wraps_len⟩
theorem yf {a:ActD} (h:a.Sm) {s1 s2:SlV} (h1:s1.n=a.to.n) (h2:s2.n=a.wraps.n):(a.re s1 s2).Sm:=⟨by show s1.n*16≤_;rw [h1];exact h.to,by show s2.n*64≤_;rw [h2];exact h.wraps,h.target⟩
theorem CS {a:ActD} (p:Int) {s1 s2:SlV} (h1:s1.n=a.to.n) (h2:s2.n=a.wraps.n):verV p (a.re s1 s2)=verV p a:=by
 have hr:=iL h1 h2
 have hc:coreV (a.re s1 s2)=coreV a:=rfl
 have he:(a.re s1 s2).e=a.e:=rfl
 have hs:(a.re s1 s2).s=a.s:=rfl
 simp only [verV,actCore,hr,hc,he,hs]
theorem jJ (c:ChainD) (a:ActD) (o:Option Nat) {s1 s2:SlV} (h1:s1.n=a.to.n) (h2:s2.n=a.wraps.n):fitsV c (a.re s1 s2) o=fitsV c a o:=by
 rw [fitsV,fitsV,iL h1 h2]
 rfl
theorem BB {c:ChainD} {kl:List KeyD} (hle:∀ k∈kl,k.from_≤(c.actsL.length:Int)) (h0:0<kl.length) (hcn:c.acts.n=c.actsL.length):keyV c.acts.n kl (c.acts.n:Nat)=some (kl.getD (kl.length-1) KeyD.zero):=by
 rw [keyV,Zn ae,Zn (by omega)]
 show keyF kl _ kl.length=_
 obtain ⟨n,hn⟩:∃ n,kl.length=n+1:=⟨kl.length-1,by omega⟩
 rw [hn,keyF,Nat.add_sub_cancel]
 have hm:kl.getD n KeyD.zero∈kl:=by
  rw [ZL,Zm (show n<kl.length by omega)]
  exact Qh _
 rw [ZA (by rw [hcn];exact hle _ hm),ZC]
def draftX (c:ChainD) (x:ActD):ActD:={ x with author:=c.id,seq:=(c.acts.n:Int),prev:=c.prev }
theorem pQ {k:KyD} {a:ActD} (h:rightB (actSignV k a)=true):rightK k=true∧actSignV k a=a.sig (signV k (coreV (a.sig SgD.zero))):=by
 rw [actSignV] at h ⊢
 cases hb:rightB (a.sig SgD.zero)&&rightK k with
 | false =>
  rw [hb,ZB] at h
  exact absurd h (by decide +kernel)
 | true =>
  rw [ZM] at hb
  exact ⟨hb.2,rfl⟩
theorem rq {k:KyD} {a:ActD} (h:rightB (actSignV k a)=true):verV k.p (actSignV k a)=true:=by
 obtain ⟨h1,h2⟩:=pQ h
 have hc:coreV (actSignV k a)=coreV (a.sig SgD.zero):=by rw [h2];rfl
 have he:(actSignV k a).e=(signV k (coreV (a.sig SgD.zero))).e:=by rw [h2];rfl
 have hs:(actSignV k a).s=(signV k (coreV (a.sig SgD.zero))).s:=by rw [h2];rfl
 rw [verV,h,ZD,actCore,h,ZC,hc,he,hs]
 exact wU h1 _
theorem DO {L:List Int} {I:List ItemD} {au:ByteArray} {c:ChainD} {kl:List KeyD} (q:QK L I au c kl):c.id=au:=by
 obtain ⟨A,sa,sk,st,f,p,r,rfl,rfl⟩:=q
 rfl
theorem jU {L:List Int} {I:List ItemD} {au:ByteArray} {c:ChainD} {kl:List KeyD} (q:QK L I au c kl) {k:KyD} {x:ActD} {s3 s4:SlV} (e3:s3.n=(actSignV k (draftX c x)).to.n) (e4:s4.n=(actSignV k (draftX c x)).wraps.n)
  (ha:canAdd L I (ofActI ((actSignV k (draftX c x)).re s3 s4))=true):rightK k=true∧rightB (actSignV k (draftX c x))=true∧actSignV k (draftX c x)=(draftX c x).sig (signV k (coreV ((draftX c x).sig SgD.zero)))∧selB au rightIt (ofActI ((actSignV k (draftX c x)).re s3 s4))=true:=by
 obtain ⟨h1,h2,h3⟩:=mB ha
 have hr:rightB (actSignV k (draftX c x))=true:=by
  have:=j1 (i:=ofActI ((actSignV k (draftX c x)).re s3 s4)) rfl h2
  rw [←iL e3 e4]
  exact this
 obtain ⟨h4,h5⟩:=pQ hr
 refine ⟨h4,hr,h5,?_⟩
 rw [selB,h2,ZE,wantA]
 show (true&&seqB (actSignV k (draftX c x)).author au)=true
 rw [ZD,h5]
 show seqB c.id au=true
 rw [DO q]
 exact bN _
theorem wq {L:List Int} {I:List ItemD} (h:KnR L I) {au:ByteArray} {c n:ChainD} {kl kl':List KeyD} (q:QK L I au c kl) (h0:0<c.actsL.length) (hcn:c.acts.n=c.actsL.length) {k:KyD} {x:ActD} {s3 s4:SlV}
  (e3:s3.n=(actSignV k (draftX c x)).to.n) (e4:s4.n=(actSignV k (draftX c x)).wraps.n) (q':QK L (addK L I (ofActI ((actSignV k (draftX c x)).re s3 s4))) au n kl')
  (hno:canAdd L I (ofActI ((actSignV k (draftX c x)).re s3 s4))=false∨(rightK k&&fitsV c (actSignV k (draftX c x)) (idxV c.actsL (actSignV k (draftX c x)).object))=false):SameC n c∧kl'=kl:=by
 cases ha:canAdd L I (ofActI ((actSignV k (draftX c x)).re s3 s4)) with
 | false =>
  rw [addK,ha] at q'
  exact De rfl (List.Perm.refl _) q q'
 | true =>
  rw [ha] at hno
  obtain ⟨g1,g2,g3,g4⟩:=jU q e3 e4 ha
  rw [addK,ha] at q'
  have h1:(actSignV k (draftX c x)).seq=(c.actsL.length:Int):=by rw [g3,←hcn];rfl
  have h2:(actSignV k (draftX c x)).prev=c.prev:=by rw [g3];rfl
  have hx:=tN h (it:=ofActI ((actSignV k (draftX c x)).re s3 s4)) rfl g4 q q' h0 h1 h2 hcn
  have hf:fitsV c (ofActI ((actSignV k (draftX c x)).re s3 s4)).act (idxV c.actsL (ofActI ((actSignV k (draftX c x)).re s3 s4)).act.object)=false:=by
   rcases hno with hno|hno
   · cases hno
   · rw [g1,ZD] at hno
     rw [show (ofActI ((actSignV k (draftX c x)).re s3 s4)).act=(actSignV k (draftX c x)).re s3 s4 from rfl,jJ c _ _ e3 e4]
     exact hno
  rw [hf,ZG,ZH,ZB] at hx
  exact hx
theorem wr {L:List Int} {I:List ItemD} (h:KnR L I) {au:ByteArray} {c n:ChainD} {kl kl':List KeyD} (q:QK L I au c kl) (h0:0<c.actsL.length) (hcn:c.acts.n=c.actsL.length) (hfork:c.fork=false) {k:KyD} {x:ActD} {s3 s4:SlV}
  (e3:s3.n=(actSignV k (draftX c x)).to.n) (e4:s4.n=(actSignV k (draftX c x)).wraps.n) (q':QK L (addK L I (ofActI ((actSignV k (draftX c x)).re s3 s4))) au n kl')
  (ha:canAdd L I (ofActI ((actSignV k (draftX c x)).re s3 s4))=true) (hf:fitsV c (actSignV k (draftX c x)) (idxV c.actsL (actSignV k (draftX c x)).object)=true) (hp:k.p=lastK kl) :
  n.id=c.id∧∃ M K,n.actsL=c.actsL++(actSignV k (draftX c x)).re s3 s4::M∧kl'=(kl++bif decide (x.kind=18) then [⟨((c.actsL.length+1:Nat):Int),x.n,x.m⟩] else [])++K∧(∀ k∈K,(c.actsL.length:Int)+1≤k.from_)∧(M=[]→n.gen=c.gen→K=[]∧n.prev=digV (actSignV k (draftX c x))):=by
 obtain ⟨g1,g2,g3,g4⟩:=jU q e3 e4 ha
 rw [addK,ha] at q'
 have h1:(actSignV k (draftX c x)).seq=(c.actsL.length:Int):=by rw [g3,←hcn];rfl
 have h2:(actSignV k (draftX c x)).prev=c.prev:=by rw [g3];rfl
 have hx:=tN h (it:=ofActI ((actSignV k (draftX c x)).re s3 s4)) rfl g4 q q' h0 h1 h2 hcn
 have hf2:fitsV c (ofActI ((actSignV k (draftX c x)).re s3 s4)).act (idxV c.actsL (ofActI ((actSignV k (draftX c x)).re s3 s4)).act.object)=true:=by
  rw [show (ofActI ((actSignV k (draftX c x)).re s3 s4)).act=(actSignV k (draftX c x)).re s3 s4 from rfl,jJ c _ _ e3 e4]
  exact hf
 have hv:verV (lastK kl) (ofActI ((actSignV k (draftX c x)).re s3 s4)).act=true:=by
  rw [show (ofActI ((actSignV k (draftX c x)).re s3 s4)).act=(actSignV k (draftX c x)).re s3 s4 from rfl,CS _ e3 e4,←hp]
  exact rq g2
 rw [hf2,hv,hfork] at hx
 obtain ⟨_,x2,M,K,x3,x4,x5,x6⟩:=hx
 refine ⟨x2,M,K,x3,?_,x5,fun hM hg=>⟨(x6 hM hg).1,?_⟩⟩
 · rw [x4]
   have k1:(ofActI ((actSignV k (draftX c x)).re s3 s4)).act.kind=x.kind:=by show (actSignV k (draftX c x)).kind=_;rw [g3];rfl
   have k2:(ofActI ((actSignV k (draftX c x)).re s3 s4)).act.n=x.n:=by show (actSignV k (draftX c x)).n=_;rw [g3];rfl
   have k3:(ofActI ((actSignV k (draftX c x)).re s3 s4)).act.m=x.m:=by show (actSignV k (draftX c x)).m=_;rw [g3];rfl
   rw [k1,k2,k3]
 · rw [(x6 hM hg).2]
   exact zy e3 e4
theorem zD {c:ChainD} {kl K:List KeyD} {e:List KeyD} (hle:∀ k∈kl,k.from_≤(c.actsL.length:Int)) (he:∀ k∈e,(c.actsL.length:Int)+1≤k.from_) (hK:∀ k∈K,(c.actsL.length:Int)+1≤k.from_):cutK ((kl++e)++K) c.actsL.length=kl:=by
 rw [cutK,List.filter_append,List.filter_append,List.filter_eq_self.2 fun k hk=>ZA (hle k hk),List.filter_eq_nil_iff.2 fun k hk=>by rw [ZT];have:=he k hk;omega,List.filter_eq_nil_iff.2 fun k hk=>by rw [ZT];have:=hK k hk;omega,Z9,Z9]
theorem wo {c:ChainD} {kl kl':List KeyD} {acts:List ActD} (hlen:(kl.length:Int)=1+(movN c.actsL:Nat)+c.gen) (h0:0≤c.gen) (hc:cutK kl' c.actsL.length=kl) (ha:acts.take c.actsL.length=c.actsL):cutG kl' acts c.actsL.length=c.gen:=by
 rw [cutG,hc,ha]
 split
 · omega
 · omega
theorem sF:Pu Tryz.prog 43 #[.slice none 0 0] (fun _=>True) (.slice none 0 0):=by
 refine ay (args:=[_]) _ Tryz.func43 rfl Tryz.ntmps43 rfl fun av bor w0=>?_
 repeat' (first|refine lD ?_|apply ab|apply Qu|apply Qv|refine aj ?_|refine ad ?_|refine bX fun _=>?_|apply Qx|apply ar|(refine aF (ht:=?_) (hf:=?_);all_goals (intro hx_;skip)))
 all_goals first
  | exact ak (ap rfl rfl) rfl
  | exact absurd hx_ (by decide)
theorem tR:Pu Tryz.prog 17 #[.slice none 0 0] (fun _=>True) (.agg #[.slice none 0 0,.slice none 0 0]):=by
 refine ay (args:=[_]) _ Tryz.func17 rfl Tryz.ntmps17 rfl fun av bor w0=>?_
 repeat' (first|apply ab|apply Qu|apply Qv|refine aj ?_|refine aI fun _=>?_|refine aH ?_|apply ar|(refine ao (hc:=sF) (hX:=fun _ _=>trivial) ?_)|(refine bm (cs:=[.slice none 0 0,.slice none 0 0]) (hf:=by rfl) ?_)|fail)
 exact ak (cJ rfl rfl bL (by rfl)) rfl
theorem itemsNil (w:World):Items w ⟨none,0,0⟩ []:=⟨bZ w 49,fun i hi=>absurd hi (by simp)⟩
theorem chainsNil0 (w:World):Chains w ⟨none,0,0⟩ []:=⟨bZ w 6,fun i hi=>absurd hi (by simp)⟩
def chZ0 (id:ByteArray):ChainD:=⟨id,⟨none,0,0⟩,⟨none,0,0⟩,⟨#[]⟩,0,false,[]⟩
theorem Cb (id:ByteArray) (w:World):(chZ0 id).at_ w∧Keyz w (chZ0 id).keys []:=⟨⟨bZ w 20,fun i hi=>(List.not_mem_nil hi).elim⟩,bZ w 3⟩
set_option maxRecDepth 20000 in
set_option maxHeartbeats 8000000 in
theorem rC:Pu Tryz.prog 7 #[] Glob (.bool true):=by
 refine ay (args:=[]) _ Tryz.func7 rfl Tryz.ntmps7 rfl fun av bor w0=>?_
 have hof:=fun au=>oR ⟨none,0,0⟩ ⟨none,0,0⟩ tZ au
 have hall:=zQ (QK [] []) ⟨none,0,0⟩ ⟨none,0,0⟩ [] [] (by simp) hof
 have hids:compB (sortB (authI []))=[]:=by decide +kernel
 rw [hids] at hall
 repeat' (first|apply ab|apply Qu|apply Qv|refine aj ?_|refine ad ?_|refine aD ?_|refine aI fun _=>?_|refine aH ?_|(refine ao (hc:=tR) (hX:=fun _ _=>trivial) ?_)|(refine cM (hc:=hof _) (hX:=fun w h=>⟨⟨bZ w 1,itemsNil w⟩,h⟩) fun v X1 h1=>?_;obtain ⟨c,kl,hQ,rfl,hw1⟩:=h1)|fail)
 obtain ⟨hcA,rfl,hcp,hcg,hcf,hci⟩:=Dd hQ
 have G:=ja tZ hQ
 refine iD (p:=c.acts.n=0) (fun w h=>by have:=(hw1 w h.2).1.len_;rw [hcA] at this;exact this) fun hcn=>?_
 have hseq:(c.acts.n:Int)=0:=by omega
 have hia:seqB c.id ⟨#[48,49,50,51,52,53,54,55,56,57,97,98,99,100,101,102]⟩=true:=by rw [hci];exact bN _
 have hip:seqB c.prev ⟨#[]⟩=true:=by rw [hcp];exact bN _
 have hdr:=qT c 0 7
 have hkey:Pu Tryz.prog 11 #[c.v,.int .i64 0] (fun w=>c.at_ w∧Keyz w c.keys []) (.tuple #[KeyD.zero.v,.bool false]):=by
  have h1:=ko c [] 0
  have e:keyV c.acts.n [] 0=none:=by rw [keyV];cases (decide ((0:Int)<0)||decide ((c.acts.n:Int)<0))<;>rfl
  rw [e] at h1
  exact h1
 have hidx:Pu Tryz.prog 13 #[c.v,.string ⟨#[]⟩] (fun w=>c.at_ w∧Glob w) (.tuple #[.int .i64 0,.bool false]):=by
  have h1:=qI c G.ok ⟨#[]⟩
  have e:idxV c.actsL ⟨#[]⟩=none:=by rw [hcA];rfl
  rw [e] at h1
  exact h1
 have hfind:Pu Tryz.prog 21 #[.slice none 0 0,.string ⟨#[48,49,50,51,52,53,54,55,56,57,97,98,99,100,101,102]⟩] (fun w=>Chains w ⟨none,0,0⟩ []) (.tuple #[ChainD.zero.v,.bool false]):=BY ⟨none,0,0⟩ [] _
 have hsame:=jw c (chZ0 ⟨#[48,49,50,51,52,53,54,55,56,57,97,98,99,100,101,102]⟩) [] ⟨hci,hcp,hcg,hcf,by rw [hcA];rfl⟩ (fun x hx=>by rw [hcA] at hx;exact (List.not_mem_nil hx).elim)
 clear hcA hcp hcg hcf hci
 repeat' (first|refine am (dm true rfl rfl (by first|exact hia|exact hip)) rfl aE rfl ?_|refine bn (hab:=by first|exact hseq|rfl|omega) ?_|apply ab|apply Qu|apply Qv|refine aj ?_|refine ad ?_|refine az ?_|refine aA ?_|refine aD ?_|refine aB ?_|refine bu ?_|refine aW ?_|refine bS ?_|refine aI fun _=>?_|refine aH ?_|apply ar|(refine ao (hc:=hdr) (hX:=fun _ _=>trivial) ?_)|(refine ao (hc:=hkey) (hX:=fun w h=>hw1 w h.2) ?_)|(refine ao (hc:=hidx) (hX:=fun w h=>⟨(hw1 w h.2).1,h.1⟩) ?_)|(refine ao (hc:=hfind) (hX:=fun w h=>chainsNil0 w) ?_)|(refine ao (hc:=hsame) (hX:=fun w h=>⟨hw1 w h.2,Cb _ w⟩) ?_)|(refine bm (cs:=(chZ0 ⟨#[48,49,50,51,52,53,54,55,56,57,97,98,99,100,101,102]⟩).cells) (hf:=by rfl) ?_)|(refine ao (hc:=tR) (hX:=fun _ _=>trivial) ?_)|(refine cM (hc:=hall) (hX:=fun w h=>⟨⟨bZ w 1,itemsNil w⟩,h.1⟩) fun v X2 h2=>?_;obtain ⟨s,M,hM,rfl,hws⟩:=h2;cases hM;refine iD (p:=s.n=0) (fun w h=>(hws w h.2).1.len_) fun hsn=>?_)|fail)
 all_goals first
  | exact ak (ap rfl rfl) rfl
theorem Items.sub {w:World} {s:SlV} {l:List ItemD} (h:Items w s l) {k off n:Nat} {x:ItemD} {cs:List Value} (hx:l[k]?=some x) (hc:(x.cells.drop off).take n=cs) (hn:cs.length=n) :
  cs.length=n∧s.p.isSome=true∧∀ j u,cs[j]?=some u→CellAt w s.p (k*49+off+j) u:=by
 refine ⟨hn,(h.get hx).2.1,fun j u hu=>?_⟩
 have h1:x.cells[off+j]?=some u:=by
  rw [←hc,List.getElem?_take] at hu
  split at hu
  · rw [List.getElem?_drop] at hu
    exact hu
  · cases hu
 rw [Z7]
 exact (h.get hx).2.2 (off+j) u h1
def bigIt (i:ItemD):Bool:=decide (8<(i.act.to.n:Int))||decide (8<(i.act.wraps.n:Int))||decide (8<(i.dec.to.n:Int))||decide (600<(i.act.text.size:Int))||decide (600<(i.act.body.data.size:Int))||decide (600<(i.dec.text.size:Int))
def badFw (I:List ItemD) (k:Nat):Bool:=bigIt (I.getD k ItemD.zero)
def fewB (L:List Int) (I:List ItemD):Bool:=!(decide (40<(I.length:Int))||decide (20<(L.length:Int)))&&(allB I.length (badFw I)&&rightKn L I)
set_option maxRecDepth 20000 in
set_option maxHeartbeats 16000000 in
theorem Dy (ks ki:SlV) (L:List Int) (I:List ItemD) (hs:∀ i∈I,i.Str) (hdn:∀ i∈I,i.dec.to.n=i.dec.toL.length) :
  Pu Tryz.prog 8 #[.agg #[ks.v,ki.v]] (fun w=>Ints w ks L∧Items w ki I) (.bool (fewB L I)):=by
 refine ay (args:=[_]) _ Tryz.func8 rfl Tryz.ntmps8 rfl fun av bor w0=>?_
 refine bK (p:=(ks.n=L.length∧ks.n≤maxLen∧(0<L.length→ks.p.isSome=true))∧(ki.n=I.length∧ki.n≤maxLen∧(0<I.length→ki.p.isSome=true))) (fun w h=>⟨⟨h.1.len_,Qq (RowsD.cap h.1) (RowsD.max h.1),h.1.some_⟩,h.2.len_,h.2.max_,h.2.some_⟩) fun ⟨⟨hn,hm,hp⟩,hin,him,hip⟩=>?_
 simp only [maxLen] at hm him
 have hkr:=oF ks ki L I hs hdn
 clear hs hdn
 by_cases h40:I.length≤40∧L.length≤20
 · have e:fewB L I=(allB I.length (badFw I)&&rightKn L I):=by rw [fewB,Zn ae,Zn (by omega)];rfl
   rw [e]
   repeat' (first|apply ab|apply Qu|apply Qv|refine aj ?_|refine ad ?_|refine az ?_|refine aA ?_|refine aB ?_|refine aC ?_|refine cF ?_|refine aW ?_|refine bC ?_|refine aK fun _=>?_|refine Qy ?_|apply Qx|apply Qw|apply ar|((fail_if_success (refine aZ ?_));refine aP (ht:=?_) (hf:=?_);all_goals (intro hx_;first|have:=aO hx_|have:=aQ hx_))|(refine aF (ht:=?_) (hf:=?_);all_goals (intro hx_;first|have:=aO hx_|have:=aQ hx_)))
   all_goals try (exfalso;omega)
   all_goals try (exfalso;simp at *;omega)
   rename_i b _ _
   refine aT (ι:=Upto I.length (badFw I)) (fun j=>⟨[(1,.pointer (some ⟨b,0,none⟩)),(3,.int .i64 (j.k:Nat))],[cel b 25 [ks.v,ki.v]],fun w=>Ints w ks L∧Items w ki I⟩) (fun j=>I.length-j.k) (Upto.zero _ _) (ax ⟨rfl,rfl,trivial⟩ (aG _) fun _ h=>h) fun j=>?_
   have hjk:=j.hk
   by_cases hlt:j.k<I.length
   · have hki:=hip ae
     obtain ⟨x,hx⟩:∃ x,I[j.k]?=some x:=⟨_,Zm hlt⟩
     have hxm:=List.mem_of_getElem? hx
     have hxD:I.getD j.k ItemD.zero=x:=by rw [ZL,hx];rfl
     have hbf:badFw I j.k=bigIt x:=by rw [badFw,hxD]
     repeat' (first|refine SrG.sy_lssT_g (hab:=by omega) (h:=?_)|apply ab|apply Qu|apply Qv|refine aj ?_|refine ad ?_|refine az ?_|refine aA ?_|refine aB ?_|refine aC ?_|refine cF ?_|refine bU ?_|refine aW ?_|refine be (h:=?_)|refine bC ?_|refine aI fun _=>?_|refine aH ?_|refine Qy ?_|apply Qx|apply Qw|apply ar|(refine bz (q:=j.k*49) ?_)|(refine gX ?_)|(refine cq (cs:=x.act.cells) (hF:=fun w h=>Items.sub (off:=1) h.2 hx rfl rfl) ?_)|(refine cq (cs:=x.dec.cells) (hF:=fun w h=>Items.sub (off:=37) h.2 hx rfl rfl) ?_)|((fail_if_success (refine aZ ?_));refine aP (ht:=?_) (hf:=?_);all_goals (intro hx_;first|have:=aO hx_|have:=aQ hx_))|(refine aF (ht:=?_) (hf:=?_);all_goals (intro hx_;first|have:=aO hx_|have:=aQ hx_)))
     all_goals first
      | (refine ak (ap rfl rfl) ?_;rw [dE hlt (by rw [hbf];simp only [bigIt, *,ZQ,ZO,ZC,ZB,ZE,ZD,ZH,ZG,ZK,ZI,ZP,ZJ,ZN,ZF]),ZG];done)
      | exact ⟨j.next hlt (by rw [hbf];simp only [bigIt, *,ZQ,ZO,ZC,ZB,ZE,ZD,ZH,ZG,ZK,ZI,ZP,ZJ,ZN,ZF]),(by show I.length-(j.k+1)<I.length-j.k;omega),ax ⟨rfl,rfl,trivial⟩ (List.Sublist.cons _ (List.Sublist.cons _ (aG _))) fun _ h=>h⟩
   · rw [j.all hlt,ZD]
     repeat' (first|refine SrG.sy_lssF_g (hab:=by omega) (h:=?_)|apply ab|apply Qu|apply Qv|refine aj ?_|refine ad ?_|refine az ?_|refine aA ?_|refine aD ?_|refine aW ?_|refine Qz ?_|apply ar|apply aS|(refine ao (hc:=hkr) (hX:=fun w h=>h) ?_)|fail)
     all_goals first
      | exact ak (ap rfl rfl) rfl
 · have e:fewB L I=false:=by
    rw [fewB]
    by_cases h1:I.length≤40
    · rw [ZA (show 20<(L.length:Int) by omega),ZP]
      rfl
    · rw [ZA (show 40<(I.length:Int) by omega),ZJ]
      rfl
   rw [e]
   repeat' (first|apply ab|apply Qu|apply Qv|refine aj ?_|refine ad ?_|refine az ?_|refine aA ?_|refine aB ?_|refine aC ?_|refine cF ?_|refine aW ?_|refine bC ?_|refine aK fun _=>?_|refine Qy ?_|apply Qx|apply Qw|apply ar|((fail_if_success (refine aZ ?_));refine aP (ht:=?_) (hf:=?_);all_goals (intro hx_;first|have:=aO hx_|have:=aQ hx_))|(refine aF (ht:=?_) (hf:=?_);all_goals (intro hx_;first|have:=aO hx_|have:=aQ hx_)))
   all_goals first
    | (exfalso;omega)
    | exact ak (ap rfl rfl) rfl
theorem B0 {L:List Int} {I:List ItemD} (h:fewB L I=true):I.length≤40∧rightKn L I=true∧∀ i∈I,bigIt i=false:=by
 rw [fewB,ZM,ZM,Bool.not_eq_true',Bool.or_eq_false_iff] at h
 refine ⟨by have:=aQ h.1.1;omega,h.2.2,fun i hi=>?_⟩
 obtain ⟨k,hk⟩:=List.mem_iff_getElem?.1 hi
 obtain ⟨hlt,_⟩:=List.getElem?_eq_some_iff.1 hk
 have h1:=jo h.2.1 hlt
 rw [badFw,ZL,hk] at h1
 exact h1
theorem By {L:List Int} {I:List ItemD} (h:fewB L I=true) (hs:∀ i∈I,i.Str) (hd:∀ i∈I,i.dec.to.n=i.dec.toL.length):KnR L I:=by
 obtain ⟨h1,h2,h3⟩:=B0 h
 refine Dk h2 ae (fun i hi=>(hs i hi).rng) (fun i hi=>?_) hd
 have h4:=h3 i hi
 simp only [bigIt,Bool.or_eq_false_iff,decide_eq_false_iff_not] at h4
 obtain ⟨⟨⟨⟨⟨g1,g2⟩,_⟩,_⟩,_⟩,_⟩:=h4
 exact ⟨by omega,by omega,(hs i hi).act.target⟩
structure CutN (len:Nat) where
 k:Nat
 h1:1≤k
 h2:k≤len∨k=1
set_option maxHeartbeats 4000000 in
theorem sD (s r:SlV) (l:List ByteArray):Pu Tryz.prog 62 #[s.v,r.v] (fun w=>Strs w s l∧Strs w r l) (.bool true):=by
 refine ay (args:=[_,_]) _ Tryz.func62 rfl Tryz.ntmps62 rfl fun av bor w0=>?_
 refine bK (p:=(s.n=l.length∧s.n≤maxLen∧(0<l.length→s.p.isSome=true))∧r.n=l.length∧(0<l.length→r.p.isSome=true)) (fun w h=>⟨⟨h.1.len_,Qq (RowsD.cap h.1) (RowsD.max h.1),h.1.some_⟩,h.2.len_,h.2.some_⟩) fun ⟨⟨hl,hm,hp⟩,hl',hp'⟩=>?_
 simp only [maxLen] at hm
 repeat' (first|refine dJ (hab:=by omega) ?_|apply ab|apply Qu|apply Qv|refine aj ?_|refine ad ?_|refine aW ?_|refine Qz ?_|apply Qx|apply Qw|fail)
 refine aT (ι:=Kth l.length) (fun i=>⟨[(0,s.v),(1,r.v),(12,.int .i64 (s.n:Nat)),(13,.int .i64 i.k)],[],fun w=>Strs w s l∧Strs w r l⟩) (fun i=>l.length-i.k) ⟨0,Nat.zero_le _⟩ (ax ⟨rfl,rfl,rfl,rfl,trivial⟩ (aG _) fun _ h=>h) fun i=>?_
 obtain ⟨k,hk⟩:=i
 simp only
 by_cases hlt:k<l.length
 · have hp1:=hp ae
   have hp2:=hp' ae
   repeat' (first|refine am (bQ true rfl rfl (ZA ae)) rfl aE rfl ?_|apply ab|apply Qu|apply Qv|refine aj ?_|refine ad ?_|refine Qy ?_|apply Qx|apply Qw|fail)
   (apply bI;kernel_rfl)
   all_goals refine aa 0 ?_<;>refine aa 1 ?_<;>(refine aa 2 (hy:=by (apply aN (q:=k);rfl;rfl;omega;omega;assumption;omega)) ?_)<;>(refine aa 3 (hy:=by (apply dT;rfl;exact fun w h=>Strs.get h.1 hlt)) ?_)<;>refine aa 4 ?_<;>refine aa 5 ?_<;>(refine aa 6 (hy:=by (apply aN (q:=k);rfl;rfl;omega;omega;assumption;omega)) ?_)<;>(refine aa 7 (hy:=by (apply dT;rfl;exact fun w h=>Strs.get h.2 hlt)) ?_)<;>(refine aa 8 (hy:=by (apply kB false;rfl;rfl;exact (by rw [bN];rfl))) ?_)<;>(refine aw ?_)
   all_goals
    repeat' (first|apply ab|apply Qv|refine aj ?_|refine be (h:=?_)|refine Qz ?_|apply Qx|fail)
    exact ⟨(⟨k+1,hlt⟩:Kth l.length),(by show l.length-(k+1)<l.length-k;omega),ax ⟨rfl,rfl,rfl,rfl,trivial⟩ (aG _) fun _ h=>h⟩
 · repeat' (first|refine am (bQ false rfl rfl (Zn ae)) rfl aE rfl ?_|apply ab|apply Qu|apply Qv|refine ad ?_|refine Qz ?_|apply ar|apply aS|fail)
   exact ak (ap rfl rfl) rfl
set_option maxHeartbeats 4000000 in
theorem sB (s r:SlV) (l:List WrapD):Pu Tryz.prog 63 #[s.v,r.v] (fun w=>Wraps w s l∧Wraps w r l) (.bool true):=by
 refine ay (args:=[_,_]) _ Tryz.func63 rfl Tryz.ntmps63 rfl fun av bor w0=>?_
 refine bK (p:=(s.n=l.length∧s.n≤maxLen∧(0<l.length→s.p.isSome=true))∧r.n=l.length∧(0<l.length→r.p.isSome=true)) (fun w h=>⟨⟨h.1.len_,Qq (RowsD.cap h.1) (RowsD.max h.1),h.1.some_⟩,h.2.len_,h.2.some_⟩) fun ⟨⟨hl,hm,hp⟩,hl',hp'⟩=>?_
 simp only [maxLen] at hm
 repeat' (first|refine dJ (hab:=by omega) ?_|apply ab|apply Qu|apply Qv|refine aj ?_|refine ad ?_|refine aW ?_|refine Qz ?_|apply Qx|apply Qw|fail)
 refine aT (ι:=Kth l.length) (fun i=>⟨[(0,s.v),(1,r.v),(12,.int .i64 (s.n:Nat)),(13,.int .i64 i.k)],[],fun w=>Wraps w s l∧Wraps w r l⟩) (fun i=>l.length-i.k) ⟨0,Nat.zero_le _⟩ (ax ⟨rfl,rfl,rfl,rfl,trivial⟩ (aG _) fun _ h=>h) fun i=>?_
 obtain ⟨k,hk⟩:=i
 simp only
 by_cases hlt:k<l.length
 · have hp1:=hp ae
   have hp2:=hp' ae
   obtain ⟨x,hx⟩:∃ x,l[k]?=some x:=⟨_,Zm hlt⟩
   repeat' (first|refine am (bQ true rfl rfl (ZA ae)) rfl aE rfl ?_|apply ab|apply Qu|apply Qv|refine aj ?_|refine ad ?_|refine Qy ?_|apply Qx|apply Qw|fail)
   (apply bI;kernel_rfl)
   all_goals refine aa 0 ?_<;>refine aa 1 ?_<;>(refine aa 2 (hy:=by (apply aN (q:=k*5);rfl;rfl;omega;omega;assumption;omega)) ?_)<;>(refine aa 3 (hy:=by (apply cZ (cs:=x.cells);rfl;exact fun w h=>Wraps.get h.1 hx)) ?_)<;>refine aa 4 ?_<;>refine aa 5 ?_<;>(refine aa 6 (hy:=by (apply aN (q:=k*5);rfl;rfl;omega;omega;assumption;omega)) ?_)<;>(refine aa 7 (hy:=by (apply cZ (cs:=x.cells);rfl;exact fun w h=>Wraps.get h.2 hx)) ?_)<;>(refine aa 8 (hy:=by (apply pu (a:=x);rfl;rfl)) ?_)<;>(refine aw ?_)
   all_goals
    repeat' (first|apply ab|apply Qv|refine aj ?_|refine be (h:=?_)|refine Qz ?_|apply Qx|fail)
    exact ⟨(⟨k+1,hlt⟩:Kth l.length),(by show l.length-(k+1)<l.length-k;omega),ax ⟨rfl,rfl,rfl,rfl,trivial⟩ (aG _) fun _ h=>h⟩
 · repeat' (first|refine am (bQ false rfl rfl (Zn ae)) rfl aE rfl ?_|apply ab|apply Qu|apply Qv|refine ad ?_|refine Qz ?_|apply ar|apply aS|fail)
   exact ak (ap rfl rfl) rfl
set_option maxRecDepth 20000 in
set_option maxHeartbeats 8000000 in
theorem ra (a b:ActD) (hb:b.can=a.can) (hr:a.Rng):Pu Tryz.prog 30 #[a.v,b.v] (fun w=>a.at_ w∧b.at_ w) (.bool true):=by
 obtain ⟨hE,n1,n2⟩:=nw hb
 have l1:=hr.to_len
 have l2:=hr.wraps_len
 refine oK (X:=fun w=>(Strs w a.to a.toL∧Wraps w a.wraps a.wrapsL)∧Strs w b.to a.toL∧Wraps w b.wraps a.wrapsL) ?_ fun w h=>⟨h.1,by have h2:=h.2.1;rw [hE] at h2;exact h2,by have h2:=h.2.2;rw [hE] at h2;exact h2⟩
 have f1:seqB a.author b.author=true:=by rw [hE];exact bN _
 have f2:a.seq=b.seq:=by rw [hE];rfl
 have f3:seqB a.prev b.prev=true:=by rw [hE];exact bN _
 have f4:a.kind=b.kind:=by rw [hE];rfl
 have f5:a.time=b.time:=by rw [hE];rfl
 have f6:seqB a.object b.object=true:=by rw [hE];exact bN _
 have f7:seqB a.target b.target=true:=by rw [hE];exact bN _
 have f8:a.scope=b.scope:=by rw [hE];rfl
 have f9:seqB a.group b.group=true:=by rw [hE];exact bN _
 have f10:seqB a.text b.text=true:=by rw [hE];exact bN _
 have f11:boxEq a.body b.body=true:=by rw [hE];exact mD _
 have f12:a.epoch=b.epoch:=by rw [hE];rfl
 have f13:a.n=b.n:=by rw [hE];rfl
 have f14:a.m=b.m:=by rw [hE];rfl
 have f15:(decide (a.e=b.e)&&decide (a.s=b.s))=true:=by rw [hE];simp [ActD.re]
 clear hE hb hr
 have hes:=sD a.to b.to a.toL
 have hew:=sB a.wraps b.wraps a.wrapsL
 refine ay (args:=[_,_]) _ Tryz.func30 rfl Tryz.ntmps30 rfl fun av bor w0=>?_
 repeat' (first|refine am (dm true rfl rfl (by assumption)) rfl aE rfl ?_|refine bn (hab:=by assumption) ?_|apply ab|apply Qu|apply Qv|refine aj ?_|refine ad ?_|refine az ?_|refine aA ?_|refine aB ?_|refine aK fun _=>?_|apply ar|(refine ao (hc:=hes) (hX:=fun w h=>⟨h.1.1,h.2.1⟩) ?_)|(refine ao (hc:=hew) (hX:=fun w h=>⟨h.1.2,h.2.2⟩) ?_)|(refine am (m6 (a:=a.body) (b:=b.body) rfl rfl (by assumption)) rfl aE rfl ?_)|(refine am (m5 (a:=a.e) (b:=a.s) (c:=b.e) (d:=b.s) rfl rfl (by assumption)) rfl aE rfl ?_)|(refine aX ?_)|fail)
 all_goals first
  | exact ak (ap rfl rfl) rfl
def SomeB (u:Value) (X:World→Prop):Prop:=∃ v:Bool,u=.bool v
set_option maxRecDepth 20000 in
set_option maxHeartbeats 16000000 in
theorem rH (a b:ActD) (hra:a.Rng) (hrb:b.Rng):Mk Tryz.prog 42 #[a.v,b.v] (fun w=>a.at_ w∧b.at_ w) SomeB:=by
 have l1:=hra.to_len
 have l2:=hra.wraps_len
 have l3:=hrb.to_len
 have l4:=hrb.wraps_len
 refine cf (args:=[_,_]) _ Tryz.func42 rfl Tryz.ntmps42 rfl fun av bor w0=>?_
 refine bK (p:=((a.to.n≤maxLen∧(0<a.toL.length→a.to.p.isSome=true))∧a.wraps.n≤maxLen∧(0<a.wrapsL.length→a.wraps.p.isSome=true))∧(0<b.toL.length→b.to.p.isSome=true)∧(0<b.wrapsL.length→b.wraps.p.isSome=true)) (fun w h=>⟨⟨⟨Qq (RowsD.cap h.1.1) (RowsD.max h.1.1),h.1.1.some_⟩,Qq (RowsD.cap h.1.2) (RowsD.max h.1.2),h.1.2.some_⟩,h.2.1.some_,h.2.2.some_⟩) fun ⟨⟨⟨m1,p1⟩,m2,p2⟩,q1,q2⟩=>?_
 simp only [maxLen] at m1 m2
 by_cases hn1:a.to.n=b.to.n
 · by_cases hn2:a.wraps.n=b.wraps.n
   · repeat' (first|refine dJ (hab:=by omega) ?_|apply ab|apply Qu|apply Qv|refine aj ?_|refine ad ?_|refine az ?_|refine aA ?_|refine aC ?_|refine aW ?_|refine aK fun _=>?_|refine Qz ?_|apply Qx|apply Qw|fail)
     rename_i b2 b3
     refine aT (ι:=Kth a.toL.length) (fun i=>⟨[(2,.pointer (some ⟨b2,0,none⟩)),(3,.pointer (some ⟨b3,0,none⟩)),(5,.int .i64 i.k)],[cel b3 46 b.cells,cel b2 46 a.cells],fun w=>a.at_ w∧b.at_ w⟩) (fun i=>a.toL.length-i.k) ⟨0,Nat.zero_le _⟩ (ax ⟨rfl,rfl,rfl,trivial⟩ (aG _) fun _ h=>h) fun i=>?_
     obtain ⟨k,hk⟩:=i
     simp only
     by_cases hlt:k<a.toL.length
     · have p1':=p1 ae
       have q1':=q1 ae
       have hlt':k<b.toL.length:=by omega
       repeat' (first|refine am (bQ true rfl rfl (ZA ae)) rfl aE rfl ?_|apply ab|apply Qu|apply Qv|refine aj ?_|refine az ?_|refine aA ?_|refine aW ?_|refine Qy ?_|apply Qx|apply Qw|fail)
       (refine aU [cel b3 46 b.cells,cel b2 46 a.cells] (fun w=>a.at_ w∧b.at_ w) al ?_)
       all_goals refine aa 0 ?_<;>refine aa 1 ?_<;>refine aa 2 ?_<;>(refine aa 3 (hy:=by (apply aN (q:=k);rfl;rfl;omega;omega;assumption;omega)) ?_)<;>(refine aa 4 (hy:=by (apply dT;rfl;exact fun w h=>Strs.get h.1.1 hlt)) ?_)<;>refine aa 5 ?_<;>refine aa 6 ?_<;>refine aa 7 ?_<;>(refine aa 8 (hy:=by (apply aN (q:=k);rfl;rfl;omega;omega;assumption;omega)) ?_)<;>(refine aa 9 (hy:=by (apply dT;rfl;exact fun w h=>Strs.get h.2.1 hlt')) ?_)<;>refine aa 10 ?_<;>(refine aw ?_)
       all_goals
        repeat' (first|apply ab|apply Qu|apply Qv|refine aj ?_|refine ad ?_|refine be (h:=?_)|apply Qx|apply ar|(refine aF (ht:=?_) (hf:=?_);all_goals (intro hx_;skip)))
        all_goals first
         | exact ak (ap rfl rfl) ⟨_,rfl⟩
         | exact ⟨(⟨k+1,hlt⟩:Kth a.toL.length),(by show a.toL.length-(k+1)<a.toL.length-k;omega),ax ⟨rfl,rfl,rfl,trivial⟩ (aG _) fun _ h=>h⟩
     · repeat' (first|refine am (bQ false rfl rfl (Zn ae)) rfl aE rfl ?_|apply ab|apply Qu|apply Qv|refine aj ?_|refine ad ?_|refine az ?_|refine aA ?_|refine aW ?_|refine Qz ?_|apply Qw|apply aS|fail)
       refine aT (ι:=Kth a.wrapsL.length) (fun i=>⟨[(2,.pointer (some ⟨b2,0,none⟩)),(3,.pointer (some ⟨b3,0,none⟩)),(6,.int .i64 i.k)],[cel b3 46 b.cells,cel b2 46 a.cells],fun w=>a.at_ w∧b.at_ w⟩) (fun i=>a.wrapsL.length-i.k) ⟨0,Nat.zero_le _⟩ (ax ⟨rfl,rfl,rfl,trivial⟩ (aG _) fun _ h=>h) fun i=>?_
       obtain ⟨k,hk⟩:=i
       simp only
       by_cases hlt:k<a.wrapsL.length
       · have p2':=p2 ae
         have q2':=q2 ae
         obtain ⟨x,hx⟩:∃ x,a.wrapsL[k]?=some x:=⟨_,Zm hlt⟩
         obtain ⟨y,hy⟩:∃ y,b.wrapsL[k]?=some y:=⟨_,Zm ae⟩
         repeat' (first|refine am (bQ true rfl rfl (ZA ae)) rfl aE rfl ?_|apply ab|apply Qu|apply Qv|refine aj ?_|refine az ?_|refine aA ?_|refine aW ?_|refine Qy ?_|apply Qx|apply Qw|fail)
         (refine aU [cel b3 46 b.cells,cel b2 46 a.cells] (fun w=>a.at_ w∧b.at_ w) al ?_)
         all_goals refine aa 0 ?_<;>refine aa 1 ?_<;>refine aa 2 ?_<;>(refine aa 3 (hy:=by (apply aN (q:=k*5);rfl;rfl;omega;omega;assumption;omega)) ?_)<;>(refine aa 4 (hy:=by (apply cZ (cs:=x.cells);rfl;exact fun w h=>Wraps.get h.1.2 hx)) ?_)<;>refine aa 5 ?_<;>refine aa 6 ?_<;>refine aa 7 ?_<;>(refine aa 8 (hy:=by (apply aN (q:=k*5);rfl;rfl;omega;omega;assumption;omega)) ?_)<;>(refine aa 9 (hy:=by (apply cZ (cs:=y.cells);rfl;exact fun w h=>Wraps.get h.2.2 hy)) ?_)<;>(refine aa 10 (hy:=by (apply iv (a:=x) (b:=y);rfl;rfl)) ?_)<;>(refine aw ?_)
         all_goals
          repeat' (first|apply ab|apply Qu|apply Qv|refine aj ?_|refine ad ?_|refine be (h:=?_)|apply Qx|apply ar|(refine aF (ht:=?_) (hf:=?_);all_goals (intro hx_;skip)))
          all_goals first
           | exact ak (ap rfl rfl) ⟨_,rfl⟩
           | exact ⟨(⟨k+1,hlt⟩:Kth a.wrapsL.length),(by show a.wrapsL.length-(k+1)<a.wrapsL.length-k;omega),ax ⟨rfl,rfl,rfl,trivial⟩ (aG _) fun _ h=>h⟩
       · repeat' (first|refine am (bQ false rfl rfl (Zn ae)) rfl aE rfl ?_|apply ab|apply Qu|apply Qv|refine aj ?_|refine ad ?_|refine az ?_|refine aA ?_|refine aB ?_|refine aC ?_|refine bM ?_|refine cE ?_|refine aW ?_|refine aL ?_|refine Qz ?_|apply ar|apply aS|(refine gz (a:=a.body) (b:=b.body) ?_)|(refine pI (a:=a.e) (b:=a.s) (c:=b.e) (d:=b.s) ?_)|(refine aX ?_)|((fail_if_success (refine aZ ?_));refine aP (ht:=?_) (hf:=?_);all_goals (intro hx_;first|have:=aO hx_|have:=aQ hx_|skip))|fail)
         all_goals first
          | exact ak (ap rfl rfl) ⟨_,rfl⟩
   · repeat' (first|refine dJ (hab:=by omega) ?_|apply ab|apply Qu|apply Qv|refine aj ?_|refine ad ?_|refine az ?_|refine aA ?_|refine aC ?_|refine df ?_|refine aW ?_|refine aK fun _=>?_|apply Qx|apply Qw|apply ar|(refine aF (ht:=?_) (hf:=?_);all_goals (intro hx_;skip)))
     all_goals first
      | exact ak (ap rfl rfl) ⟨_,rfl⟩
      | (exfalso;simp at hx_;omega)
 · repeat' (first|apply ab|apply Qu|apply Qv|refine aj ?_|refine ad ?_|refine az ?_|refine aA ?_|refine aB ?_|refine aC ?_|refine df ?_|refine aW ?_|refine bC ?_|refine aK fun _=>?_|refine Qy ?_|apply Qx|apply Qw|apply ar|((fail_if_success (refine aZ ?_));refine aP (ht:=?_) (hf:=?_);all_goals (intro hx_;skip))|(refine aF (ht:=?_) (hf:=?_);all_goals (intro hx_;skip)))
   all_goals first
    | exact ak (ap rfl rfl) ⟨_,rfl⟩
    | (exfalso;simp at hx_;omega)
    | (exfalso;simp at *;omega)
set_option maxRecDepth 20000 in
set_option maxHeartbeats 16000000 in
theorem rG (a b:ChainD) (ka kb:List KeyD) (hra:∀ x∈a.actsL,x.Rng) (hrb:∀ x∈b.actsL,x.Rng) :
  Mk Tryz.prog 16 #[a.v,b.v] (fun w=>(a.at_ w∧Keyz w a.keys ka)∧b.at_ w∧Keyz w b.keys kb) SomeB:=by
 refine cf (args:=[_,_]) _ Tryz.func16 rfl Tryz.ntmps16 rfl fun av bor w0=>?_
 refine bK (p:=((a.acts.n=a.actsL.length∧a.acts.n≤maxLen∧(0<a.actsL.length→a.acts.p.isSome=true))∧a.keys.n=ka.length∧a.keys.n≤maxLen∧(0<ka.length→a.keys.p.isSome=true))∧(b.acts.n=b.actsL.length∧b.acts.n≤maxLen∧(0<b.actsL.length→b.acts.p.isSome=true))∧b.keys.n=kb.length∧b.keys.n≤maxLen∧(0<kb.length→b.keys.p.isSome=true)) (fun w h=>⟨⟨⟨h.1.1.len_,h.1.1.max_,h.1.1.some_⟩,Keyz.know w h.1.2⟩,⟨h.2.1.len_,h.2.1.max_,h.2.1.some_⟩,Keyz.know w h.2.2⟩) fun ⟨⟨⟨n1,m1,p1⟩,n2,m2,p2⟩,⟨n3,m3,p3⟩,n4,m4,p4⟩=>?_
 simp only [maxLen] at m1 m2 m3 m4
 by_cases hn1:a.acts.n=b.acts.n
 · by_cases hn2:a.keys.n=b.keys.n
   · repeat' (first|refine dJ (hab:=by omega) ?_|apply ab|apply Qu|apply Qv|refine aj ?_|refine ad ?_|refine az ?_|refine aA ?_|refine aC ?_|refine aW ?_|refine aK fun _=>?_|refine Qz ?_|apply Qx|apply Qw|fail)
     rename_i b2 b3
     refine aT (ι:=Kth a.actsL.length) (fun i=>⟨[(2,.pointer (some ⟨b2,0,none⟩)),(3,.pointer (some ⟨b3,0,none⟩)),(5,.int .i64 i.k)],[cel b3 31 b.cells,cel b2 31 a.cells],fun w=>(a.at_ w∧Keyz w a.keys ka)∧b.at_ w∧Keyz w b.keys kb⟩) (fun i=>a.actsL.length-i.k) ⟨0,Nat.zero_le _⟩ (ax ⟨rfl,rfl,rfl,trivial⟩ (aG _) fun _ h=>h) fun i=>?_
     obtain ⟨k,hk⟩:=i
     simp only
     by_cases hlt:k<a.actsL.length
     · have p1':=p1 ae
       have p3':=p3 ae
       obtain ⟨x,hx⟩:∃ x,a.actsL[k]?=some x:=⟨_,Zm hlt⟩
       obtain ⟨y,hy⟩:∃ y,b.actsL[k]?=some y:=⟨_,Zm ae⟩
       have hxm:=List.mem_of_getElem? hx
       have hym:=List.mem_of_getElem? hy
       have hsa:=rH x y (hra x hxm) (hrb y hym)
       repeat' (first|refine am (bQ true rfl rfl (ZA ae)) rfl aE rfl ?_|apply ab|apply Qu|apply Qv|refine aj ?_|refine az ?_|refine aA ?_|refine aW ?_|refine Qy ?_|apply Qx|apply Qw|fail)
       (refine aU [cel b3 31 b.cells,cel b2 31 a.cells] (fun w=>(a.at_ w∧Keyz w a.keys ka)∧b.at_ w∧Keyz w b.keys kb) al ?_)
       all_goals refine aa 0 ?_<;>refine aa 1 ?_<;>refine aa 2 ?_<;>(refine aa 3 (hy:=by (apply aN (q:=k*20);rfl;rfl;omega;omega;assumption;omega)) ?_)<;>(refine aa 4 (hy:=by (apply cZ (cs:=x.cells);rfl;exact (fun w h=>Acts.get h.1.1 hx))) ?_)<;>refine aa 5 ?_<;>refine aa 6 ?_<;>refine aa 7 ?_<;>(refine aa 8 (hy:=by (apply aN (q:=k*20);rfl;rfl;omega;omega;assumption;omega)) ?_)<;>(refine aa 9 (hy:=by (apply cZ (cs:=y.cells);rfl;exact (fun w h=>Acts.get h.2.1 hy))) ?_)<;>(refine ag 10 ?_;(refine cM (hc:=hsa) (hX:=fun w h=>⟨h.1.1.2 x hxm,h.2.1.2 y hym⟩) fun v X5 h5=>?_;obtain ⟨vb,rfl⟩:=h5);apply ab;refine ai ?_)<;>refine aa 11 ?_<;>(refine aw ?_)
       all_goals
        repeat' (first|apply ab|apply Qu|apply Qv|refine aj ?_|refine ad ?_|refine bu ?_|refine be (h:=?_)|apply Qx|apply ar|(refine aF (ht:=?_) (hf:=?_);all_goals (intro hx_;skip)))
        all_goals first
         | exact ak (ap rfl rfl) ⟨_,rfl⟩
         | exact ⟨(⟨k+1,hlt⟩:Kth a.actsL.length),(by show a.actsL.length-(k+1)<a.actsL.length-k;omega),ax ⟨rfl,rfl,rfl,trivial⟩ (aG _) fun _ h=>h.1⟩
     · repeat' (first|refine am (bQ false rfl rfl (Zn ae)) rfl aE rfl ?_|apply ab|apply Qu|apply Qv|refine aj ?_|refine ad ?_|refine az ?_|refine aA ?_|refine aW ?_|refine Qz ?_|apply Qw|apply aS|fail)
       refine aT (ι:=Kth ka.length) (fun i=>⟨[(2,.pointer (some ⟨b2,0,none⟩)),(3,.pointer (some ⟨b3,0,none⟩)),(7,.int .i64 i.k)],[cel b3 31 b.cells,cel b2 31 a.cells],fun w=>(a.at_ w∧Keyz w a.keys ka)∧b.at_ w∧Keyz w b.keys kb⟩) (fun i=>ka.length-i.k) ⟨0,Nat.zero_le _⟩ (ax ⟨rfl,rfl,rfl,trivial⟩ (aG _) fun _ h=>h) fun i=>?_
       obtain ⟨k,hk⟩:=i
       simp only
       by_cases hlt:k<ka.length
       · have p2':=p2 ae
         have p4':=p4 ae
         obtain ⟨x,hx⟩:∃ x,ka[k]?=some x:=⟨_,Zm hlt⟩
         obtain ⟨y,hy⟩:∃ y,kb[k]?=some y:=⟨_,Zm ae⟩
         repeat' (first|refine am (bQ true rfl rfl (ZA ae)) rfl aE rfl ?_|apply ab|apply Qu|apply Qv|refine aj ?_|refine az ?_|refine aA ?_|refine aW ?_|refine Qy ?_|apply Qx|apply Qw|fail)
         (refine aU [cel b3 31 b.cells,cel b2 31 a.cells] (fun w=>(a.at_ w∧Keyz w a.keys ka)∧b.at_ w∧Keyz w b.keys kb) al ?_)
         all_goals refine aa 0 ?_<;>refine aa 1 ?_<;>refine aa 2 ?_<;>(refine aa 3 (hy:=by (apply aN (q:=k*3);rfl;rfl;omega;omega;assumption;omega)) ?_)<;>(refine aa 4 (hy:=by (apply cZ (cs:=x.cells);rfl;exact fun w h=>Keyz.get h.1.2 hx)) ?_)<;>refine aa 5 ?_<;>refine aa 6 ?_<;>refine aa 7 ?_<;>(refine aa 8 (hy:=by (apply aN (q:=k*3);rfl;rfl;omega;omega;assumption;omega)) ?_)<;>(refine aa 9 (hy:=by (apply cZ (cs:=y.cells);rfl;exact fun w h=>Keyz.get h.2.2 hy)) ?_)<;>(refine aa 10 (hy:=by (apply jV (a:=x) (b:=y);rfl;rfl)) ?_)<;>(refine aw ?_)
         all_goals
          repeat' (first|apply ab|apply Qu|apply Qv|refine aj ?_|refine ad ?_|refine be (h:=?_)|apply Qx|apply ar|(refine aF (ht:=?_) (hf:=?_);all_goals (intro hx_;skip)))
          all_goals first
           | exact ak (ap rfl rfl) ⟨_,rfl⟩
           | exact ⟨(⟨k+1,hlt⟩:Kth ka.length),(by show ka.length-(k+1)<ka.length-k;omega),ax ⟨rfl,rfl,rfl,trivial⟩ (aG _) fun _ h=>h⟩
       · repeat' (first|refine am (bQ false rfl rfl (Zn ae)) rfl aE rfl ?_|apply ab|apply Qu|apply Qv|refine aj ?_|refine ad ?_|refine az ?_|refine aA ?_|refine aB ?_|refine aC ?_|refine bM ?_|refine cE ?_|refine aW ?_|refine aL ?_|refine Qz ?_|apply ar|apply aS|refine tr ?_|((fail_if_success (refine aZ ?_));refine aP (ht:=?_) (hf:=?_);all_goals (intro hx_;first|have:=aO hx_|have:=aQ hx_|skip))|fail)
         all_goals first
          | exact ak (ap rfl rfl) ⟨_,rfl⟩
   · repeat' (first|refine dJ (hab:=by omega) ?_|apply ab|apply Qu|apply Qv|refine aj ?_|refine ad ?_|refine az ?_|refine aA ?_|refine aC ?_|refine df ?_|refine aW ?_|refine aK fun _=>?_|apply Qx|apply Qw|apply ar|(refine aF (ht:=?_) (hf:=?_);all_goals (intro hx_;skip)))
     all_goals first
      | exact ak (ap rfl rfl) ⟨_,rfl⟩
      | (exfalso;simp at hx_;omega)
 · repeat' (first|apply ab|apply Qu|apply Qv|refine aj ?_|refine ad ?_|refine az ?_|refine aA ?_|refine aB ?_|refine aC ?_|refine df ?_|refine aW ?_|refine bC ?_|refine aK fun _=>?_|refine Qy ?_|apply Qx|apply Qw|apply ar|((fail_if_success (refine aZ ?_));refine aP (ht:=?_) (hf:=?_);all_goals (intro hx_;skip))|(refine aF (ht:=?_) (hf:=?_);all_goals (intro hx_;skip)))
   all_goals first
    | exact ak (ap rfl rfl) ⟨_,rfl⟩
    | (exfalso;simp at hx_;omega)
    | (exfalso;simp at *;omega)
structure AddM (L:List Int) (I:List ItemD) (ki:SlV) (b:ActD) where
 s3:SlV
 s4:SlV
 s:SlV
 bk:Nat
 Y:World→Prop
 e3:s3.n=b.to.n
 e4:s4.n=b.wraps.n
 hat:∀ w,Y w→(b.re s3 s4).at_ w
 hw:∀ w,(Items w ki I∧Y w)→Items w s (addK L I (ofActI (b.re s3 s4)))
set_option maxRecDepth 20000 in
set_option maxHeartbeats 16000000 in
theorem jg (ks ki:SlV) (L:List Int) (I:List ItemD) (hs:∀ i∈I,i.Str) (hd:∀ i∈I,i.dec.to.n=i.dec.toL.length) (au:ByteArray) (k:KyD) (x:ActD) (hxr:x.Rng) (hxt:x.target.size≤maxLen) :
    Pu Tryz.prog 6 #[.agg #[ks.v,ki.v],.string au,k.v,x.v] (fun w=>((Ints w ks L∧Items w ki I)∧x.at_ w)∧Glob w) (.bool true):=by
  have hsm:=rC
  have hfw:=Dy ks ki L I hs hd
  refine ay (args:=[_,_,_,_]) _ Tryz.func6 rfl Tryz.ntmps6 rfl fun av bor w0=>?_
  cases hfB:fewB L I with
  | false =>
    rw [hfB] at hfw
    repeat' (first|apply ab|apply Qu|apply Qv|refine aj ?_|refine ad ?_|refine aD ?_|refine aB ?_|refine bu ?_|refine bC ?_|refine aK fun _=>?_|refine Qy ?_|apply ar|(refine ao (hc:=hsm) (hX:=fun w h=>h.2) ?_)|(refine ao (hc:=hfw) (hX:=fun w h=>h.1.1) ?_)|fail)
    exact ak (ap rfl rfl) rfl
  | true =>
    rw [hfB] at hfw
    have hK:=By hfB hs hd
    by_cases hbig:30<(ki.n:Int)∨8<(x.to.n:Int)∨8<(x.wraps.n:Int)∨600<(x.text.size:Int)∨600<(x.body.data.size:Int)
    · repeat' (first|apply ab|apply Qu|apply Qv|refine aj ?_|refine ad ?_|refine az ?_|refine aA ?_|refine aD ?_|refine aB ?_|refine aC ?_|refine bu ?_|refine cF ?_|refine bU ?_|refine aW ?_|refine bC ?_|refine aK fun _=>?_|refine Qy ?_|apply Qx|apply ar|(refine ao (hc:=hsm) (hX:=fun w h=>h.2) ?_)|(refine ao (hc:=hfw) (hX:=fun w h=>h.1.1) ?_)|((fail_if_success (refine aZ ?_));refine aP (ht:=?_) (hf:=?_);all_goals (intro hx_;first|have:=aO hx_|have:=aQ hx_))|(refine aF (ht:=?_) (hf:=?_);all_goals (intro hx_;first|have:=aO hx_|have:=aQ hx_)))
      all_goals first
        | exact ak (ap rfl rfl) rfl
        | (exfalso;omega)
    · repeat' (first|refine iA (hab:=by omega) ?_|apply ab|apply Qu|apply Qv|refine aj ?_|refine ad ?_|refine az ?_|refine aA ?_|refine aD ?_|refine aB ?_|refine aC ?_|refine bu ?_|refine bM ?_|refine bU ?_|refine aW ?_|refine bC ?_|refine aI fun _=>?_|refine aK fun _=>?_|refine aH ?_|refine Qy ?_|refine Qz ?_|apply Qx|apply ar|(refine ao (hc:=hsm) (hX:=fun w h=>h.2) ?_)|(refine ao (hc:=hfw) (hX:=fun w h=>h.1.1) ?_)|(refine cM (hc:=oR ks ki hK au) (hX:=fun w h=>⟨h.1.1,h.2⟩) fun v X1 h1=>?_;obtain ⟨c,kl,hQ,rfl,hw1⟩:=h1)|((fail_if_success (refine aZ ?_));refine aP (ht:=?_) (hf:=?_);all_goals (intro hx_;first|have:=aO hx_|have:=aQ hx_))|(refine aF (ht:=?_) (hf:=?_);all_goals (intro hx_;skip)))
      all_goals first
        | exact ak (ap rfl rfl) rfl
        | (exfalso;omega)
        | skip
      rename_i b4 b6 b7 b10 hq
      clear hsm hfw hfB hs hd hq
      have hfk:c.fork=false:=hx_
      have G:=ja hK hQ
      have hlen:=G.len
      refine iD (p:=c.acts.n=c.actsL.length∧ki.n=I.length∧c.keys.n=kl.length) (fun w h=>⟨(hw1 w h.2).1.len_,h.1.1.1.2.len_,(Keyz.know w (hw1 w h.2).2).1⟩) fun ⟨hcn,hkin,hkn⟩=>?_
      have h0:0<c.actsL.length:=by omega
      obtain ⟨kg1,kg2⟩:=Bj hQ h0
      have hdr:=qT c x.kind x.time
      have hxR:(draftX c x).Rng:=⟨⟨by show (c.acts.n:Int)<_;omega,hxr.ints.2⟩,hxr.wints,hxr.to_len,hxr.wraps_len⟩
      have hxS:(draftX c x).Sm:=⟨by show x.to.n*16≤_;omega,by show x.wraps.n*64≤_;omega,hxt⟩
      have hsg:=sP k (draftX c x) hxR hxS
      repeat' (first|apply ab|apply Qu|apply Qv|refine az ?_|refine aA ?_|refine aD ?_|refine aI fun _=>?_|refine bc ?_|refine aH ?_|(refine ao (hc:=hdr) (hX:=fun _ _=>trivial) ?_)|(refine cM (hc:=hsg) (hX:=fun w h=>⟨h.1.1.2,h.1.2⟩) fun v X2 h2=>?_;obtain ⟨s1,s2,rfl,e1,e2,hw2⟩:=h2)|fail)
      rename_i b11 b12
      have hbR:(actSignV k (draftX c x)).Rng:=yr hxR
      have hbS:(actSignV k (draftX c x)).Sm:=AP hxS
      obtain ⟨b,hb⟩:∃ b,actSignV k (draftX c x)=b:=⟨_,rfl⟩
      rw [hb] at e1 e2 hw2 hbR hbS ⊢
      clear hsg hdr
      have hofA:=vS (b.re s1 s2) (g6 hbR e1 e2) (yf hbS e1 e2)
      refine kI (ι:=AddM L I ki b) (fun m=>⟨[(1,.string au),(6,.pointer (some ⟨b6,0,none⟩)),(7,.pointer (some ⟨b7,0,none⟩)),(9,.bool true),(10,.pointer (some ⟨b10,0,none⟩)),(12,.pointer (some ⟨b12,0,none⟩)),(13,.pointer (some ⟨m.bk,0,none⟩)),(14,.bool (canAdd L I (ofActI (b.re m.s3 m.s4))))],[cel m.bk 25 [ks.v,m.s.v],cel b12 46 (b.re s1 s2).cells,cel b10 31 c.cells,cel b7 46 x.cells,cel b6 77 k.v.cells.toList],fun w=>(((((Ints w ks L∧Items w ki I)∧x.at_ w)∧Glob w)∧X1 w)∧X2 w)∧m.Y w⟩) ?_ fun m=>?_
      · (refine aU [cel b12 46 (b.re s1 s2).cells,cel b11 46 (draftV c x.kind x.time).cells,cel b10 31 c.cells,cel b7 46 x.cells,cel b6 77 k.v.cells.toList,cel b4 25 (Value.agg #[ks.v,ki.v]).cells.toList] (fun w=>((((Ints w ks L∧Items w ki I)∧x.at_ w)∧Glob w)∧X1 w)∧X2 w) al ?_)
        all_goals refine aa 0 ?_<;>refine aa 1 ?_<;>(refine bw 2 7 (h:=?_) (h':=?_);(focus (((refine cM (hc:=hofA) (hX:=fun w h=>hw2 w h.2) fun v X3 h3=>?_;obtain ⟨s3,s4,rfl,e3,e4,hw3⟩:=h3);apply ab;refine ai ?_);all_goals ((refine bw 3 7 (h:=?_) (h':=?_);(focus (((refine cM (hc:=pq ks ki hK (ofActI (b.re s3 s4)) (g6 hbR (e3.trans e1) (e4.trans e2)) rfl) (hX:=fun w h=>⟨⟨h.1.1.1.1.1,hw3 w h.2,bZ w 1⟩,h.1.1.1.2⟩) fun v X4 h4=>?_;obtain ⟨s,rfl,hw4⟩:=h4);apply ab;refine ai ?_);all_goals ((refine aa 4 ?_);all_goals (refine aa 5 ?_);all_goals (refine aa 6 ?_);all_goals (refine ag 7 ?_;(refine aI fun _=>?_);apply ab;refine ai ?_);all_goals (refine ag 8 ?_;(refine aH ?_);apply ab;refine ai ?_);all_goals (refine aa 9 ?_);all_goals (refine aw ?_))));rotate_right;(focus (((refine aI fun _=>?_);apply ab;refine ai ?_);all_goals ((refine ag 3 ?_;(refine cM (hc:=pq ks ki hK (ofActI (b.re s3 s4)) (g6 hbR (e3.trans e1) (e4.trans e2)) rfl) (hX:=fun w h=>⟨⟨h.1.1.1.1.1,hw3 w h.2,bZ w 1⟩,h.1.1.1.2⟩) fun v X4 h4=>?_;obtain ⟨s,rfl,hw4⟩:=h4);apply ab;refine ai ?_);all_goals (refine aa 4 ?_);all_goals (refine aa 5 ?_);all_goals (refine aa 6 ?_);all_goals (refine ag 8 ?_;(refine aH ?_);apply ab;refine ai ?_);all_goals (refine aa 9 ?_);all_goals (refine aw ?_))))))));rotate_right;(focus (((refine aI fun _=>?_);apply ab;refine ai ?_);all_goals ((refine ag 2 ?_;(refine cM (hc:=hofA) (hX:=fun w h=>hw2 w h.2) fun v X3 h3=>?_;obtain ⟨s3,s4,rfl,e3,e4,hw3⟩:=h3);apply ab;refine ai ?_);all_goals (refine ag 3 ?_;(refine cM (hc:=pq ks ki hK (ofActI (b.re s3 s4)) (g6 hbR (e3.trans e1) (e4.trans e2)) rfl) (hX:=fun w h=>⟨⟨h.1.1.1.1.1,hw3 w h.2,bZ w 1⟩,h.1.1.1.2⟩) fun v X4 h4=>?_;obtain ⟨s,rfl,hw4⟩:=h4);apply ab;refine ai ?_);all_goals (refine aa 4 ?_);all_goals (refine aa 5 ?_);all_goals (refine aa 6 ?_);all_goals (refine ag 8 ?_;(refine aH ?_);apply ab;refine ai ?_);all_goals (refine aa 9 ?_);all_goals (refine aw ?_)))))
        all_goals
          exact ⟨(⟨s3,s4,s,_,fun w=>X3 w∧X4 w,e3.trans e1,e4.trans e2,fun w h=>hw3 w h.1,fun w h=>hw4 w ⟨h.1,h.2.2⟩⟩:AddM L I ki b),ax ⟨rfl,rfl,rfl,rfl,rfl,rfl,rfl,rfl,trivial⟩ (.cons_cons _ (.cons_cons _ (.cons _ (.cons_cons _ (.cons_cons _ (.cons_cons _ (ZR _))))))) fun w h=>⟨h.1.1,h.1.2,h.2⟩⟩
      · obtain ⟨s3,s4,s,b13,Y,e3,e4,hat,hwI⟩:=m
        simp only
        refine DB (X':=fun w=>(((Ints w ks L∧Items w s (addK L I (ofActI (b.re s3 s4))))∧c.at_ w∧Keyz w c.keys kl)∧(b.re s1 s2).at_ w∧(b.re s3 s4).at_ w)∧Glob w) (fun w h=>⟨⟨⟨⟨h.1.1.1.1.1.1,hwI w ⟨h.1.1.1.1.1.2,h.2⟩⟩,hw1 w h.1.1.2⟩,hw2 w h.1.2,hat w h.2⟩,h.1.1.1.2⟩) ?_
        have hK':KnR L (addK L I (ofActI (b.re s3 s4))):=za hK (g6 hbR e3 e4) (yf hbS e3 e4) rfl ae
        have hof:=oR ks s hK' au
        obtain ⟨f,hf⟩:∃ f,kl.getD (kl.length-1) KeyD.zero=f:=⟨_,rfl⟩
        have hgen0:0≤c.gen:=by obtain ⟨A,sa,sk,st,fk,q1,q2,q3,q4⟩:=hQ;rw [q3];exact Int.natCast_nonneg _
        have hkl0:0<kl.length:=by omega
        have hkey:Pu Tryz.prog 11 #[c.v,.int .i64 (c.acts.n:Nat)] (fun w=>c.at_ w∧Keyz w c.keys kl) (.tuple #[f.v,.bool true]):=by
          have h3:=ko c kl (c.acts.n:Nat)
          rw [BB kg2 hkl0 hcn,hf] at h3
          exact h3
        have hri:=gi k
        have hfi:=wt c G.ok (b.re s1 s2)
        rw [show (b.re s1 s2).object=b.object from rfl,jJ c b _ e1 e2] at hfi
        by_cases hall:(canAdd L I (ofActI (b.re s3 s4))=false∨(rightK k&&fitsV c b (idxV c.actsL b.object))=false)
        · have hsm2:∀ n kl',QK L (addK L I (ofActI (b.re s3 s4))) au n kl'→SameC n c∧kl'=kl:=fun n kl' q'=>by
            subst hb
            exact wq hK hQ h0 hcn e3 e4 q' hall
          repeat' (first|apply ab|apply Qu|apply Qv|refine aj ?_|refine ad ?_|refine az ?_|refine aA ?_|refine aD ?_|refine bu ?_|refine aW ?_|refine bS ?_|refine aI fun _=>?_|refine aH ?_|refine Qz ?_|apply Qx|(refine cM (hc:=hof) (hX:=fun w h=>⟨h.1.1.1,h.2⟩) fun v X5 h5=>?_;obtain ⟨n,kl',hQ',rfl,hw5⟩:=h5)|(refine ao (hc:=hkey) (hX:=fun w h=>h.1.1.1.2) ?_)|fail)
          obtain ⟨hsc,hkl⟩:=hsm2 n kl' hQ'
          rw [hkl] at hw5
          have hsame:=jw n c kl hsc (ja hK' hQ').ok.rng
          clear hsm2 hof hkey
          cases hR:rightK k
          all_goals
            cases hF:fitsV c b (idxV c.actsL b.object)
            all_goals
              cases hA:canAdd L I (ofActI (b.re s3 s4))
              all_goals first
                | (exfalso;rw [hR,hF,hA] at hall;simp at hall;done)
                | (rw [hR] at hri
                   rw [hF] at hfi
                   repeat' (first|apply ab|apply Qu|apply Qv|refine aj ?_|refine ad ?_|refine aD ?_|refine aB ?_|refine aC ?_|refine bu ?_|refine aL ?_|refine bC ?_|refine eU ?_|refine Qy ?_|apply ar|(refine ao (hc:=hri) (hX:=fun _ _=>trivial) ?_)|(refine ao (hc:=hfi) (hX:=fun w h=>⟨⟨h.1.1.1.2.1,h.1.2⟩,h.1.1.2.1⟩) ?_)|(refine ao (hc:=hsame) (hX:=fun w h=>⟨hw5 w h.2,h.1.1.1.2⟩) ?_)|fail)
                   all_goals exact ak (ap rfl rfl) rfl)
        · obtain ⟨hA,hR,hF⟩:canAdd L I (ofActI (b.re s3 s4))=true∧rightK k=true∧fitsV c b (idxV c.actsL b.object)=true:=by
            rw [not_or,Bool.not_eq_false,Bool.not_eq_false,ZM] at hall
            exact hall
          rw [hR] at hri
          rw [hF] at hfi
          rw [hA]
          by_cases hP:k.p=f.public_
          · have hmo:∀ n kl',QK L (addK L I (ofActI (b.re s3 s4))) au n kl'→n.id=c.id∧∃ M K,n.actsL=c.actsL++b.re s3 s4::M∧kl'=(kl++bif decide (x.kind=18) then [⟨((c.actsL.length+1:Nat):Int),x.n,x.m⟩] else [])++K∧(∀ k∈K,(c.actsL.length:Int)+1≤k.from_)∧(M=[]→n.gen=c.gen→K=[]∧n.prev=digV b):=fun n kl' q'=>by
              subst hb
              exact wr hK hQ h0 hcn hfk e3 e4 q' hA hF (by rw [hP,←hf];rfl)
            have hbp:b.prev=c.prev:=by
              subst hb
              rw [(jU hQ e3 e4 hA).2.2.1]
              rfl
            repeat' (first|refine am (ei false rfl rfl (by rw [ZA hP];rfl)) rfl aE rfl ?_|apply ab|apply Qu|apply Qv|refine aj ?_|refine ad ?_|refine az ?_|refine aA ?_|refine aD ?_|refine aB ?_|refine aC ?_|refine bu ?_|refine cB ?_|refine aW ?_|refine bS ?_|refine aI fun _=>?_|refine aH ?_|refine Qz ?_|apply Qx|apply ar|(refine cM (hc:=hof) (hX:=fun w h=>⟨h.1.1.1,h.2⟩) fun v X5 h5=>?_;obtain ⟨n,kl',hQ',rfl,hw5⟩:=h5;refine iD (p:=(n.acts.n=n.actsL.length∧n.acts.n≤maxLen∧(0<n.actsL.length→n.acts.p.isSome=true))∧n.keys.n=kl'.length∧(0<kl'.length→n.keys.p.isSome=true)) (fun w h=>⟨⟨(hw5 w h.2).1.len_,(hw5 w h.2).1.max_,(hw5 w h.2).1.some_⟩,(Keyz.know w (hw5 w h.2).2).1,(Keyz.know w (hw5 w h.2).2).2.2⟩) fun ⟨⟨hnn,hnm,hnp⟩,hnk,hnkp⟩=>?_;obtain ⟨hni,M,K,hM,hkl,hKf,hlast⟩:=hmo n kl' hQ';have hnl:n.actsL.length=c.actsL.length+(M.length+1):=by rw [hM];simp)|(refine ao (hc:=hkey) (hX:=fun w h=>h.1.1.1.2) ?_)|(refine ao (hc:=hri) (hX:=fun _ _=>trivial) ?_)|(refine ao (hc:=hfi) (hX:=fun w h=>⟨⟨h.1.1.1.2.1,h.1.2⟩,h.1.1.2.1⟩) ?_)|(refine aF (ht:=?_) (hf:=?_);all_goals (intro hx_;first|have:=aO hx_|have:=aQ hx_)))
            all_goals first
              | (exfalso;omega)
              | skip
            rename_i b15 b16
            have G':=ja hK' hQ'
            have hnlen:=G'.len
            have hnkl:=G'.klen
            clear hof hmo hkey hri hfi hwI hat hofA
            have hget:n.actsL[c.acts.n]?=some (b.re s3 s4):=by rw [hcn,hM,Qm (Qp _),Nat.sub_self];rfl
            have hnp':=hnp ae
            have htk:n.actsL.take c.acts.n=c.actsL:=by rw [hcn,hM,List.take_left]
            have hck:cutK kl' c.acts.n=kl:=by
              rw [hcn,hkl]
              refine zD kg2 (fun k hk=>?_) hKf
              cases hd:decide (x.kind=18) with
              | true =>
                rw [hd,ZC] at hk
                rw [List.mem_singleton.1 hk]
                show (c.actsL.length:Int)+1≤((c.actsL.length+1:Nat):Int)
                omega
              | false =>
                rw [hd,ZB] at hk
                exact (List.not_mem_nil hk).elim
            have hcg:cutG kl' n.actsL c.acts.n=c.gen:=by rw [hcn];exact wo kg1 hgen0 (by rw [←hcn];exact hck) (by rw [←hcn];exact htk)
            have hsa:=ra (b.re s3 s4) (b.re s1 s2) ((zL b e1 e2).trans (zL b e3 e4).symm) (g6 hbR e3 e4)
            have hcut:=Ca n kl' ae ae c.acts.n ae (b.re s3 s4) hget
            rw [hck] at hcut
            have hsame:=fun sk=>jw (cutD n kl' c.acts.n (b.re s3 s4).prev sk) c kl ⟨hni,hbp,hcg,hfk.symm,by show c.actsL.map _=(n.actsL.take c.acts.n).map _;rw [htk]⟩ (fun z hz=>G'.ok.rng z (List.mem_of_mem_take hz))
            (refine aU [cel b15 31 n.cells,cel b12 46 (b.re s1 s2).cells,cel b10 31 c.cells] (fun w=>((((Ints w ks L∧Items w s (addK L I (ofActI (b.re s3 s4))))∧c.at_ w∧Keyz w c.keys kl)∧(b.re s1 s2).at_ w∧(b.re s3 s4).at_ w)∧Glob w)∧X5 w) al ?_)
            all_goals refine aa 0 ?_<;>refine aa 1 ?_<;>refine aa 2 ?_<;>refine aa 3 ?_<;>refine aa 4 ?_<;>(refine aa 5 (hy:=by (apply aN (q:=c.acts.n*20);rfl;rfl;omega;omega;assumption;omega)) ?_)<;>(refine aa 6 (hy:=by (apply cZ (cs:=(b.re s3 s4).cells);rfl;exact fun w h=>Acts.get (hw5 w h.2).1 hget)) ?_)<;>refine aa 7 ?_<;>(refine ag 8 ?_;(refine ao (hc:=hsa) (hX:=fun w h=>⟨h.1.1.2.2,h.1.1.2.1⟩) ?_);apply ab;refine ai ?_)<;>refine aa 9 ?_<;>refine aa 10 ?_<;>refine aa 11 ?_<;>refine aa 12 ?_<;>refine aa 13 ?_<;>refine aa 15 ?_<;>(refine ag 14 ?_;(refine cM (hc:=hcut) (hX:=fun w h=>hw5 w h.2) fun v X6 h6=>?_;obtain ⟨sk,rfl,hw6⟩:=h6);apply ab;refine ai ?_)<;>(refine ag 16 ?_;(refine ao (hc:=hsame sk) (hX:=fun w h=>⟨hw6 w h.2,h.1.1.1.1.2⟩) ?_);apply ab;refine ai ?_)<;>refine aa 17 ?_<;>refine aa 18 ?_<;>(refine aw ?_)
            by_cases hlast3:x.kind=18∧(n.acts.n:Int)=(c.acts.n:Int)+1∧n.gen=c.gen
            · obtain ⟨k1,k2,k3⟩:=hlast3
              have hM0:M=[]:=List.eq_nil_of_length_eq_zero ae
              obtain ⟨hK0,_⟩:=hlast hM0 k3
              have hkl2:kl'=kl++[⟨((c.actsL.length+1:Nat):Int),x.n,x.m⟩]:=by rw [hkl,hK0,ZA k1,ZC,Z9]
              have hll:kl'.length=kl.length+1:=by rw [hkl2];simp
              have hle:kl'[kl'.length-1]?=some ⟨((c.actsL.length+1:Nat):Int),x.n,x.m⟩:=by rw [hll,Nat.add_sub_cancel,hkl2,Qm (Qp _),Nat.sub_self];rfl
              have hnkp':=hnkp ae
              have hke:keyEq ⟨((c.actsL.length+1:Nat):Int),x.n,x.m⟩ ⟨(n.acts.n:Nat),x.n,x.m⟩=true:=by
                rw [keyEq,ZA (show ((c.actsL.length+1:Nat):Int)=(n.acts.n:Nat) by omega),ZA rfl,ZA rfl]
                rfl
              repeat' (first|refine bn (hab:=by first|exact k1|exact k2|exact k3) ?_|apply ab|apply Qu|apply Qv|refine aj ?_|refine ad ?_|refine az ?_|refine aA ?_|refine aD ?_|refine aB ?_|refine aW ?_|refine be (h:=?_)|refine cL (h:=?_)|refine aI fun _=>?_|refine aH ?_|refine Qy ?_|apply ar|(refine bz (q:=(kl'.length-1)*3) ?_)|(refine cq (cs:=(⟨((c.actsL.length+1:Nat):Int),x.n,x.m⟩:KeyD).cells) (hF:=fun w h=>Keyz.get (hw5 w h.1.2).2 hle) ?_)|(refine bm (cs:=(⟨(n.acts.n:Nat),x.n,x.m⟩:KeyD).cells) (hf:=by rfl) ?_)|(refine am (hke▸px (a:=⟨((c.actsL.length+1:Nat):Int),x.n,x.m⟩) (b:=⟨(n.acts.n:Nat),x.n,x.m⟩) rfl rfl) rfl aE rfl ?_)|fail)
              all_goals first
                | exact ak (ap rfl rfl) rfl
            · repeat' (first|apply ab|apply Qu|apply Qv|refine aj ?_|refine ad ?_|refine az ?_|refine aA ?_|refine aB ?_|refine aC ?_|refine bM ?_|refine aW ?_|refine be (h:=?_)|refine cL (h:=?_)|refine aL ?_|refine Qz ?_|apply Qx|apply ar|((fail_if_success (refine aZ ?_));refine aP (ht:=?_) (hf:=?_);all_goals (intro hx_;first|have:=aO hx_|have:=aQ hx_))|(refine aF (ht:=?_) (hf:=?_);all_goals (intro hx_;first|have:=aO hx_|have:=aQ hx_)))
              all_goals first
                | exact ak (ap rfl rfl) rfl
                | (exfalso;exact hlast3 ⟨by assumption,by assumption,by assumption⟩)
          · repeat' (first|refine am (ei true rfl rfl (by rw [Zn hP];rfl)) rfl aE rfl ?_|apply ab|apply Qu|apply Qv|refine aj ?_|refine ad ?_|refine az ?_|refine aA ?_|refine aD ?_|refine aB ?_|refine aC ?_|refine bu ?_|refine aW ?_|refine bS ?_|refine bC ?_|refine eU ?_|refine aI fun _=>?_|refine aH ?_|refine Qy ?_|refine Qz ?_|apply Qx|apply ar|(refine cM (hc:=hof) (hX:=fun w h=>⟨h.1.1.1,h.2⟩) fun v X5 h5=>?_;obtain ⟨n,kl',hQ',rfl,hw5⟩:=h5)|(refine ao (hc:=hkey) (hX:=fun w h=>h.1.1.1.2) ?_)|(refine ao (hc:=hri) (hX:=fun _ _=>trivial) ?_)|(refine ao (hc:=hfi) (hX:=fun w h=>⟨⟨h.1.1.1.2.1,h.1.2⟩,h.1.1.2.1⟩) ?_)|(refine cM (hc:=rG n c kl' kl (ja hK' hQ').ok.rng G.ok.rng) (hX:=fun w h=>⟨hw5 w h.2,h.1.1.1.2⟩) fun v X6 h6=>?_;obtain ⟨vb,rfl⟩:=h6;cases vb)|fail)
            all_goals first
              | exact ak (ap rfl rfl) rfl
end Go.Proofs.YtcdilibijnboeaaGreatDoor
namespace Go.Proofs.YtcdilibijnboeaaGreatDoor
open Go Go.Proofs Sy Go.RowKit Go.Deep Go.ChangeShapes
section
variable {H:Type} {enc:TypeId×Value→H} {P:Program} {w:World} {base:Nat} {spare:Nat→Bool} {held:Bool}
theorem yA {fuel:Nat} {cs:List Value} {x:DataW H×List MemPlace} (h:DataW.trod enc Tryz.prog w base spare held fuel 77 cs=some x):∃ k:KyD,cs=k.cells:=by
 have hl:=fK Tryz.underlying77 (k:=2) al h
 obtain ⟨n0,y0,h0⟩:=bA (i:=0) (off:=0) (k:=1) (t':=3) Tryz.underlying77 h rfl rfl rfl al
 obtain ⟨n1,y1,h1⟩:=bA (i:=1) (off:=1) (k:=1) (t':=3) Tryz.underlying77 h rfl rfl rfl al
 match cs,hl with
 | [c0,c1],_ =>
  obtain ⟨s0,e0,b0⟩:=bR h0
  obtain ⟨s1,e1,b1⟩:=bR h1
  simp at e0 e1
  exact ⟨⟨s0,s1⟩,by rw [e0,e1];rfl⟩
end
end Go.Proofs.YtcdilibijnboeaaGreatDoor
namespace Go.Proofs.YtcdilibijnboeaaGreatDoor
open Go Go.Proofs Sy Go.RowKit Go.Deep Go.ChangeShapes Go.WideShapes
theorem laidOut:laidOutB Tryz.prog=true:=by kernel_rfl
theorem ia {H:Type} {enc:TypeId×Value→H} {P:Program} (hl:laidOutB P=true) {W W':World} {sp:Nat→Bool}:∀ (ts:List TypeId) (vs:List Value) (ds:List (DataW H)) (ps:List MemPlace),(∀ t∈ts,P.readableRec t=true∧t<P.types.size) →
  DataW.TrodAll enc P W 0 (fun _=>true) true ts vs ds ps→(∀ p∈ps,W.sameAt W' p)→(∀ p∈ps,sp p.block=true)→DataW.TrodAll enc P W' 0 sp true ts vs ds ps
 | [],vs,ds,ps,_,h,_,_=>by
  obtain ⟨rfl,rfl,rfl⟩:=trodAll_nil h
  exact trodAll_mk0
 | t::ts,vs,ds,ps,ht,h,hs,hp=>by
  obtain ⟨v,vs',d,ds',p,q,rfl,rfl,rfl,h1,h2⟩:=trodAll_cons h
  exact trodAll_cons_mk (WideElems.Trod_stays hl (ht t aJ).1 (ht t aJ).2 h1 (fun x hx=>hs x (List.mem_append_left _ hx)) (fun x hx=>hp x (List.mem_append_left _ hx)))
   (ia hl ts vs' ds' q (fun u hu=>ht u (ZS _ hu)) h2 (fun x hx=>hs x (List.mem_append_right _ hx)) (fun x hx=>hp x (List.mem_append_right _ hx)))
theorem wa {X:World→Prop} {w:World} (hX:X w) (hk:∀ w':World,(∀ k,k<w.heap.size→w'.heap[k]?=w.heap[k]?)→X w'):Gam [] (fps []) w [] X w :=
 ⟨Fr.refl _ _,fun k hk=>by simp at hk,by simp [fps],fun k hk=>by simp [fps] at hk,fun r hr=>by simp at hr,⟨fun k=>k<w.heap.size,fun k hk=>⟨hk,by simp [fps]⟩,hk⟩⟩
theorem qZ {P:Program} {f:FuncId} {args:Array Value} {X:World→Prop} {v:Value} {w:World} (h:Pu P f args X v) (hX:X w) (hk:∀ w':World,(∀ k,k<w.heap.size→w'.heap[k]?=w.heap[k]?)→X w') :
  Calls P f args w fun e w'=>e=.returned v∧Below w.heap.size w w':=by
 unfold Pu at h
 exact (Ct.run h w [] (wa hX hk)).mono fun e w' ⟨u,R,X',he,⟨hu,hR⟩,G⟩=>⟨by rw [he,hu],G.fr.below⟩
theorem laidK:Rows.laid_agora_sum_constants (H:=Unit)=Lib.tabData .u32 kC:=by kernel_rfl
theorem laidI:Rows.laid_agora_sum_initial (H:=Unit)=Lib.tabData .u32 iniC:=by kernel_rfl
theorem mz {W:World} {name:String} {zs:List Int} {g:Nat} (h:Lib.TabIs Tryz.prog W name .u32 zs) (hg:Tryz.prog.globalNamed name=some g):CellsAt g (u32s zs) W:=fun j v hj=>by
 have hj':j<zs.length:=by have:=(List.getElem?_eq_some_iff.1 hj).1;simpa [u32s] using this
 rw [h.cell hg j hj']
 simp only [u32s,List.getElem?_map,Zm hj',Option.map_some,Qc] at hj
 rw [ZL,Zm hj',←hj]
 rfl
theorem BH {W:World} (h:laidMet Tryz.prog [("agora/sum.constants",Rows.laid_agora_sum_constants),("agora/sum.initial",Rows.laid_agora_sum_initial)] W):Glob W:=by
 rw [laidK,laidI] at h
 have h1:=Lib.tabIs_of_head (g:=1) (t:=168) (e:=128) (n:=64) al al Tryz.underlying168 Tryz.underlying128 al al h
 obtain ⟨ps,⟨g',t',cs,fuel,p,q,hg',ht',hvar,hd,hrest,hpq⟩,_⟩:=h
 obtain ⟨g2,t2,cs2,fuel2,p2,q2,hg2,ht2,hvar2,hd2,_,_⟩:=hrest
 have h2:Lib.TabIs Tryz.prog W "agora/sum.initial" .u32 iniC:=by
  have e1:Tryz.prog.globalNamed "agora/sum.initial"=some 0:=by kernel_rfl
  have e2:(Tryz.prog.globals[0]?).map (·.type)=some 129:=by kernel_rfl
  obtain rfl:=Option.some.inj (e1.symm.trans hg2)
  obtain rfl:=Option.some.inj (e2.symm.trans ht2)
  unfold Lib.TabIs
  rw [hvar2,←Lib.cells_of_tab Tryz.underlying129 Tryz.underlying128 al al hd2]
 exact ⟨mz h2 al,mz h1 al⟩
def layRow (l:List Value):Obj→Obj
 | .cells _ t frozen=>.cells l.toArray t frozen
 | o=>o
noncomputable def laidWorld (os:Os):World :=
 { World.holding Tryz.prog os ⟨#[],#[],[]⟩ with heap:=((World.holding Tryz.prog os ⟨#[],#[],[]⟩).heap.modify 0 (layRow (u32s iniC))).modify 1 (layRow (u32s kC)) }
end Go.Proofs.YtcdilibijnboeaaGreatDoor
