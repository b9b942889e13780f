/- Joined. -/
import Derived.Test.YtggionfjlgfihaaGreatDoorI0
import Derived.Test.YtggionfjlgfihaaGreatDoorI13
import Derived.Test.YtggionfjlgfihaaGreatDoorI14
import Derived.Test.YtggionfjlgfihaaGreatDoorI8
set_option linter.unusedVariables false
set_option linter.unusedSimpArgs false
set_option maxHeartbeats 16000000
namespace Go.Proofs.YtggionfjlgfihaaGreatDoor
open Go Go.Proofs Sy
theorem mN {c c':Xd} {a:Xa} {pl:Option Nat} (h1:c.id=c'.id) (h2:c.acts.n=c'.acts.n) (h3:c.prev=c'.prev) (h4:c.actsL=c'.actsL):fitsV c a pl=fitsV c' a pl:=by
 have e:∀ p,atK c pl p=atK c' pl p:=fun p=>by
  cases pl with
  | none=>rfl
  | some j=>show p (c.actsL.getD j Xa.zero).kind=p (c'.actsL.getD j Xa.zero).kind;rw [h4]
 rw [fitsV,fitsV,h1,h2,h3,e,e]
theorem uj {W:Ee} {st s:Xz} (h:regS W st=some s):∃ c i,W.won st.gen=some c∧c.base=(st.acts.length:Int)∧c.prev=st.prev∧setI st.acts st.acts.length=some i∧W.clm (st.acts.getD i Xa.zero).m c=true∧s=⟨st.acts,st.keys++[⟨(st.acts.length:Nat),c.pub,c.home⟩],W.dgC c,st.gen+1⟩:=by
 rw [regS] at h
 cases hw:W.won st.gen with
 | none=>rw [hw] at h;cases h
 | some c =>
  rw [hw] at h
  simp only at h
  cases hb:decide (c.base=(st.acts.length:Int))&&seqB c.prev st.prev with
  | false=>rw [hb] at h;cases h
  | true =>
   rw [hb] at h
   rw [Bool.and_eq_true,decide_eq_true_eq,seqB_iff] at hb
   cases hs:setI st.acts st.acts.length with
   | none=>rw [hs] at h;cases h
   | some i =>
    rw [hs] at h
    simp only [cond_true] at h
    cases hc:W.clm (st.acts.getD i Xa.zero).m c with
    | false=>rw [hc] at h;cases h
    | true =>
     rw [hc,cond_true,Option.some.injEq] at h
     exact ⟨c,i,rfl,hb.1,hb.2,rfl,hc,h.symm⟩
theorem oL {W:Ee} {st s:Xz} (h:stepS W st=some s):regS W st=some s∨regS W st=none∧∃ a,candL W st=[a]∧s=addS st a:=by
 rw [stepS] at h
 cases hr:regS W st with
 | some s'=>rw [hr] at h;exact .inl h
 | none =>
  rw [hr] at h
  cases ho:oneA (candL W st) with
  | none=>rw [ho] at h;cases h
  | some a =>
   rw [ho,Option.map_some,Option.some.injEq] at h
   exact .inr ⟨rfl,a,gR ho,h.symm⟩
theorem nH {W:Ee} {P:Xz→Prop} (hst:∀ st s,P st→stepS W st=some s→P s):∀ (n:Nat) (st:Xz),P st→P (runS W n st)
 | 0,st,h=>h
 | n+1,st,h=>by
  cases hs:stepS W st with
  | none=>rw [kQ hs];exact h
  | some s=>rw [oS hs];exact nH hst n s (hst st s h hs)
theorem mf {α:Type} (l:List α) (a:α) (i:Nat) (h:i≤l.length):(l++[a]).take i=l.take i:=by
 rw [List.take_append,show i-l.length=0 from by omega,List.take_zero,List.append_nil]
theorem pQ {α:Type} {l:List α} {a x:α} {i:Nat} (h:(l++[a])[i]?=some x):l[i]?=some x∧i<l.length∨i=l.length∧x=a:=by
 rcases Nat.lt_trichotomy i l.length with hi|rfl|hi
 · rw [List.getElem?_append_left hi] at h
   exact .inl ⟨h,hi⟩
 · rw [List.getElem?_append_right (Nat.le_refl _),Nat.sub_self] at h
   exact .inr ⟨rfl,(Option.some.inj h).symm⟩
 · rw [List.getElem?_append_right aa,List.getElem?_singleton,if_neg (by omega)] at h
   cases h
structure ChFit (W:Ee) (st:Xz):Prop where
 mem:∀ a∈st.acts,a∈W.L
 seq:∀ (i:Nat) (x:Xa),st.acts[i]?=some x→x.seq=(i:Int)
 fit:∀ (i:Nat) (x:Xa),st.acts[i]?=some x→1≤i→fitsV ((⟨st.acts.take i,[],x.prev,0⟩:Xz).ch W.id) x (idxV (st.acts.take i) x.object)=true
 key0:∃ k r,st.keys=k::r∧k.from_=0
theorem xL {W:Ee} {st s:Xz} (h:ChFit W st) (hs:stepS W st=some s):ChFit W s:=by
 obtain ⟨k,r,hk,hk0⟩:=h.key0
 rcases oL hs with h1|⟨h1,a,h2,rfl⟩
 · obtain ⟨c,i,e1,e2,e3,e4,e5,rfl⟩:=uj h1
   exact ⟨h.mem,h.seq,h.fit,k,r++[_],by rw [hk];rfl,hk0⟩
 · have ha:a∈candL W st:=by rw [h2];exact List.mem_singleton.2 rfl
   obtain ⟨m1,m2,m3⟩:=lK ha
   have hp:a.prev=st.prev:=by
    rw [candL,List.mem_filter,List.mem_filter,posB,Bool.and_eq_true,seqB_iff] at ha
    exact ha.1.2.2
   refine ⟨fun x hx=>?_,fun i x hx=>?_,fun i x hx h0=>?_,?_⟩
   · rcases List.mem_append.1 (show x∈st.acts++[a] from hx) with hx|hx
     · exact h.mem x hx
     · rw [List.mem_singleton.1 hx];exact m1
   · rcases pQ (show (st.acts++[a])[i]?=some x from hx) with ⟨h3,_⟩|⟨rfl,rfl⟩
     · exact h.seq i x h3
     · exact m2
   · rcases pQ (show (st.acts++[a])[i]?=some x from hx) with ⟨h3,h4⟩|⟨rfl,rfl⟩
     · have:=h.fit i x h3 h0
       rw [show (addS st a).acts.take i=st.acts.take i from mf _ _ _ (by omega)]
       exact this
     · rw [show (addS st x).acts.take st.acts.length=st.acts from by rw [show (addS st x).acts=st.acts++[x] from rfl,mf _ _ _ (Nat.le_refl _),List.take_length]]
       rw [candB,Bool.and_eq_true] at m3
       rw [←m3.1]
       exact mN rfl rfl hp rfl
   · show ∃ k r,(bif decide (a.kind=18) then st.keys++[_] else st.keys)=k::r∧k.from_=0
     cases decide (a.kind=18) with
     | true=>exact ⟨k,r++[_],by rw [hk];rfl,hk0⟩
     | false=>exact ⟨k,r,hk,hk0⟩
theorem A6 {W:Ee} {a:Xa} (ha:a∈firstL W):begS a=⟨[a],[⟨0,a.n,a.m⟩],digV a,0⟩∧a∈W.L∧a.seq=0∧a.prev=⟨#[]⟩∧a.kind=0∧idV a.n=W.id∧W.ver a.n a=true:=by
 rw [firstL,List.mem_filter,List.mem_filter] at ha
 have h2:=ha.1.2
 simp only [posB,Bool.and_eq_true,decide_eq_true_eq,seqB_iff] at h2
 have h3:=ha.2
 simp only [firstB,Bool.and_eq_true,decide_eq_true_eq,seqB_iff] at h3
 exact ⟨by rw [begS,addS,h3.1.1];rfl,ha.1.1,h2.1,h2.2,h3.1.1,h3.1.2,h3.2⟩
theorem zL {W:Ee} {a:Xa} (ha:a∈firstL W):ChFit W (begS a):=by
 obtain ⟨e,h1,h2,h3,h4,h5,h6⟩:=A6 ha
 rw [e]
 refine ⟨fun x hx=>by rw [List.mem_singleton.1 hx];exact h1,fun i x hx=>?_,fun i x hx h0=>?_,_,[],rfl,rfl⟩
 · rw [List.getElem?_singleton] at hx
   split at hx
   · rename_i hi
     subst hi
     rw [←Option.some.inj hx,h2];rfl
   · cases hx
 · rw [List.getElem?_singleton,if_neg (by omega)] at hx
   cases hx
theorem sQ {W:Ee} {a:Xa} (ha:a∈firstL W):ChFit W (finS W a):=nH (P:=ChFit W) (fun st s h hs=>xL h hs) _ _ (zL ha)
def gtB (a b:ByteArray):Bool:=!(Op.bytesLess a.toList b.toList||seqB a b)
def addAt (dI:Xb→ByteArray) (d:ByteArray) (I:List Xb) (k:Nat):Nat:=((I.take k).findIdx? fun x=>gtB (dI x) d).getD I.length
def addV (dI:Xb→ByteArray) (it:Xb) (I:List Xb):List Xb:=I.take (addAt dI (dI it) I I.length)++it::I.drop (addAt dI (dI it) I I.length)
theorem yk (dI:Xb→ByteArray) (d:ByteArray) (I:List Xb) (k:Nat) (hk:k≤I.length):addAt dI d I k<k∨addAt dI d I k=I.length:=by
 rw [addAt]
 cases h:(I.take k).findIdx? fun x=>gtB (dI x) d with
 | none=>exact .inr rfl
 | some j =>
  rw [List.findIdx?_eq_some_iff_getElem] at h
  obtain ⟨h1,_⟩:=h
  rw [List.length_take] at h1
  exact .inl (by show j<k;omega)
theorem rN (dI:Xb→ByteArray) (d:ByteArray) (I:List Xb) (k:Nat) (x:Xb) (hx:I[k]?=some x):addAt dI d I (k+1)=bif gtB (dI x) d&&decide (addAt dI d I k=I.length) then k else addAt dI d I k:=by
 have hk:k<I.length:=(List.getElem?_eq_some_iff.1 hx).1
 rw [addAt,addAt,List.take_add_one,hx,Option.toList_some,List.findIdx?_append]
 cases h:(I.take k).findIdx? fun x=>gtB (dI x) d with
 | none =>
  rw [List.findIdx?_singleton]
  cases hg:gtB (dI x) d with
  | true=>simp [List.length_take];omega
  | false=>simp
 | some j =>
  rw [List.findIdx?_eq_some_iff_getElem] at h
  obtain ⟨h1,_⟩:=h
  rw [List.length_take] at h1
  have:¬ j=I.length:=by omega
  simp [this]
section
variable {P:Program} {N:Nat} {av bor:List Nat} {w0:World} {x y:Operand} {t t2:TypeId} {ty:TypeId} {st:St}
theorem j7 {a b:ByteArray} (v:Bool) (hx:ev st.env x=some (.string a)) (hy:ev st.env y=some (.string b)) (hv:gtB a b=v):Sy.Yields P N av bor w0 st (.binOp .gtr t x y t2) ty (.bool v):=hv▸vw hx hy
end
structure AddI (I:List Xb) where
 k:Nat
 hk:k≤I.length
theorem tu (Y:World→Prop) (ks ki:Xj) (I:List Xb) (it:Xb) (rI:Xb→Bool) (dI:Xb→ByteArray)
  (hR:Pu Tryz.prog 23 #[it.v] (fun w=>it.at_ w) (.bool true))
  (hS:Pu Tryz.prog 24 #[ks.v,it.v] (fun w=>(Y w∧it.at_ w)∧Xf w) (.bool true))
  (hD0:Pu Tryz.prog 19 #[it.v] (fun w=>it.at_ w∧Xf w) (.string (dI it)))
  (hD:∀ x∈I,Pu Tryz.prog 19 #[x.v] (fun w=>x.at_ w∧Xf w) (.string (dI x)))
  (hI:I.length≤1000) (hnew:∀ x∈I,seqB (dI x) (dI it)=false) :
  Mk Tryz.prog 6 #[.agg #[ks.v,ki.v],it.v] (fun w=>((Y w∧Items w ki I)∧it.at_ w)∧Xf w)
   (fun u X'=>∃ s:Xj,u=.tuple #[.agg #[ks.v,s.v],.bool true]∧∀ w,X' w→Items w s (addV dI it I)):=by
 refine cC Tryz.func6 Tryz.ntmps6 fun av bor w0=>?_
 refine aH (p:=ki.n=I.length∧ki.n≤maxLen∧(0<I.length→ki.p.isSome=true)∧ki.n≤ki.c) (fun w h=>⟨h.1.1.2.len_,h.1.1.2.max_,h.1.1.2.some_,Xe.cap h.1.1.2.1⟩) fun ⟨hkn,hkm,hkp,hkc⟩=>?_
 simp only [maxLen] at hkm
 obtain ⟨d,hd⟩:∃ d,dI it=d:=⟨_,rfl⟩
 rw [hd] at hD0 hnew
 repeat' (first|(refine ag (hc:=hR) (hX:=fun w h=>h.1.2) ?_)|(refine ag (hc:=hS) (hX:=fun w h=>⟨⟨h.1.1.1,h.1.2⟩,h.2⟩) ?_)|(refine ag (hc:=hD0) (hX:=fun w h=>⟨h.1.2,h.2⟩) ?_)|refine gs ?_|refine gs1 fun _=>?_|(refine gp ?_ ?_<;>intro hx_ this)|fail)
 rename_i b2 b3 b4
 refine am (ι:=AddI I) (fun i=>⟨[(2,.pointer (some ⟨b2,0,none⟩)),(3,.pointer (some ⟨b3,0,none⟩)),(4,.pointer (some ⟨b4,0,none⟩)),(6,.string d),(7,.int .i64 (addAt dI d I i.k:Nat)),(29,ki.v),(30,.int .i64 (ki.n:Nat)),(31,.int .i64 (i.k:Nat))],[cel b4 26 [.slice none 0 0,.slice none 0 0],cel b3 45 it.cells,cel b2 26 [ks.v,ki.v]],fun w=>((Y w∧Items w ki I)∧it.at_ w)∧Xf w⟩) (fun i=>I.length-i.k) ⟨0,Nat.zero_le _⟩ (ae ⟨rfl,rfl,rfl,rfl,(by show some (Value.int .i64 (ki.n:Nat))=_;rw [hkn];rfl),rfl,rfl,rfl,trivial⟩ (aj _) fun _ h=>h) fun i=>?_
 obtain ⟨k,hk⟩:=i
 simp only
 repeat' (first|refine gs ?_|refine gs1 fun _=>?_|(refine gp ?_ ?_<;>intro hx_ this)|fail)
 · have hlt:k<I.length:=by omega
   have hkp':=hkp aa
   obtain ⟨x,hx⟩:∃ x,I[k]?=some x:=⟨_,List.getElem?_eq_getElem hlt⟩
   have hxm:=List.mem_of_getElem? hx
   have hne:=hnew x hxm
   have hst:=rN dI d I k x hx
   generalize addAt dI d I k=at0 at *
   cases hg:gtB (dI x) d with
   | false =>
    rw [hg] at hst
    have hst:addAt dI d I (k+1)=at0:=hst
    have hat:decide ((at0:Int)=(ki.n:Int))=decide ((at0:Int)=(ki.n:Int)):=rfl
    repeat' (first|refine aO ?_ (cw false rfl rfl hne)|refine aO ?_ (j7 _ rfl rfl hg)|refine aO ?_ (d2 _ rfl rfl hat)|(refine ag (hc:=hD x hxm) (hX:=fun w h=>⟨h.1.1.2.2 x hxm,h.2⟩) ?_)|refine gs ?_|refine gs1 fun _=>?_|(refine aE (q:=k*49) ?_)|(refine aS (cs:=x.cells) (hF:=fun w h=>h.1.1.2.get hx) ?_)|(refine gp ?_ ?_<;>intro hx_ this)|fail)
    exact ⟨(⟨k+1,hlt⟩:AddI I),(by show I.length-(k+1)<I.length-k;omega),ae ⟨rfl,rfl,rfl,rfl,(by show _=some (Value.int .i64 (addAt dI d I (k+1):Nat));rw [hst];rfl),rfl,rfl,rfl,trivial⟩ (.cons _ (aj _)) fun _ h=>h⟩
   | true =>
    by_cases ha:at0=I.length
    · rw [hg,decide_eq_true ha] at hst
      have hst:addAt dI d I (k+1)=k:=hst
      have hat:decide ((at0:Int)=(ki.n:Int))=true:=decide_eq_true aa
      repeat' (first|refine aO ?_ (cw false rfl rfl hne)|refine aO ?_ (j7 _ rfl rfl hg)|refine aO ?_ (d2 _ rfl rfl hat)|(refine ag (hc:=hD x hxm) (hX:=fun w h=>⟨h.1.1.2.2 x hxm,h.2⟩) ?_)|refine gs ?_|refine gs1 fun _=>?_|(refine aE (q:=k*49) ?_)|(refine aS (cs:=x.cells) (hF:=fun w h=>h.1.1.2.get hx) ?_)|(refine gp ?_ ?_<;>intro hx_ this)|fail)
      exact ⟨(⟨k+1,hlt⟩:AddI I),(by show I.length-(k+1)<I.length-k;omega),ae ⟨rfl,rfl,rfl,rfl,(by show _=some (Value.int .i64 (addAt dI d I (k+1):Nat));rw [hst];rfl),rfl,rfl,rfl,trivial⟩ (.cons _ (aj _)) fun _ h=>h⟩
    · rw [hg,decide_eq_false ha] at hst
      have hst:addAt dI d I (k+1)=at0:=hst
      have hat:decide ((at0:Int)=(ki.n:Int))=false:=decide_eq_false aa
      repeat' (first|refine aO ?_ (cw false rfl rfl hne)|refine aO ?_ (j7 _ rfl rfl hg)|refine aO ?_ (d2 _ rfl rfl hat)|(refine ag (hc:=hD x hxm) (hX:=fun w h=>⟨h.1.1.2.2 x hxm,h.2⟩) ?_)|refine gs ?_|refine gs1 fun _=>?_|(refine aE (q:=k*49) ?_)|(refine aS (cs:=x.cells) (hF:=fun w h=>h.1.1.2.get hx) ?_)|(refine gp ?_ ?_<;>intro hx_ this)|fail)
      exact ⟨(⟨k+1,hlt⟩:AddI I),(by show I.length-(k+1)<I.length-k;omega),ae ⟨rfl,rfl,rfl,rfl,(by show _=some (Value.int .i64 (addAt dI d I (k+1):Nat));rw [hst];rfl),rfl,rfl,rfl,trivial⟩ (.cons _ (aj _)) fun _ h=>h⟩
 have hkE:k=I.length:=by omega
 have hV:addV dI it I=I.take (addAt dI d I k)++it::I.drop (addAt dI d I k):=by rw [addV,hd,hkE]
 have hal:addAt dI d I k≤I.length:=by
  rcases yk dI d I k hk with h|h
  · omega
  · omega
 rw [hV]
 generalize addAt dI d I k=a0 at *
 have hones:∀ (J:List Xb),∀ cs∈J.map Xb.cells,cs.all (·.oneCell')=true:=fun J cs hcs=>by
  obtain ⟨x,_,rfl⟩:=List.mem_map.1 hcs
  rfl
 have hs1:∀ w,(((Y w∧Items w ki I)∧it.at_ w)∧Xf w)→Src Tryz.prog w 49 (.slice ki.p a0 ki.c) a0 ((I.take a0).map Xb.cells).flatten:=fun w h=>by
  have h1:=Xe.take (n:=a0) h.1.1.2.1 (by simpa using hal)
  rw [←List.map_take] at h1
  exact eL h1 (hones _)
 have hs2:∀ w,(((Y w∧Items w ki I)∧it.at_ w)∧Xf w)→Src Tryz.prog w 49 (ki.from 49 a0).v (ki.from 49 a0).n ((I.drop a0).map Xb.cells).flatten:=fun w h=>by
  have h1:=Xe.drop (n:=a0) h.1.1.2.1 (by simpa using hal)
  rw [←List.map_drop] at h1
  exact eL h1 (hones _)
 have hfn:(ki.from 49 a0).n=ki.n-a0:=rfl
 refine eU (c:=ki.n+1) (hm:=Nat.ble_eq_true_of_le aa) (hm2:=Nat.ble_eq_true_of_le aa) fun bv=>?_
 repeat' (first|refine gs ?_|refine gs1 fun _=>?_|(refine ak (vt rfl rfl aa aa) rfl rfl rfl ?_)|(refine gp ?_ ?_<;>intro hx_ this)|fail)
 refine aC (size:=49) (news:=((I.take a0).map Xb.cells).flatten) (q:=a0) rfl rfl rfl rfl (fun _=>At.here _) (fun w G=>hs1 w G.keep.now) aa (by simp only [maxLen];omega) rfl ?_ rfl ?_
 · (first|with_reducible rfl|with_reducible assumption|with_reducible exact Bool.not_false|with_reducible exact Bool.not_true)
 intro A1 c1
 repeat' (first|refine bL (size:=49) (vs:=[it.v]) (css:=it.cells) (hsz:=by rfl) (hcs:=by rfl) fun _=>?_|refine gs ?_|refine gs1 fun _=>?_|(refine gp ?_ ?_<;>intro hx_ this)|fail)
 refine aC (size:=49) (news:=it.cells) (q:=1) rfl rfl rfl rfl (fun _=>At.there _ (At.here _)) (fun w G=>aU G ap rfl rfl 1) aa (by simp only [maxLen];omega) rfl ?_ rfl ?_
 · (first|with_reducible rfl|with_reducible assumption|with_reducible exact Bool.not_false|with_reducible exact Bool.not_true)
 intro A2 c2
 repeat' (first|refine gs ?_|refine gs1 fun _=>?_|(refine ak (Ab (s:=ki) rfl rfl aa aa) rfl rfl rfl ?_)|(refine gp ?_ ?_<;>intro hx_ this)|fail)
 refine aC (size:=49) (news:=((I.drop a0).map Xb.cells).flatten) (q:=ki.n-a0) rfl rfl rfl rfl (fun _=>At.there _ (At.here _)) (fun w G=>hs2 w G.keep.now) aa (by simp only [maxLen];omega) rfl ?_ rfl ?_
 · (first|with_reducible rfl|with_reducible assumption|with_reducible exact Bool.not_false|with_reducible exact Bool.not_true)
 intro A3 c3
 repeat' (first|refine gs ?_|refine gs1 fun _=>?_|(refine aM (cs:=[ks.v,.slice A3 (0+a0+1+(ki.n-a0)) c3]) (hf:=by rfl) ?_)|(refine gp ?_ ?_<;>intro hx_ this)|fail)
 refine ab (bC rfl rfl rfl aL (by rfl)) ⟨⟨A3,0+a0+1+(ki.n-a0),c3⟩,rfl,fun w h=>?_⟩
 have hr:=h.2 (orow 45 49 (.slice A3 (0+a0+1+(ki.n-a0)) c3) (0+a0+1+(ki.n-a0)) ([]++((I.take a0).map Xb.cells).flatten++it.cells++((I.drop a0).map Xb.cells).flatten)) aL
 refine ⟨aV (e:=45) (xs:=(I.take a0++it::I.drop a0).map Xb.cells) ?_ (by simp [hkn];omega) fun r hr=>?_,fun x hx=>?_⟩
 · have e:((I.take a0++it::I.drop a0).map Xb.cells).flatten=[]++((I.take a0).map Xb.cells).flatten++it.cells++((I.drop a0).map Xb.cells).flatten:=by simp
   rw [e]
   exact hr
 · obtain ⟨x,_,rfl⟩:=List.mem_map.1 hr
   rfl
 · rcases List.mem_append.1 hx with hx|hx
   · exact h.1.1.1.2.2 x (List.mem_of_mem_take hx)
   · rcases List.mem_cons.1 hx with rfl|hx
     · exact h.1.1.2
     · exact h.1.1.1.2.2 x (List.mem_of_mem_drop hx)
theorem A7 (ks ki:Xj) (I:List Xb) (it:Xb) (rI:Xb→Bool) (dI:Xb→ByteArray)
  (hR:Pu Tryz.prog 23 #[it.v] (fun w=>it.at_ w) (.bool true))
  (hS:Pu Tryz.prog 24 #[ks.v,it.v] (fun w=>it.at_ w∧Xf w) (.bool true))
  (hD0:Pu Tryz.prog 19 #[it.v] (fun w=>it.at_ w∧Xf w) (.string (dI it)))
  (hD:∀ x∈I,Pu Tryz.prog 19 #[x.v] (fun w=>x.at_ w∧Xf w) (.string (dI x)))
  (hI:I.length≤1000) (hnew:∀ x∈I,seqB (dI x) (dI it)=false) :
  Mk Tryz.prog 6 #[.agg #[ks.v,ki.v],it.v] (fun w=>(Items w ki I∧it.at_ w)∧Xf w)
   (fun u X'=>∃ s:Xj,u=.tuple #[.agg #[ks.v,s.v],.bool true]∧∀ w,X' w→Items w s (addV dI it I)):=by
 have h:=tu (fun _=>True) ks ki I it rI dI hR (nM hS fun w h=>⟨h.1.2,h.2⟩) hD0 hD hI hnew
 unfold Mk at *
 exact Ct.mk fun w av G=>h.run w av (G.imp fun w h=>⟨⟨⟨trivial,h.1.1⟩,h.1.2⟩,h.2⟩)
theorem qK (s:Value) (a:Xa) (hR:rightB a=true):Pu Tryz.prog 24 #[s,(ofActI a).v] (fun w=>(ofActI a).at_ w∧Xf w) (.bool true):=by
 refine ar Tryz.func24 Tryz.ntmps24 fun av bor w0=>?_
 have hri:=eD a
 rw [hR] at hri
 repeat' (first|refine bo (hab:=by decide) ?_|(refine ag (hc:=hri) (hX:=fun _ h=>h.1.1) ?_)|refine gs ?_|refine gs1 fun _=>?_|(refine gp ?_ ?_<;>intro hx_ this)|fail)
 all_goals first
  | exact ab (ai rfl rfl) rfl
  | exact absurd (show (0:Int)=2 from by assumption) (by decide)
  | exact absurd (show (0:Int)=3 from by assumption) (by decide)
theorem rF:Pu Tryz.prog 22 #[.slice none 0 0] (fun _=>True) (.slice none 0 0):=by
 refine ar Tryz.func22 Tryz.ntmps22 fun av bor w0=>?_
 repeat' (first|refine ir ?_|refine gs ?_|refine gs1 fun _=>?_|(refine gp ?_ ?_<;>intro hx_ this)|fail)
 all_goals first
  | exact ab (ai rfl rfl) rfl
  | exact absurd hx_ (by decide)
theorem zg:Pu Tryz.prog 5 #[.slice none 0 0] (fun _=>True) (.agg #[.slice none 0 0,.slice none 0 0]):=by
 refine ar Tryz.func5 Tryz.ntmps5 fun av bor w0=>?_
 repeat' (first|(refine ag (hc:=rF) ?_)|refine gs ?_|refine gs1 fun _=>?_|(refine aM (cs:=[.slice none 0 0,.slice none 0 0]) (hf:=by rfl) ?_)|(refine gp ?_ ?_<;>intro hx_ this)|fail)
 exact ab (bx rfl rfl aL (by rfl)) rfl
theorem qU:Pu Tryz.prog 190 #[.int .i64 0] (fun _=>True) (.int .i64 1):=by
 refine ar Tryz.func190 Tryz.ntmps190 fun av bor w0=>?_
 repeat' (first|refine gs ?_|(refine gp ?_ ?_<;>intro hx_ this)|fail)
 · exact ab (ai rfl rfl) rfl
 · exact absurd this (by decide)
theorem qv (ki:Xj) (I:List Xb) (id:ByteArray) (g:Int) (rI:Xb→Bool) (dI:Xb→ByteArray)
  (hR:∀ it∈I,Pu Tryz.prog 23 #[it.v] (fun w=>it.at_ w) (.bool (rI it)))
  (hD:∀ it∈I,Pu Tryz.prog 19 #[it.v] (fun w=>it.at_ w∧Xf w) (.string (dI it)))
  (hI:I.length≤1000) (hsort:SortCl I.length) (hno:selC id rI I=[]) :
  Pu Tryz.prog 133 #[.agg #[.slice none 0 0,ki.v],.string id,.int .i64 g] (fun w=>Items w ki I∧Xf w) (.tuple #[Xg.zero.v,.bool false]):=by
 refine ar Tryz.func133 Tryz.ntmps133 fun av bor w0=>?_
 have hcl:=lm ⟨none,0,0⟩ ki I id rI dI hR hD hI hsort
 repeat' (first|(refine ag (hc:=qU) ?_)|(refine bm (hc:=hcl) fun v1 X1 h1=>?_;obtain ⟨s,L,rfl,hL,hw⟩:=h1)|refine gs ?_|refine gs1 fun _=>?_|(refine gp ?_ ?_<;>intro hx_ this)|fail)
 rename_i b3 b6
 obtain rfl:L=[]:=by rw [hno] at hL;exact List.Perm.eq_nil hL
 refine aH (p:=s.n=0) (fun w h=>by have h1:=Xe.len (hw w h.2);simpa using h1) fun hs0=>?_
 refine am (ι:=Unit) (fun _=>⟨[(6,.pointer (some ⟨b6,0,none⟩)),(19,.int .i64 (s.n:Nat)),(20,.int .i64 0)],[cel b6 39 Xg.zero.cells],fun w=>True⟩) (fun _=>0) () (ae al (.cons_cons _ (List.nil_sublist _)) fun _ _=>trivial) fun _=>?_
 repeat' (first|refine gs ?_|refine gs1 fun _=>?_|(refine aM (cs:=Xg.zero.cells) (hf:=by rfl) ?_)|(refine gp ?_ ?_<;>intro hx_ this)|fail)
 · exfalso;omega
 exact ab (bC rfl rfl rfl aL (by rfl)) rfl
end Go.Proofs.YtggionfjlgfihaaGreatDoor
