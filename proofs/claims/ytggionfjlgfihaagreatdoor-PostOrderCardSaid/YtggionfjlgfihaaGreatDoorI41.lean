/- Joined. -/
import Derived.Test.YtggionfjlgfihaaGreatDoorI0
import Derived.Test.YtggionfjlgfihaaGreatDoorI26
import Derived.Test.YtggionfjlgfihaaGreatDoorI14
import Derived.Test.YtggionfjlgfihaaGreatDoorI8
set_option linter.unusedVariables false
set_option linter.unusedSimpArgs false
set_option maxHeartbeats 16000000
namespace Go.Proofs.YtggionfjlgfihaaGreatDoor
open Go Go.Proofs Sy
theorem qd (l:List ByteArray):(compB l).length≤l.length:=by
 rw [compB,List.length_map]
 exact Nat.le_trans (Lib.compact_length_le _) (by rw [List.length_map];exact Nat.le_refl _)
def authI (I:List Xb):List ByteArray:=(I.filter fun i=>decide (i.kind=0)).map fun i=>i.act.author
theorem rM (I:List Xb) {k:Nat} {x:Xb} (h:I[k]?=some x):authI (I.take (k+1))=authI (I.take k)++(bif decide (x.kind=0) then [x.act.author] else []):=by
 rw [authI,authI,List.take_add_one,h,Option.toList_some,List.filter_append,List.map_append]
 congr 1
 cases hb:decide (x.kind=0) with
 | true=>simp [hb]
 | false=>simp [hb]
theorem gY (I:List Xb):(authI I).length≤I.length:=by rw [authI,List.length_map];exact List.length_filter_le _ _
inductive All2 {α β:Type} (R:α→β→Prop):List α→List β→Prop
 | nil:All2 R [] []
 | cons {a:α} {b:β} {l:List α} {m:List β}:R a b→All2 R l m→All2 R (a::l) (b::m)
theorem All2.snoc {α β:Type} {R:α→β→Prop} {l:List α} {m:List β} (h:All2 R l m) {a:α} {b:β} (r:R a b):All2 R (l++[a]) (m++[b]):=by
 induction h with
 | nil=>exact .cons r .nil
 | cons h1 _ ih=>exact .cons h1 ih
theorem All2.len {α β:Type} {R:α→β→Prop} {l:List α} {m:List β} (h:All2 R l m):l.length=m.length:=by
 induction h with
 | nil=>rfl
 | cons _ _ ih=>rw [List.length_cons,List.length_cons,ih]
theorem All2.right {α β:Type} {R:α→β→Prop} {l:List α} {m:List β} (h:All2 R l m):∀ b∈m,∃ a∈l,R a b:=by
 induction h with
 | nil=>exact fun b hb=>absurd hb (by simp)
 | cons h1 _ ih =>
  intro b hb
  rcases List.mem_cons.1 hb with rfl|hb
  · exact ⟨_,ap,h1⟩
  · obtain ⟨a,ha,r⟩:=ih b hb
    exact ⟨a,List.mem_cons_of_mem _ ha,r⟩
abbrev ChK:=Xd×List Xl
def neK (p:ChK):Bool:=decide (0<p.1.actsL.length)
def OfQ (Q:ByteArray→Xd→List Xl→Prop) (au:ByteArray) (u:Value) (X:World→Prop):Prop:=∃ (c:Xd) (kl:List Xl),Q au c kl∧u=c.v∧∀ w,X w→c.at_ w∧Keyz w c.keys kl
def AllAt (Q:ByteArray→Xd→List Xl→Prop) (ids:List ByteArray) (u:Value) (X:World→Prop):Prop :=
 ∃ (s:Xj) (M:List ChK),All2 (fun id p=>Q id p.1 p.2) ids M∧u=s.v∧∀ w,X w→Chains w s ((M.filter neK).map Prod.fst)∧∀ p∈M,Keyz w p.1.keys p.2
structure IdsI (I:List Xb) where
 k:Nat
 hk:k≤I.length
 A:Option Addr
 c:Nat
 n:Nat
 hn:n=(authI (I.take k)).length
 xs:List Value
 hxs:xs=(authI (I.take k)).map encB
structure ChsI (Q:ByteArray→Xd→List Xl→Prop) (ids:List ByteArray) where
 k:Nat
 hk:k≤ids.length
 M:List ChK
 hM:All2 (fun id p=>Q id p.1 p.2) (ids.take k) M
 A:Option Addr
 c:Nat
 n:Nat
 hn:n=(M.filter neK).length
 xs:List Value
 hxs:xs=(((M.filter neK).map Prod.fst).map Xd.cells).flatten
theorem yf (Q:ByteArray→Xd→List Xl→Prop) (ks ki:Xj) (L:List Int) (I:List Xb) (hI:I.length≤1000)
  (hof:∀ au,Mk Tryz.prog 32 #[.agg #[ks.v,ki.v],.string au] (fun w=>(Ints w ks L∧Items w ki I)∧Xf w) (OfQ Q au)) :
  Mk Tryz.prog 9 #[.agg #[ks.v,ki.v]] (fun w=>(Ints w ks L∧Items w ki I)∧Xf w) (AllAt Q (compB (sortB (authI I)))):=by
 refine cC Tryz.func9 Tryz.ntmps9 fun av bor w0=>?_
 refine aH (p:=ki.n=I.length∧ki.n≤maxLen∧(0<I.length→ki.p.isSome=true)) (fun w h=>⟨h.1.2.len_,h.1.2.max_,h.1.2.some_⟩) fun ⟨hin,him,hip⟩=>?_
 simp only [maxLen] at him
 refine bA 9 1 ?_
 refine bA 67 6 ?_
 repeat' (first|refine gs ?_|refine gs1 fun _=>?_|fail)
 rename_i b1
 refine am (ι:=IdsI I) (fun i=>⟨[(1,.pointer (some ⟨b1,0,none⟩)),(3,.slice i.A i.n i.c),(11,ki.v),(12,.int .i64 (ki.n:Nat)),(13,.int .i64 (i.k:Nat))],
  [cel b1 26 [ks.v,ki.v],orow 67 6 (.slice none 0 0) 0 [],orow 9 1 (.slice i.A i.n i.c) i.n i.xs],fun w=>(Ints w ks L∧Items w ki I)∧Xf w⟩) (fun i=>I.length-i.k) ⟨0,Nat.zero_le _,none,0,0,rfl,[],rfl⟩ (ae al (aj _) fun _ h=>h) fun i=>?_
 obtain ⟨k,hk,A,cp,n,hn,xs,hxs⟩:=i
 simp only
 by_cases hlt:k<I.length
 · have hip':=hip aa
   obtain ⟨x,hx⟩:∃ x,I[k]?=some x:=⟨_,List.getElem?_eq_getElem hlt⟩
   have hs:=rM I hx
   have hnb:n≤1000:=by have h1:=gY (I.take k);rw [List.length_take] at h1;omega
   by_cases h0:x.kind=0
   · rw [decide_eq_true h0,cond_true] at hs
     repeat' (first|refine aO ?_ (bj true rfl rfl (decide_eq_true aa))|refine bp (hab:=h0) ?_|(refine aC (size:=1) (z:=.string ⟨#[]⟩) (news:=[encB x.act.author]) (q:=1) rfl rfl rfl rfl (fun _=>At.there _ (At.there _ (At.there _ (At.there _ (At.here _))))) (fun w G=>aU G ap rfl rfl 1) aa (by simp only [maxLen];omega) rfl ?_ rfl ?_;(first|with_reducible rfl|with_reducible assumption|with_reducible exact Bool.not_false|with_reducible exact Bool.not_true);intro A2 c2)|refine gs ?_|refine gs1 fun _=>?_|(refine aE (q:=k*49) ?_)|(refine aS (cs:=x.cells) (hF:=fun w h=>Items.get h.1.2 hx) ?_)|(refine gp ?_ ?_<;>intro hx_ this)|fail)
     exact ⟨(⟨k+1,hlt,A2,c2,n+1,by rw [hs,List.length_append,←hn];rfl,xs++[encB x.act.author],by rw [hs,List.map_append,←hxs];rfl⟩:IdsI I),(by show I.length-(k+1)<I.length-k;omega),ae al (.cons _ (.cons _ (aj _))) fun _ h=>h⟩
   · rw [decide_eq_false h0,cond_false,List.append_nil] at hs
     repeat' (first|refine aO ?_ (bj true rfl rfl (decide_eq_true aa))|refine bo (hab:=h0) ?_|refine gs ?_|refine gs1 fun _=>?_|(refine aE (q:=k*49) ?_)|(refine aS (cs:=x.cells) (hF:=fun w h=>Items.get h.1.2 hx) ?_)|(refine gp ?_ ?_<;>intro hx_ this)|fail)
     exact ⟨(⟨k+1,hlt,A,cp,n,by rw [hs];exact hn,xs,by rw [hs];exact hxs⟩:IdsI I),(by show I.length-(k+1)<I.length-k;omega),ae al (.cons _ (aj _)) fun _ h=>h⟩
 have hkE:k=I.length:=by omega
 rw [hkE,List.take_length] at hn hxs
 subst hxs
 have hnb:n≤1000000000:=by have h1:=gY I;omega
 repeat' (first|refine aO ?_ (bj false rfl rfl (decide_eq_false aa))|(refine d9 (hc:=gc hnb) (hX:=fun _ _=>trivial) ?_)|(refine ec (hc:=gH) (hX:=fun _ _=>trivial) ?_;rintro _ _ X2 ⟨A3,c3,rfl,rfl⟩;refine aW ?_)|refine gs ?_|refine gs1 fun _=>?_|(refine gp ?_ ?_<;>intro hx_ this)|fail)
 have hB:(compB (sortB (authI I))).length≤1000:=by
  have h1:=qd (sortB (authI I))
  have h2:=gN (authI I)
  have h3:=gY I
  omega
 generalize hids:compB (sortB (authI I))=ids at *
 clear hids hlt hk hnb hn
 refine am (ι:=ChsI Q ids) (fun i=>⟨[(1,.pointer (some ⟨b1,0,none⟩)),(6,.slice i.A i.n i.c),(30,.slice A3 ids.length c3),(31,.int .i64 (ids.length:Nat)),(32,.int .i64 (i.k:Nat))],
  [cel b1 26 [ks.v,ki.v],orow 67 6 (.slice i.A i.n i.c) i.n i.xs],fun w=>(((Ints w ks L∧Items w ki I)∧Xf w)∧Strs w ⟨A3,ids.length,c3⟩ ids)∧∀ p∈i.M,p.1.at_ w∧Keyz w p.1.keys p.2⟩) (fun i=>ids.length-i.k) ⟨0,Nat.zero_le _,[],.nil,none,0,0,rfl,[],rfl⟩ ?_ fun i=>?_
 · exact ae al (.cons_cons _ (.cons_cons _ (List.nil_sublist _))) fun w h=>⟨⟨h.1.1,eA h.2 rfl⟩,fun p hp=>absurd hp (by simp)⟩
 obtain ⟨k,hk,M,hM,A4,c4,n4,hn4,xs,hxs⟩:=i
 simp only
 have hMl:M.length=k:=by have:=hM.len;rw [List.length_take] at this;omega
 have hn4b:n4≤1000:=by have:=List.length_filter_le neK M;omega
 by_cases hlt:k<ids.length
 · refine aH (p:=A3.isSome=true) (fun w h=>h.1.2.some_ aa) fun hA3=>?_
   have hget:ids[k]?=some (ids.getD k .empty):=by rw [List.getD_eq_getElem?_getD,List.getElem?_eq_getElem hlt];rfl
   have hlt':=hlt
   generalize hxe:ids.getD k .empty=x at *
   repeat' (first|refine aO ?_ (bj true rfl rfl (decide_eq_true aa))|(refine bm (hc:=hof x) (hX:=fun w h=>h.1.1) fun v X5 h5=>?_;obtain ⟨c,kl,hQ,rfl,hw5⟩:=h5;refine iB (p:=c.acts.n=c.actsL.length) (fun w h=>(hw5 w h.2).1.len_) fun hcn=>?_)|(refine aC (size:=6) (news:=c.cells) (q:=1) rfl rfl rfl rfl (fun _=>At.there _ (At.there _ (At.there _ (At.here _)))) (fun w G=>aU G ap rfl rfl 1) aa (by simp only [maxLen];omega) rfl ?_ rfl ?_;(first|with_reducible rfl|with_reducible assumption|with_reducible exact Bool.not_false|with_reducible exact Bool.not_true);intro A2 c2)|refine gs ?_|refine gs1 fun _=>?_|(refine aE (q:=k) ?_)|(refine cg (u:=.string x) (hF:=fun w h=>hxe▸Strs.get h.1.2 hlt') ?_)|(refine bL (size:=6) (vs:=[c.v]) (css:=c.cells) (hsz:=by rfl) (hcs:=by rfl) fun _=>?_)|(refine gp ?_ ?_<;>intro hx_ this)|fail)
   all_goals
    have hM2:All2 (fun id p=>Q id p.1 p.2) (ids.take (k+1)) (M++[(c,kl)]):=by
     rw [List.take_add_one,hget]
     exact hM.snoc hQ
    have hX2:∀ w,((((((Ints w ks L∧Items w ki I)∧Xf w)∧Strs w ⟨A3,ids.length,c3⟩ ids)∧∀ p∈M,p.1.at_ w∧Keyz w p.1.keys p.2)∧X5 w))→(((Ints w ks L∧Items w ki I)∧Xf w)∧Strs w ⟨A3,ids.length,c3⟩ ids)∧∀ p∈M++[(c,kl)],p.1.at_ w∧Keyz w p.1.keys p.2:=fun w h=>⟨h.1.1,fun p hp=>by
     rcases List.mem_append.1 hp with hp|hp
     · exact h.1.2 p hp
     · rw [List.mem_singleton.1 hp];exact hw5 w h.2⟩
   · have hf:(M++[(c,kl)]).filter neK=M.filter neK++[(c,kl)]:=by
      rw [List.filter_append]
      have:neK (c,kl)=true:=decide_eq_true (by show 0<c.actsL.length;omega)
      simp [this]
     exact ⟨(⟨k+1,hlt,M++[(c,kl)],hM2,A2,c2,n4+1,by rw [hf,List.length_append,←hn4];rfl,xs++c.cells,by rw [hf,hxs];simp⟩:ChsI Q ids),(by show ids.length-(k+1)<ids.length-k;omega),ae al (.cons _ (.cons _ (aj _))) hX2⟩
   · have hf:(M++[(c,kl)]).filter neK=M.filter neK:=by
      rw [List.filter_append]
      have:neK (c,kl)=false:=decide_eq_false (by show ¬ 0<c.actsL.length;omega)
      simp [this]
     exact ⟨(⟨k+1,hlt,M++[(c,kl)],hM2,A4,c4,n4,by rw [hf];exact hn4,xs,by rw [hf];exact hxs⟩:ChsI Q ids),(by show ids.length-(k+1)<ids.length-k;omega),ae al (.cons _ (aj _)) hX2⟩
 · have hkE:k=ids.length:=by omega
   rw [hkE,List.take_length] at hM
   subst hxs
   repeat' (first|refine aO ?_ (bj false rfl rfl (decide_eq_false aa))|refine gs ?_|refine gs1 fun _=>?_|(refine gp ?_ ?_<;>intro hx_ this)|fail)
   refine ab (ai rfl rfl) ⟨⟨A4,n4,c4⟩,M,hM,rfl,fun w h=>⟨⟨?_,fun c hc=>?_⟩,fun p hp=>(h.1.2 p hp).2⟩⟩
   · exact aV (xs:=((M.filter neK).map Prod.fst).map Xd.cells) (h.2 _ (.tail _ (.head _))) (by rw [List.length_map,List.length_map];exact hn4) fun r hr=>by
      obtain ⟨z,_,rfl⟩:=List.mem_map.1 hr
      rfl
   · obtain ⟨p,hp,rfl⟩:=List.mem_map.1 hc
     exact (h.1.2 p (List.mem_filter.1 hp).1).1
end Go.Proofs.YtggionfjlgfihaaGreatDoor
