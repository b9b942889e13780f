/- Joined. -/
import Derived.Test.YtaolfiikahlmkaaGreatDoorT14
import Derived.Test.YtaolfiikahlmkaaGreatDoorCards
import Derived.Test.YtaolfiikahlmkaaGreatDoorTie
import Derived.WalkKit
import Derived.ProofKit
import Derived.Deep.DeepHandedRow
import Derived.Lib.LaidTab
set_option linter.unusedVariables false
set_option linter.unusedSimpArgs false
set_option maxHeartbeats 16000000
namespace Go.Proofs.YtaolfiikahlmkaaGreatDoor
open Go Go.Proofs Sy
theorem gY {a b:Xz}:betV a b=true↔b.l.until_<a.l.until_∨(a.l.until_=b.l.until_∧(ltB a.l.by_ b.l.by_=true∨(a.l.by_=b.l.by_∧b.at_<a.at_))):=by
 unfold betV
 by_cases h:a.l.until_=b.l.until_
 · rw [Zd h]
   simp only [Zn,Ze]
   cases hs:seqB a.l.by_ b.l.by_ with
   | true =>
    have e:=seqB_iff.1 hs
    simp only [Zn,Ze,Zw]
    constructor
    · intro h1;exact .inr ⟨h,.inr ⟨e,h1⟩⟩
    · rintro (h1|⟨_,h1|h1⟩)
      · omega
      · rw [e,cY] at h1;cases h1
      · exact h1.2
   | false =>
    have e:=seqB_ne.1 hs
    simp only [Zl,Zf]
    constructor
    · intro h1;exact .inr ⟨h,.inl h1⟩
    · rintro (h1|⟨_,h1|h1⟩)
      · omega
      · exact h1
      · exact absurd h1.1 e
 · rw [Zc h]
   simp only [Zl,Zf,Zw]
   constructor
   · intro h1;exact .inl h1
   · rintro (h1|h1)
     · exact h1
     · exact absurd h1.1 h
theorem uu {a b:Xz} (h:betV a b=true) (k:betV b a=true):False:=by
 rw [gY] at h k
 rcases h with h|⟨h,h2⟩
 · rcases k with k|⟨k,_⟩<;>omega
 · rcases k with k|⟨k,k2⟩
   · omega
   · rcases h2 with h2|⟨h2,h3⟩
     · rcases k2 with k2|⟨k2,_⟩
       · rw [ig h2] at k2;cases k2
       · rw [k2,cY] at h2;cases h2
     · rcases k2 with k2|⟨k2,k3⟩
       · rw [h2,cY] at k2;cases k2
       · omega
theorem ur {a b c:Xz} (h:betV a b=true) (k:betV b c=true):betV a c=true:=by
 rw [gY] at *
 rcases h with h|⟨h,h2⟩
 · rcases k with k|⟨k,_⟩<;>exact .inl aa
 · rcases k with k|⟨k,k2⟩
   · exact .inl aa
   · refine .inr ⟨by omega,?_⟩
     rcases h2 with h2|⟨h2,h3⟩
     · rcases k2 with k2|⟨k2,_⟩
       · exact .inl (ie h2 k2)
       · exact .inl (k2▸h2)
     · rcases k2 with k2|⟨k2,k3⟩
       · exact .inl (h2▸k2)
       · exact .inr ⟨h2.trans k2,by omega⟩
theorem ut {a b:Xz} (h:¬ betV a b=true) (k:¬ betV b a=true):a.l.by_=b.l.by_∧a.at_=b.at_:=by
 rw [gY] at *
 simp only [not_or,not_and] at h k
 have hu:a.l.until_=b.l.until_:=by omega
 have h2:=h.2 hu
 have k2:=k.2 hu.symm
 have e:a.l.by_=b.l.by_:=oE (by simpa using h2.1) (by simpa using k2.1)
 exact ⟨e,by have:=h2.2 e;have:=k2.2 e.symm;omega⟩
theorem iJ {l:List Xb} {k:ByteArray} {e:Xz} (h:e∈entsV l k):∃ c j,findC l k=some c∧j∈foundF c.actsL c.actsL.length∧e=entA k c.actsL j:=by
 unfold entsV at h
 cases hf:findC l k with
 | none=>rw [hf] at h;cases h
 | some c =>
  rw [hf] at h
  obtain ⟨j,hj,rfl⟩:=QJ.1 h
  exact ⟨c,j,rfl,hj,rfl⟩
theorem BB {l:List Xb} {k:ByteArray} {e:Xz} (h:e∈entsV l k):e.l.by_=k:=by
 obtain ⟨c,j,_,_,rfl⟩:=iJ h
 rfl
theorem BA {l:List Xb} {k k':ByteArray} {e e':Xz} (h:e∈entsV l k) (h':e'∈entsV l k') (hb:e.l.by_=e'.l.by_) (ha:e.at_=e'.at_):e=e':=by
 have hk:k=k':=by rw [←BB h,←BB h',hb]
 subst hk
 obtain ⟨c,j,hc,_,rfl⟩:=iJ h
 obtain ⟨c',j',hc',_,rfl⟩:=iJ h'
 rw [hc] at hc'
 cases hc'
 have:(j:Int)=(j':Int):=ha
 rw [show j=j' by omega]
def Best (S:Xz→Prop) (a:ByteArray) (e:Xz):Prop:=S e∧e.l.actor=a∧∀ e',S e'→e'.l.actor=a→e'=e∨betV e e'=true
theorem Best.uniq {S:Xz→Prop} {a:ByteArray} {e e':Xz} (h:Best S a e) (h':Best S a e'):e=e':=by
 rcases h.2.2 e' h'.1 h'.2.1 with h1|h1
 · exact h1.symm
 · rcases h'.2.2 e h.1 h.2.1 with h2|h2
   · exact h2
   · exact (uu h1 h2).elim
theorem j5 {β:Type}:∀ (b:List (ByteArray×β)) (k a:ByteArray) (v:β),mget (mput b k v) a=if a=k then some v else mget b a
 | [],k,a,v=>by
  by_cases h:a=k
  · simp only [mput,mget,(Xk.eqb_iff a k).2 h,Zf,ZO h]
  · have:Xk.eqb a k=false:=by rw [←ZE,Xk.eqb_iff];exact h
    simp only [mput,mget,this,Ze,ZP h]
 | (k',v')::r,k,a,v=>by
  have ih:=j5 r k a v
  simp only [mput]
  cases hk:Xk.eqb k k' with
  | true =>
   have e:=(Xk.eqb_iff k k').1 hk
   subst e
   by_cases h:a=k
   · simp only [Zf,mget,(Xk.eqb_iff a k).2 h,ZO h]
   · have:Xk.eqb a k=false:=by rw [←ZE,Xk.eqb_iff];exact h
     simp only [Zf,mget,this,Ze,ZP h]
  | false =>
   simp only [Ze,mget]
   cases ha:Xk.eqb a k' with
   | true =>
    have e:=(Xk.eqb_iff a k').1 ha
    subst e
    have hne:¬ a=k:=fun e=>by rw [e,(Xk.eqb_iff k k).2 rfl] at hk;cases hk
    simp only [Zf,ZP hne]
   | false=>simp only [Ze,ih]
theorem rW {β:Type}:∀ (b:List (ByteArray×β)) (k a:ByteArray) (v:β),a∈(mput b k v).map (·.1)↔a=k∨a∈b.map (·.1)
 | [],k,a,v=>by simp [mput]
 | (k',v')::r,k,a,v=>by
  have ih:=rW r k a v
  simp only [mput]
  cases hk:Xk.eqb k k' with
  | true =>
   have e:=(Xk.eqb_iff k k').1 hk
   subst e
   simp
  | false =>
   simp only [Ze,Z1,ZI,ih]
   constructor
   · rintro (h|h|h)
     · exact .inr (.inl h)
     · exact .inl h
     · exact .inr (.inr h)
   · rintro (h|h|h)
     · exact .inr (.inl h)
     · exact .inl h
     · exact .inr (.inr h)
theorem mN {β:Type}:∀ (b:List (ByteArray×β)) (k:ByteArray) (v:β),(b.map (·.1)).Nodup→((mput b k v).map (·.1)).Nodup
 | [],k,v,_=>by simp [mput]
 | (k',v')::r,k,v,h=>by
  simp only [Z1,List.nodup_cons] at h
  have ih:=mN r k v h.2
  simp only [mput]
  cases hk:Xk.eqb k k' with
  | true =>
   have e:=(Xk.eqb_iff k k').1 hk
   subst e
   simp only [Zf,Z1,List.nodup_cons]
   exact h
  | false =>
   simp only [Ze,Z1,List.nodup_cons]
   refine ⟨fun hm=>?_,ih⟩
   rcases (rW r k k' v).1 hm with e|e
   · rw [e,(Xk.eqb_iff k k).2 rfl] at hk;cases hk
   · exact h.1 e
theorem oD {β:Type}:∀ {b:List (ByteArray×β)} {a:ByteArray} {e:β},mget b a=some e→a∈b.map (·.1)
 | [],a,e,h=>by cases h
 | (k',v')::r,a,e,h=>by
  simp only [mget] at h
  cases hk:Xk.eqb a k' with
  | true=>rw [(Xk.eqb_iff a k').1 hk];simp
  | false=>rw [hk] at h;simp only [Z1,ZI];exact .inr (oD h)
structure Inv (l:List Xb) (S:Xz→Prop) (b:List (ByteArray×Xz)):Prop where
 wf:∀ e,S e→∃ k,e∈entsV l k
 nodup:(b.map (·.1)).Nodup
 best:∀ a e,mget b a=some e→Best S a e
 all:∀ e,S e→∃ e',mget b e.l.actor=some e'
theorem Inv.congr {l:List Xb} {S S':Xz→Prop} {b:List (ByteArray×Xz)} (h:Inv l S b) (hs:∀ e,S e↔S' e):Inv l S' b:=by
 have:S=S':=funext fun e=>propext (hs e)
 subst this
 exact h
theorem Bb {l:List Xb} {S:Xz→Prop} {b:List (ByteArray×Xz)} {now:Int} {e:Xz} {k:ByteArray} (h:Inv l S b) (he:e∈entsV l k):Inv l (fun x=>S x∨(x=e∧now<e.l.until_)) (bestStep now b e):=by
 unfold bestStep
 by_cases hu:e.l.until_≤now
 · rw [Zd hu,Zf]
   exact h.congr fun x=>⟨.inl,fun hx=>hx.elim id fun hx=>by omega⟩
 · rw [Zc hu,Ze]
   have hu':now<e.l.until_:=by omega
   have hS:(fun x=>S x∨(x=e∧now<e.l.until_))=fun x=>S x∨x=e:=funext fun x=>propext ⟨fun hx=>hx.imp id And.left,fun hx=>hx.imp id fun hx=>⟨hx,hu'⟩⟩
   rw [hS]
   have hwf:∀ x,S x∨x=e→∃ k,x∈entsV l k:=fun x hx=>hx.elim (h.wf x) fun hx=>⟨k,hx▸he⟩
   have put:(∀ x,S x→x.l.actor=e.l.actor→x=e∨betV e x=true)→Inv l (fun x=>S x∨x=e) (mput b e.l.actor e):=fun hb=>by
    refine ⟨hwf,mN b _ _ h.nodup,fun a x hx=>?_,fun x hx=>?_⟩
    · rw [j5] at hx
      by_cases ha:a=e.l.actor
      · rw [ZO ha] at hx
        cases hx
        refine ⟨.inr rfl,ha.symm,fun e' h1 h2=>?_⟩
        rcases h1 with h1|h1
        · exact hb e' h1 (h2.trans ha)
        · exact .inl h1
      · rw [ZP ha] at hx
        have h1:=h.best a x hx
        refine ⟨.inl h1.1,h1.2.1,fun e' h2 h3=>?_⟩
        rcases h2 with h2|h2
        · exact h1.2.2 e' h2 h3
        · subst h2;exact absurd h3.symm ha
    · rw [j5]
      by_cases ha:x.l.actor=e.l.actor
      · rw [ZO ha];exact ⟨_,rfl⟩
      · rw [ZP ha]
        rcases hx with hx|hx
        · exact h.all x hx
        · subst hx;exact absurd rfl ha
   cases ho:mget b e.l.actor with
   | none =>
    refine put fun x hx ha=>?_
    obtain ⟨e',h1⟩:=h.all x hx
    rw [ha,ho] at h1
    cases h1
   | some old =>
    have hbo:=h.best _ _ ho
    simp only
    cases hc:((!eqED e old)&&betV e old) with
    | true =>
     have hb:=(Zp _ _).mp hc
     refine put fun x hx ha=>?_
     rcases hbo.2.2 x hx ha with h1|h1
     · rw [h1];exact .inr hb.2
     · exact .inr (ur hb.2 h1)
    | false =>
     simp only [Ze]
     have hoe:old=e∨betV old e=true:=by
      by_cases h1:betV old e=true
      · exact .inr h1
      · by_cases h2:betV e old=true
        · rw [h2,Zh] at hc
          have:eqED e old=true:=by simpa using hc
          exact .inl (eqED_iff.1 this).symm
        · obtain ⟨k',hk'⟩:=h.wf old hbo.1
          have h3:=ut h1 h2
          exact .inl (BA hk' he h3.1 h3.2)
     refine ⟨hwf,h.nodup,fun a x hx=>?_,fun x hx=>?_⟩
     · have h1:=h.best a x hx
       refine ⟨.inl h1.1,h1.2.1,fun e' h2 h3=>?_⟩
       rcases h2 with h2|h2
       · exact h1.2.2 e' h2 h3
       · subst h2
         rw [←h3,ho] at hx
         cases hx
         rcases hoe with h4|h4
         · exact .inl h4.symm
         · exact .inr h4
     · rcases hx with hx|hx
       · exact h.all x hx
       · subst hx;exact ⟨old,ho⟩
theorem sd {l:List Xb} {now:Int} {k:ByteArray}:∀ (E:List Xz) {S:Xz→Prop} {b:List (ByteArray×Xz)},Inv l S b→(∀ e∈E,e∈entsV l k)→Inv l (fun x=>S x∨(x∈E∧now<x.l.until_)) (E.foldl (bestStep now) b)
 | [],S,b,h,_=>h.congr fun x=>⟨.inl,fun hx=>hx.elim id fun hx=>by cases hx.1⟩
 | e::E,S,b,h,he=>by
  have h1:=Bb (now:=now) h (he e am)
  have h2:=sd (now:=now) E h1 fun x hx=>he x (Zv _ hx)
  refine h2.congr fun x=>?_
  simp only [ZI]
  constructor
  · rintro ((h|⟨rfl,h⟩)|⟨h,h'⟩)
    · exact .inl h
    · exact .inr ⟨.inl rfl,h⟩
    · exact .inr ⟨.inr h,h'⟩
  · rintro (h|⟨rfl|h,h'⟩)
    · exact .inl (.inl h)
    · exact .inl (.inr ⟨rfl,h'⟩)
    · exact .inr ⟨h,h'⟩
def Cand (l:List Xb) (ks:List ByteArray) (now:Int) (e:Xz):Prop:=(∃ k∈ks,e∈entsV l k)∧now<e.l.until_
theorem hasK_iff {ks:List ByteArray} {k:ByteArray}:hasK ks k=true↔k∈ks:=by
 rw [hasK,List.any_eq_true]
 constructor
 · rintro ⟨y,hy,h⟩
   rw [(Xk.eqb_iff k y).1 h];exact hy
 · intro h
   exact ⟨k,h,(Xk.eqb_iff k k).2 rfl⟩
theorem xC {ks:List ByteArray} {k a:ByteArray}:a∈sput ks k↔a=k∨a∈ks:=by
 induction ks with
 | nil=>simp [sput]
 | cons y ks ih =>
  simp only [sput]
  cases hk:Xk.eqb k y with
  | true=>rw [(Xk.eqb_iff k y).1 hk];simp
  | false =>
   simp only [Ze,ZI,ih]
   constructor
   · rintro (h|h|h)
     · exact .inr (.inl h)
     · exact .inl h
     · exact .inr (.inr h)
   · rintro (h|h|h)
     · exact .inr (.inl h)
     · exact .inl h
     · exact .inr (.inr h)
theorem se (l:List Xb) (now:Int) (ks:List ByteArray):∀ i,i≤ks.length→(∀ k,k∈(bestF l now ks i).1↔k∈ks.take i)∧Inv l (Cand l (ks.take i) now) (bestF l now ks i).2
 | 0,_=>⟨fun k=>(by simp [bestF]),{ wf:=fun e h=>(by obtain ⟨⟨k,hk,_⟩,_⟩:=h;simp at hk),nodup:=(by simp [bestF]),best:=fun a e h=>(by cases h),all:=fun e h=>(by obtain ⟨⟨k,hk,_⟩,_⟩:=h;simp at hk) }⟩
 | i+1,hi=>by
  obtain ⟨ih1,ih2⟩:=se l now ks i aa
  have hx:ks.getD i .empty=ks[i]:=by rw [Zo,Zb (by omega)];rfl
  have ht:ks.take (i+1)=ks.take i++[ks[i]]:=by rw [Qg,Zb (by omega)];rfl
  simp only [bestF,hx,ht]
  generalize ks[i]=k0 at *
  cases hh:hasK (bestF l now ks i).1 k0 with
  | true =>
   have hin:k0∈ks.take i:=(ih1 k0).1 (hasK_iff.1 hh)
   simp only [Zf]
   refine ⟨fun k=>?_,ih2.congr fun e=>?_⟩
   · rw [ih1,Qy,Z5]
     exact ⟨.inl,fun h=>h.elim id fun h=>h▸hin⟩
   · unfold Cand
     simp only [Qy,Z5]
     exact ⟨fun ⟨⟨k,h1,h2⟩,h3⟩=>⟨⟨k,.inl h1,h2⟩,h3⟩,fun ⟨⟨k,h1,h2⟩,h3⟩=>⟨⟨k,h1.elim id fun h=>h▸hin,h2⟩,h3⟩⟩
  | false =>
   simp only [Ze]
   refine ⟨fun k=>?_,(sd (now:=now) (k:=k0) (entsV l k0) ih2 fun e he=>he).congr fun e=>?_⟩
   · rw [xC,ih1,Qy,Z5]
     exact Or.comm
   · unfold Cand
     simp only [Qy,Z5]
     constructor
     · rintro (⟨⟨k,h1,h2⟩,h3⟩|⟨h2,h3⟩)
       · exact ⟨⟨k,.inl h1,h2⟩,h3⟩
       · exact ⟨⟨k0,.inr rfl,h2⟩,h3⟩
     · rintro ⟨⟨k,h1|rfl,h2⟩,h3⟩
       · exact .inl ⟨⟨k,h1,h2⟩,h3⟩
       · exact .inr ⟨h2,h3⟩
theorem Bc (l:List Xb) (now:Int) (ks:List ByteArray):Inv l (Cand l ks now) (bestF l now ks ks.length).2:=by
 have:=(se l now ks ks.length (ZX _)).2
 rwa [Qh] at this
def Lst (l:List Xb) (ks:List ByteArray) (now:Int) (x:Ee):Prop:=∃ e,Best (Cand l ks now) x.actor e∧e.l=x
theorem mem_ofV {l:List Xb} {ks:List ByteArray} {now:Int} {x:Ee}:x∈ofV l ks now↔Lst l ks now x:=by
 have hI:=Bc l now ks
 unfold ofV
 rw [QJ]
 constructor
 · rintro ⟨a,ha,rfl⟩
   obtain ⟨e,he⟩:=rV (mem_sortB.1 ha)
   have hb:=hI.best a e he
   rw [he]
   refine ⟨e,?_,rfl⟩
   show Best _ e.l.actor e
   rw [hb.2.1]
   exact hb
 · rintro ⟨e,hb,rfl⟩
   obtain ⟨e',he'⟩:=hI.all e hb.1
   have hb':=hI.best _ e' he'
   have:e=e':=hb.uniq hb'
   subst this
   exact ⟨e.l.actor,mem_sortB.2 (oD he'),by rw [he'];rfl⟩
theorem Lst.uniq {l:List Xb} {ks:List ByteArray} {now:Int} {x y:Ee} (hx:Lst l ks now x) (hy:Lst l ks now y) (h:x.actor=y.actor):x=y:=by
 obtain ⟨e,he,rfl⟩:=hx
 obtain ⟨e',he',rfl⟩:=hy
 rw [h] at he
 rw [he.uniq he']
theorem hasL_iff {l:List Xb} {ks:List ByteArray} {now:Int} {x:Ee} {a:ByteArray}:hasL (ofV l ks now) a=some x↔Lst l ks now x∧x.actor=a:=by
 constructor
 · intro h
   have h1:=List.find?_some h
   exact ⟨mem_ofV.1 (Qz h),seqB_iff.1 h1⟩
 · rintro ⟨h,rfl⟩
   cases hf:hasL (ofV l ks now) x.actor with
   | none =>
    rw [hasL,List.find?_eq_none] at hf
    exact absurd (cG x.actor) (hf x (mem_ofV.2 h))
   | some y =>
    have h1:=mem_ofV.1 (Qz hf)
    have h2:=List.find?_some hf
    rw [h.uniq h1 (seqB_iff.1 h2).symm]
theorem listed {l:List Xb} {ks:List ByteArray} {now:Int} {e:Xz} (h:Cand l ks now e):∃ x,Lst l ks now x∧x.actor=e.l.actor∧e.l.until_≤x.until_∧(x.until_=e.l.until_→ltB e.l.by_ x.by_=false):=by
 have hI:=Bc l now ks
 obtain ⟨e',he'⟩:=hI.all e h
 have hb:=hI.best _ e' he'
 refine ⟨e'.l,⟨e',by rw [hb.2.1];exact hb,rfl⟩,hb.2.1,?_,fun hu=>?_⟩
 · rcases hb.2.2 e h rfl with h1|h1
   · rw [h1];exact Int.le_refl _
   · rw [gY] at h1;omega
 · rcases hb.2.2 e h rfl with h1|h1
   · rw [h1];exact cY _
   · rw [gY] at h1
     rcases h1 with h1|⟨_,h1|h1⟩
     · omega
     · exact ig h1
     · rw [h1.1];exact cY _
theorem Lst.after {l:List Xb} {ks:List ByteArray} {now:Int} {x:Ee} (h:Lst l ks now x):now<x.until_:=by
 obtain ⟨e,he,rfl⟩:=h
 exact he.1.2
structure OneMore (l l':List Xb) (ks:List ByteArray) (id:ByteArray) (e0:Xz):Prop where
 mem:id∈ks
 far:∀ k,k≠id→entsV l' k=entsV l k
 own:entsV l' id=entsV l id++[e0]
theorem OneMore.cand {l l':List Xb} {ks:List ByteArray} {id:ByteArray} {e0:Xz} (h:OneMore l l' ks id e0) {now:Int} {e:Xz}:Cand l' ks now e↔Cand l ks now e∨(e=e0∧now<e0.l.until_):=by
 constructor
 · rintro ⟨⟨k,hk,he⟩,hu⟩
   by_cases hki:k=id
   · subst hki
     rw [h.own] at he
     rcases Qy.1 he with he|he
     · exact .inl ⟨⟨k,hk,he⟩,hu⟩
     · rw [Z5.1 he] at hu ⊢
       exact .inr ⟨rfl,hu⟩
   · rw [h.far k hki] at he
     exact .inl ⟨⟨k,hk,he⟩,hu⟩
 · rintro (⟨⟨k,hk,he⟩,hu⟩|⟨rfl,hu⟩)
   · by_cases hki:k=id
     · subst hki
       exact ⟨⟨k,hk,by rw [h.own];exact QC _ he⟩,hu⟩
     · exact ⟨⟨k,hk,by rw [h.far k hki];exact he⟩,hu⟩
   · exact ⟨⟨id,h.mem,by rw [h.own];exact Qt _ (Z5.2 rfl)⟩,hu⟩
theorem nr {l:List Xb} {ks:List ByteArray} {now:Int} {e:Xz} (h:Cand l ks now e):∃ x,hasL (ofV l ks now) e.l.actor=some x∧e.l.until_≤x.until_:=by
 obtain ⟨x,h1,h2,h3,_⟩:=listed h
 exact ⟨x,hasL_iff.2 ⟨h1,h2⟩,h3⟩
theorem OneMore.first {l l':List Xb} {ks:List ByteArray} {id:ByteArray} {e0:Xz} (h:OneMore l l' ks id e0) {now:Int} (h0:0≤e0.l.until_) :
  (hasL (ofV l' ks now) e0.l.actor).isSome=((hasL (ofV l ks now) e0.l.actor).isSome||decide (now<e0.l.until_)) ∧
  ∀ x,hasL (ofV l' ks now) e0.l.actor=some x→e0.l.until_≤x.until_∧((hasL (ofV l ks now) e0.l.actor).getD Ee.zero).until_≤x.until_:=by
 have hold:∀ y,hasL (ofV l ks now) e0.l.actor=some y→∃ x,hasL (ofV l' ks now) e0.l.actor=some x∧y.until_≤x.until_:=fun y hy=>by
  obtain ⟨⟨e,he,rfl⟩,ha⟩:=hasL_iff.1 hy
  obtain ⟨x,hx,hu⟩:=nr (h.cand.2 (.inl he.1))
  rw [ha] at hx
  exact ⟨x,hx,hu⟩
 have hnew:now<e0.l.until_→∃ x,hasL (ofV l' ks now) e0.l.actor=some x∧e0.l.until_≤x.until_:=fun hu=>nr (h.cand.2 (.inr ⟨rfl,hu⟩))
 constructor
 · cases hw:hasL (ofV l ks now) e0.l.actor with
   | some y =>
    obtain ⟨x,hx,_⟩:=hold y hw
    rw [hx]
    rfl
   | none =>
    by_cases hu:now<e0.l.until_
    · obtain ⟨x,hx,_⟩:=hnew hu
      rw [hx,Zd hu]
      rfl
    · rw [Zc hu]
      cases hx:hasL (ofV l' ks now) e0.l.actor with
      | none=>rfl
      | some x =>
       obtain ⟨⟨e,he,rfl⟩,ha⟩:=hasL_iff.1 hx
       rcases h.cand.1 he.1 with h1|⟨_,h1⟩
       · obtain ⟨y,hy,_⟩:=nr h1
         rw [ha,hw] at hy
         cases hy
       · exact absurd h1 hu
 · intro x hx
   have hafter:now<x.until_:=(hasL_iff.1 hx).1.after
   have h1:e0.l.until_≤x.until_:=by
    by_cases hu:now<e0.l.until_
    · obtain ⟨x',hx',hu'⟩:=hnew hu
      rw [hx] at hx'
      cases hx'
      exact hu'
    · omega
   refine ⟨h1,?_⟩
   cases hw:hasL (ofV l ks now) e0.l.actor with
   | none=>exact Int.le_trans h0 h1
   | some y =>
    obtain ⟨x',hx',hu'⟩:=hold y hw
    rw [hx] at hx'
    cases hx'
    exact hu'
end Go.Proofs.YtaolfiikahlmkaaGreatDoor
namespace Go.Proofs.YtaolfiikahlmkaaGreatDoor
open Go Go.Proofs Sy
section
variable {id:ByteArray} {l:List Xa} {a:Xa} {k:Int} {d:ByteArray}
end
end Go.Proofs.YtaolfiikahlmkaaGreatDoor
namespace Go.Proofs.YtaolfiikahlmkaaGreatDoor
open Go Go.Proofs Sy
section
variable {id:ByteArray} {v v':List Xa} {R:List Xb}
theorem ud {c:Xb} {x:ByteArray} (h:x≠c.id):findC (c::R) x=findC R x:=by
 rw [findC,List.find?_cons,seqB_ne.2 fun e=>h e.symm]
 rfl
theorem nZ {c:Xb} {x:ByteArray} (h:x≠c.id):tieC (c::R) x=tieC R x:=by
 rw [tieC,tieC,chainC,chainC,ud h]
theorem B1 {c:Xb} {p:Xd} {k:Int} {x:ByteArray}:x∈actorsV (c::R) p k↔((x=c.id∧hasV c k p.id=true)∨∃ e∈R,e.id=x∧hasV e k p.id=true)∧admV (c::R) x p.author=true:=by
 rw [actorsV_iff]
 constructor
 · rintro ⟨e,he,h1,h2,h3⟩
   rcases ZI.1 he with rfl|he
   · exact ⟨.inl ⟨h1.symm,h2⟩,h3⟩
   · exact ⟨.inr ⟨e,he,h1,h2⟩,h3⟩
 · rintro ⟨⟨rfl,h2⟩|⟨e,he,h1,h2⟩,h3⟩
   · exact ⟨c,am,rfl,h2,h3⟩
   · exact ⟨e,Zv _ he,h1,h2,h3⟩
end
section
variable {id:ByteArray} {v v':List Xa} {R:List Xb} {d:ByteArray}
end
section
variable {id t:ByteArray} {v v':List Xa} {R:List Xb} {d:ByteArray}
end
section
variable {c:Xb} {R:List Xb} {d:ByteArray}
theorem sO {x au:ByteArray} (h1:x≠c.id) (h2:au≠c.id):admV (c::R) x au=admV R x au:=by
 rw [admV,admV,blockedV,blockedV,nZ h1,nZ h2]
theorem xR (U:Ek (c::R)) {p:Xd} (hf:findPV (c::R) d=some p) (hp:p.author≠c.id):findPV R d=some p:=by
 have UR:=U.sub (List.sublist_cons_self c R)
 obtain ⟨h1,h2⟩:=(gB U).1 hf
 refine (gB UR).2 ⟨?_,h2⟩
 rw [List.flatMap_cons,Qy] at h1
 refine h1.resolve_left fun h=>hp ?_
 obtain ⟨_,_,_,e,_⟩:=(fX h).mem
 exact e
theorem tj (U:Ek (c::R)) {p:Xd} (hf:findPV (c::R) d=some p) (hp:p.author≠c.id) (hr:∀ a∈c.actsL,a.kind≠2) :
  ((tallyV (c::R) d).likes=(tallyV R d).likes∨(tallyV (c::R) d).likes=(tallyV R d).likes+1)∧((tallyV (c::R) d).boosts=(tallyV R d).boosts∨(tallyV (c::R) d).boosts=(tallyV R d).boosts+1) ∧
   (tallyV (c::R) d).replies=(tallyV R d).replies:=by
 have hfR:=xR U hf hp
 cases hg:p.gone with
 | true =>
  have e1:liveV (c::R) d=none:=by rw [liveV,hf];simp only [hg];rfl
  have e2:liveV R d=none:=by rw [liveV,hfR];simp only [hg];rfl
  rw [tallyV,tallyV,e1,e2]
  exact ⟨.inl rfl,.inl rfl,rfl⟩
 | false =>
  have e1:liveV (c::R) d=some p:=by rw [liveV,hf];simp only [hg];rfl
  have e2:liveV R d=some p:=by rw [liveV,hfR];simp only [hg];rfl
  rw [tallyV,tallyV,e1,e2]
  have hids:=U.ids
  rw [Z1,List.nodup_cons] at hids
  have key:∀ k:Int,(actorsV (c::R) p k).length=(actorsV R p k).length∨(actorsV (c::R) p k).length=(actorsV R p k).length+1:=fun k=>by
   have hno:c.id∉actorsV R p k:=fun h=>by
    obtain ⟨e,he,h1,-⟩:=actorsV_iff.1 h
    exact hids.1 (h1▸QJ.2 ⟨e,he,rfl⟩)
   have hmem:∀ x,x≠c.id→(x∈actorsV (c::R) p k↔x∈actorsV R p k):=fun x hx=>by
    rw [B1,actorsV_iff,sO hx hp]
    constructor
    · rintro ⟨⟨h,-⟩|⟨e,he,h1,h2⟩,h3⟩
      · exact absurd h hx
      · exact ⟨e,he,h1,h2,h3⟩
    · rintro ⟨e,he,h1,h2,h3⟩
      exact ⟨.inr ⟨e,he,h1,h2⟩,h3⟩
   by_cases hc:c.id∈actorsV (c::R) p k
   · refine .inr (AY (fE _ _ _) (fE _ _ _) hc fun y=>?_).symm
     constructor
     · exact fun h=>⟨(hmem y fun e=>hno (e▸h)).2 h,fun e=>hno (e▸h)⟩
     · exact fun h=>(hmem y h.2).1 h.1
   · refine .inl (congrArg List.length (kS fun x=>?_))
     by_cases e:x=c.id
     · subst e
       exact ⟨fun h=>absurd h hc,fun h=>absurd h hno⟩
     · exact hmem x e
  refine ⟨key 5,key 4,?_⟩
  show ((c::R).flatMap postsV).countP (repB (c::R) d p.author)=(R.flatMap postsV).countP (repB R d p.author)
  rw [List.flatMap_cons,List.countP_append]
  have h0:(postsV c).countP (repB (c::R) d p.author)=0:=List.countP_eq_zero.2 fun q hq h=>by
   obtain ⟨a,ha,-,-,e⟩:=(fX hq).mem
   rw [repB,Zp,Zp,Zp,Zw] at h
   exact hr a ha (e▸h.1.1.1)
  rw [h0,ZU]
  refine List.countP_congr fun q hq=>?_
  obtain ⟨e,he,hq⟩:=List.mem_flatMap.1 hq
  obtain ⟨_,_,_,e1,_⟩:=(fX hq).mem
  have hne:q.author≠c.id:=fun h=>hids.1 (by rw [←h,e1];exact QJ.2 ⟨e,he,rfl⟩)
  rw [repB,repB,sO hne hp]
end
theorem Eu (ks ki:Xl) {L:List Int} {I:List Xe} (h:KnR L I) :
  Mk Tryz.prog 11 #[.agg #[ks.v,ki.v]] (fun w=>(Ints w ks L∧Items w ki I)∧Xi w) (fun u X=>∃ (s:Xl) (l:List Xb),AllK L I l∧u=s.v∧∀ w,X w→Chains w s l) :=
 li (BY (QK L I) ks ki L I (by have:=h.len;omega) fun au=>Dp ks ki h au) fun u X ⟨s,M,hM,e,hw⟩=>⟨s,_,⟨M,hM,rfl⟩,e,fun w h=>(hw w h).1⟩
structure AddW (L:List Int) (I:List Xe) (ki:Xl) (b:Xa) where
 s3:Xl
 s4:Xl
 s:Xl
 bk:Nat
 Y:World→Prop
 e3:s3.n=b.to.n
 e4:s4.n=b.wraps.n
 hw:∀ w,(Items w ki I∧Y w)→Items w s (addK L I (ofActI (b.re s3 s4)))
structure StepK (L:List Int) (I I1:List Xe) (id:ByteArray) (c c1:Xb) (k:KyD) (x b:Xa) (l l1:List Xb) (v:List Xa):Prop where
 right:KnR L I1
 sign:SignD L I c c1 k x b
 all:AllK L I l
 all1:AllK L I1 l1
 view:viewC l id=some v
 view1:viewC l1 id=some (v++[b.can])
 far:∀ a,a≠id→viewC l1 a=viewC l a
section
variable {L:List Int} {I0 I1 I2 I3 I4:List Xe} {id:ByteArray} {c c1 c2 c3 c4:Xb} {k:KyD} {x1 x2 x3 x4 b1 b2 b3 b4:Xa} {l0 l1 l2 l3 l4:List Xb} {d:ByteArray}
end
end Go.Proofs.YtaolfiikahlmkaaGreatDoor
namespace Go.Proofs.YtaolfiikahlmkaaGreatDoor
open Go Go.Proofs Sy
section
variable {L:List Int} {I0 I1 I2:List Xe} {id:ByteArray} {c c1 c2:Xb} {k:KyD} {x1 x2 b1 b2:Xa} {l0 l1 l2:List Xb} {d t au ot:ByteArray} {p:Xd}
theorem nb:∀ (l:List Xb) (i:Nat) (h:i<l.length),(l[i]::l.eraseIdx i).Perm l
 | a::l,0,_=>Qn _
 | a::l,i+1,h=>by
  have ih:=nb l i (by simpa using h)
  show (l[i]'(by simpa using h)::a::l.eraseIdx i).Perm (a::l)
  exact (List.Perm.swap _ _ _).trans (ih.cons a)
theorem xv {l r:List Xb} (U:Ek l) {i:Nat} {c:Xb} (hc:l[i]?=some c) (hr:r.Perm (l.eraseIdx i)) (hf:findPV l d=some p) (hp:p.author≠c.id) (hn:∀ a∈c.actsL,a.kind≠2) :
  ((tallyV l d).likes=(tallyV r d).likes∨(tallyV l d).likes=(tallyV r d).likes+1)∧((tallyV l d).boosts=(tallyV r d).boosts∨(tallyV l d).boosts=(tallyV r d).boosts+1)∧(tallyV l d).replies=(tallyV r d).replies:=by
 have hlt:=(QL.1 hc).1
 have he:=(QL.1 hc).2
 have hpm:(c::l.eraseIdx i).Perm l:=by rw [←he];exact nb l i hlt
 have U1:=U.perm hpm.symm
 have hUr:Ek (l.eraseIdx i):=U1.sub (List.sublist_cons_self _ _)
 rw [gH U hpm.symm,gH (hUr.perm hr.symm) hr]
 exact tj U1 (by rw [kK U1 hpm];exact hf) hp hn
theorem tk {l:List Xb} (U:Ek l) (d:ByteArray):tallyV l.reverse d=tallyV l d∧∀ k,whoV l.reverse d k=whoV l d k :=
 ⟨(gH U (List.reverse_perm l).symm d).symm,fun k=>(vV U (List.reverse_perm l).symm d k).symm⟩
end
end Go.Proofs.YtaolfiikahlmkaaGreatDoor
namespace Go.Proofs.YtaolfiikahlmkaaGreatDoor
open Go Go.Proofs Sy
def restL (l:List Xb) (at_:Int):Nat→List Xb
 | 0=>[]
 | k+1=>restL l at_ k++(bif decide (((l.length-1-k:Nat):Int)=at_) then [] else [l.getD (l.length-1-k) Xb.zero])
theorem BE {l:List Xb} {k:Nat} (h:k<l.length):l.drop (l.length-(k+1))=l.getD (l.length-1-k) Xb.zero::l.drop (l.length-k):=by
 have h1:l.length-(k+1)<l.length:=by omega
 rw [List.drop_eq_getElem_cons h1,Zo,show l.length-1-k=l.length-(k+1) from by omega,Zb h1]
 show _::l.drop (l.length-(k+1)+1)=_
 rw [show l.length-(k+1)+1=l.length-k from by omega]
 rfl
theorem rm {l:List Xb} {i:Nat} (hi:i<l.length):∀ k,k≤l.length→restL l (i:Nat) k=(if l.length-k≤i then (l.drop (l.length-k)).eraseIdx (i-(l.length-k)) else l.drop (l.length-k)).reverse
 | 0,_=>by
  rw [ZP aa,Nat.sub_zero,List.drop_length]
  rfl
 | k+1,hk=>by
  rw [restL,rm hi k aa,BE (by omega)]
  by_cases h1:l.length-1-k=i
  · rw [Zd aa,ZP aa,ZO aa,Zf,ZJ,show i-(l.length-(k+1))=0 from by omega]
    rfl
  · rw [Zc aa,Ze]
    by_cases h2:l.length-k≤i
    · rw [ZO h2,ZO aa,show i-(l.length-(k+1))=(i-(l.length-k))+1 from by omega,List.eraseIdx_cons_succ,List.reverse_cons]
    · rw [ZP h2,ZP aa,List.reverse_cons]
theorem tD {l:List Xb} {i:Nat} (hi:i<l.length):(restL l (i:Nat) l.length).Perm (l.eraseIdx i):=by
 rw [rm hi _ (ZX _),ZO aa,Nat.sub_self,List.drop_zero,Nat.sub_zero]
 exact List.reverse_perm _
theorem jU {l:List Xb} {at_:Int}:∀ k,k≤l.length→∀ c∈restL l at_ k,c∈l
 | 0,_,c,h=>by cases h
 | k+1,hk,c,h=>by
  rw [restL,Qy] at h
  rcases h with h|h
  · exact jU k aa c h
  · cases hd:decide (((l.length-1-k:Nat):Int)=at_) with
    | true=>rw [hd] at h;cases h
    | false =>
     rw [hd,Ze,Z5] at h
     subst h
     rw [Zo,Zb (by omega)]
     exact ZQ _
theorem jV {l:List Xb} {at_:Int}:∀ k,(restL l at_ k).length≤k
 | 0=>ZX _
 | k+1=>by
  have ih:=jV (l:=l) (at_:=at_) k
  rw [restL,ZA]
  cases decide (((l.length-1-k:Nat):Int)=at_)<;>simp<;>omega
def SizA (I:List Xe):Prop:=∀ x∈authI I,x.size≤maxLen
theorem zZ {I:List Xe} (hs:∀ i∈I,i.Str):SizA I:=fun x hx=>by
 rw [authI,QJ] at hx
 obtain ⟨i,hi,rfl⟩:=hx
 exact (hs i (QN.1 hi).1).act.author
theorem ga {L:List Int} {I:List Xe} {l:List Xb} (hz:SizA I) (h:AllK L I l):∀ c∈l,c.id.size≤maxLen:=by
 obtain ⟨M,hM,rfl⟩:=h
 intro c hc
 obtain ⟨p,hp,rfl⟩:=QJ.1 hc
 obtain ⟨a,ha,q⟩:=hM.right p (QN.1 hp).1
 rw [Ao q]
 exact hz a (mem_ids.1 ha)
theorem gZ {L:List Int} {I:List Xe} {l:List Xb} (h:AllK L I l):l.length≤I.length:=by
 obtain ⟨M,hM,rfl⟩:=h
 have h1:=hM.len
 have h2:=sI (sortB (authI I))
 have h3:=Qa neK M
 have h4:=io I
 rw [jP] at h2
 rw [ZF]
 omega
end Go.Proofs.YtaolfiikahlmkaaGreatDoor
namespace Go.Proofs.YtaolfiikahlmkaaGreatDoor
open Go Go.Proofs Sy Tryz
section
variable {N:Nat} {av bor:List Nat} {w0:World} {x y:Operand} {t t2:TypeId} {ty:TypeId} {st:St}
theorem EW {k:IntKind} {a b:Int} [hI:Xt prog t k] (hx:ev st.env x=some (.int k a)) (hy:ev st.env y=some (.int k b)) (hab:a≤b):Sy.Yields prog N av bor w0 st (.binOp .leq t x y t2) ty (.bool true):=by
 have h:=qB (P:=prog) (N:=N) (av:=av) (bor:=bor) (w0:=w0) (t:=t) (t2:=t2) (ty:=ty) (st:=st) hx hy
 rw [Zd hab] at h
 exact h
end
end Go.Proofs.YtaolfiikahlmkaaGreatDoor
namespace Go.Proofs.YtaolfiikahlmkaaGreatDoor
open Go Go.Proofs Sy
theorem zV {a:Xa} (hr:a.Rng) (h:rightB a=true) (ht:a.target.size≤maxLen):a.Sm:=by
 simp only [rightB,Zp] at h
 have hB:=kM hr h.2
 have h1:=hB.to.len
 have h2:=hB.wraps.len
 have h3:=hr.to_len
 have h4:=hr.wraps_len
 exact ⟨by omega,by omega,ht⟩
theorem yp {a:Xa} (h:actZ a=true):a.to.n=0∧a.wraps.n=0:=by
 simp only [actZ,Zp,Zw] at h
 omega
theorem CV {i:Xe} (hs:i.Str) (h:rightIt i=true):i.act.Sm:=by
 rw [rightIt,Zp] at h
 obtain ⟨h1,h2⟩:=h
 have ht:=hs.act.target
 by_cases h0:i.kind=0
 · rw [rightK2,Zd h0,Zf] at h1
   exact zV hs.rng h1 ht
 · have hz:actZ i.act=true:=by
    rw [rightK2,Zc h0,Ze] at h1
    rw [restI,Zc h0,Ze] at h2
    by_cases k1:i.kind=1
    · rw [Zd k1,Zf,sameIZ,Zp,Zp] at h2
      exact h2.2.1
    · rw [Zc k1,Ze] at h1 h2
      by_cases k2:i.kind=2
      · rw [Zd k2,Zf,sameIZ,Zp,Zp] at h2
        exact h2.2.1
      · rw [Zc k2,Ze] at h1 h2
        by_cases k3:i.kind=3
        · rw [Zd k3,Zf,sameIZ,Zp,Zp] at h2
          exact h2.2.1
        · rw [Zc k3,Ze] at h1
          cases h1
   obtain ⟨e1,e2⟩:=yp hz
   exact ⟨by omega,by omega,ht⟩
theorem xG {L:List Int} {I:List Xe} (h:rightKn L I=true) (hl:I.length≤100) (hs:∀ i∈I,i.Str) (hd:∀ i∈I,i.dec.to.n=i.dec.toL.length):KnR L I :=
 FH h hl (fun i hi=>(hs i hi).rng) (fun i hi=>CV (hs i hi) (by
  have h1:=gM h i hi
  rw [signedIt,Zp] at h1
  exact h1.1)) hd
end Go.Proofs.YtaolfiikahlmkaaGreatDoor
namespace Go.Proofs.YtaolfiikahlmkaaGreatDoor
open Go Go.Proofs Sy Tryz
section
variable {N:Nat} {av bor:List Nat} {w0:World} {x y:Operand} {t2:TypeId} {ty:TypeId} {st:St}
theorem EU (a:Ej) (hx:ev st.env x=some a.v) (hy:ev st.env y=some a.v):Sy.Yields prog N av bor w0 st (.binOp .neq 64 x y t2) ty (.bool false):=Sy.Yields.mk fun A w ok d pos af g=>by
 have h1:=run_eqGuard_agg (P:=prog) w .neq 64 x y a.cells.toArray a.cells.toArray ac
 have h2:=run_neq_struct (P:=prog) w 64 a.cells.toArray a.cells.toArray
 have h3:=q7 w 9998 a
 simp only [Ej.v] at hx hy h3
 simp [execOp,ok.eval hx,ok.eval hy,h1,h2,h3]
end
structure RevJ (l:List Xb) (at_:Int) where
 k:Nat
 hk:k≤l.length
 A:Option Addr
 c:Nat
 xs:List Value
 hxs:xs=((l.reverse.take k).map Xb.cells).flatten
 m:Nat
 hm:m=(restL l at_ k).length
 A2:Option Addr
 c2:Nat
 ys:List Value
 hys:ys=((restL l at_ k).map Xb.cells).flatten
theorem rl {l:List Xb} {k:Nat} {x:Xb} (hk:k<l.length) (hx:l[l.length-1-k]?=some x):((l.reverse.take (k+1)).map Xb.cells).flatten=((l.reverse.take k).map Xb.cells).flatten++x.cells:=by
 have h:l.reverse[k]?=some x:=by rw [List.getElem?_reverse hk];exact hx
 rw [Qg,h]
 simp
theorem xl {l:List Xb} {k:Nat} {x:Xb} {at_:Int} (hx:l[l.length-1-k]?=some x):((restL l at_ (k+1)).map Xb.cells).flatten=((restL l at_ k).map Xb.cells).flatten++(bif decide (((l.length-1-k:Nat):Int)=at_) then [] else x.cells):=by
 rw [restL,Zo,hx]
 cases decide (((l.length-1-k:Nat):Int)=at_)<;>simp
structure OwnI (l:List Xa) (B:Bool) where
 k:Nat
 hk:k≤l.length
 g:Bool
 hg:g=false→B=false∧∀ j a,j<k→l[j]?=some a→a.kind≠2
theorem tE {l:List Xb} {k:Nat} {x:Xb} {at_:Int} (hx:l[l.length-1-k]?=some x):(restL l at_ (k+1)).length=(restL l at_ k).length+(bif decide (((l.length-1-k:Nat):Int)=at_) then 0 else 1):=by
 rw [restL,ZA]
 cases decide (((l.length-1-k:Nat):Int)=at_)<;>rfl
theorem oa (s:Xl) {L:List Int} {I:List Xe} {l m:List Xb} (hm:∀ c∈m,c∈l) (hml:m.length≤l.length) (hK:KnR L I) (hA:AllK L I l) (hz:SizA I) (hI:I.length≤100) (d:ByteArray):Pu prog 22 #[s.v,.string d] (fun w=>Chains w s m∧Xi w) (tallyV m d).v :=
 gG s m d (fun c hc=>(fe hK hA c (hm c hc)).1) (fun c hc=>ZY (fe hK hA c (hm c hc)).2 (by decide)) (fun c hc=>ga hz hA c (hm c hc)) (ZY hml (ZY (gZ hA) aa))
theorem Cd (s:Xl) {L:List Int} {I:List Xe} {l m:List Xb} (hm:∀ c∈m,c∈l) (hml:m.length≤l.length) (hK:KnR L I) (hA:AllK L I l) (hz:SizA I) (hI:I.length≤100) (d:ByteArray) (kind:Int) :
  Mk prog 23 #[s.v,.string d,.int .i64 kind] (fun w=>Chains w s m∧Xi w) (StrsAt (whoV m d kind)) :=
 li (lD s m d kind (fun c hc=>(fe hK hA c (hm c hc)).1) (fun c hc=>ZY (fe hK hA c (hm c hc)).2 (by decide)) (fun c hc=>ga hz hA c (hm c hc)) (ZY hml (ZY (gZ hA) aa))) fun u X ⟨so,h1,_,h2⟩=>⟨so,h1,h2⟩
theorem wM (s:Xl) {L:List Int} {I:List Xe} {l:List Xb} (hK:KnR L I) (hA:AllK L I l) (hz:SizA I) (hI:I.length≤100) (d:ByteArray):Pu prog 22 #[s.v,.string d] (fun w=>Chains w s l∧Xi w) (tallyV l d).v :=
 gG s l d (fun c hc=>(fe hK hA c hc).1) (fun c hc=>ZY (fe hK hA c hc).2 (by decide)) (ga hz hA) (ZY (gZ hA) aa)
theorem Ce (s:Xl) {L:List Int} {I:List Xe} {l:List Xb} (hK:KnR L I) (hA:AllK L I l) (hz:SizA I) (hI:I.length≤100) (d:ByteArray) (kind:Int) :
  Mk prog 23 #[s.v,.string d,.int .i64 kind] (fun w=>Chains w s l∧Xi w) (StrsAt (whoV l d kind)) :=
 li (lD s l d kind (fun c hc=>(fe hK hA c hc).1) (fun c hc=>ZY (fe hK hA c hc).2 (by decide)) (ga hz hA) (ZY (gZ hA) aa)) fun u X ⟨so,h1,_,h2⟩=>⟨so,h1,h2⟩
set_option maxRecDepth 20000 in
theorem nC (ks ki:Xl) (L:List Int) (I:List Xe) (hs:∀ i∈I,i.Str) (hd:∀ i∈I,i.dec.to.n=i.dec.toL.length) (id:ByteArray) (at_:Int) :
  Pu prog 4 #[.agg #[ks.v,ki.v],.string id,.int .i64 at_] (fun w=>(Ints w ks L∧Items w ki I)∧Xi w) (.bool true):=by
 have hsm:=tu
 have hrt:=pQ ks ki L I hs hd
 refine aw func4 ntmps4 fun av bor w0=>?_
 refine aR (p:=ki.n=I.length) (fun w h=>h.1.2.len_) fun hkin=>?_
 by_cases hbig:40<(ki.n:Int)
 · cases hR:rightKn L I
   all_goals
    rw [hR] at hrt
    repeat' (first|(refine ag (hc:=hsm) ?_)|(refine ag (hc:=hrt) ?_)|refine gs ?_|refine gs1 fun _=>?_|(refine gp ?_ ?_<;>intro hx_ this)|fail)
    all_goals first
     | exact ab (ae rfl rfl) rfl
     | (exfalso;omega)
 cases hR:rightKn L I with
 | false =>
  rw [hR] at hrt
  repeat' (first|refine eB ?_|(refine ag (hc:=hsm) ?_)|(refine ag (hc:=hrt) ?_)|refine gs ?_|refine gs1 fun _=>?_|fail)
  all_goals first
   | exact ab (ae rfl rfl) rfl
 | true =>
  rw [hR] at hrt
  have hK:=xG hR aa hs hd
  repeat' (first|refine eB ?_|(refine ag (hc:=hsm) ?_)|(refine ag (hc:=hrt) ?_)|(refine cd (hc:=Eu ks ki hK) fun v X1 h1=>?_;obtain ⟨s1,l1,hA1,rfl,hw1⟩:=h1)|refine gs ?_|refine gs1 fun _=>?_|fail)
  rename_i b3
  have hfe:=Bu s1 l1
  cases hfB:fewV l1 with
  | false =>
   rw [hfB] at hfe
   repeat' (first|(refine ag (hc:=hfe) (hX:=fun w h=>hw1 w h.2) ?_)|refine gs ?_|fail)
   all_goals first
    | exact ab (ae rfl rfl) rfl
  | true =>
   rw [hfB] at hfe
   have hok1:=fe hK hA1
   have hz:=zZ hs
   have hsz:=ga hz hA1
   have U:=vX hK hA1
   have hln:=gZ hA1
   refine ld (p:=s1.n=l1.length∧s1.n≤maxLen∧(0<l1.length→s1.p.isSome=true)∧LenOk l1) (fun w h=>⟨(hw1 w h.2).len_,(hw1 w h.2).max_,(hw1 w h.2).some_,fun c hc=>((hw1 w h.2).2 c hc).len_⟩) fun ⟨hs1n,hs1m,hs1p,hL0⟩=>?_
   simp only [maxLen] at hs1m
   refine fP 35 6 ?_
   refine fP 35 6 ?_
   repeat' (first|(refine ag (hc:=hfe) (hX:=fun w h=>hw1 w h.2) ?_)|refine gs ?_|fail)
   refine ao (ι:=RevJ l1 at_) (fun i=>⟨[(1,.string id),(2,.int .i64 at_),(7,.bool true),(8,s1.v),(9,.slice i.A i.k i.c),(10,.slice i.A2 i.m i.c2),(11,.int .i64 ((s1.n:Int)-1-(i.k:Nat)))],[orow 35 6 (.slice i.A i.k i.c) i.k i.xs,orow 35 6 (.slice i.A2 i.m i.c2) i.m i.ys],fun w=>Xi w∧Chains w s1 l1⟩) (fun i=>l1.length-i.k) ⟨0,Z4 _,none,0,[],rfl,0,rfl,none,0,[],rfl⟩
    (ai ⟨rfl,rfl,rfl,rfl,rfl,rfl,by show some (Value.int .i64 ((s1.n:Int)-1))=some (Value.int .i64 ((s1.n:Int)-1-((0:Nat):Int)));congr 2;omega,trivial⟩ (.cons_cons _ (.cons_cons _ (Zu _))) fun w h=>⟨h.1.2,hw1 w h.2⟩) fun i=>?_
   obtain ⟨kk,hkk,A,cp,xs,hxs,mm,hmm,A2,cp2,ys,hys⟩:=i
   simp only
   have hmk:mm≤kk:=by rw [hmm];exact jV kk
   by_cases hlt:kk<l1.length
   · have hs1p':=hs1p aa
     obtain ⟨x,hx⟩:∃ x,l1[l1.length-1-kk]?=some x:=⟨_,Zb aa⟩
     have hrl:=tE (at_:=at_) hx
     have hrg:=xl (at_:=at_) hx
     cases hat:decide (((l1.length-1-kk:Nat):Int)=at_) with
     | true =>
      rw [hat] at hrl hrg
      have hne:(!decide (((s1.n:Int)-1-(kk:Nat))=at_))=false:=by rw [Zd (by have:=bz hat;omega)];rfl
      repeat' (first|refine bo ?_ (eT true rfl rfl (Zd aa))|refine bo ?_ (dS false rfl rfl hne)|refine aD (q:=(l1.length-1-kk)*6) ?_|refine aM (cs:=x.cells) (hF:=fun w h=>Chains.get h.2 hx) ?_|(refine aJ (size:=6) (m:=kk) (news:=x.cells) (q:=1) rfl rfl rfl rfl (fun _=>At.there _ (At.here _)) (fun w G=>bA G am rfl rfl 1) aa (by simp only [maxLen];omega) rfl ?_ rfl ?_;(with_reducible rfl);intro A3 c3)|refine gs ?_|(refine cA (size:=6) (vs:=[x.v]) (css:=x.cells) (hsz:=by rfl) (hcs:=by rfl) fun _=>?_)|fail)
      all_goals first
       | exact ⟨(⟨kk+1,hlt,A3,c3,xs++x.cells,by rw [rl hlt hx,hxs],mm,by rw [hrl,hmm];rfl,A2,cp2,ys,by rw [hrg,hys];exact (ZJ _).symm⟩:RevJ l1 at_),(by show l1.length-(kk+1)<l1.length-kk;omega),ai ⟨rfl,rfl,rfl,rfl,rfl,rfl,by show some (Value.int .i64 ((s1.n:Int)-1-((kk:Nat):Int)-1))=some (Value.int .i64 ((s1.n:Int)-1-((kk+1:Nat):Int)));congr 2;omega,trivial⟩ (.cons _ (aj _)) fun _ h=>h⟩
     | false =>
      rw [hat] at hrl hrg
      have hne:(!decide (((s1.n:Int)-1-(kk:Nat))=at_))=true:=by rw [Zc (by have:=co hat;omega)];rfl
      repeat' (first|refine bo ?_ (eT true rfl rfl (Zd aa))|refine bo ?_ (dS true rfl rfl hne)|refine aD (q:=(l1.length-1-kk)*6) ?_|refine aM (cs:=x.cells) (hF:=fun w h=>Chains.get h.2 hx) ?_|(refine aJ (size:=6) (m:=kk) (news:=x.cells) (q:=1) rfl rfl rfl rfl (fun _=>At.there _ (At.here _)) (fun w G=>bA G am rfl rfl 1) aa (by simp only [maxLen];omega) rfl ?_ rfl ?_;(with_reducible rfl);intro A3 c3)|(refine aJ (size:=6) (m:=mm) (news:=x.cells) (q:=1) rfl rfl rfl rfl (fun _=>At.there _ (At.there _ (At.there _ (At.here _)))) (fun w G=>bA G am rfl rfl 1) aa (by simp only [maxLen];omega) rfl ?_ rfl ?_;(with_reducible rfl);intro A4 c4)|refine gs ?_|(refine cA (size:=6) (vs:=[x.v]) (css:=x.cells) (hsz:=by rfl) (hcs:=by rfl) fun _=>?_)|fail)
      all_goals first
       | exact ⟨(⟨kk+1,hlt,A3,c3,xs++x.cells,by rw [rl hlt hx,hxs],mm+1,by rw [hrl,hmm];rfl,A4,c4,ys++x.cells,by rw [hrg,hys];rfl⟩:RevJ l1 at_),(by show l1.length-(kk+1)<l1.length-kk;omega),ai ⟨rfl,rfl,rfl,rfl,rfl,rfl,by show some (Value.int .i64 ((s1.n:Int)-1-((kk:Nat):Int)-1))=some (Value.int .i64 ((s1.n:Int)-1-((kk+1:Nat):Int)));congr 2;omega,trivial⟩ (.cons _ (.cons _ (aj _))) fun _ h=>h⟩
   · have hke:kk=l1.length:=by omega
     subst hke
     repeat apply QS
     apply QT
     repeat' (first|refine bo ?_ (eT false rfl rfl (Zc aa))|apply aH|apply QS|refine aZ ?_|refine QX ?_|apply il|fail)
     refine vK (vK ?_)
     have hcb:∀ w,Chains w s1 l1→(orow 35 6 (.slice A l1.length cp) l1.length xs).F w→Chains w ⟨A,l1.length,cp⟩ l1.reverse:=fun w h1 h2=>by
      rw [hxs,Qf (by simp)] at h2
      exact ⟨bm h2 (by simp) (fun r hr=>by obtain ⟨c,_,rfl⟩:=QJ.1 hr;rfl),fun c hc=>h1.2 c (List.mem_reverse.1 hc)⟩
     have hcr:∀ w,Chains w s1 l1→(orow 35 6 (.slice A2 mm cp2) mm ys).F w→Chains w ⟨A2,mm,cp2⟩ (restL l1 at_ l1.length):=fun w h1 h2=>by
      rw [hys] at h2
      exact ⟨bm h2 (by simp [hmm]) (fun r hr=>by obtain ⟨c,_,rfl⟩:=QJ.1 hr;rfl),fun c hc=>h1.2 c (jU _ (ZX _) c hc)⟩
     refine F0 (X':=fun w=>((Xi w∧Chains w s1 l1)∧Chains w ⟨A,l1.length,cp⟩ l1.reverse)∧Chains w ⟨A2,mm,cp2⟩ (restL l1 at_ l1.length)) (fun w h=>⟨⟨h.1.1,hcb w h.1.1.2 h.1.2⟩,hcr w h.1.1.2 h.2⟩) ?_
     have htl:=wM s1 hK hA1 hz aa id
     have hwl:=Ce s1 hK hA1 hz aa id 4
     have htb:=oa ⟨A,l1.length,cp⟩ (m:=l1.reverse) (fun c hc=>List.mem_reverse.1 hc) (by simp) hK hA1 hz aa id
     have hwb:=Cd ⟨A,l1.length,cp⟩ (m:=l1.reverse) (fun c hc=>List.mem_reverse.1 hc) (by simp) hK hA1 hz aa id 4
     have htr:=oa ⟨A2,mm,cp2⟩ (m:=restL l1 at_ l1.length) (fun c hc=>jU _ (ZX _) c hc) (jV _) hK hA1 hz aa id
     obtain ⟨hb1,hb2⟩:=tk U id
     rw [hb1] at htb
     rw [hb2] at hwb
     have hsm21:=fun (s r:Xl) (V:List ByteArray)=>oo s r V V
     simp only [sB] at hsm21
     have hfP:=m8 s1 l1 id (fun c hc=>(hok1 c hc).1) (fun c hc=>ZY (hok1 c hc).2 (by decide))
     obtain ⟨T,hT⟩:∃ T,tallyV l1 id=T:=⟨_,rfl⟩
     obtain ⟨V,hV⟩:∃ V,whoV l1 id 4=V:=⟨_,rfl⟩
     obtain ⟨TR,hTR⟩:∃ T,tallyV (restL l1 at_ l1.length) id=T:=⟨_,rfl⟩
     rw [hT] at htl htb
     rw [hV] at hwl hwb
     rw [hTR] at htr
     have hsmV:=fun s r:Xl=>hsm21 s r V
     repeat' (first|(refine ag (hc:=htl) (hX:=fun w h=>⟨h.1.1.2,h.1.1.1⟩) ?_)|refine gs ?_|refine gs1 fun _=>?_|fail)
     rename_i b12
     repeat apply QS
     (refine aq ⟨[0,1,2],[(3,⟨[4,5,6,7,9,10],[(8,⟨[],[(11,⟨[],[(12,⟨[13,14],[]⟩)]⟩)]⟩)]⟩)]⟩ [cel b12 64 T.cells] (fun w=>((Xi w∧Chains w s1 l1)∧Chains w ⟨A,l1.length,cp⟩ l1.reverse)∧Chains w ⟨A2,mm,cp2⟩ (restL l1 at_ l1.length)) (h:=?_))
     all_goals repeat' (first|refine ax (hsub:=by exact aI) (hy:=by (apply EU T;rfl;rfl)) ?_|(refine ag (hc:=htb) (hX:=fun w h=>⟨h.1.2,h.1.1.1⟩) ?_)|((refine cd (hc:=hwl) (hX:=fun w h=>⟨h.1.1.2,h.1.1.1⟩) fun v X2 h2=>?_;obtain ⟨s2,rfl,hw2⟩:=h2))|((refine cd (hc:=hwb) (hX:=fun w h=>⟨h.1.1.2,h.1.1.1.1⟩) fun v X3 h3=>?_;obtain ⟨s3,rfl,hw3⟩:=h3))|(refine ag (hc:=hsmV s2 s3) (hX:=fun w h=>⟨hw2 w h.1.2,hw3 w h.2⟩) ?_)|refine gdz ?_|refine aA ?_ (h':=?_)|exact aB|fail)
     all_goals
      repeat' (first|(refine cd (hc:=hfP) (hX:=fun w h=>⟨h.1.1.1.1.2,h.1.1.1.1.1⟩) fun v X4 h4=>?_;obtain ⟨p,rfl,hfp⟩:=h4)|refine gs ?_|refine gs1 fun _=>?_|fail)
     rename_i b13
     obtain ⟨B,hB⟩:∃ B,(findPV l1 id).isSome=B:=⟨_,rfl⟩
     rw [hB]
     refine oV (st':=⟨[(1,.string id),(2,.int .i64 at_),(7,.bool true),(8,s1.v),(10,.slice A2 mm cp2),(12,.pointer (some ⟨b12,0,none⟩)),(13,.pointer (some ⟨b13,0,none⟩)),(14,.bool B)],[cel b13 68 p.cells,cel b12 64 T.cells],fun w=>(Xi w∧Chains w s1 l1)∧Chains w ⟨A2,mm,cp2⟩ (restL l1 at_ l1.length)⟩) (ai al (aj _) fun w h=>⟨h.1.1.1.1.1,h.1.1.1.2⟩) ?_
     by_cases hin:B=true∧0≤at_∧at_<(s1.n:Int)
     · obtain ⟨rfl,hi1,hi2⟩:=hin
       obtain ⟨i,rfl⟩:=Int.eq_ofNat_of_zero_le hi1
       have hil:i<l1.length:=by omega
       have hs1p':=hs1p aa
       obtain ⟨c,hc⟩:∃ c,l1[i]?=some c:=⟨_,Zb hil⟩
       have hcm:=Z6 hc
       have hcI:∀ w,(Xi w∧Chains w s1 l1)∧Chains w ⟨A2,mm,cp2⟩ (restL l1 (i:Nat) l1.length)→CellAt w s1.p (i*6) (.string c.id):=fun w h=>(Chains.get h.1.2 hc).2.2 0 _ rfl
       have hcA:∀ w,(Xi w∧Chains w s1 l1)∧Chains w ⟨A2,mm,cp2⟩ (restL l1 (i:Nat) l1.length)→CellAt w s1.p (i*6+1) c.acts.v:=fun w h=>(Chains.get h.1.2 hc).2.2 1 _ rfl
       refine aR (p:=c.acts.n=c.actsL.length∧c.acts.n≤maxLen∧(0<c.actsL.length→c.acts.p.isSome=true)) (fun w h=>⟨(h.1.2.2 c hcm).len_,(h.1.2.2 c hcm).max_,(h.1.2.2 c hcm).some_⟩) fun ⟨hcn,hcx,hcp⟩=>?_
       simp only [maxLen] at hcx
       cases hau:seqB c.id p.author with
       | true =>
        repeat apply QS
        (refine aq ⟨[0,1,2,3,4,5,6,7,8,9,10,11,12,13,14,15,16,17,18,19,20,21],[]⟩ [cel b13 68 p.cells,cel b12 64 T.cells] (fun w=>(Xi w∧Chains w s1 l1)∧Chains w ⟨A2,mm,cp2⟩ (restL l1 (i:Nat) l1.length)) (h:=?_))
        all_goals repeat' (first|refine ax (hsub:=by exact aI) (hy:=by first|(apply cb false;rfl;rfl;exact Zc aa)|(apply eT false;rfl;rfl;exact Zc aa)|(apply eL true;rfl;rfl;exact hau)) ?_|refine gdz ?_|refine ax (hsub:=by exact aI) (hy:=by first|(apply ay (q:=i*6);rfl;rfl;omega;omega;assumption;omega)|(apply dt;rfl;assumption;rfl)|(apply dl (q:=i*6) (u:=.string c.id);rfl;exact hcI)) ?_|fail)
        all_goals
         repeat' (first|refine gs ?_|fail)
         all_goals first
          | exact ab (ae rfl rfl) rfl
       | false =>
        repeat apply QS
        (refine aq ⟨[0,1,2,3,4,5,6,7,8,9,10,11,12,13,14,15,16,17,18,19,20,21],[]⟩ [cel b13 68 p.cells,cel b12 64 T.cells] (fun w=>(Xi w∧Chains w s1 l1)∧Chains w ⟨A2,mm,cp2⟩ (restL l1 (i:Nat) l1.length)) (h:=?_))
        all_goals repeat' (first|refine ax (hsub:=by exact aI) (hy:=by first|(apply cb false;rfl;rfl;exact Zc aa)|(apply eT false;rfl;rfl;exact Zc aa)|(apply eL false;rfl;rfl;exact hau)) ?_|refine gdz ?_|refine ax (hsub:=by exact aI) (hy:=by first|(apply ay (q:=i*6);rfl;rfl;omega;omega;assumption;omega)|(apply dt;rfl;assumption;rfl)|(apply dl (q:=i*6) (u:=.string c.id);rfl;exact hcI)) ?_|fail)
        have hbl:=nt s1 l1 c.id p.author fun c hc=>(hok1 c hc).1
        obtain ⟨B2,hB2⟩:∃ B,blockedV l1 c.id p.author=B:=⟨_,rfl⟩
        rw [hB2] at hbl
        repeat' (first|refine gs ?_|fail)
        repeat apply QS
        (refine aq ⟨[0,1,2,3,4,5,6,7],[(8,⟨[9],[]⟩)]⟩ [cel b13 68 p.cells,cel b12 64 T.cells] (fun w=>(Xi w∧Chains w s1 l1)∧Chains w ⟨A2,mm,cp2⟩ (restL l1 (i:Nat) l1.length)) (h:=?_))
        all_goals repeat' (first|(refine ag (hc:=hbl) (hX:=fun w h=>⟨h.1.2,h.1.1⟩) ?_)|refine gdz ?_|refine ax (hsub:=by exact aI) (hy:=by first|(apply ay (q:=i*6);rfl;rfl;omega;omega;assumption;omega)|(apply dt;rfl;assumption;rfl)|(apply dl (q:=i*6) (u:=.string c.id);rfl;exact hcI)) ?_|refine aA ?_ (h':=?_)|exact aB|fail)
        repeat' (first|refine gs ?_|fail)
        refine ao (ι:=OwnI c.actsL B2) (fun j=>⟨[(1,.string id),(2,.int .i64 (i:Nat)),(7,.bool true),(8,s1.v),(10,.slice A2 mm cp2),(12,.pointer (some ⟨b12,0,none⟩)),(15,.bool j.g),(16,.int .i64 (j.k:Nat))],[cel b12 64 T.cells],fun w=>(Xi w∧Chains w s1 l1)∧Chains w ⟨A2,mm,cp2⟩ (restL l1 (i:Nat) l1.length)⟩) (fun j=>c.actsL.length-j.k) ⟨0,Z4 _,B2,fun h=>⟨h,fun j a hj=>absurd hj (Nat.not_lt_zero _)⟩⟩ (ai al (.cons _ (aj _)) fun _ h=>h) fun j=>?_
        obtain ⟨jk,hjk,g,hg⟩:=j
        simp only
        by_cases hlt:jk<c.actsL.length
        · have hcp':=hcp aa
          obtain ⟨a,ha⟩:∃ a,c.actsL[jk]?=some a:=⟨_,Zb hlt⟩
          have haK:∀ w,(Xi w∧Chains w s1 l1)∧Chains w ⟨A2,mm,cp2⟩ (restL l1 (i:Nat) l1.length)→CellAt w c.acts.p (jk*20+3) (.int .i64 a.kind):=fun w h=>(Acts.get (h.1.2.2 c hcm) ha).2.2 3 _ rfl
          cases g with
          | true =>
           repeat' (first|refine bo ?_ (cb true rfl rfl (Zd aa))|refine aD (q:=i*6) ?_|refine dX ?_|refine de (q:=i*6+1) (u:=c.acts.v) (hF:=hcA) ?_|refine gs ?_|fail)
           all_goals first
            | exact ⟨(⟨jk+1,hlt,true,fun h=>absurd h (by decide)⟩:OwnI c.actsL B2),(by show c.actsL.length-(jk+1)<c.actsL.length-jk;omega),ai al (aj _) fun _ h=>h⟩
          | false =>
           obtain ⟨hg1,hg2⟩:=hg rfl
           repeat' (first|refine bo ?_ (cb true rfl rfl (Zd aa))|refine aD (q:=i*6) ?_|refine aD (q:=jk*20) ?_|refine dX ?_|refine de (q:=i*6+1) (u:=c.acts.v) (hF:=hcA) ?_|refine de (q:=jk*20+3) (u:=.int .i64 a.kind) (hF:=haK) ?_|refine gs ?_|fail)
           all_goals first
            | exact ⟨(⟨jk+1,hlt,decide (a.kind=2),fun h=>⟨hg1,fun j b hj hb=>by
              by_cases ej:j=jk
              · subst ej
                obtain rfl:=Option.some.inj (ha.symm.trans hb)
                exact co h
              · exact hg2 j b aa hb⟩⟩:OwnI c.actsL B2),(by show c.actsL.length-(jk+1)<c.actsL.length-jk;omega),ai al (aj _) fun _ h=>h⟩
        · have hjE:jk=c.actsL.length:=by omega
          cases g with
          | true =>
           repeat' (first|refine bo ?_ (cb false rfl rfl (Zc aa))|refine aD (q:=i*6) ?_|refine dX ?_|refine de (q:=i*6+1) (u:=c.acts.v) (hF:=hcA) ?_|(refine ag (hc:=htr) (hX:=fun w h=>⟨h.2,h.1.1⟩) ?_)|refine gs ?_|refine gs1 fun _=>?_|fail)
           all_goals first
            | exact ab (ae rfl rfl) rfl
          | false =>
           obtain ⟨hg1,hg2⟩:=hg rfl
           obtain ⟨q,hq⟩:=QO.1 hB
           rw [hq] at hfp
           have hqa:q.author=p.author:=by have h:q=p.can:=hfp.symm;rw [h];rfl
           have hol:=xv U hc (tD hil) hq (by rw [hqa];exact fun e=>seqB_ne.1 hau e.symm) fun a ha=>by
            obtain ⟨j,hj⟩:=QP.1 ha
            exact hg2 j a (by rw [hjE];exact (QL.1 hj).1) hj
           rw [hT,hTR] at hol
           obtain ⟨ho1,ho2,ho3⟩:=hol
           repeat' (first|refine bo ?_ (cb false rfl rfl (Zc aa))|refine aD (q:=i*6) ?_|refine dX ?_|refine de (q:=i*6+1) (u:=c.acts.v) (hF:=hcA) ?_|refine bo ?_ (eT true rfl rfl (Zd aa))|refine bo ?_ (EW rfl rfl aa)|refine bo ?_ (fG true rfl rfl (Zd aa))|(refine ag (hc:=htr) (hX:=fun w h=>⟨h.2,h.1.1⟩) ?_)|refine gs ?_|refine gs1 fun _=>?_|fail)
           all_goals first
            | exact ab (ae rfl rfl) rfl
     · cases B with
       | false =>
        repeat apply QS
        (refine aq ⟨[0,1,2,3,4,5,6,7,8,9,10,11,12,13,14,15,16,17,18,19,20,21],[]⟩ [cel b13 68 p.cells,cel b12 64 T.cells] (fun w=>(Xi w∧Chains w s1 l1)∧Chains w ⟨A2,mm,cp2⟩ (restL l1 at_ l1.length)) (h:=?_))
        all_goals repeat' (first|refine gdz ?_|fail)
        all_goals
         repeat' (first|refine gs ?_|fail)
         all_goals first
          | exact ab (ae rfl rfl) rfl
       | true =>
        by_cases hlo:at_<0
        · repeat apply QS
          (refine aq ⟨[0,1,2,3,4,5,6,7,8,9,10,11,12,13,14,15,16,17,18,19,20,21],[]⟩ [cel b13 68 p.cells,cel b12 64 T.cells] (fun w=>(Xi w∧Chains w s1 l1)∧Chains w ⟨A2,mm,cp2⟩ (restL l1 at_ l1.length)) (h:=?_))
          all_goals repeat' (first|refine ax (hsub:=by exact aI) (hy:=by (apply cb true;rfl;rfl;exact Zd hlo)) ?_|refine gdz ?_|fail)
          all_goals
           repeat' (first|refine gs ?_|fail)
           all_goals first
            | exact ab (ae rfl rfl) rfl
        · have hhi:(s1.n:Int)≤at_:=by
           rcases Int.lt_or_le at_ s1.n with h|h
           · exact absurd ⟨rfl,by omega,h⟩ hin
           · exact h
          repeat apply QS
          (refine aq ⟨[0,1,2,3,4,5,6,7,8,9,10,11,12,13,14,15,16,17,18,19,20,21],[]⟩ [cel b13 68 p.cells,cel b12 64 T.cells] (fun w=>(Xi w∧Chains w s1 l1)∧Chains w ⟨A2,mm,cp2⟩ (restL l1 at_ l1.length)) (h:=?_))
          all_goals repeat' (first|refine ax (hsub:=by exact aI) (hy:=by first|(apply cb false;rfl;rfl;exact Zc hlo)|(apply eT true;rfl;rfl;exact Zd hhi)) ?_|refine gdz ?_|fail)
          all_goals
           repeat' (first|refine gs ?_|fail)
           all_goals first
            | exact ab (ae rfl rfl) rfl
end Go.Proofs.YtaolfiikahlmkaaGreatDoor
namespace Go.Proofs.YtaolfiikahlmkaaGreatDoor
open Go Go.Proofs Sy Go.RowKit Go.Deep Go.ChangeShapes
section
variable {H:Type} {enc:TypeId×Value→H} {P:Program} {w:World} {base:Nat} {spare:Nat→Bool} {held:Bool}
end
end Go.Proofs.YtaolfiikahlmkaaGreatDoor
namespace Go.Proofs.YtaolfiikahlmkaaGreatDoor
open Go Go.Proofs Sy Go.RowKit Go.Deep Go.ChangeShapes Go.WideShapes Tryz
theorem laidOut:laidOutB prog=true:=by kernel_rfl
theorem ip {H:Type} {enc:TypeId×Value→H} {P:Program} (hl:laidOutB P=true) {W W':World} {sp:Nat→Bool}:∀ (ts:List TypeId) (vs:List Value) (ds:List (DataW H)) (ps:List MemPlace),(∀ t∈ts,P.readableRec t=true∧t<P.types.size) →
  DataW.TrodAll enc P W 0 (fun _=>true) true ts vs ds ps→(∀ p∈ps,W.sameAt W' p)→(∀ p∈ps,sp p.block=true)→DataW.TrodAll enc P W' 0 sp true ts vs ds ps
 | [],vs,ds,ps,_,h,_,_=>by
  obtain ⟨rfl,rfl,rfl⟩:=trodAll_nil h
  exact trodAll_mk0
 | t::ts,vs,ds,ps,ht,h,hs,hp=>by
  obtain ⟨v,vs',d,ds',p,q,rfl,rfl,rfl,h1,h2⟩:=trodAll_cons h
  exact trodAll_cons_mk (WideElems.Trod_stays hl (ht t am).1 (ht t am).2 h1 (fun x hx=>hs x (QC _ hx)) (fun x hx=>hp x (QC _ hx)))
   (ip hl ts vs' ds' q (fun u hu=>ht u (Zv _ hu)) h2 (fun x hx=>hs x (Qt _ hx)) (fun x hx=>hp x (Qt _ hx)))
theorem xQ {X:World→Prop} {w:World} (hX:X w) (hk:∀ w':World,(∀ k,k<w.heap.size→w'.heap[k]?=w.heap[k]?)→X w'):Xr [] (fps []) w [] X w :=
 ⟨Fr.refl _ _,fun k hk=>by simp at hk,by simp [fps],fun k hk=>by simp [fps] at hk,fun r hr=>by simp at hr,⟨fun k=>k<w.heap.size,fun k hk=>⟨hk,by simp [fps]⟩,hk⟩⟩
theorem sK {P:Program} {f:FuncId} {args:Array Value} {X:World→Prop} {v:Value} {w:World} (h:Pu P f args X v) (hX:X w) (hk:∀ w':World,(∀ k,k<w.heap.size→w'.heap[k]?=w.heap[k]?)→X w') :
  Calls P f args w fun e w'=>e=.returned v∧Below w.heap.size w w':=by
 unfold Pu at h
 exact (Ct.run h w [] (xQ hX hk)).mono fun e w' ⟨u,R,X',he,⟨hu,hR⟩,G⟩=>⟨by rw [he,hu],G.fr.below⟩
theorem laidK:Rows.laid_agora_sum_constants (H:=Unit)=Lib.tabData .u32 kC:=by kernel_rfl
theorem laidI:Rows.laid_agora_sum_initial (H:=Unit)=Lib.tabData .u32 iniC:=by kernel_rfl
theorem np {W:World} {name:String} {zs:List Int} {g:Nat} (h:Lib.TabIs prog W name .u32 zs) (hg:prog.globalNamed name=some g):CellsAt g (u32s zs) W:=fun j v hj=>by
 have hj':j<zs.length:=by have:=(QL.1 hj).1;simpa [u32s] using this
 rw [h.cell hg j hj']
 simp only [u32s,Z7,Zb hj',Option.map_some,ZM] at hj
 rw [Zo,Zb hj',←hj]
 rfl
theorem DI {W:World} (h:laidMet prog [("agora/sum.constants",Rows.laid_agora_sum_constants),("agora/sum.initial",Rows.laid_agora_sum_initial)] W):Xi W:=by
 rw [laidK,laidI] at h
 have h1:=Lib.tabIs_of_head (g:=1) (t:=234) (e:=167) (n:=64) ac ac underlying234 underlying167 ac ac h
 obtain ⟨ps,⟨g',t',cs,fuel,p,q,hg',ht',hvar,hd,hrest,hpq⟩,_⟩:=h
 obtain ⟨g2,t2,cs2,fuel2,p2,q2,hg2,ht2,hvar2,hd2,_,_⟩:=hrest
 have h2:Lib.TabIs prog W "agora/sum.initial" .u32 iniC:=by
  have e1:prog.globalNamed "agora/sum.initial"=some 0:=by kernel_rfl
  have e2:(prog.globals[0]?).map (·.type)=some 168:=by kernel_rfl
  obtain rfl:=Option.some.inj (e1.symm.trans hg2)
  obtain rfl:=Option.some.inj (e2.symm.trans ht2)
  unfold Lib.TabIs
  rw [hvar2,←Lib.cells_of_tab underlying168 underlying167 ac ac hd2]
 exact ⟨np h2 ac,np h1 ac⟩
def layRow (l:List Value):Obj→Obj
 | .cells _ t frozen=>.cells l.toArray t frozen
 | o=>o
noncomputable def laidWorld (os:Os):World :=
 { World.holding prog os ⟨#[],#[],[]⟩ with heap:=((World.holding prog os ⟨#[],#[],[]⟩).heap.modify 0 (layRow (u32s iniC))).modify 1 (layRow (u32s kC)) }
end Go.Proofs.YtaolfiikahlmkaaGreatDoor
