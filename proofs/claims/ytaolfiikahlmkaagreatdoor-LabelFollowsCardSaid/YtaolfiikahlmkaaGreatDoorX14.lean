/- Joined. -/
import Derived.Test.YtaolfiikahlmkaaGreatDoorX13
import Derived.Shelf.SlIter.AllValuesS
import Derived.Lib.SlKeysI
set_option linter.unusedVariables false
set_option linter.unusedSimpArgs false
set_option maxHeartbeats 16000000
namespace Go.Proofs.YtaolfiikahlmkaaGreatDoor
open Go Go.Proofs Sy Go.Shelf Go.Maps Go.Sort
instance tymL11:TyMap Tryz.prog 116 4 (keyD ByteArray):=⟨ae⟩
def hasL (l:List ListD) (a:ByteArray):Option ListD:=l.find? fun e=>seqB e.actor a
end Go.Proofs.YtaolfiikahlmkaaGreatDoor
namespace Go.Proofs.YtaolfiikahlmkaaGreatDoor
open Go Go.Proofs Sy Go.Sort
def entA (k:ByteArray) (l:List ActD) (j:Nat):EntD:=⟨⟨(l.getD j ActD.zero).target,(l.getD j ActD.zero).text,k,(l.getD j ActD.zero).n⟩,j⟩
def foundF (l:List ActD):Nat→List Nat
 | 0=>[]
 | i+1=>bif decide ((l.getD i ActD.zero).kind=23) then foundF l i++[i] else bif decide ((l.getD i ActD.zero).kind=6) then (match idxV l (l.getD i ActD.zero).object with|some j=>(foundF l i).erase j|none=>foundF l i) else foundF l i
def idxP' (f:Nat→Value) (F:List Nat):List (Int×Value):=F.map fun (j:Nat)=>((j:Int),f j)
theorem ql (a b:Int):KeyT.eqb a b=decide (a=b):=rfl
theorem rQ (f:Nat→Value) (i:Nat):∀ F:List Nat,i∉F→mput (idxP' f F) (i:Int) (f i)=idxP' f (F++[i])
 | [],_=>rfl
 | j::F,h=>by
  have h1:¬ (i:Int)=(j:Int):=fun e=>h (by rw [show i=j by omega];exact aw)
  have ih:=rQ f i F fun h2=>h (Zv _ h2)
  simp only [idxP',Z1,mput,ql,Zc h1,Ze,ZK] at ih ⊢
  rw [ih]
theorem rZ (f:Nat→Value) (i:Nat):∀ F:List Nat,mdel (idxP' f F) (i:Int)=idxP' f (F.erase i)
 | []=>rfl
 | j::F=>by
  have ih:=rZ f i F
  by_cases h:i=j
  · subst h
    simp only [idxP',Z1,mdel,ql,Zt,Zf,List.erase_cons_head]
  · have h1:¬ (i:Int)=(j:Int):=by omega
    rw [List.erase_cons_tail (by simpa using fun e:j=i=>h e.symm)]
    simp only [idxP',Z1,mdel,ql,Zc h1,Ze] at ih ⊢
    rw [ih]
theorem Fx {j:Nat} (h:j≤1000000000):(Lit.int .i64 (j:Int)).wf=true:=by
 have h1:IntKind.i64.min=-9223372036854775808:=by decide
 have h2:IntKind.i64.max=9223372036854775807:=by decide
 simp only [Lit.wf,Zp,Zw,h1,h2]
 omega
def entsV (l:List ChainD) (k:ByteArray):List EntD:=match findC l k with
 | some c=>(foundF c.actsL c.actsL.length).map (entA k c.actsL)
 | none=>[]
theorem o0 {l:List ChainD} {k:ByteArray} {c:ChainD} (h:findC l k=some c):c∈l:=Qz h
def hasK (ks:List ByteArray) (k:ByteArray):Bool:=ks.any fun y=>KeyT.eqb k y
theorem rU:∀ (ks:List ByteArray) (k:ByteArray),mget (setM ks) k=bif hasK ks k then some (.bool true) else none
 | [],_=>rfl
 | a::ks,k=>by
  have ih:=rU ks k
  simp only [setM,Z1,mget,hasK,List.any_cons] at ih ⊢
  cases KeyT.eqb k a with
  | true=>rfl
  | false=>simpa using ih
def bestStep (now:Int) (b:List (ByteArray×EntD)) (e:EntD):List (ByteArray×EntD) :=
 bif decide (e.l.until_≤now) then b else
  match mget b e.l.actor with
  | none=>mput b e.l.actor e
  | some old=>bif (!eqED e old)&&betV e old then mput b e.l.actor e else b
def bestF (l:List ChainD) (now:Int) (ks:List ByteArray):Nat→List ByteArray×List (ByteArray×EntD)
 | 0=>([],[])
 | i+1=>bif hasK (bestF l now ks i).1 (ks.getD i .empty) then bestF l now ks i else (sput (bestF l now ks i).1 (ks.getD i .empty),(entsV l (ks.getD i .empty)).foldl (bestStep now) (bestF l now ks i).2)
def ListD.zero:ListD:=⟨⟨#[]⟩,⟨#[]⟩,⟨#[]⟩,0⟩
def EntD.zero:EntD:=⟨ListD.zero,0⟩
def ofV (l:List ChainD) (ks:List ByteArray) (now:Int):List ListD:=(sortB ((bestF l now ks ks.length).2.map (·.1))).map fun a=>((mget (bestF l now ks ks.length).2 a).getD EntD.zero).l
theorem uB {α β:Type} (f:β→α→β) (b:β) (E:List α) {j:Nat} {e:α} (h:E[j]?=some e):(E.take (j+1)).foldl f b=f ((E.take j).foldl f b) e:=by
 rw [Qg,h]
 simp
section
variable {N:Nat} {av bor:List Nat} {w0:World} {ops:Array Oper} {rest:List Oper} {k:St→Prop} {E:Env} {loc:List Res} {X:World→Prop} {x:Operand} {st:St}
variable {n:Nat} {ty:TypeId} {pos:String} {af:Array Edge} {g:Option (Nat×Bool)} {bb want:Bool}
end
theorem m5 {β:Type}:∀ {b:List (ByteArray×β)} {a:ByteArray},a∈b.map (·.1)→∃ e,mget b a=some e
 | [],a,h=>by cases h
 | (k',v')::r,a,h=>by
  simp only [mget]
  cases hk:KeyT.eqb a k' with
  | true=>exact ⟨v',rfl⟩
  | false =>
   simp only [Z1,ZI] at h
   rcases h with rfl|h
   · rw [(KeyT.eqb_iff a a).2 rfl] at hk;cases hk
   · exact m5 h
structure BBnd (m:Nat) (b:List (ByteArray×EntD)):Prop where
 len:b.length≤m
 size:∀ p∈b,p.1.size≤maxLen
end Go.Proofs.YtaolfiikahlmkaaGreatDoor
namespace Go.Proofs.YtaolfiikahlmkaaGreatDoor
open Go Go.Proofs Sy
theorem ir {a b:EntD}:betV a b=true↔b.l.until_<a.l.until_∨(a.l.until_=b.l.until_∧(ltB a.l.by_ b.l.by_=true∨(a.l.by_=b.l.by_∧b.at_<a.at_))):=by
 unfold betV
 by_cases h:a.l.until_=b.l.until_
 · rw [Zd h]
   simp only [Zn,Ze]
   cases hs:seqB a.l.by_ b.l.by_ with
   | true =>
    have e:=seqB_iff.1 hs
    simp only [Zn,Ze,Zw]
    constructor
    · intro h1;exact .inr ⟨h,.inr ⟨e,h1⟩⟩
    · rintro (h1|⟨_,h1|h1⟩)
      · omega
      · rw [e,da] at h1;cases h1
      · exact h1.2
   | false =>
    have e:=seqB_ne.1 hs
    simp only [Zl,Zf]
    constructor
    · intro h1;exact .inr ⟨h,.inl h1⟩
    · rintro (h1|⟨_,h1|h1⟩)
      · omega
      · exact h1
      · exact absurd h1.1 e
 · rw [Zc h]
   simp only [Zl,Zf,Zw]
   constructor
   · intro h1;exact .inl h1
   · rintro (h1|h1)
     · exact h1
     · exact absurd h1.1 h
theorem uN {a b:EntD} (h:betV a b=true) (k:betV b a=true):False:=by
 rw [ir] at h k
 rcases h with h|⟨h,h2⟩
 · rcases k with k|⟨k,_⟩<;>omega
 · rcases k with k|⟨k,k2⟩
   · omega
   · rcases h2 with h2|⟨h2,h3⟩
     · rcases k2 with k2|⟨k2,_⟩
       · rw [iC h2] at k2;cases k2
       · rw [k2,da] at h2;cases h2
     · rcases k2 with k2|⟨k2,k3⟩
       · rw [h2,da] at k2;cases k2
       · omega
theorem uL {a b c:EntD} (h:betV a b=true) (k:betV b c=true):betV a c=true:=by
 rw [ir] at *
 rcases h with h|⟨h,h2⟩
 · rcases k with k|⟨k,_⟩<;>exact .inl aa
 · rcases k with k|⟨k,k2⟩
   · exact .inl aa
   · refine .inr ⟨by omega,?_⟩
     rcases h2 with h2|⟨h2,h3⟩
     · rcases k2 with k2|⟨k2,_⟩
       · exact .inl (eC h2 k2)
       · exact .inl (k2▸h2)
     · rcases k2 with k2|⟨k2,k3⟩
       · exact .inl (h2▸k2)
       · exact .inr ⟨h2.trans k2,by omega⟩
theorem uM {a b:EntD} (h:¬ betV a b=true) (k:¬ betV b a=true):a.l.by_=b.l.by_∧a.at_=b.at_:=by
 rw [ir] at *
 simp only [not_or,not_and] at h k
 have hu:a.l.until_=b.l.until_:=by omega
 have h2:=h.2 hu
 have k2:=k.2 hu.symm
 have e:a.l.by_=b.l.by_:=iB (by simpa using h2.1) (by simpa using k2.1)
 exact ⟨e,by have:=h2.2 e;have:=k2.2 e.symm;omega⟩
theorem iV {l:List ChainD} {k:ByteArray} {e:EntD} (h:e∈entsV l k):∃ c j,findC l k=some c∧j∈foundF c.actsL c.actsL.length∧e=entA k c.actsL j:=by
 unfold entsV at h
 cases hf:findC l k with
 | none=>rw [hf] at h;cases h
 | some c =>
  rw [hf] at h
  obtain ⟨j,hj,rfl⟩:=QJ.1 h
  exact ⟨c,j,rfl,hj,rfl⟩
theorem B6 {l:List ChainD} {k:ByteArray} {e:EntD} (h:e∈entsV l k):e.l.by_=k:=by
 obtain ⟨c,j,_,_,rfl⟩:=iV h
 rfl
theorem B5 {l:List ChainD} {k k':ByteArray} {e e':EntD} (h:e∈entsV l k) (h':e'∈entsV l k') (hb:e.l.by_=e'.l.by_) (ha:e.at_=e'.at_):e=e':=by
 have hk:k=k':=by rw [←B6 h,←B6 h',hb]
 subst hk
 obtain ⟨c,j,hc,_,rfl⟩:=iV h
 obtain ⟨c',j',hc',_,rfl⟩:=iV h'
 rw [hc] at hc'
 cases hc'
 have:(j:Int)=(j':Int):=ha
 rw [show j=j' by omega]
def Best (S:EntD→Prop) (a:ByteArray) (e:EntD):Prop:=S e∧e.l.actor=a∧∀ e',S e'→e'.l.actor=a→e'=e∨betV e e'=true
theorem Best.uniq {S:EntD→Prop} {a:ByteArray} {e e':EntD} (h:Best S a e) (h':Best S a e'):e=e':=by
 rcases h.2.2 e' h'.1 h'.2.1 with h1|h1
 · exact h1.symm
 · rcases h'.2.2 e h.1 h.2.1 with h2|h2
   · exact h2
   · exact (uN h1 h2).elim
theorem kn {β:Type}:∀ (b:List (ByteArray×β)) (k a:ByteArray) (v:β),mget (mput b k v) a=if a=k then some v else mget b a
 | [],k,a,v=>by
  by_cases h:a=k
  · simp only [mput,mget,(KeyT.eqb_iff a k).2 h,Zf,ZO h]
  · have:KeyT.eqb a k=false:=by rw [←ZE,KeyT.eqb_iff];exact h
    simp only [mput,mget,this,Ze,ZP h]
 | (k',v')::r,k,a,v=>by
  have ih:=kn r k a v
  simp only [mput]
  cases hk:KeyT.eqb k k' with
  | true =>
   have e:=(KeyT.eqb_iff k k').1 hk
   subst e
   by_cases h:a=k
   · simp only [Zf,mget,(KeyT.eqb_iff a k).2 h,ZO h]
   · have:KeyT.eqb a k=false:=by rw [←ZE,KeyT.eqb_iff];exact h
     simp only [Zf,mget,this,Ze,ZP h]
  | false =>
   simp only [Ze,mget]
   cases ha:KeyT.eqb a k' with
   | true =>
    have e:=(KeyT.eqb_iff a k').1 ha
    subst e
    have hne:¬ a=k:=fun e=>by rw [e,(KeyT.eqb_iff k k).2 rfl] at hk;cases hk
    simp only [Zf,ZP hne]
   | false=>simp only [Ze,ih]
theorem rX {β:Type}:∀ (b:List (ByteArray×β)) (k a:ByteArray) (v:β),a∈(mput b k v).map (·.1)↔a=k∨a∈b.map (·.1)
 | [],k,a,v=>by simp [mput]
 | (k',v')::r,k,a,v=>by
  have ih:=rX r k a v
  simp only [mput]
  cases hk:KeyT.eqb k k' with
  | true =>
   have e:=(KeyT.eqb_iff k k').1 hk
   subst e
   simp
  | false =>
   simp only [Ze,Z1,ZI,ih]
   constructor
   · rintro (h|h|h)
     · exact .inr (.inl h)
     · exact .inl h
     · exact .inr (.inr h)
   · rintro (h|h|h)
     · exact .inr (.inl h)
     · exact .inl h
     · exact .inr (.inr h)
theorem mW {β:Type}:∀ (b:List (ByteArray×β)) (k:ByteArray) (v:β),(b.map (·.1)).Nodup→((mput b k v).map (·.1)).Nodup
 | [],k,v,_=>by simp [mput]
 | (k',v')::r,k,v,h=>by
  simp only [Z1,List.nodup_cons] at h
  have ih:=mW r k v h.2
  simp only [mput]
  cases hk:KeyT.eqb k k' with
  | true =>
   have e:=(KeyT.eqb_iff k k').1 hk
   subst e
   simp only [Zf,Z1,List.nodup_cons]
   exact h
  | false =>
   simp only [Ze,Z1,List.nodup_cons]
   refine ⟨fun hm=>?_,ih⟩
   rcases (rX r k k' v).1 hm with e|e
   · rw [e,(KeyT.eqb_iff k k).2 rfl] at hk;cases hk
   · exact h.1 e
theorem oR {β:Type}:∀ {b:List (ByteArray×β)} {a:ByteArray} {e:β},mget b a=some e→a∈b.map (·.1)
 | [],a,e,h=>by cases h
 | (k',v')::r,a,e,h=>by
  simp only [mget] at h
  cases hk:KeyT.eqb a k' with
  | true=>rw [(KeyT.eqb_iff a k').1 hk];simp
  | false=>rw [hk] at h;simp only [Z1,ZI];exact .inr (oR h)
structure Inv (l:List ChainD) (S:EntD→Prop) (b:List (ByteArray×EntD)):Prop where
 wf:∀ e,S e→∃ k,e∈entsV l k
 nodup:(b.map (·.1)).Nodup
 best:∀ a e,mget b a=some e→Best S a e
 all:∀ e,S e→∃ e',mget b e.l.actor=some e'
theorem Inv.congr {l:List ChainD} {S S':EntD→Prop} {b:List (ByteArray×EntD)} (h:Inv l S b) (hs:∀ e,S e↔S' e):Inv l S' b:=by
 have:S=S':=funext fun e=>propext (hs e)
 subst this
 exact h
theorem BE {l:List ChainD} {S:EntD→Prop} {b:List (ByteArray×EntD)} {now:Int} {e:EntD} {k:ByteArray} (h:Inv l S b) (he:e∈entsV l k):Inv l (fun x=>S x∨(x=e∧now<e.l.until_)) (bestStep now b e):=by
 unfold bestStep
 by_cases hu:e.l.until_≤now
 · rw [Zd hu,Zf]
   exact h.congr fun x=>⟨.inl,fun hx=>hx.elim id fun hx=>by omega⟩
 · rw [Zc hu,Ze]
   have hu':now<e.l.until_:=by omega
   have hS:(fun x=>S x∨(x=e∧now<e.l.until_))=fun x=>S x∨x=e:=funext fun x=>propext ⟨fun hx=>hx.imp id And.left,fun hx=>hx.imp id fun hx=>⟨hx,hu'⟩⟩
   rw [hS]
   have hwf:∀ x,S x∨x=e→∃ k,x∈entsV l k:=fun x hx=>hx.elim (h.wf x) fun hx=>⟨k,hx▸he⟩
   have put:(∀ x,S x→x.l.actor=e.l.actor→x=e∨betV e x=true)→Inv l (fun x=>S x∨x=e) (mput b e.l.actor e):=fun hb=>by
    refine ⟨hwf,mW b _ _ h.nodup,fun a x hx=>?_,fun x hx=>?_⟩
    · rw [kn] at hx
      by_cases ha:a=e.l.actor
      · rw [ZO ha] at hx
        cases hx
        refine ⟨.inr rfl,ha.symm,fun e' h1 h2=>?_⟩
        rcases h1 with h1|h1
        · exact hb e' h1 (h2.trans ha)
        · exact .inl h1
      · rw [ZP ha] at hx
        have h1:=h.best a x hx
        refine ⟨.inl h1.1,h1.2.1,fun e' h2 h3=>?_⟩
        rcases h2 with h2|h2
        · exact h1.2.2 e' h2 h3
        · subst h2;exact absurd h3.symm ha
    · rw [kn]
      by_cases ha:x.l.actor=e.l.actor
      · rw [ZO ha];exact ⟨_,rfl⟩
      · rw [ZP ha]
        rcases hx with hx|hx
        · exact h.all x hx
        · subst hx;exact absurd rfl ha
   cases ho:mget b e.l.actor with
   | none =>
    refine put fun x hx ha=>?_
    obtain ⟨e',h1⟩:=h.all x hx
    rw [ha,ho] at h1
    cases h1
   | some old =>
    have hbo:=h.best _ _ ho
    simp only
    cases hc:((!eqED e old)&&betV e old) with
    | true =>
     have hb:=(Zp _ _).mp hc
     refine put fun x hx ha=>?_
     rcases hbo.2.2 x hx ha with h1|h1
     · rw [h1];exact .inr hb.2
     · exact .inr (uL hb.2 h1)
    | false =>
     simp only [Ze]
     have hoe:old=e∨betV old e=true:=by
      by_cases h1:betV old e=true
      · exact .inr h1
      · by_cases h2:betV e old=true
        · rw [h2,Zh] at hc
          have:eqED e old=true:=by simpa using hc
          exact .inl (eqED_iff.1 this).symm
        · obtain ⟨k',hk'⟩:=h.wf old hbo.1
          have h3:=uM h1 h2
          exact .inl (B5 hk' he h3.1 h3.2)
     refine ⟨hwf,h.nodup,fun a x hx=>?_,fun x hx=>?_⟩
     · have h1:=h.best a x hx
       refine ⟨.inl h1.1,h1.2.1,fun e' h2 h3=>?_⟩
       rcases h2 with h2|h2
       · exact h1.2.2 e' h2 h3
       · subst h2
         rw [←h3,ho] at hx
         cases hx
         rcases hoe with h4|h4
         · exact .inl h4.symm
         · exact .inr h4
     · rcases hx with hx|hx
       · exact h.all x hx
       · subst hx;exact ⟨old,ho⟩
theorem so {l:List ChainD} {now:Int} {k:ByteArray}:∀ (E:List EntD) {S:EntD→Prop} {b:List (ByteArray×EntD)},Inv l S b→(∀ e∈E,e∈entsV l k)→Inv l (fun x=>S x∨(x∈E∧now<x.l.until_)) (E.foldl (bestStep now) b)
 | [],S,b,h,_=>h.congr fun x=>⟨.inl,fun hx=>hx.elim id fun hx=>by cases hx.1⟩
 | e::E,S,b,h,he=>by
  have h1:=BE (now:=now) h (he e aw)
  have h2:=so (now:=now) E h1 fun x hx=>he x (Zv _ hx)
  refine h2.congr fun x=>?_
  simp only [ZI]
  constructor
  · rintro ((h|⟨rfl,h⟩)|⟨h,h'⟩)
    · exact .inl h
    · exact .inr ⟨.inl rfl,h⟩
    · exact .inr ⟨.inr h,h'⟩
  · rintro (h|⟨rfl|h,h'⟩)
    · exact .inl (.inl h)
    · exact .inl (.inr ⟨rfl,h'⟩)
    · exact .inr ⟨h,h'⟩
def Cand (l:List ChainD) (ks:List ByteArray) (now:Int) (e:EntD):Prop:=(∃ k∈ks,e∈entsV l k)∧now<e.l.until_
theorem hasK_iff {ks:List ByteArray} {k:ByteArray}:hasK ks k=true↔k∈ks:=by
 rw [hasK,List.any_eq_true]
 constructor
 · rintro ⟨y,hy,h⟩
   rw [(KeyT.eqb_iff k y).1 h];exact hy
 · intro h
   exact ⟨k,h,(KeyT.eqb_iff k k).2 rfl⟩
theorem ya {ks:List ByteArray} {k a:ByteArray}:a∈sput ks k↔a=k∨a∈ks:=by
 induction ks with
 | nil=>simp [sput]
 | cons y ks ih =>
  simp only [sput]
  cases hk:KeyT.eqb k y with
  | true=>rw [(KeyT.eqb_iff k y).1 hk];simp
  | false =>
   simp only [Ze,ZI,ih]
   constructor
   · rintro (h|h|h)
     · exact .inr (.inl h)
     · exact .inl h
     · exact .inr (.inr h)
   · rintro (h|h|h)
     · exact .inr (.inl h)
     · exact .inl h
     · exact .inr (.inr h)
theorem sr (l:List ChainD) (now:Int) (ks:List ByteArray):∀ i,i≤ks.length→(∀ k,k∈(bestF l now ks i).1↔k∈ks.take i)∧Inv l (Cand l (ks.take i) now) (bestF l now ks i).2
 | 0,_=>⟨fun k=>(by simp [bestF]),{ wf:=fun e h=>(by obtain ⟨⟨k,hk,_⟩,_⟩:=h;simp at hk),nodup:=(by simp [bestF]),best:=fun a e h=>(by cases h),all:=fun e h=>(by obtain ⟨⟨k,hk,_⟩,_⟩:=h;simp at hk) }⟩
 | i+1,hi=>by
  obtain ⟨ih1,ih2⟩:=sr l now ks i aa
  have hx:ks.getD i .empty=ks[i]:=by rw [Zo,Zb (by omega)];rfl
  have ht:ks.take (i+1)=ks.take i++[ks[i]]:=by rw [Qg,Zb (by omega)];rfl
  simp only [bestF,hx,ht]
  generalize ks[i]=k0 at *
  cases hh:hasK (bestF l now ks i).1 k0 with
  | true =>
   have hin:k0∈ks.take i:=(ih1 k0).1 (hasK_iff.1 hh)
   simp only [Zf]
   refine ⟨fun k=>?_,ih2.congr fun e=>?_⟩
   · rw [ih1,Qy,Z5]
     exact ⟨.inl,fun h=>h.elim id fun h=>h▸hin⟩
   · unfold Cand
     simp only [Qy,Z5]
     exact ⟨fun ⟨⟨k,h1,h2⟩,h3⟩=>⟨⟨k,.inl h1,h2⟩,h3⟩,fun ⟨⟨k,h1,h2⟩,h3⟩=>⟨⟨k,h1.elim id fun h=>h▸hin,h2⟩,h3⟩⟩
  | false =>
   simp only [Ze]
   refine ⟨fun k=>?_,(so (now:=now) (k:=k0) (entsV l k0) ih2 fun e he=>he).congr fun e=>?_⟩
   · rw [ya,ih1,Qy,Z5]
     exact Or.comm
   · unfold Cand
     simp only [Qy,Z5]
     constructor
     · rintro (⟨⟨k,h1,h2⟩,h3⟩|⟨h2,h3⟩)
       · exact ⟨⟨k,.inl h1,h2⟩,h3⟩
       · exact ⟨⟨k0,.inr rfl,h2⟩,h3⟩
     · rintro ⟨⟨k,h1|rfl,h2⟩,h3⟩
       · exact .inl ⟨⟨k,h1,h2⟩,h3⟩
       · exact .inr ⟨h2,h3⟩
theorem BF (l:List ChainD) (now:Int) (ks:List ByteArray):Inv l (Cand l ks now) (bestF l now ks ks.length).2:=by
 have:=(sr l now ks ks.length (ZX _)).2
 rwa [Qh] at this
def Lst (l:List ChainD) (ks:List ByteArray) (now:Int) (x:ListD):Prop:=∃ e,Best (Cand l ks now) x.actor e∧e.l=x
theorem mem_ofV {l:List ChainD} {ks:List ByteArray} {now:Int} {x:ListD}:x∈ofV l ks now↔Lst l ks now x:=by
 have hI:=BF l now ks
 unfold ofV
 rw [QJ]
 constructor
 · rintro ⟨a,ha,rfl⟩
   obtain ⟨e,he⟩:=m5 (mem_sortB.1 ha)
   have hb:=hI.best a e he
   rw [he]
   refine ⟨e,?_,rfl⟩
   show Best _ e.l.actor e
   rw [hb.2.1]
   exact hb
 · rintro ⟨e,hb,rfl⟩
   obtain ⟨e',he'⟩:=hI.all e hb.1
   have hb':=hI.best _ e' he'
   have:e=e':=hb.uniq hb'
   subst this
   exact ⟨e.l.actor,mem_sortB.2 (oR he'),by rw [he'];rfl⟩
theorem Lst.uniq {l:List ChainD} {ks:List ByteArray} {now:Int} {x y:ListD} (hx:Lst l ks now x) (hy:Lst l ks now y) (h:x.actor=y.actor):x=y:=by
 obtain ⟨e,he,rfl⟩:=hx
 obtain ⟨e',he',rfl⟩:=hy
 rw [h] at he
 rw [he.uniq he']
theorem hasL_iff {l:List ChainD} {ks:List ByteArray} {now:Int} {x:ListD} {a:ByteArray}:hasL (ofV l ks now) a=some x↔Lst l ks now x∧x.actor=a:=by
 constructor
 · intro h
   have h1:=List.find?_some h
   exact ⟨mem_ofV.1 (Qz h),seqB_iff.1 h1⟩
 · rintro ⟨h,rfl⟩
   cases hf:hasL (ofV l ks now) x.actor with
   | none =>
    rw [hasL,List.find?_eq_none] at hf
    exact absurd (cF x.actor) (hf x (mem_ofV.2 h))
   | some y =>
    have h1:=mem_ofV.1 (Qz hf)
    have h2:=List.find?_some hf
    rw [h.uniq h1 (seqB_iff.1 h2).symm]
theorem listed {l:List ChainD} {ks:List ByteArray} {now:Int} {e:EntD} (h:Cand l ks now e):∃ x,Lst l ks now x∧x.actor=e.l.actor∧e.l.until_≤x.until_∧(x.until_=e.l.until_→ltB e.l.by_ x.by_=false):=by
 have hI:=BF l now ks
 obtain ⟨e',he'⟩:=hI.all e h
 have hb:=hI.best _ e' he'
 refine ⟨e'.l,⟨e',by rw [hb.2.1];exact hb,rfl⟩,hb.2.1,?_,fun hu=>?_⟩
 · rcases hb.2.2 e h rfl with h1|h1
   · rw [h1];exact Int.le_refl _
   · rw [ir] at h1;omega
 · rcases hb.2.2 e h rfl with h1|h1
   · rw [h1];exact da _
   · rw [ir] at h1
     rcases h1 with h1|⟨_,h1|h1⟩
     · omega
     · exact iC h1
     · rw [h1.1];exact da _
theorem Lst.after {l:List ChainD} {ks:List ByteArray} {now:Int} {x:ListD} (h:Lst l ks now x):now<x.until_:=by
 obtain ⟨e,he,rfl⟩:=h
 exact he.1.2
theorem gdApp {l r:List ActD} {i:Nat} (h:i<l.length):(l++r).getD i ActD.zero=l.getD i ActD.zero:=by
 rw [Zo,Zo,ZG h]
theorem np (l:List ActD) (a:ActD) (r:List ActD):(l++a::r).getD l.length ActD.zero=a:=by
 rw [Zo,ZV (ZX _),Nat.sub_self]
 rfl
def UndOk (l:List ActD):Prop:=∀ i,i<l.length→(l.getD i ActD.zero).kind=6→(idxV l (l.getD i ActD.zero).object).isSome=true
theorem jM {l r:List ActD} {d:ByteArray} (h:(idxV l d).isSome=true):idxV (l++r) d=idxV l d:=by
 rw [idxV,List.findIdx?_append]
 rw [idxV] at h ⊢
 cases hf:l.findIdx? fun a=>seqB (digV a) d with
 | none=>rw [hf] at h;cases h
 | some j=>rfl
theorem wz {l:List ActD} (h:UndOk l):UndOk (l.map ActD.can):=fun i hi hk=>by
 rw [ZF] at hi
 rw [qs] at hk ⊢
 rw [qr]
 exact h i hi hk
theorem FZ {L:List Int} {I:List ItemD} {au:ByteArray} {c:ChainD} {kl:List KeyD} (q:QK L I au c kl):∀ x∈c.actsL,x∈selA au rightIt I:=by
 obtain ⟨A,sa,sk,st,fork,hA,hR,rfl,rfl⟩:=q
 rw [OfRes] at hR
 cases ho:oneA (firstL ((OfWK L.length I au).at A)) with
 | none =>
  rw [ho] at hR
  obtain ⟨rfl,rfl⟩:=hR
  exact fun x hx=>absurd hx (by simp)
 | some a =>
  rw [ho] at hR
  obtain ⟨rfl,rfl⟩:=hR
  have ha:a∈firstL ((OfWK L.length I au).at A):=by rw [gu ho];exact Z5.2 rfl
  exact fun x hx=>hA.subset ((wb ha).mem x hx)
theorem zp {L:List Int} {I:List ItemD} (h:KnR L I) {au:ByteArray} {c:ChainD} {kl:List KeyD} (q:QK L I au c kl):UndOk c.actsL:=fun i hi hk=>by
 have G:=fB h q
 have hx:c.actsL[i]?=some (c.actsL.getD i ActD.zero):=by rw [Zo,Zb hi];rfl
 generalize c.actsL.getD i ActD.zero=x at *
 by_cases h0:i=0
 · subst h0
   obtain ⟨it,_,rfl,k0,hr,_⟩:=gc (FZ q x (Z6 hx))
   have h1:=g9 k0 hr
   have h2:=G.seq 0 _ hx
   simp only [rightB,Zp] at h1
   have h3:=h1.1.1.1.1.2
   rw [placedB,Zd aa,Zf,Zp,Zw] at h3
   rw [h3.1] at hk
   exact absurd hk (by decide)
 · have hf:=G.fit i x aa hx ⟨c.id,⟨none,i,0⟩,⟨none,0,0⟩,x.prev,0,false,c.actsL.take i⟩ rfl rfl rfl rfl
   have hs:(idxV (c.actsL.take i) x.object).isSome=true:=by
    cases ho:idxV (c.actsL.take i) x.object with
    | some j=>rfl
    | none =>
     rw [fitsV] at hf
     change (bif _ then false else bif _ then false else bif decide (x.kind=6) then atK _ (idxV (c.actsL.take i) x.object) undoK else _)=true at hf
     rw [ho,Zd hk,Zf,atK] at hf
     cases hb:!rightB x||!seqB x.author c.id||!decide (x.seq=((i:Nat):Int))||!seqB x.prev x.prev with
     | true =>
      change (bif (!rightB x||!seqB x.author c.id||!decide (x.seq=((i:Nat):Int))||!seqB x.prev x.prev) then false else _)=true at hf
      rw [hb] at hf;cases hf
     | false =>
      change (bif (!rightB x||!seqB x.author c.id||!decide (x.seq=((i:Nat):Int))||!seqB x.prev x.prev) then false else bif (decide (x.kind=0) != decide (((i:Nat):Int)=0)) then false else false)=true at hf
      rw [hb,Ze] at hf
      cases hc:decide (x.kind=0) != decide (((i:Nat):Int)=0)<;>rw [hc] at hf<;>cases hf
   have e:=jM (r:=c.actsL.drop i) hs
   rw [Qs] at e
   rw [e]
   exact hs
structure OneMore (l l':List ChainD) (ks:List ByteArray) (id:ByteArray) (e0:EntD):Prop where
 mem:id∈ks
 far:∀ k,k≠id→entsV l' k=entsV l k
 own:entsV l' id=entsV l id++[e0]
theorem OneMore.cand {l l':List ChainD} {ks:List ByteArray} {id:ByteArray} {e0:EntD} (h:OneMore l l' ks id e0) {now:Int} {e:EntD}:Cand l' ks now e↔Cand l ks now e∨(e=e0∧now<e0.l.until_):=by
 constructor
 · rintro ⟨⟨k,hk,he⟩,hu⟩
   by_cases hki:k=id
   · subst hki
     rw [h.own] at he
     rcases Qy.1 he with he|he
     · exact .inl ⟨⟨k,hk,he⟩,hu⟩
     · rw [Z5.1 he] at hu ⊢
       exact .inr ⟨rfl,hu⟩
   · rw [h.far k hki] at he
     exact .inl ⟨⟨k,hk,he⟩,hu⟩
 · rintro (⟨⟨k,hk,he⟩,hu⟩|⟨rfl,hu⟩)
   · by_cases hki:k=id
     · subst hki
       exact ⟨⟨k,hk,by rw [h.own];exact QC _ he⟩,hu⟩
     · exact ⟨⟨k,hk,by rw [h.far k hki];exact he⟩,hu⟩
   · exact ⟨⟨id,h.mem,by rw [h.own];exact Qt _ (Z5.2 rfl)⟩,hu⟩
theorem nI {l:List ChainD} {ks:List ByteArray} {now:Int} {e:EntD} (h:Cand l ks now e):∃ x,hasL (ofV l ks now) e.l.actor=some x∧e.l.until_≤x.until_:=by
 obtain ⟨x,h1,h2,h3,_⟩:=listed h
 exact ⟨x,hasL_iff.2 ⟨h1,h2⟩,h3⟩
theorem OneMore.first {l l':List ChainD} {ks:List ByteArray} {id:ByteArray} {e0:EntD} (h:OneMore l l' ks id e0) {now:Int} (h0:0≤e0.l.until_) :
  (hasL (ofV l' ks now) e0.l.actor).isSome=((hasL (ofV l ks now) e0.l.actor).isSome||decide (now<e0.l.until_)) ∧
  ∀ x,hasL (ofV l' ks now) e0.l.actor=some x→e0.l.until_≤x.until_∧((hasL (ofV l ks now) e0.l.actor).getD ListD.zero).until_≤x.until_:=by
 have hold:∀ y,hasL (ofV l ks now) e0.l.actor=some y→∃ x,hasL (ofV l' ks now) e0.l.actor=some x∧y.until_≤x.until_:=fun y hy=>by
  obtain ⟨⟨e,he,rfl⟩,ha⟩:=hasL_iff.1 hy
  obtain ⟨x,hx,hu⟩:=nI (h.cand.2 (.inl he.1))
  rw [ha] at hx
  exact ⟨x,hx,hu⟩
 have hnew:now<e0.l.until_→∃ x,hasL (ofV l' ks now) e0.l.actor=some x∧e0.l.until_≤x.until_:=fun hu=>nI (h.cand.2 (.inr ⟨rfl,hu⟩))
 constructor
 · cases hw:hasL (ofV l ks now) e0.l.actor with
   | some y =>
    obtain ⟨x,hx,_⟩:=hold y hw
    rw [hx]
    rfl
   | none =>
    by_cases hu:now<e0.l.until_
    · obtain ⟨x,hx,_⟩:=hnew hu
      rw [hx,Zd hu]
      rfl
    · rw [Zc hu]
      cases hx:hasL (ofV l' ks now) e0.l.actor with
      | none=>rfl
      | some x =>
       obtain ⟨⟨e,he,rfl⟩,ha⟩:=hasL_iff.1 hx
       rcases h.cand.1 he.1 with h1|⟨_,h1⟩
       · obtain ⟨y,hy,_⟩:=nI h1
         rw [ha,hw] at hy
         cases hy
       · exact absurd h1 hu
 · intro x hx
   have hafter:now<x.until_:=(hasL_iff.1 hx).1.after
   have h1:e0.l.until_≤x.until_:=by
    by_cases hu:now<e0.l.until_
    · obtain ⟨x',hx',hu'⟩:=hnew hu
      rw [hx] at hx'
      cases hx'
      exact hu'
    · omega
   refine ⟨h1,?_⟩
   cases hw:hasL (ofV l ks now) e0.l.actor with
   | none=>exact Int.le_trans h0 h1
   | some y =>
    obtain ⟨x',hx',hu'⟩:=hold y hw
    rw [hx] at hx'
    cases hx'
    exact hu'
end Go.Proofs.YtaolfiikahlmkaaGreatDoor
namespace Go.Proofs.YtaolfiikahlmkaaGreatDoor
open Go Go.Proofs Sy Go.Shelf Go.Maps Go.Sort Go.RowKit
structure ValsL (P:Program) (ρ:Ren):Prop where
 mixed:P.follows .mixedOrders=true
 f7:Bears P (ρ.f 7) (SlBodyY.n7 ρ)
 t0:P.underlying (ρ.t 0)=some (TypeDesc.tuple #[])
 a0:∀ w,(isAgg (ρ.t 0)).run P w=.ok false w
 z0:∀ w,(Go.sizeOf (ρ.t 0)).run P w=.ok 1 w
 v0:∀ w,(zeroValue (ρ.t 0)).run P w=.ok (Value.tuple #[]) w
 t3:P.underlying (ρ.t 3)=some (TypeDesc.string)
 a3:∀ w,(isAgg (ρ.t 3)).run P w=.ok false w
 z3:∀ w,(Go.sizeOf (ρ.t 3)).run P w=.ok 1 w
 v3:∀ w,(zeroValue (ρ.t 3)).run P w=.ok (Value.string { data:=#[] }) w
 t4:P.underlying (ρ.t 4)=some (TypeDesc.bool)
 a4:∀ w,(isAgg (ρ.t 4)).run P w=.ok false w
 z4:∀ w,(Go.sizeOf (ρ.t 4)).run P w=.ok 1 w
 v4:∀ w,(zeroValue (ρ.t 4)).run P w=.ok (Value.bool false) w
 t23:P.underlying (ρ.t 23)=some (TypeDesc.map (ρ.t 27) (ρ.t 3))
 a23:∀ w,(isAgg (ρ.t 23)).run P w=.ok false w
 z23:∀ w,(Go.sizeOf (ρ.t 23)).run P w=.ok 1 w
 v23:∀ w,(zeroValue (ρ.t 23)).run P w=.ok (Value.map none) w
 t33:P.underlying (ρ.t 33)=some (TypeDesc.func #[ρ.t 3] #[ρ.t 4] false)
 a33:∀ w,(isAgg (ρ.t 33)).run P w=.ok false w
 z33:∀ w,(Go.sizeOf (ρ.t 33)).run P w=.ok 1 w
 v33:∀ w,(zeroValue (ρ.t 33)).run P w=.ok (Value.nilFunc) w
 t27:P.underlying (ρ.t 27)=some (TypeDesc.int .i64)
def ValIL {H:Type} (D0:DataW H) (p:Int×List UInt8):Prop:=∀ zd,D0.atKey (.int .i64 p.1) zd=.lit (.string p.2)
def AllI {H:Type} (D0:DataW H) (ps:List (Int×List UInt8)):Prop:=(ps.map (·.1)).Perm (intKeys D0)∧∀ p∈ps,ValIL D0 p
variable {P:Program} {ρ:Ren}
set_option maxRecDepth 100000 in
theorem zk (L:ValsL P ρ) {H:Type} (F:Fence) (n:Nat) (h8:F.fn (ρ.f 7)) (hro:F.round=none) (hn:1≤n) (l Bm b nn:Nat) (D0:DataW H) (J:List (List UInt8)→World→Prop)
  (hY:∀ pre x W,J pre W→pre.length<Maps.size D0→YieldAt F (n-1) P l #[encStr x] W fun e W'=>e=.returned (.bool true)∧J (pre++[x]) W'∧KeepsWalks W W')
  (W:World) (hJ:AbidesFrom W.heap.size J) (hm:W.cell? ⟨Bm,0,none⟩=some (.map (some b))) (hown:W.ownsMap P (ρ.t 27) (plainElem P (ρ.t 3)) b nn D0) (h0:J [] W) :
  CallsIn F n P (ρ.f 7) #[.func (.yield l) #[] #[],.pointer (some ⟨Bm,0,none⟩)] W fun e W'=>(∃ v,e=.returned v)∧∃ xs,(∃ ps,AllI D0 ps∧xs=ps.map (·.2))∧J xs W':=by
 have mixed:=L.mixed;have t0:=L.t0;have a0:=L.a0;have z0:=L.z0;have v0:=L.v0;have t3:=L.t3;have a3:=L.a3;have z3:=L.z3;have v3:=L.v3;have t4:=L.t4;have a4:=L.a4;have z4:=L.z4;have v4:=L.v4;have t23:=L.t23;have a23:=L.a23;have z23:=L.z23;have v23:=L.v23;have t33:=L.t33;have a33:=L.a33;have z33:=L.z33;have v33:=L.v33;have t27:=L.t27
 have u0:=run_underlying L.t0;have u3:=run_underlying L.t3;have u4:=run_underlying L.t4;have u23:=run_underlying L.t23;have u33:=run_underlying L.t33;have u27:=run_underlying L.t27
 obtain ⟨_,_,FG⟩:=L.f7
 refine callsIn_of_wp FG rfl h8 ?_ hro
 simp only [SlBodyY.n7_ntmps ρ,List.size_toArray,ZB,ZR,Nat.reduceAdd,Nat.reduceSub,Array.replicate_succ,Array.replicate_zero,List.push_toArray,List.append_toArray,ZL,ZK]
 gi_wp2_with (first
  | (gi_at_range;refine wpListIn_range_own _ rfl _ (ρ.t 23) rfl (ρ.t 27) (ρ.t 3) (int_keyed L.t27) L.t23 _ b nn _ rfl hown ?_;intro w0 hrg0 hg0 hs0)
  | gi_in)
 go_frame
 gi_loopw [4] (fun _ wr=>∃ (left:Lit→Bool) (cnt:Nat) (ps:List (Int×List UInt8)),wr.ranges P (ρ.t 27) (plainElem P (ρ.t 3)) b W.heap.size nn D0 left cnt∧ps.length+cnt≤Maps.size D0∧CollectedI D0 left (ps.map (·.1))∧(∀ p∈ps,ValIL D0 p)∧J (ps.map (·.2)) wr)
  (fun _ wr=>wr.rangeLeft b W.heap.size)
 case atStart =>
  exact ⟨_,_,[],hrg0,by simp,CollectedI.start D0,by simp,hJ [] W w0 none h0 hg0 (fun r e=>by cases e)⟩
 case round =>
  obtain ⟨left,cnt,ps,hrg,hcs,hC,hV,hJs⟩:=hrel
  gi_wp2_with (first
   | (gi_at_next;refine wpListIn_next_ranges _ rfl _ rfl (ρ.t 27) (int_keyed L.t27) (plainElem P (ρ.t 3)) encZ encStr (fun key kl hk=>by obtain ⟨x,hx,_⟩:=Maps.keyOf_i64 L.t27 hk;exact ⟨x,hx⟩) (fun v y hv=>by obtain ⟨c,rfl,_⟩:=plainElem_string_inv L.t3 hv;exact ⟨c,rfl⟩) b W.heap.size nn _ _ _ rfl hrg ?_ ?_)
   | gi_in)
  · intro hc0 hl0
    gi_wp2
    go_end0
    exact ⟨⟨_,rfl⟩,_,⟨ps,⟨hC.perm hown (int_keyed L.t27) L.t27 hl0,hV⟩,rfl⟩,hJs⟩
  · intro x c kl yd yp w2 cnt2 hkey hlk hv hat hrg2 hlt hg2 hs2 hen
    obtain ⟨x',ex,rfl,_⟩:=Maps.keyOf_i64 L.t27 hkey
    obtain rfl:x=x':=encZ_inj ex
    obtain ⟨c',ec,ez,_⟩:=plainElem_string_inv L.t3 hv
    obtain rfl:c=c':=encStr_inj ec
    obtain rfl:yd=.lit (.string c):=(Prod.mk.inj ez).1
    have hJ2:J (ps.map (·.2)) w2:=hJ _ wr w2 (some W.heap.size) hJs hg2 (fun r e=>by cases e;exact ⟨ZX _,hrg.iter_walk⟩)
    obtain ⟨fn,tmps,assign,body,hy,hR⟩:=hY (ps.map (·.2)) c w2 hJ2 (by simp;omega)
    clear hs2
    gi_wp2
    refine hR.mono ?_
    have hC2:CollectedI D0 (fun z=>left z&&!z.sameKey (.int .i64 x)) ((ps++[(x,c)]).map (·.1)):=by simpa using hC.step hlk hat
    have hV2:∀ p∈ps++[(x,c)],ValIL D0 p:=fun p hp=>(Qy.1 hp).elim (hV p) (fun e=>by simp at e;subst e;exact hat)
    rintro e W3 ⟨rfl,hJ3,hk3⟩
    gi_wp2
    have hrg3:=hrg2.of_walks hk3
    go_roundw
    case rel=>exact ⟨_,cnt2,ps++[(x,c)],hrg3,by simp;omega,hC2,hV2,by simpa using hJ3⟩
    case measure=>rw [hrg3.left_eq,hrg.left_eq];exact hlt
theorem qL (L:ValsL P ρ) {H:Type} (F:Fence) (n:Nat) (h7:F.fn (ρ.f 7)) (hro:F.round=none) (hn:1≤n) (Bm b nn:Nat) (D0:DataW H) (w:World) (hBm:Bm<w.heap.size)
  (hm:w.cell? ⟨Bm,0,none⟩=some (.map (some b))) (hown:w.ownsMap P (ρ.t 27) (plainElem P (ρ.t 3)) b nn D0) :
  SeqGives F n P (ρ.f 7) #[.pointer (some ⟨Bm,0,none⟩)] encStr (fun xs=>∃ ps,AllI D0 ps∧xs=ps.map (·.2)) (Maps.size D0) w:=fun l J W hW hJ hY h0=>by
 have hown':W.ownsMap P (ρ.t 27) (plainElem P (ρ.t 3)) b nn D0:=by
  have hbl:=hown.lt
  obtain ⟨es,clock,hb,Ft,hs,hD⟩:=hown
  exact ⟨es,clock,(hW.block b hbl).trans hb,Ft,hs,hD⟩
 exact zk L F n h7 hro hn l Bm b nn D0 J hY W hJ ((hW.cell (p:=⟨Bm,0,none⟩) hBm).trans hm) hown' h0
def valsRen:Ren:=⟨fun|7=>95|n=>n,fun|0=>0|3=>9|4=>4|23=>103|33=>157|27=>3|n=>n,fun|n=>n⟩
theorem valsL:ValsL Tryz.prog valsRen where
 mixed:=by kernel_rfl
 f7:=⟨Tryz.f95.name,by decide,Tryz.func95.trans (congrArg some ae)⟩
 t0:=Tryz.underlying0
 a0:=Tryz.isAgg0
 z0:=Tryz.sizeOf0
 v0:=Tryz.zeroValue0
 t3:=Tryz.underlying9
 a3:=Tryz.isAgg9
 z3:=Tryz.sizeOf9
 v3:=Tryz.zeroValue9
 t4:=Tryz.underlying4
 a4:=Tryz.isAgg4
 z4:=Tryz.sizeOf4
 v4:=Tryz.zeroValue4
 t23:=Tryz.underlying103
 a23:=Tryz.isAgg103
 z23:=Tryz.sizeOf103
 v23:=Tryz.zeroValue103
 t33:=Tryz.underlying157
 a33:=Tryz.isAgg157
 z33:=Tryz.sizeOf157
 v33:=Tryz.zeroValue157
 t27:=Tryz.underlying3
def strV (l:List (Int×ByteArray)):List (Int×Value):=l.map fun p=>(p.1,.string p.2)
theorem oa {P:Program} {K V:Nat} (hk:P.underlying K=some (.int .i64)) (hv:P.underlying V=some .string) {w:World} {q:Nat} {l:List (Int×ByteArray)} (h:MapAt w q (strV l)) (hs:∀ p∈l,(Lit.int .i64 p.1).wf=true∧p.2.size≤maxLen) (hlen:l.length≤maxLen) :
  ∃ D0:DataW Unit,w.ownsMap P K (plainElem P V) q l.length D0∧(intKeys D0).Perm (l.map fun p=>p.1)∧Maps.size D0=l.length∧∀ p∈l,ValIL D0 (p.1,bl p.2):=by
 obtain ⟨es,clock,hb,hst,hl⟩:=h
 have hz:es.size=l.length:=by have:=qe (w:=w) (q:=q) hl;simpa [strV] using this
 have hl':es.toList.map (fun e=>(e.key,e.val))=l.map fun p=>(Value.int .i64 p.1,Value.string p.2):=by rw [hl,strV,Z0];rfl
 have hrd:∀ x∈es.toList,∃ p∈l,x.key=.int .i64 p.1∧x.val=.string p.2∧WideElems.rd P K (plainElem (H:=Unit) P V) x=some (.int .i64 p.1,.lit (.string (bl p.2))):=by
  intro x hx
  have h1:(x.key,x.val)∈l.map fun p=>(Value.int .i64 p.1,Value.string p.2):=by rw [←hl'];exact QJ.2 ⟨x,hx,rfl⟩
  obtain ⟨p,hp,he⟩:=QJ.1 h1
  have e1:x.key=.int .i64 p.1:=(congrArg Prod.fst he).symm
  have e2:x.val=.string p.2:=(congrArg Prod.snd he).symm
  have h3:Go.keyOf P K x.key=some (.int .i64 p.1):=by rw [e1];simp [Go.keyOf,hk,mapKey,(hs p hp).1]
  have h4:plainElem (H:=Unit) P V x.val=some (.lit (.string (bl p.2)),[]):=by rw [e2];simp [plainElem,hv,(hs p hp).2,bl]
  exact ⟨p,hp,e1,e2,by simp [WideElems.rd,h3,h4]⟩
 have hown:w.ownsMap P K (plainElem (H:=Unit) P V) q l.length (.map ((es.toList.map (WideElems.rg P K (plainElem P V))).foldr DataW.insert [])) :=
  ⟨es,clock,hb,⟨by omega,hst,fun x hx=>by obtain ⟨p,_,_,_,h2⟩:=hrd x hx;exact ⟨_,h2⟩⟩,by omega,rfl⟩
 have hperm:=WideShapes.sorted_perm (es.toList.map (WideElems.rg P K (plainElem (H:=Unit) P V)))
 refine ⟨_,hown,?_,?_,fun p hp zd=>?_⟩
 · have h1:=hperm.map fun p=>Go.intOf p.1
   refine h1.trans ?_
   have h2:(es.toList.map (WideElems.rg P K (plainElem (H:=Unit) P V))).map (fun p=>Go.intOf p.1)=es.toList.map fun x=>match x.key with|.int _ s=>s|_=>0:=by
    rw [Z0]
    refine QA fun x hx=>?_
    obtain ⟨p,_,h3,_,h4⟩:=hrd x hx
    simp [WideElems.rg,h4,h3,Go.intOf]
   have h5:(es.toList.map fun x=>match x.key with|.int _ s=>s|_=>0)=l.map fun p=>p.1:=by
    have h6:=congrArg (List.map fun (p:Value×Value)=>match p.1 with|.int _ s=>s|_=>0) hl'
    rw [Z0,Z0] at h6
    exact h6
   rw [h2,h5]
 · show ((es.toList.map (WideElems.rg P K (plainElem (H:=Unit) P V))).foldr DataW.insert []).length=l.length
   rw [length_sorted]
   simp [hz]
 · have h1:(Value.int .i64 p.1,Value.string p.2)∈es.toList.map (fun e=>(e.key,e.val)):=by rw [hl'];exact QJ.2 ⟨p,hp,rfl⟩
   obtain ⟨x,hx,he⟩:=QJ.1 h1
   obtain ⟨p',_,e1,e2,h4⟩:=hrd x hx
   have e3:p'.1=p.1:=by have:=congrArg Prod.fst he;rw [e1] at this;injection this
   have e4:p'.2=p.2:=by have:=congrArg Prod.snd he;rw [e2] at this;injection this
   rw [e3,e4] at h4
   have hm:(Lit.int .i64 p.1,(DataW.lit (.string (bl p.2)):DataW Unit))∈(es.toList.map (WideElems.rg P K (plainElem (H:=Unit) P V))).foldr DataW.insert [] :=
    hperm.symm.subset (QJ.2 ⟨x,hx,by simp [WideElems.rg,h4]⟩)
   obtain ⟨es',hD',hpw,_⟩:=hown.entries (int_keyed hk)
   injection hD' with hD'
   rw [←hD'] at hpw
   exact WideAt.atKey_mem zd trivial hpw hm
def litS {H:Type}:DataW H→List UInt8
 | .lit (.string s)=>s
 | _=>[]
theorem wy {H:Type} {D0:DataW H} {ps:List (Int×List UInt8)} {l:List (Int×ByteArray)} (h:AllI D0 ps) (h2:(intKeys D0).Perm (l.map fun p=>p.1)) (h3:∀ p∈l,ValIL D0 (p.1,bl p.2)):(ps.map (·.2)).Perm (l.map fun p=>bl p.2):=by
 have e1:ps.map (·.2)=(ps.map (·.1)).map fun k=>litS (D0.atKey (.int .i64 k) .nil):=by
  rw [Z0]
  exact QA fun p hp=>by simp only [Function.comp_apply,h.2 p hp .nil,litS]
 have e2:(l.map fun p=>bl p.2)=(l.map fun p=>p.1).map fun k=>litS (D0.atKey (.int .i64 k) .nil):=by
  rw [Z0]
  exact QA fun p hp=>by simp only [Function.comp_apply,h3 p hp .nil,litS]
 rw [e1,e2]
 exact (h.1.trans h2).map _
theorem sortedVS {w:World} {Bm q nn:Nat} {D0:DataW Unit} (hB:Bm<w.heap.size) (hc:w.cell? ⟨Bm,0,none⟩=some (.map (some q))) (hown:w.ownsMap Tryz.prog 3 (plainElem Tryz.prog 9) q nn D0) (h1:Maps.size D0≤maxLen) (h2:Maps.size D0*16≤140737488355328) :
  Calls Tryz.prog 51 #[.func (.func 95) #[] #[.pointer (some ⟨Bm,0,none⟩)]] w fun e w'=>∃ (v:Value) (ss:List (List UInt8)),e=.returned v∧(∃ ps,AllI D0 ps∧ss=ps.map (·.2)) ∧
   w'.ownsRow w.heap.size 9 1 v ss.length ((ss.mergeSort (fun x y=>decide (x≤y))).map encStr)∧(v=.slice none 0 0↔ss=[])∧Below w.heap.size w w' :=
 (callsIn_wide (n:=5)).1 (AnyZ.sorted_in Tryz.sortedS Fence.wide 5 trivial trivial trivial trivial rfl aa (sortsS _) (enters_of Tryz.func48 ae rfl) _ _ trivial (enters_of Tryz.func95 ae rfl) _ _ h1 h2 _
  (qL (ρ:=valsRen) valsL Fence.wide _ trivial rfl aa Bm q nn D0 w hB hc hown))
theorem qW {M:Nat} (b q:Nat) (l:List (Int×ByteArray)) (hs:∀ p∈l,(Lit.int .i64 p.1).wf=true∧p.2.size≤maxLen) (hl:l.length≤1000000) :
  Ct Tryz.prog 51 #[.func (.func 95) #[] #[.pointer (some ⟨b,0,none⟩)]] [cel b M [.map (some q)],mapr q (strV l)] (fun _=>True)
   fun u R _=>∃ A c,u=.slice A l.length c∧R=[orow 9 1 u l.length ((sortB (l.map (·.2))).map encB),cel b M [.map (some q)],mapr q (strV l)]:=Ct.mk fun w av G=>by
 have hb:w.heap[b]?=some (.cells #[.map (some q)] M (0,0)):=(G.here (cel b M [.map (some q)]) aw).now
 have hm:MapAt w q (strV l):=(G.here (mapr q (strV l)) (Zv _ aw)).now
 obtain ⟨D0,hown,hperm,hsz,hval⟩:=oa Tryz.underlying3 Tryz.underlying9 hm hs (by simp only [maxLen];omega)
 have hbl:b<w.heap.size:=(QM.1 hb).1
 have hc:w.cell? ⟨b,0,none⟩=some (.map (some q)):=by simp [World.cell?,hb]
 refine (sortedVS hbl hc hown (by rw [hsz];simp only [maxLen];omega) (by rw [hsz];omega)).mono fun e w' ⟨v,ss,he,hS,hrow,hnil,hB⟩=>?_
 obtain ⟨ps,hps,rfl⟩:=hS
 have hp:=wy hps hperm hval
 have hlen:(ps.map (·.2)).length=l.length:=by rw [hp.length_eq];simp
 have hsort:((ps.map (·.2)).mergeSort fun x y=>decide (x≤y)).map encStr=(sortB (l.map (·.2))).map encB:=by
  have:=mergeSort_of_perm hp
  rw [show ((ps.map (·.2)).mergeSort fun x y=>decide (x≤y))=(ps.map (·.2)).mergeSort leB from rfl,this,gJ,sortB]
  simp only [Z0]
  rfl
 rw [hsort,hlen] at hrow
 obtain ⟨f1,f2,A,c,rfl⟩:=p8 hrow
 exact ⟨_,_,fun _=>True,he,⟨A,c,rfl,rfl⟩,(G.more hB (dW (gG hrow)) f1 f2).imp fun _ _=>trivial⟩
end Go.Proofs.YtaolfiikahlmkaaGreatDoor
namespace Go.Proofs.YtaolfiikahlmkaaGreatDoor
open Go Go.Proofs Sy Go.Sort
instance tymV:TyMap Tryz.prog 103 9 (keyD Int):=⟨ae⟩
def labB (t:ByteArray) (a:ActD):Bool:=seqB a.object t||seqB a.target t
def labF (l:List ActD) (t:ByteArray):Nat→List Nat
 | 0=>[]
 | i+1=>bif decide ((l.getD i ActD.zero).kind=17) then (bif labB t (l.getD i ActD.zero) then labF l t i++[i] else labF l t i) else bif decide ((l.getD i ActD.zero).kind=6) then (match idxV l (l.getD i ActD.zero).object with|some j=>(labF l t i).erase j|none=>labF l t i) else labF l t i
theorem fx (l:List ActD) (t:ByteArray):∀ i,∀ j∈labF l t i,j<i
 | 0,j,h=>by cases h
 | i+1,j,h=>by
  have ih:=fx l t i
  simp only [labF] at h
  cases h1:decide ((l.getD i ActD.zero).kind=17) with
  | true =>
   rw [h1,Zf] at h
   cases h3:labB t (l.getD i ActD.zero) with
   | true =>
    rw [h3,Zf] at h
    rcases Qy.1 h with h|h
    · have:=ih j h;omega
    · rw [Z5.1 h];omega
   | false =>
    rw [h3,Ze] at h
    have:=ih j h;omega
  | false =>
   rw [h1] at h
   simp only [Ze] at h
   cases h2:decide ((l.getD i ActD.zero).kind=6) with
   | true =>
    rw [h2] at h
    simp only [Zf] at h
    split at h
    · have:=ih j (List.mem_of_mem_erase h);omega
    · have:=ih j h;omega
   | false=>rw [h2] at h;have:=ih j h;omega
theorem nd (l:List ActD) (t:ByteArray):∀ i,(labF l t i).length≤i
 | 0=>ZX _
 | i+1=>by
  have ih:=nd l t i
  simp only [labF]
  cases decide ((l.getD i ActD.zero).kind=17) with
  | true =>
   cases labB t (l.getD i ActD.zero) with
   | true=>simp only [Zf,ZA,List.length_singleton];omega
   | false=>simp only [Zf,Ze];omega
  | false =>
   simp only [Ze]
   cases decide ((l.getD i ActD.zero).kind=6) with
   | true =>
    simp only [Zf]
    split
    · have:=List.length_erase_le (a:=‹Nat›) (l:=labF l t i);omega
    · omega
   | false=>simp only [Ze];omega
def textA (l:List ActD) (j:Nat):ByteArray:=(l.getD j ActD.zero).text
def labV (l:List ActD) (t:ByteArray):List ByteArray:=compB (sortB ((labF l t l.length).map (textA l)))
def validV (l:List ChainD) (k t:ByteArray):List ByteArray:=bif seqB t ⟨#[]⟩ then [] else match findC l k with
 | some c=>labV c.actsL t
 | none=>[]
theorem BI (g:Nat→ByteArray) (F:List Nat):idxP' (fun j=>.string (g j)) F=strV (F.map fun (j:Nat)=>((j:Int),g j)):=by simp [idxP',strV,Z0,Function.comp_def]
theorem tA (mb:Option Nat):Ct Tryz.prog 52 #[.map mb] [] (fun _=>True) fun u R _=>∃ b,u=.func (.func 95) #[] #[.pointer (some ⟨b,0,none⟩)]∧R=[cel b 103 [.map mb]]:=by
 refine eY (args:=[_]) (Post:=fun u R=>∃ b,u=.func (.func 95) #[] #[.pointer (some ⟨b,0,none⟩)]∧R=[cel b 103 [.map mb]]) _ Tryz.func52 rfl Tryz.ntmps52 rfl fun av bor w0=>?_
 repeat' (first|refine gs ?_|refine gs1 fun _=>?_|(refine dR ?_)|fail)
 exact ad (ag rfl rfl) ⟨_,al _,_,rfl,rfl⟩
theorem zl (s:SlV) (l:List ChainD) (k t:ByteArray) (hok:∀ c∈l,ActsOk c.actsL) (hlen:∀ c∈l,c.actsL.length≤1000000) (htx:∀ c∈l,∀ a∈c.actsL,a.text.size≤1000000) :
    Ct Tryz.prog 14 #[s.v,.string k,.string t] [] (fun w=>Chains w s l∧Glob w) (fun u R _=>OwnStrs (validV l k t) u R):=by
  refine eY (args:=[_,_,_]) (Post:=OwnStrs (validV l k t)) _ Tryz.func14 rfl Tryz.ntmps14 rfl fun av bor w0=>?_
  have hfi:=vZ s l k
  refine cS 9 1 ?_
  cases ht:seqB t ⟨#[]⟩ with
  | true =>
    have e:validV l k t=[]:=by rw [validV,ht];rfl
    rw [e]
    repeat' (first|refine gs ?_|refine gs1 fun _=>?_|fail)
    exact ad (ag rfl rfl) ⟨_,al _,none,0,rfl,rfl⟩
  | false =>
  cases hf:findC l k with
  | none =>
    rw [hf] at hfi
    have hfi:Pu Tryz.prog 12 #[s.v,.string k] (fun w=>Chains w s l) (.tuple #[ChainD.zero.v,.bool false]):=hfi
    have e:validV l k t=[]:=by rw [validV,ht,hf];rfl
    rw [e]
    repeat' (first|(refine ab (hc:=hfi) (hX:=fun w h=>h.1) ?_)|refine gs ?_|refine gs1 fun _=>?_|(refine gp ?_ ?_<;>intro hx_ this)|fail)
    exact ad (ag rfl rfl) ⟨_,Z2 _ (al _),none,0,rfl,rfl⟩
  | some c =>
    rw [hf] at hfi
    have hfi:Pu Tryz.prog 12 #[s.v,.string k] (fun w=>Chains w s l) (.tuple #[c.v,.bool true]):=hfi
    have hcm:=o0 hf
    have hc:=hok c hcm
    have hcl:=hlen c hcm
    have hct:=htx c hcm
    have e:validV l k t=compB (sortB ((labF c.actsL t c.actsL.length).map (textA c.actsL))):=by rw [validV,ht,hf];rfl
    rw [e]
    have hF:=fx c.actsL t
    have hFl:=nd c.actsL t
    have hS:∀ i,labF c.actsL t (i+1)=_:=fun i=>labF.eq_2 c.actsL t i
    have hE:∀ j x,c.actsL[j]?=some x→textA c.actsL j=x.text:=fun j x hx=>by simp only [textA,Zo,hx,Qe]
    have hT:∀ j,(textA c.actsL j).size≤1000000:=fun j=>by
      cases hj:c.actsL[j]? with
      | none=>simp only [textA,Zo,hj,Option.getD_none];decide
      | some x=>rw [hE j x hj];exact hct x (Z6 hj)
    generalize hFg:labF c.actsL t=F at *
    generalize hTg:textA c.actsL=T at *
    refine aP (p:=c.acts.n=c.actsL.length∧c.acts.n≤maxLen∧(0<c.actsL.length→c.acts.p.isSome=true)∧c.acts.n≤c.acts.c) (fun w h=>XC.know (c:=c) w ⟨h.1.2 c hcm,h.2⟩) fun ⟨hl,hm,hp,hcap⟩=>?_
    simp only [maxLen] at hm
    repeat' (first|(refine ab (hc:=hfi) (hX:=fun w h=>h.1) ?_)|refine gs ?_|refine gs1 fun _=>?_|(refine fI Int (h:=fun q=>?_))|(refine gp ?_ ?_<;>intro hx_ this)|fail)
    rename_i b7
    refine aq (ι:=Kth c.actsL.length) (fun i=>⟨[(2,.string t),(7,.pointer (some ⟨b7,0,none⟩)),(9,.map (some q)),(26,c.acts.v),(27,.int .i64 c.acts.n),(28,.int .i64 i.k)],
      [mapr q (idxP' (fun j=>.string (T j)) (F i.k)),cel b7 35 c.cells],fun w=>Chains w s l∧Glob w⟩) (fun i=>c.actsL.length-i.k) ⟨0,Z4 _⟩ (aj qZq9 (by rw [←hFg];exact Z3 _ (Z3 _ (Zu _))) fun _ h=>h) fun i=>?_
    have hik:=i.hk
    repeat' (first|refine gs ?_|refine gs1 fun _=>?_|(refine gp ?_ ?_<;>intro hx_ this)|fail)
    · have hlt:i.k<c.actsL.length:=by omega
      have hp':=hp aa
      obtain ⟨x,hx⟩:∃ x,c.actsL[i.k]?=some x:=⟨_,Zb hlt⟩
      have hidx:=BH c hc x.object
      have hEx:=hE i.k x hx
      have hSx:=hS i.k
      rw [show c.actsL.getD i.k ActD.zero=x from by rw [Zo,hx];rfl] at hSx
      simp only [labB] at hSx
      have hnew:i.k∉F i.k:=fun h=>absurd (hF i.k i.k h) (Nat.lt_irrefl _)
      have hFlen:=hFl i.k
      have hml:(idxP' (fun j=>Value.string (T j)) (F i.k)).length=(F i.k).length:=by simp [idxP']
      have hm1:mput (idxP' (fun j=>Value.string (T j)) (F i.k)) (i.k:Int) (Value.string x.text)=idxP' (fun j=>Value.string (T j)) (F i.k++[i.k]):=by
        have h:=rQ (fun j=>Value.string (T j)) i.k (F i.k) hnew
        simp only [hEx] at h
        exact h
      cases ho:idxV c.actsL x.object with
      | none =>
        rw [ho] at hidx hSx
        have hidx:Pu Tryz.prog 50 #[c.v,.string x.object] (fun w=>c.at_ w∧Glob w) (.tuple #[.int .i64 0,.bool false]):=hidx
        repeat' (first|(refine ab (hc:=hidx) (hX:=fun w h=>⟨h.1.2 c hcm,h.2⟩) ?_)|refine gs ?_|refine gs1 fun _=>?_|(refine aI (q:=i.k*20) ?_)|(refine ca (cs:=x.cells) (hF:=fun w h=>Acts.get (h.1.2 c hcm) hx) ?_)|(refine eV (κ:=Int) (kk:=(i.k:Int)) (hA:=by (repeat (first|exact At.here _|apply At.there))) ?_)|(refine pB (κ:=Int) (hl:=by exact aW) ?_)|(refine oy (κ:=Int) (kk:=(j:Nat)) (hA:=by (repeat (first|exact At.here _|apply At.there))) ?_)|(refine gp ?_ ?_<;>intro hx_ this)|fail)
        all_goals first
          | (have hSx':F (i.k+1)=F i.k++[i.k]:=by rw [hSx,Zd (by assumption),Zf,show (seqB x.object t||seqB x.target t)=true from by rw [‹seqB x.object t=true›];rfl,Zf]
             refine ⟨(⟨i.k+1,hlt⟩:Kth c.actsL.length),(by show c.actsL.length-(i.k+1)<c.actsL.length-i.k;omega),aj am ?_ fun _ h=>h⟩
             show List.Sublist [mapr q (idxP' (fun j=>Value.string (T j)) (F (i.k+1))),_] _
             rw [hSx',←hm1]
             exact Z2 _ (al _))
          | (have hSx':F (i.k+1)=F i.k++[i.k]:=by rw [hSx,Zd (by assumption),Zf,show (seqB x.object t||seqB x.target t)=true from by rw [‹seqB x.object t=false›,‹seqB x.target t=true›];rfl,Zf]
             refine ⟨(⟨i.k+1,hlt⟩:Kth c.actsL.length),(by show c.actsL.length-(i.k+1)<c.actsL.length-i.k;omega),aj am ?_ fun _ h=>h⟩
             show List.Sublist [mapr q (idxP' (fun j=>Value.string (T j)) (F (i.k+1))),_] _
             rw [hSx',←hm1]
             exact Z2 _ (al _))
          | (have hSx':F (i.k+1)=F i.k:=by rw [hSx,Zd (by assumption),Zf,show (seqB x.object t||seqB x.target t)=false from by rw [‹seqB x.object t=false›,‹seqB x.target t=false›];rfl,Ze]
             refine ⟨(⟨i.k+1,hlt⟩:Kth c.actsL.length),(by show c.actsL.length-(i.k+1)<c.actsL.length-i.k;omega),aj am ?_ fun _ h=>h⟩
             show List.Sublist [mapr q (idxP' (fun j=>Value.string (T j)) (F (i.k+1))),_] _
             rw [hSx']
             exact Z2 _ (al _))
          | (have hSx':F (i.k+1)=F i.k:=by
               have h0:F i.k=[]:=Z8 aa
               rw [hSx,Zc (by assumption),Ze,Zd (by assumption),Zf,h0]
               try rfl
             refine ⟨(⟨i.k+1,hlt⟩:Kth c.actsL.length),(by show c.actsL.length-(i.k+1)<c.actsL.length-i.k;omega),aj am ?_ fun _ h=>h⟩
             show List.Sublist [mapr q (idxP' (fun j=>Value.string (T j)) (F (i.k+1))),_] _
             rw [hSx']
             exact Z2 _ (al _))
          | (have hSx':F (i.k+1)=F i.k:=by rw [hSx,Zc (by assumption),Ze,Zc (by assumption),Ze]
             refine ⟨(⟨i.k+1,hlt⟩:Kth c.actsL.length),(by show c.actsL.length-(i.k+1)<c.actsL.length-i.k;omega),aj am ?_ fun _ h=>h⟩
             show List.Sublist [mapr q (idxP' (fun j=>Value.string (T j)) (F (i.k+1))),_] _
             rw [hSx']
             exact Z2 _ (al _))
          | (have hSx':F (i.k+1)=F i.k:=by rw [hSx,Zc (by assumption),Ze,Zd (by assumption),Zf]
             refine ⟨(⟨i.k+1,hlt⟩:Kth c.actsL.length),(by show c.actsL.length-(i.k+1)<c.actsL.length-i.k;omega),aj am ?_ fun _ h=>h⟩
             show List.Sublist [mapr q (idxP' (fun j=>Value.string (T j)) (F (i.k+1))),_] _
             rw [hSx']
             exact Z2 _ (al _))
      | some j =>
        rw [ho] at hidx hSx
        have hidx:Pu Tryz.prog 50 #[c.v,.string x.object] (fun w=>c.at_ w∧Glob w) (.tuple #[.int .i64 (j:Nat),.bool true]):=hidx
        repeat' (first|(refine ab (hc:=hidx) (hX:=fun w h=>⟨h.1.2 c hcm,h.2⟩) ?_)|refine gs ?_|refine gs1 fun _=>?_|(refine aI (q:=i.k*20) ?_)|(refine ca (cs:=x.cells) (hF:=fun w h=>Acts.get (h.1.2 c hcm) hx) ?_)|(refine eV (κ:=Int) (kk:=(i.k:Int)) (hA:=by (repeat (first|exact At.here _|apply At.there))) ?_)|(refine pB (κ:=Int) (hl:=by exact aW) ?_)|(refine oy (κ:=Int) (kk:=(j:Nat)) (hA:=by (repeat (first|exact At.here _|apply At.there))) ?_)|(refine gp ?_ ?_<;>intro hx_ this)|fail)
        all_goals first
          | (have hSx':F (i.k+1)=F i.k++[i.k]:=by rw [hSx,Zd (by assumption),Zf,show (seqB x.object t||seqB x.target t)=true from by rw [‹seqB x.object t=true›];rfl,Zf]
             refine ⟨(⟨i.k+1,hlt⟩:Kth c.actsL.length),(by show c.actsL.length-(i.k+1)<c.actsL.length-i.k;omega),aj am ?_ fun _ h=>h⟩
             show List.Sublist [mapr q (idxP' (fun j=>Value.string (T j)) (F (i.k+1))),_] _
             rw [hSx',←hm1]
             exact Z2 _ (al _))
          | (have hSx':F (i.k+1)=F i.k++[i.k]:=by rw [hSx,Zd (by assumption),Zf,show (seqB x.object t||seqB x.target t)=true from by rw [‹seqB x.object t=false›,‹seqB x.target t=true›];rfl,Zf]
             refine ⟨(⟨i.k+1,hlt⟩:Kth c.actsL.length),(by show c.actsL.length-(i.k+1)<c.actsL.length-i.k;omega),aj am ?_ fun _ h=>h⟩
             show List.Sublist [mapr q (idxP' (fun j=>Value.string (T j)) (F (i.k+1))),_] _
             rw [hSx',←hm1]
             exact Z2 _ (al _))
          | (have hSx':F (i.k+1)=F i.k:=by rw [hSx,Zd (by assumption),Zf,show (seqB x.object t||seqB x.target t)=false from by rw [‹seqB x.object t=false›,‹seqB x.target t=false›];rfl,Ze]
             refine ⟨(⟨i.k+1,hlt⟩:Kth c.actsL.length),(by show c.actsL.length-(i.k+1)<c.actsL.length-i.k;omega),aj am ?_ fun _ h=>h⟩
             show List.Sublist [mapr q (idxP' (fun j=>Value.string (T j)) (F (i.k+1))),_] _
             rw [hSx']
             exact Z2 _ (al _))
          | (have hSx':F (i.k+1)=F i.k:=by
               have h0:F i.k=[]:=Z8 aa
               rw [hSx,Zc (by assumption),Ze,Zd (by assumption),Zf,h0]
               try rfl
             refine ⟨(⟨i.k+1,hlt⟩:Kth c.actsL.length),(by show c.actsL.length-(i.k+1)<c.actsL.length-i.k;omega),aj am ?_ fun _ h=>h⟩
             show List.Sublist [mapr q (idxP' (fun j=>Value.string (T j)) (F (i.k+1))),_] _
             rw [hSx']
             exact Z2 _ (al _))
          | (have hSx':F (i.k+1)=F i.k:=by rw [hSx,Zc (by assumption),Ze,Zc (by assumption),Ze]
             refine ⟨(⟨i.k+1,hlt⟩:Kth c.actsL.length),(by show c.actsL.length-(i.k+1)<c.actsL.length-i.k;omega),aj am ?_ fun _ h=>h⟩
             show List.Sublist [mapr q (idxP' (fun j=>Value.string (T j)) (F (i.k+1))),_] _
             rw [hSx']
             exact Z2 _ (al _))
          | (have hSx':F (i.k+1)=(F i.k).erase j:=by rw [hSx,Zc (by assumption),Ze,Zd (by assumption),Zf]
             refine ⟨(⟨i.k+1,hlt⟩:Kth c.actsL.length),(by show c.actsL.length-(i.k+1)<c.actsL.length-i.k;omega),aj am ?_ fun _ h=>h⟩
             show List.Sublist [mapr q (idxP' (fun j=>Value.string (T j)) (F (i.k+1))),_] _
             rw [hSx',←rZ]
             exact Z2 _ (al _))
    have hik':i.k=c.actsL.length:=by omega
    rw [hik']
    have hGlt:=hF c.actsL.length
    have hGl:=hFl c.actsL.length
    generalize F c.actsL.length=G at *
    rw [BI]
    have hmv:((G.map fun (j:Nat)=>((j:Int),T j)).map fun p=>p.2)=G.map T:=by simp [Z0,Function.comp_def]
    have hml:(G.map fun (j:Nat)=>((j:Int),T j)).length=G.length:=by simp
    refine AB (hc:=tA (some q)) (hX:=fun _ _=>trivial) ?_
    rintro v1 R1 X1 ⟨bk,rfl,rfl⟩
    refine cj (pre:=[cel bk 103 [.map (some q)],mapr q (strV (G.map fun (j:Nat)=>((j:Int),T j)))]) (fr:=[cel b7 35 c.cells]) (hc:=qW bk q (G.map fun (j:Nat)=>((j:Int),T j)) (fun p hp=>?_) aa) (hX:=fun _ _=>trivial) (h:=?_)
    · obtain ⟨j,hj,rfl⟩:=QJ.1 hp
      have h1:=hGlt j hj
      have h2:=hT j
      exact ⟨Fx aa,by simp only [maxLen];show (T j).size≤_;omega⟩
    rintro v2 R2 X2 ⟨A,c2,rfl,rfl⟩
    rw [hmv,hml]
    refine pI (hc:=sT) (hX:=fun _ _=>trivial) ?_
    rintro _ _ X3 ⟨A3,c3,rfl,rfl⟩
    repeat' (first|refine gs ?_|refine gs1 fun _=>?_|fail)
    exact ad (ag rfl rfl) ⟨_,Z3 _ (Zu _),A3,c3,rfl,rfl⟩
end Go.Proofs.YtaolfiikahlmkaaGreatDoor
namespace Go.Proofs.YtaolfiikahlmkaaGreatDoor
open Go Go.Proofs Sy Go.Sort Go.Shelf Go.Maps
instance tymW:TyMap Tryz.prog 124 3 (keyD ByteArray):=⟨ae⟩
theorem keysSI_c:KeysC Tryz.prog 85 143 124 where
 keys:=fun mb W=>(callsIn_wide (n:=5)).1 (AnyZ.keys_in Tryz.keys_map_string_int_string_int Fence.wide 5 trivial rfl mb W)
theorem sortedSI_c:SortedSC Tryz.prog 51 143 9 where
 key:=Tryz.underlying9
 sorted:=fun w Bm q nn D0 hB hc hown h1 h2=>(callsIn_wide (n:=5)).1 (AnyZ.sorted_in Tryz.sortedS Fence.wide 5 trivial trivial trivial trivial rfl aa (sortsS _) (enters_of Tryz.func48 ae rfl) _ _ trivial (enters_of Tryz.func143 ae rfl) _ _ h1 h2 _
  (AnyZ.keys_gives (ρ:=Tryz.keys_map_string_int_string_int_ren) { Tryz.keys_map_string_int_string_int with } Fence.wide _ trivial rfl aa Bm q nn D0 w hB hc hown))
structure CntD where
 name:ByteArray
 n:Nat
def CntD.cells (a:CntD):List Value:=[.string a.name,.int .i64 a.n]
def CntD.v (a:CntD):Value:=.agg a.cells.toArray
def Cnts (w:World) (s:SlV) (l:List CntD):Prop:=RowsD w 2 s (l.map CntD.cells)
def cm (M:List (ByteArray×Nat)):List (ByteArray×Value):=M.map fun p=>(p.1,.int .i64 p.2)
theorem vQ (b:List (ByteArray×Nat)) (k:ByteArray):mget (cm b) k=(mget b k).map fun n:Nat=>Value.int .i64 n:=rW (fun n:Nat=>Value.int .i64 n) b k
theorem D4 (b:List (ByteArray×Nat)) (k:ByteArray) (n:Nat):mput (cm b) k (.int .i64 n)=cm (mput b k n):=rR (fun n:Nat=>Value.int .i64 n) b k n
def cntStep (M:List (ByteArray×Nat)) (k:ByteArray):List (ByteArray×Nat):=mput M k ((mget M k).getD 0+1)
def cntFL (l:List ChainD) (t:ByteArray) (ks:List ByteArray):Nat→List ByteArray×List (ByteArray×Nat)
 | 0=>([],[])
 | i+1=>bif hasK (cntFL l t ks i).1 (ks.getD i .empty) then cntFL l t ks i else (sput (cntFL l t ks i).1 (ks.getD i .empty),(validV l (ks.getD i .empty) t).foldl cntStep (cntFL l t ks i).2)
def cntV (l:List ChainD) (ks:List ByteArray) (t:ByteArray):List CntD:=(sortB ((cntFL l t ks ks.length).2.map (·.1))).map fun a=>⟨a,(mget (cntFL l t ks ks.length).2 a).getD 0⟩
structure CBnd (m:Nat) (b:List (ByteArray×Nat)):Prop where
 len:b.length≤m
 size:∀ p∈b,p.1.size≤maxLen
 val:∀ k,(mget b k).getD 0≤m
theorem CBnd.mono {m m':Nat} {b:List (ByteArray×Nat)} (h:CBnd m b) (hm:m≤m'):CBnd m' b:=⟨ZY h.len hm,h.size,fun k=>ZY (h.val k) hm⟩
theorem rS {β:Type} (k:ByteArray) (v:β):∀ b:List (ByteArray×β),(mput b k v).length≤b.length+1
 | []=>by simp [mput]
 | p::r=>by
  have ih:=rS k v r
  obtain ⟨k',v'⟩:=p
  simp only [mput]
  cases KeyT.eqb k k' with
  | true=>simp
  | false=>simp only [Ze,ZB];omega
theorem mX {β:Type} {k:ByteArray} {v:β} (hk:k.size≤maxLen):∀ {b:List (ByteArray×β)},(∀ p∈b,p.1.size≤maxLen)→∀ p∈mput b k v,p.1.size≤maxLen
 | [],_,p,hp=>by
  simp only [mput,Z5] at hp
  subst hp
  exact hk
 | (k',v')::r,h,p,hp=>by
  simp only [mput] at hp
  cases hkk:KeyT.eqb k k' with
  | true =>
   rw [hkk] at hp
   rcases ZI.1 hp with rfl|hp
   · exact hk
   · exact h p (Zv _ hp)
  | false =>
   rw [hkk] at hp
   rcases ZI.1 hp with rfl|hp
   · exact h _ aw
   · exact mX hk (fun q hq=>h q (Zv _ hq)) p hp
theorem m0 {β:Type}:∀ (b:List (ByteArray×β)) (k a:ByteArray) (v:β),mget (mput b k v) a=if a=k then some v else mget b a
 | [],k,a,v=>by
  simp only [mput,mget]
  by_cases h:a=k
  · rw [(KeyT.eqb_iff a k).2 h,ZO h];rfl
  · rw [ZP h]
    cases hb:KeyT.eqb a k with
    | true=>exact absurd ((KeyT.eqb_iff a k).1 hb) h
    | false=>rfl
 | (k',v')::r,k,a,v=>by
  have ih:=m0 r k a v
  simp only [mput]
  cases hkk:KeyT.eqb k k' with
  | true =>
   have e:=(KeyT.eqb_iff k k').1 hkk
   subst e
   simp only [Zf,mget]
   by_cases h:a=k
   · rw [(KeyT.eqb_iff a k).2 h,ZO h];rfl
   · rw [ZP h]
     cases hb:KeyT.eqb a k with
     | true=>exact absurd ((KeyT.eqb_iff a k).1 hb) h
     | false=>rfl
  | false =>
   simp only [Ze,mget]
   cases hb:KeyT.eqb a k' with
   | true =>
    have e:=(KeyT.eqb_iff a k').1 hb
    subst e
    have h:¬ a=k:=fun h=>by rw [h,(KeyT.eqb_iff k k).2 rfl] at hkk;cases hkk
    rw [ZP h];rfl
   | false=>simp only [Ze];exact ih
theorem sU {m:Nat} {b:List (ByteArray×Nat)} {k:ByteArray} (h:CBnd m b) (hk:k.size≤maxLen):CBnd (m+1) (cntStep b k) :=
 ⟨ZY (rS k _ b) (Nat.succ_le_succ h.len),mX hk h.size,fun a=>by
  unfold cntStep
  rw [m0]
  by_cases e:a=k
  · rw [ZO e]
    have:=h.val k
    simp only [Qe]
    omega
  · rw [ZP e]
    have:=h.val a
    omega⟩
theorem im:∀ (E:List ByteArray) {m:Nat} {b:List (ByteArray×Nat)},CBnd m b→(∀ e∈E,e.size≤maxLen)→CBnd (m+E.length) (E.foldl cntStep b)
 | [],m,b,h,_=>h
 | e::E,m,b,h,he=>by
  have:=im E (sU h (he e aw)) fun x hx=>he x (Zv _ hx)
  simp only [QG,ZB]
  exact this.mono aa
theorem uG (l:List ByteArray):(compB l).length≤l.length:=by
 have:=Lib.compact_length_le (l.map bl)
 simpa [compB] using this
theorem j1 {l:List ChainD} (hlen:∀ c∈l,c.actsL.length≤1000) (htx:∀ c∈l,∀ a∈c.actsL,a.text.size≤1000000) (k t:ByteArray):(validV l k t).length≤1000∧∀ x∈validV l k t,x.size≤maxLen:=by
 unfold validV
 cases seqB t ⟨#[]⟩ with
 | true=>simp
 | false =>
  cases hf:findC l k with
  | none=>simp
  | some c =>
   have hcm:=o0 hf
   simp only [Ze,labV]
   refine ⟨?_,fun x hx=>?_⟩
   · have h1:=uG (sortB ((labF c.actsL t c.actsL.length).map (textA c.actsL)))
     rw [j5,ZF] at h1
     have h2:=nd c.actsL t c.actsL.length
     have h3:=hlen c hcm
     omega
   · obtain ⟨j,hj,rfl⟩:=QJ.1 (mem_compB_sortB.1 hx)
     have hj2:=fx _ _ _ _ hj
     show (c.actsL.getD j ActD.zero).text.size≤maxLen
     rw [Zo,Zb hj2]
     have:=htx c hcm _ (ZQ hj2)
     simp only [maxLen,Qe]
     omega
theorem sV {l:List ChainD} (hlen:∀ c∈l,c.actsL.length≤1000) (htx:∀ c∈l,∀ a∈c.actsL,a.text.size≤1000000) (t:ByteArray) (ks:List ByteArray):∀ i,CBnd (i*1000) (cntFL l t ks i).2
 | 0=>⟨by simp [cntFL],by simp [cntFL],fun k=>by simp [cntFL,mget]⟩
 | i+1=>by
  have ih:=sV hlen htx t ks i
  simp only [cntFL]
  cases hasK (cntFL l t ks i).1 (ks.getD i .empty) with
  | true=>exact ih.mono aa
  | false =>
   have he:=j1 hlen htx (ks.getD i .empty) t
   exact (im (validV l (ks.getD i .empty) t) ih he.2).mono (by have:=he.1;omega)
theorem dQ (s:SlV) (l:List ChainD) (k t:ByteArray) (hok:∀ c∈l,ActsOk c.actsL) (hlen:∀ c∈l,c.actsL.length≤1000000) (htx:∀ c∈l,∀ a∈c.actsL,a.text.size≤1000000) :
  Mk Tryz.prog 14 #[s.v,.string k,.string t] (fun w=>Chains w s l∧Glob w) (StrsAt (validV l k t)):=xZ (zl s l k t hok hlen htx)
theorem sS (s:SlV) (l:List ChainD) (sk:SlV) (ks:List ByteArray) (t:ByteArray) (hok:∀ c∈l,ActsOk c.actsL) (hlen:∀ c∈l,c.actsL.length≤1000) (htx:∀ c∈l,∀ a∈c.actsL,a.text.size≤1000000) (hkl:ks.length≤1000) :
  Mk Tryz.prog 43 #[s.v,sk.v,.string t] (fun w=>Chains w s l∧Strs w sk ks∧Glob w) fun u X=>∃ S:SlV,u=S.v∧∀ w,X w→Cnts w S (cntV l ks t):=by
 refine bM (args:=[_,_,_]) _ Tryz.func43 rfl Tryz.ntmps43 rfl fun av bor w0=>?_
 refine aP (p:=sk.n=ks.length∧sk.n≤maxLen∧(0<ks.length→sk.p.isSome=true)) (fun w h=>⟨h.2.1.len_,ZY (RowsD.cap h.2.1) (RowsD.max h.2.1),h.2.1.some_⟩) fun ⟨hl,hm,hp⟩=>?_
 simp only [maxLen] at hm
 have hS:∀ i,cntFL l t ks (i+1)=_:=fun i=>cntFL.eq_2 l t ks i
 have hB:=sV hlen htx t ks
 have hofV:cntV l ks t=(sortB ((cntFL l t ks ks.length).2.map (·.1))).map fun a=>⟨a,(mget (cntFL l t ks ks.length).2 a).getD 0⟩:=rfl
 generalize hFg:cntFL l t ks=F at *
 repeat' (first|refine gs ?_|refine gs1 fun _=>?_|(refine fI ByteArray (h:=fun _=>?_))|(refine gp ?_ ?_<;>intro hx_ this)|fail)
 rename_i q1 q2
 refine aq (ι:=Kth ks.length) (fun i=>⟨[(0,s.v),(2,.string t),(7,.map (some q1)),(8,.map (some q2)),(18,sk.v),(19,.int .i64 sk.n),(20,.int .i64 i.k)],
  [mapr q2 (cm (F i.k).2),mapr q1 (setM (F i.k).1)],fun w=>Chains w s l∧Strs w sk ks∧Glob w⟩) (fun i=>ks.length-i.k) ⟨0,Z4 _⟩ (aj qZq9 (by rw [←hFg];exact al _) fun _ h=>h) fun i=>?_
 have hik:=i.hk
 repeat' (first|refine gs ?_|refine gs1 fun _=>?_|(refine gp ?_ ?_<;>intro hx_ this)|fail)
 · have hlt:i.k<ks.length:=by omega
   have hp':=hp aa
   have hSx:=hS i.k
   have hBi:=hB i.k
   have hc1:∀ w,Chains w s l∧Strs w sk ks∧Glob w→CellAt w sk.p i.k (.string (ks.getD i.k .empty)):=fun w h=>Strs.get h.2.1 hlt
   generalize ks.getD i.k .empty=x at *
   have hen:=dQ s l x t hok (fun c hc=>ZY (hlen c hc) (by decide)) htx
   have hEb:=j1 hlen htx x t
   have hgs:=rU (F i.k).1 x
   have hps:=mY (F i.k).1 x
   generalize validV l x t=E at *
   cases hh:hasK (F i.k).1 x with
   | true =>
    rw [hh] at hgs hSx
    repeat' (first|refine aI (q:=i.k) ?_|refine dc (q:=i.k) (u:=.string x) (hF:=fun w h=>hc1 w h) ?_|refine gs ?_|refine gs1 fun _=>?_|(refine fH (κ:=ByteArray) (kk:=x) (o:=some (.bool true)) (hl:=gI aW) (ho:=hgs) ?_)|(refine gp ?_ ?_<;>intro hx_ this)|fail)
    simp only [Zf] at hSx
    refine ⟨(⟨i.k+1,hlt⟩:Kth ks.length),(by show ks.length-(i.k+1)<ks.length-i.k;omega),aj am ?_ fun _ h=>h⟩
    show List.Sublist [mapr q2 (cm (F (i.k+1)).2),mapr q1 (setM (F (i.k+1)).1)] _
    rw [hSx]
    exact al _
   | false =>
    rw [hh] at hgs hSx
    repeat' (first|refine aI (q:=i.k) ?_|refine dc (q:=i.k) (u:=.string x) (hF:=fun w h=>hc1 w h) ?_|(refine bZ (hc:=hen) (hX:=fun w h=>⟨h.1,h.2.2⟩) fun v1 X1 h1=>?_;obtain ⟨S,rfl,hs⟩:=h1)|refine gs ?_|refine gs1 fun _=>?_|(refine fH (κ:=ByteArray) (kk:=x) (o:=none) (hl:=gI aW) (ho:=hgs) ?_)|(refine eV (κ:=ByteArray) (kk:=x) (hA:=by (repeat (first|with_reducible exact At.here _|apply At.there))) ?_)|(refine gp ?_ ?_<;>intro hx_ this)|fail)
    rw [hps]
    simp only [Ze] at hSx
    refine aP (p:=S.n=E.length∧S.n≤maxLen∧(0<E.length→S.p.isSome=true)) (fun w h=>⟨(hs w h.2).len_,ZY (RowsD.cap (hs w h.2)) (RowsD.max (hs w h.2)),(hs w h.2).some_⟩) fun ⟨hn1,hm1,hp1⟩=>?_
    simp only [maxLen] at hm1
    have hBf:∀ j,j≤E.length→CBnd (i.k*1000+j) ((E.take j).foldl cntStep (F i.k).2):=fun j hj=>by
     have h:=im (E.take j) hBi fun e he=>hEb.2 e (List.mem_of_mem_take he)
     rw [Qi,Nat.min_eq_left hj] at h
     exact h
    generalize hsk:sput (F i.k).1 x=sn at *
    generalize hb0:(F i.k).2=b0 at *
    refine aq (ι:=Kth E.length) (fun j=>⟨[(0,s.v),(2,.string t),(7,.map (some q1)),(8,.map (some q2)),(18,sk.v),(19,.int .i64 sk.n),(20,.int .i64 i.k),(32,S.v),(33,.int .i64 S.n),(34,.int .i64 j.k)],
     [mapr q2 (cm ((E.take j.k).foldl cntStep b0)),mapr q1 (setM sn)],fun w=>(Chains w s l∧Strs w sk ks∧Glob w)∧X1 w⟩) (fun j=>E.length-j.k) ⟨0,Z4 _⟩ (aj qZq9 (al _) fun _ h=>h) fun j=>?_
    have hjk:=j.hk
    repeat' (first|refine gs ?_|refine gs1 fun _=>?_|(refine gp ?_ ?_<;>intro hx_ this)|fail)
    · have hlt2:j.k<E.length:=by omega
      have hp2:=hp1 aa
      obtain ⟨e,he⟩:∃ e,E[j.k]?=some e:=⟨_,Zb hlt2⟩
      have hfo:=uB cntStep b0 E he
      have hBj:=hBf j.k aa
      generalize (E.take j.k).foldl cntStep b0=b at *
      have hmb:=vQ b e
      have hvb:=hBj.val e
      have hi1:i.k*1000≤1000000:=ZY (QB 1000 (ZY hik hkl)) (by decide)
      obtain ⟨n,hn,hst,hnb⟩:∃ n:Nat,(mget b e).getD 0=n∧cntStep b e=mput b e (n+1)∧n≤1001000:=⟨_,rfl,rfl,by omega⟩
      have hpb:mput (cm b) e (.int .i64 ((n:Int)+1))=cm (mput b e (n+1)):=D4 b e (n+1)
      cases ho:mget b e with
      | none =>
       rw [ho] at hmb hn
       have hn0:n=0:=hn.symm
       subst hn0
       have hpb:mput (cm b) e (.int .i64 1)=cm (mput b e (0+1)):=hpb
       repeat' (first|refine aI (q:=j.k) ?_|refine dc (q:=j.k) (u:=.string e) (hF:=fun w h=>(hs w h.2).at_ he) ?_|refine gs ?_|refine gs1 fun _=>?_|(refine fH (κ:=ByteArray) (kk:=e) (o:=none) (hl:=gI aW) (ho:=hmb) ?_)|(refine eV (κ:=ByteArray) (kk:=e) (v:=.int .i64 1) (hA:=by (repeat (first|with_reducible exact At.here _|apply At.there))) ?_)|(refine gp ?_ ?_<;>intro hx_ this)|fail)
       refine ⟨(⟨j.k+1,hlt2⟩:Kth E.length),(by show E.length-(j.k+1)<E.length-j.k;omega),aj am ?_ fun _ h=>h⟩
       show List.Sublist [mapr q2 (cm ((E.take (j.k+1)).foldl cntStep b0)),mapr q1 (setM sn)] _
       rw [hfo,hst,←hpb]
       exact al _
      | some m =>
       rw [ho] at hmb hn
       have hn0:m=n:=hn
       subst hn0
       repeat' (first|refine aI (q:=j.k) ?_|refine dc (q:=j.k) (u:=.string e) (hF:=fun w h=>(hs w h.2).at_ he) ?_|refine gs ?_|refine gs1 fun _=>?_|(refine fH (κ:=ByteArray) (kk:=e) (o:=some (.int .i64 (m:Nat))) (hl:=gI aW) (ho:=hmb) ?_)|(refine eV (κ:=ByteArray) (kk:=e) (v:=.int .i64 ((m:Int)+1)) (hA:=by (repeat (first|with_reducible exact At.here _|apply At.there))) ?_)|(refine gp ?_ ?_<;>intro hx_ this)|fail)
       refine ⟨(⟨j.k+1,hlt2⟩:Kth E.length),(by show E.length-(j.k+1)<E.length-j.k;omega),aj am ?_ fun _ h=>h⟩
       show List.Sublist [mapr q2 (cm ((E.take (j.k+1)).foldl cntStep b0)),mapr q1 (setM sn)] _
       rw [hfo,hst,←hpb]
       exact al _
    · have hj:j.k=E.length:=by omega
      refine ⟨(⟨i.k+1,hlt⟩:Kth ks.length),(by show ks.length-(i.k+1)<ks.length-i.k;omega),aj am ?_ fun _ h=>h.1⟩
      show List.Sublist [mapr q2 (cm (F (i.k+1)).2),mapr q1 (setM (F (i.k+1)).1)] _
      rw [hSx,hj,Qh]
      exact al _
 · have hik':i.k=ks.length:=by omega
   rw [hik']
   have hBx:=hB ks.length
   generalize (F ks.length).2=b at *
   have hbl:b.length≤1000000:=by have:=hBx.len;have:ks.length*1000≤1000000:=QB 1000 hkl;omega
   have hml:(cm b).length=b.length:=by simp [cm]
   have hmk:(cm b).map (·.1)=b.map (·.1):=by simp [cm,Function.comp_def]
   refine Dj (l:=[mapr q2 (cm b)]) (Z3 _ (Zu _)) ?_
   refine AB (hc:=keysSI_c.ct (some q2)) (hX:=fun _ _=>trivial) ?_
   rintro v1 R1 X1 ⟨bk,rfl,rfl⟩
   refine cj (pre:=[cel bk 124 [.map (some q2)],mapr q2 (cm b)]) (fr:=[]) (hc:=sortedSI_c.ct bk q2 (cm b) (fun p hp=>?_) aa) (hX:=fun _ _=>trivial) (h:=?_)
   · simp only [cm,QJ] at hp
     obtain ⟨p',hp',rfl⟩:=hp
     exact hBx.size p' hp'
   rintro v2 R2 X2 ⟨A,c2,rfl,rfl⟩
   rw [hml,hmk]
   have hKl:(sortB (b.map (·.1))).length=b.length:=by rw [j5,ZF]
   have hKm:∀ a∈sortB (b.map (·.1)),∃ e,mget b a=some e:=fun a ha=>m5 (mem_sortB.1 ha)
   generalize sortB (b.map (·.1))=K at *
   refine aZ ?_
   repeat' (first|refine gs ?_|refine gs1 fun _=>?_|fail)
   refine nF (X':=fun w=>Strs w ⟨A,b.length,c2⟩ K) (fun w h=>gC h.2 hKl.symm) ?_
   refine aP (p:=0<K.length→A.isSome=true) (fun w h=>h.some_) fun hpA=>?_
   refine cS 99 2 ?_
   refine aq (ι:=FilS K.length) (fun j=>⟨[(8,.map (some q2)),(13,.slice j.A j.k j.c),(46,.slice A b.length c2),(47,.int .i64 (b.length:Nat)),(48,.int .i64 j.k)],
    [orow 99 2 (.slice j.A j.k j.c) j.k ((K.take j.k).map fun a=>CntD.cells ⟨a,(mget b a).getD 0⟩).flatten,mapr q2 (cm b)],fun w=>Strs w ⟨A,b.length,c2⟩ K⟩) (fun j=>K.length-j.k) ⟨0,Z4 _,none,0⟩
    (aj qZq9 (Z3 _ (Z2 _ (Z3 _ (Zu _)))) fun _ h=>h) fun j=>?_
   have hjk:=j.hk
   repeat' (first|refine gs ?_|refine gs1 fun _=>?_|(refine gp ?_ ?_<;>intro hx_ this)|fail)
   · have hltj:j.k<K.length:=by omega
     have hpA':=hpA aa
     obtain ⟨a,ha⟩:∃ a,K[j.k]?=some a:=⟨_,Zb hltj⟩
     obtain ⟨e,he⟩:=hKm a (Z6 ha)
     have hmb:mget (cm b) a=some (.int .i64 e):=by rw [vQ,he];rfl
     have hfl:((K.take (j.k+1)).map fun a=>CntD.cells ⟨a,(mget b a).getD 0⟩).flatten=((K.take j.k).map fun a=>CntD.cells ⟨a,(mget b a).getD 0⟩).flatten++CntD.cells ⟨a,e⟩:=by
      rw [Qg,ha]
      simp [he]
     generalize ((K.take j.k).map fun a=>CntD.cells ⟨a,(mget b a).getD 0⟩).flatten=acc at *
     repeat' (first|refine aI (q:=j.k) ?_|refine dc (q:=j.k) (u:=.string a) (hF:=fun w h=>h.at_ ha) ?_|refine aD (cs:=CntD.cells ⟨a,e⟩) (hf:=by rfl) ?_|refine cA (size:=2) (vs:=[CntD.v ⟨a,e⟩]) (css:=CntD.cells ⟨a,e⟩) (hsz:=by rfl) (hcs:=by rfl) fun _=>?_|(refine aF (size:=2) (news:=CntD.cells ⟨a,e⟩) (q:=1) rfl rfl rfl rfl (fun _=>At.there _ (At.here _)) (fun w G=>bT G aw rfl rfl 1) aa (by simp only [maxLen];omega) rfl ?_ rfl ?_;(first|with_reducible rfl|with_reducible assumption|with_reducible exact Zl|with_reducible exact Zn);intro A3 c3)|refine gs ?_|refine gs1 fun _=>?_|(refine fH (κ:=ByteArray) (kk:=a) (o:=some (.int .i64 (e:Nat))) (hl:=gI aW) (ho:=hmb) ?_)|(refine gp ?_ ?_<;>intro hx_ this)|fail)
     refine ⟨(⟨j.k+1,hltj,A3,c3⟩:FilS K.length),(by show K.length-(j.k+1)<K.length-j.k;omega),aj am ?_ fun _ h=>h⟩
     show List.Sublist [orow 99 2 _ _ ((K.take (j.k+1)).map fun a=>CntD.cells ⟨a,(mget b a).getD 0⟩).flatten,_] _
     rw [hfl]
     exact Z2 _ (al _)
   · have hk:j.k=K.length:=by omega
     refine ad (ag rfl rfl) ⟨⟨j.A,j.k,j.c⟩,rfl,fun w h=>?_⟩
     have h1:=h.2 _ aw
     have e1:((K.take j.k).map fun a=>CntD.cells ⟨a,(mget b a).getD 0⟩)=(K.map fun a=>(⟨a,(mget b a).getD 0⟩:CntD)).map CntD.cells:=by
      rw [hk,Qh,Z0];rfl
     rw [e1] at h1
     rw [hofV]
     exact bz h1 (by simp [hk]) (by
      intro r hr
      obtain ⟨x,_,rfl⟩:=QJ.1 hr
      rfl)
end Go.Proofs.YtaolfiikahlmkaaGreatDoor
namespace Go.Proofs.YtaolfiikahlmkaaGreatDoor
open Go Go.Proofs Sy
def fewBad (l:List ChainD) (k:Nat):Bool:=!shortV (l.getD k ChainD.zero)
def fewV (l:List ChainD):Bool:=decide (l.length≤6)&&allB l.length (fewBad l)
def spamS:ByteArray:=⟨#[115,112,97,109]⟩
def botS:ByteArray:=⟨#[98,111,116]⟩
def xS:ByteArray:=⟨#[120]⟩
theorem chainsNil (w:World):Chains w ⟨none,0,0⟩ []:=⟨bt w 6,fun c h=>by cases h⟩
theorem BV {l:List ChainD} (h:fewV l=true):∀ c∈l,∀ a∈c.actsL,a.text.size≤1000000:=by
 simp only [fewV,Zp,Zw] at h
 intro c hc a ha
 obtain ⟨i,hi,rfl⟩:=Qx hc
 have h1:=iG h.2 hi
 simp only [fewBad,Zo,Zb hi,Qe,Bool.not_eq_false'] at h1
 simp only [shortV,Zp] at h1
 obtain ⟨j,hj,rfl⟩:=Qx ha
 have h2:=iG h1.2 hj
 simp only [shortBad,Zo,Zb hj,Qe,Ql,Qd] at h2
 omega
theorem BW (s:SlV) (l:List ChainD):Pu Tryz.prog 13 #[s.v] (fun w=>Chains w s l) (.bool (fewV l)):=by
  refine ak (args:=[_]) _ Tryz.func13 rfl Tryz.ntmps13 rfl fun av bor w0=>?_
  refine aP (p:=s.n=l.length∧s.n≤maxLen∧(0<l.length→s.p.isSome=true)) (fun w h=>⟨h.len_,h.max_,h.some_⟩) fun ⟨hl,hm,hp⟩=>?_
  simp only [maxLen] at hm
  repeat' (first|refine gs ?_|refine gs1 fun _=>?_|(refine gp ?_ ?_<;>intro hx_ this)|fail)
  · apply ad;apply ag;rfl;rfl
    rw [fewV,Zc aa,Zj]
  refine aq (ι:=Upto l.length (fewBad l)) (fun i=>⟨[(0,s.v),(3,.int .i64 i.k)],[],fun w=>Chains w s l⟩) (fun i=>l.length-i.k) (Upto.zero _ _) (aj qZq9 (al _) fun _ h=>h) fun i=>?_
  have hik:=i.hk
  repeat' (first|refine gs ?_|refine gs1 fun _=>?_|(refine gp ?_ ?_<;>intro hx_ this)|fail)
  · have hlt:i.k<l.length:=by omega
    have hp':=hp aa
    obtain ⟨c,hc⟩:∃ c,l[i.k]?=some c:=⟨_,Zb hlt⟩
    have hcm:=Z6 hc
    have hfb:fewBad l i.k=!shortV c:=by simp only [fewBad,Zo,hc,Qe]
    refine fb (p:=c.acts.n=c.actsL.length∧c.acts.n≤maxLen∧(0<c.actsL.length→c.acts.p.isSome=true)) (fun w h=>⟨(h.2 c hcm).len_,(h.2 c hcm).max_,(h.2 c hcm).some_⟩) fun ⟨hl2,hm2,hp2⟩=>?_
    simp only [maxLen] at hm2
    repeat' (first|refine gs ?_|refine gs1 fun _=>?_|(refine aI (q:=i.k*6) ?_)|(refine je ?_)|(refine dc (q:=i.k*6+1) (u:=c.acts.v) (hF:=fun w h=>(Chains.get h hc).2.2 1 _ rfl) ?_)|(refine gp ?_ ?_<;>intro hx_ this)|fail)
    · apply ad;apply ag;rfl;rfl
      rw [fewV,cM hlt (by rw [hfb,shortV,Zc (by omega)];rfl),Zk]
    refine aq (ι:=Upto c.actsL.length (shortBad c.actsL)) (fun j=>⟨[(0,s.v),(3,.int .i64 i.k),(4,.int .i64 j.k)],[],fun w=>Chains w s l⟩) (fun j=>c.actsL.length-j.k) (Upto.zero _ _) (aj qZq9 (al _) fun _ h=>h) fun j=>?_
    have hjk:=j.hk
    repeat' (first|refine gs ?_|refine gs1 fun _=>?_|(refine aI (q:=i.k*6) ?_)|(refine je ?_)|(refine dc (q:=i.k*6+1) (u:=c.acts.v) (hF:=fun w h=>(Chains.get h hc).2.2 1 _ rfl) ?_)|(refine gp ?_ ?_<;>intro hx_ this)|fail)
    · have hjl:j.k<c.actsL.length:=by omega
      have hp3:=hp2 aa
      obtain ⟨x,hx⟩:∃ x,c.actsL[j.k]?=some x:=⟨_,Zb hjl⟩
      have hB:shortBad c.actsL j.k=(decide (8<x.to.n)||decide (8<x.wraps.n)||decide (600<x.text.size)||decide (600<x.body.data.size)):=by simp only [shortBad,Zo,hx,Qe]
      repeat' (first|refine gs ?_|refine gs1 fun _=>?_|(refine aI (q:=j.k*20) ?_)|(refine ca (cs:=x.cells) (hF:=fun w h=>Acts.get (h.2 c hcm) hx) ?_)|(refine gp ?_ ?_<;>intro hx_ this)|fail)
      all_goals first
        | (apply ad;apply ag;rfl;rfl
           have hb:shortBad c.actsL j.k=true:=by
             rw [hB];simp only [Bool.or_eq_true,Zw];simp only [Zw,Qd] at *;omega
           rw [fewV,cM hlt (by rw [hfb,shortV,cM hjl hb,Zk];rfl),Zk])
        | (have hb:shortBad c.actsL j.k=false:=by
             rw [hB];simp only [Ql,Qd];simp only [Zw,Qd] at *;omega
           exact ⟨j.next hjl hb,(by show c.actsL.length-(j.k+1)<c.actsL.length-j.k;omega),aj qZq9 (Z2 _ (al _)) fun _ h=>h⟩)
    · have hsv:shortV c=true:=by rw [shortV,j.all aa,Zd (by omega)];rfl
      exact ⟨i.next hlt (by rw [hfb,hsv];rfl),(by show l.length-(i.k+1)<l.length-i.k;omega),aj qZq9 (al _) fun _ h=>h⟩
  · apply ad;apply ag;rfl;rfl
    rw [fewV,i.all aa,Zd (by omega)]
    rfl
def CntD.zero:CntD:=⟨⟨#[]⟩,0⟩
def eqCD (a b:CntD):Bool:=seqB a.name b.name&&decide (a.n=b.n)
theorem eqCD_iff {a b:CntD}:eqCD a b=true↔a=b:=by
 cases a;cases b
 simp only [eqCD,Zp,seqB_iff,Zw,CntD.mk.injEq]
theorem AM (w:World) (d:Nat) (a b:CntD):(Op.equalIn (d+2) 99 a.v b.v).run Tryz.prog w=.ok (eqCD a b) w:=by
 have p0:∀ x:CntD,(part 9 x.cells.toArray 0).run Tryz.prog w=.ok (.string x.name) w:=fun x=>xB w rfl
 have p1:∀ x:CntD,(part 3 x.cells.toArray 1).run Tryz.prog w=.ok (.int .i64 x.n) w:=fun x=>xC w rfl
 unfold CntD.v
 rw [run_equalIn_agg _ _ _ _ _ ae ae]
 simp only [Program.fieldsOf,Tryz.underlying99]
 simp [Op.eqFields,p0,p1,ED,EE]
 unfold eqCD
 cases seqB a.name b.name<;>by_cases h:a.n=b.n<;>simp [h,Int.ofNat_inj]
section
variable {N:Nat} {av bor:List Nat} {w0:World} {ops:Array Oper} {rest:List Oper} {k:St→Prop} {E:Env} {loc:List Res} {X:World→Prop} {x y:Operand} {t2:TypeId}
variable {n:Nat} {ty:TypeId} {pos:String} {af:Array Edge} {g:Option (Nat×Bool)} {bb want:Bool} {st:St}
theorem CJ (a b:CntD) (hx:ev st.env x=some a.v) (hy:ev st.env y=some b.v):Sy.Yields Tryz.prog N av bor w0 st (.binOp .neq 99 x y t2) ty (.bool (!eqCD a b)):=Sy.Yields.mk fun A w ok d pos af g=>by
 have h1:=run_eqGuard_agg (P:=Tryz.prog) w .neq 99 x y a.cells.toArray b.cells.toArray ae
 have h2:=run_neq_struct (P:=Tryz.prog) w 99 a.cells.toArray b.cells.toArray
 have h3:=AM w 9998 a b
 simp only [CntD.v] at hx hy h3
 simp [execOp,ok.eval hx,ok.eval hy,h1,h2,h3]
end
theorem Cnts.know {s:SlV} {l:List CntD}:∀ w,Cnts w s l→s.n=l.length∧s.n≤maxLen∧(0<l.length→s.p.isSome=true):=fun w h =>
 ⟨by have:=RowsD.len h;simpa using this,ZY (RowsD.cap h) (RowsD.max h),fun hl=>(RowsD.row h 0 l[0].cells (by simp [Zb hl])).2.1⟩
theorem Cnts.get {w:World} {s:SlV} {l:List CntD} (h:Cnts w s l) {i:Nat} {x:CntD} (hx:l[i]?=some x):x.cells.length=2∧s.p.isSome=true∧∀ j u,x.cells[j]?=some u→CellAt w s.p (i*2+j) u :=
 RowsD.row h i x.cells (by simp [hx])
def eqBadC (l m:List CntD) (k:Nat):Bool:=!eqCD (l.getD k CntD.zero) (m.getD k CntD.zero)
def eqCL (l m:List CntD):Bool:=decide (l.length=m.length)&&allB l.length (eqBadC l m)
theorem yv (l:List CntD):eqCL l l=true:=by
 rw [eqCL,Zd rfl,Zg]
 refine kJ fun j hj=>?_
 simp only [eqBadC,eqCD_iff.2 rfl,Zn]
theorem xz (s r:SlV) (l m:List CntD):Pu Tryz.prog 45 #[s.v,r.v] (fun w=>Cnts w s l∧Cnts w r m) (.bool (eqCL l m)):=by
 refine ak (args:=[_,_]) _ Tryz.func45 rfl Tryz.ntmps45 rfl fun av bor w0=>?_
 refine aP (fun w h=>And.intro (Cnts.know w h.1) (Cnts.know w h.2)) fun ⟨⟨hl,hm,hp⟩,⟨hl',hm',hp'⟩⟩=>?_
 simp only [maxLen] at hm hm'
 repeat' (first|refine gs ?_|(refine gp ?_ ?_<;>intro hx_ this)|fail)
 · apply ad;apply ag;rfl;rfl
   have:¬ l.length=m.length:=by
    have h1:¬ (s.n:Int)=(r.n:Int):=by simpa using hx_
    omega
   simp only [eqCL,Zc this,Zj]
 have hlm:l.length=m.length:=by
  have h1:(s.n:Int)=(r.n:Int):=by simpa using hx_
  omega
 refine aq (ι:=Upto l.length (eqBadC l m)) (fun i=>⟨[(0,s.v),(1,r.v),(5,.int .i64 i.k)],[],fun w=>Cnts w s l∧Cnts w r m⟩) (fun i=>l.length-i.k) (Upto.zero _ _) (aj (by repeat (first|exact trivial|refine ⟨rfl,?_⟩)) (al _) fun _ h=>h) fun i=>?_
 have hik:=i.hk
 repeat' (first|refine gs ?_|(refine gp ?_ ?_<;>intro hx_ this)|fail)
 · have hlt:i.k<l.length:=by omega
   have hlt':i.k<m.length:=by omega
   have hp1:=hp aa
   have hp2:=hp' aa
   have hx:l[i.k]?=some (l.getD i.k CntD.zero):=by rw [Zo,Zb hlt];rfl
   have hx':m[i.k]?=some (m.getD i.k CntD.zero):=by rw [Zo,Zb hlt'];rfl
   have hB:eqBadC l m i.k=!eqCD (l.getD i.k CntD.zero) (m.getD i.k CntD.zero):=rfl
   generalize l.getD i.k CntD.zero=x at *
   generalize m.getD i.k CntD.zero=x' at *
   (refine ar ⟨[0,1,2,3,4,5,6,7,8],[]⟩ [] (fun w=>Cnts w s l∧Cnts w r m) (h:=?_))
   all_goals repeat' (first|refine gdz ?_|refine ay (hsub:=by exact aE) (hy:=by first|(apply aC (q:=i.k*2);rfl;rfl;omega;omega;assumption;omega)|(apply eG (cs:=x.cells);rfl;exact fun w h=>Cnts.get h.1 hx)|(apply eG (cs:=x'.cells);rfl;exact fun w h=>Cnts.get h.2 hx')|(apply CJ x x';rfl;rfl)) ?_|refine aA ?_ (h':=?_)|exact aB|(refine gq ?_ ?_<;>intro hx_ this)|fail)
   repeat' (first|refine gs ?_|(refine gp ?_ ?_<;>intro hx_ this)|fail)
   · apply ad;apply ag;rfl;rfl
     rw [eqCL,cM hlt (by rw [hB];assumption),Zk]
   · exact ⟨i.next hlt (by rw [hB];assumption),(by show l.length-(i.k+1)<l.length-i.k;omega),aj (by repeat (first|exact trivial|refine ⟨rfl,?_⟩)) (al _) fun _ h=>h⟩
 · apply ad;apply ag;rfl;rfl
   rw [eqCL,i.all aa,Zd hlm]
   rfl
def repB (id:ByteArray) (a:ActD):Bool:=decide (a.kind=12)&&seqB a.object id
def repA (l:List ActD) (id:ByteArray):Nat→Bool
 | 0=>false
 | j+1=>repA l id j||repB id (l.getD j ActD.zero)
def repF (l:List ChainD) (id:ByteArray):Nat→List ByteArray
 | 0=>[]
 | i+1=>bif repA (l.getD i ChainD.zero).actsL id (l.getD i ChainD.zero).actsL.length then sput (repF l id i) (l.getD i ChainD.zero).id else repF l id i
def reportsV (l:List ChainD) (id:ByteArray):Nat:=bif seqB id ⟨#[]⟩ then 0 else (repF l id l.length).length
theorem oA:∀ (ks:List ByteArray) (k:ByteArray),sput (sput ks k) k=sput ks k
 | [],k=>by simp only [sput,(KeyT.eqb_iff k k).2 rfl,Zf]
 | a::ks,k=>by
  have ih:=oA ks k
  simp only [sput]
  cases h:KeyT.eqb k a with
  | true=>simp only [Zf,sput,(KeyT.eqb_iff k k).2 rfl]
  | false=>simp only [Ze,sput,h,ih]
theorem iN (s:SlV) (l:List ChainD) (id:ByteArray) (hlen:∀ c∈l,c.actsL.length≤1000000):Pu Tryz.prog 44 #[s.v,.string id] (fun w=>Chains w s l) (.int .i64 (reportsV l id)):=by
  refine ak (args:=[_,_]) _ Tryz.func44 rfl Tryz.ntmps44 rfl fun av bor w0=>?_
  refine aP (p:=s.n=l.length∧s.n≤maxLen∧(0<l.length→s.p.isSome=true)) (fun w h=>⟨h.len_,h.max_,h.some_⟩) fun ⟨hl,hm,hp⟩=>?_
  simp only [maxLen] at hm
  cases ht:seqB id ⟨#[]⟩ with
  | true =>
    repeat' (first|refine gs ?_|refine gs1 fun _=>?_|fail)
    apply ad;apply ag;rfl;rfl
    rw [reportsV,ht]
    rfl
  | false =>
    have hS:∀ i,repF l id (i+1)=_:=fun i=>repF.eq_2 l id i
    have hofV:reportsV l id=(repF l id l.length).length:=by rw [reportsV,ht];rfl
    generalize hFg:repF l id=F at *
    repeat' (first|refine gs ?_|refine gs1 fun _=>?_|(refine fI ByteArray (h:=fun q=>?_))|(refine gp ?_ ?_<;>intro hx_ this)|fail)
    refine aq (ι:=Kth l.length) (fun i=>⟨[(1,.string id),(5,.map (some q)),(13,s.v),(14,.int .i64 s.n),(15,.int .i64 i.k)],[mapr q (setM (F i.k))],fun w=>Chains w s l⟩) (fun i=>l.length-i.k) ⟨0,Z4 _⟩ (aj qZq9 (by rw [←hFg];exact al _) fun _ h=>h) fun i=>?_
    have hik:=i.hk
    repeat' (first|refine gs ?_|refine gs1 fun _=>?_|(refine gp ?_ ?_<;>intro hx_ this)|fail)
    · have hlt:i.k<l.length:=by omega
      have hp':=hp aa
      obtain ⟨c,hc⟩:∃ c,l[i.k]?=some c:=⟨_,Zb hlt⟩
      have hcm:=Z6 hc
      have hcl:=hlen c hcm
      have hSx:=hS i.k
      rw [show l.getD i.k ChainD.zero=c from by rw [Zo,hc];rfl] at hSx
      refine fb (p:=c.acts.n=c.actsL.length∧c.acts.n≤maxLen∧(0<c.actsL.length→c.acts.p.isSome=true)) (fun w h=>⟨(h.2 c hcm).len_,(h.2 c hcm).max_,(h.2 c hcm).some_⟩) fun ⟨hl2,hm2,hp2⟩=>?_
      simp only [maxLen] at hm2
      generalize F i.k=R at *
      repeat' (first|refine gs ?_|refine gs1 fun _=>?_|(refine aI (q:=i.k*6) ?_)|(refine ca (cs:=c.cells) (hF:=fun w h=>Chains.get h hc) ?_)|(refine gp ?_ ?_<;>intro hx_ this)|fail)
      rename_i b7
      refine aq (ι:=Kth c.actsL.length) (fun j=>⟨[(1,.string id),(5,.map (some q)),(7,.pointer (some ⟨b7,0,none⟩)),(13,s.v),(14,.int .i64 s.n),(15,.int .i64 i.k),(20,c.acts.v),(21,.int .i64 c.acts.n),(22,.int .i64 j.k)],[cel b7 35 c.cells,mapr q (setM (bif repA c.actsL id j.k then sput R c.id else R))],fun w=>Chains w s l⟩) (fun j=>c.actsL.length-j.k) ⟨0,Z4 _⟩ (aj qZq9 (al _) fun _ h=>h) fun j=>?_
      have hjk:=j.hk
      repeat' (first|refine gs ?_|refine gs1 fun _=>?_|(refine gp ?_ ?_<;>intro hx_ this)|fail)
      · have hjl:j.k<c.actsL.length:=by omega
        have hp3:=hp2 aa
        obtain ⟨x,hx⟩:∃ x,c.actsL[j.k]?=some x:=⟨_,Zb hjl⟩
        have hst:repA c.actsL id (j.k+1)=(repA c.actsL id j.k||(decide (x.kind=12)&&seqB x.object id)):=by simp only [repA,repB,Zo,hx,Qe]
        have hps:mput (setM (bif repA c.actsL id j.k then sput R c.id else R)) c.id (.bool true)=setM (sput R c.id):=by
          rw [mY]
          cases repA c.actsL id j.k with
          | true=>simp only [Zf,oA]
          | false=>rfl
        generalize repA c.actsL id j.k=b at *
        generalize hbR:(bif b then sput R c.id else R)=bR at *
        repeat' (first|refine gs ?_|refine gs1 fun _=>?_|(refine aI (q:=j.k*20) ?_)|(refine ca (cs:=x.cells) (hF:=fun w h=>Acts.get (h.2 c hcm) hx) ?_)|(refine eV (κ:=ByteArray) (kk:=c.id) (hA:=by (repeat (first|with_reducible exact At.here _|apply At.there))) ?_)|(refine gp ?_ ?_<;>intro hx_ this)|fail)
        all_goals first
          | (have e1:repA c.actsL id (j.k+1)=true:=by rw [hst,Zd (by assumption),show seqB x.object id=true from by assumption,Zg,Zs]
             refine ⟨(⟨j.k+1,hjl⟩:Kth c.actsL.length),(by show c.actsL.length-(j.k+1)<c.actsL.length-j.k;omega),aj am ?_ fun _ h=>h⟩
             show List.Sublist [_,mapr q (setM (bif repA c.actsL id (j.k+1) then sput R c.id else R))] _
             rw [e1,Zf,←hps]
             exact Z2 _ (al _))
          | (have e1:repA c.actsL id (j.k+1)=b:=by rw [hst,Zd (by assumption),show seqB x.object id=false from by assumption,Zk,Zq]
             refine ⟨(⟨j.k+1,hjl⟩:Kth c.actsL.length),(by show c.actsL.length-(j.k+1)<c.actsL.length-j.k;omega),aj am ?_ fun _ h=>h⟩
             show List.Sublist [_,mapr q (setM (bif repA c.actsL id (j.k+1) then sput R c.id else R))] _
             rw [e1,hbR]
             exact Z2 _ (al _))
          | (have e1:repA c.actsL id (j.k+1)=b:=by rw [hst,Zc (by assumption),Zj,Zq]
             refine ⟨(⟨j.k+1,hjl⟩:Kth c.actsL.length),(by show c.actsL.length-(j.k+1)<c.actsL.length-j.k;omega),aj am ?_ fun _ h=>h⟩
             show List.Sublist [_,mapr q (setM (bif repA c.actsL id (j.k+1) then sput R c.id else R))] _
             rw [e1,hbR]
             exact Z2 _ (al _))
      · have hj:j.k=c.actsL.length:=by omega
        refine ⟨(⟨i.k+1,hlt⟩:Kth l.length),(by show l.length-(i.k+1)<l.length-i.k;omega),aj am ?_ fun _ h=>h⟩
        show List.Sublist [mapr q (setM (F (i.k+1)))] _
        rw [hSx,hj]
        exact Z2 _ (al _)
    · have hk:i.k=l.length:=by omega
      rw [hk]
      have hml:(setM (F l.length)).length=(F l.length).length:=by simp [setM]
      repeat' (first|refine gs ?_|refine gs1 fun _=>?_|(refine pB (κ:=ByteArray) (hl:=by exact aW) ?_)|(refine gp ?_ ?_<;>intro hx_ this)|fail)
      apply ad;apply ag;rfl;rfl
      rw [hofV,hml]
def IdsOk (l:List ChainD):Prop:=∀ c∈l,findC l c.id=some c
theorem Cv {L:List Int} {I:List ItemD} {l:List ChainD} (h:AllK L I l):IdsOk l:=by
 obtain ⟨M,hM,rfl⟩:=h
 have key:∀ {ids:List ByteArray} {M:List ChK},All2 (fun id p=>QK L I id p.1 p.2) ids M→ids.Nodup→(∀ c∈(M.filter neK).map Prod.fst,findC ((M.filter neK).map Prod.fst) c.id=some c)∧∀ c∈(M.filter neK).map Prod.fst,c.id∈ids:=by
  intro ids M h
  induction h with
  | nil=>exact fun _=>⟨fun c hc=>absurd hc (by simp),fun c hc=>absurd hc (by simp)⟩
  | @cons a p ids M hp _ ih =>
   intro hn
   obtain ⟨hn1,hn2⟩:=List.nodup_cons.1 hn
   obtain ⟨ih1,ih2⟩:=ih hn2
   have hpa:p.1.id=a:=gR hp
   rw [QR]
   cases neK p with
   | false=>exact ⟨ih1,fun c hc=>Zv _ (ih2 c hc)⟩
   | true =>
    rw [ZO rfl,Z1]
    refine ⟨fun c hc=>?_,fun c hc=>?_⟩
    · rcases ZI.1 hc with rfl|hc
      · rw [findC,List.find?_cons,cF]
      · have hne:seqB p.1.id c.id=false:=by
         cases hb:seqB p.1.id c.id with
         | false=>rfl
         | true=>exact absurd (by rw [←hpa,seqB_iff.1 hb];exact ih2 c hc) hn1
        rw [findC,List.find?_cons,hne]
        exact ih1 c hc
    · rcases ZI.1 hc with rfl|hc
      · rw [hpa];exact aw
      · exact Zv _ (ih2 c hc)
 exact (key hM (kr I)).1
theorem tW {k:KyD} {c:ChainD} {x:ActD} (hx:x.Rng) (hc:c.acts.n≤1000):(sgA k c x).Rng :=
 ri ⟨⟨by show (c.acts.n:Int)<_;omega,hx.ints.2.1,by show (1:Int)<_;decide,hx.ints.2.2.2⟩,hx.wints,hx.to_len,hx.wraps_len⟩
theorem AF {k:KyD} {c:ChainD} {x:ActD} (hs:x.Sm):(sgA k c x).Sm:=vu ⟨hs.to,hs.wraps,hs.target⟩
theorem nO (L:List Int) (I:List ItemD) (it:ItemD):(addK L I it).length≤I.length+1:=by
 rw [addK]
 cases canAdd L I it with
 | false=>exact Nat.le_succ _
 | true =>
  have:=(iH digIt it I).length_eq
  rw [ZB] at this
  exact Nat.le_of_eq this
theorem mG {L:List Int} {I:List ItemD} (h:KnR L I) {au:ByteArray} {c n:ChainD} {kl kl':List KeyD} (q:QK L I au c kl) (h0:0<c.actsL.length) (hcn:c.acts.n=c.actsL.length) (hnn:n.acts.n=n.actsL.length) {k:KyD} {x:ActD} {s3 s4:SlV}
  (e3:s3.n=(sgA k c x).to.n) (e4:s4.n=(sgA k c x).wraps.n) (q':QK L (addK L I (ofActI ((sgA k c x).re s3 s4))) c.id n kl') (hl:(n.acts.n:Int)=(c.acts.n:Int)+1) :
  SignD L I c n k { x with time:=1 } (sgA k c x)∧QK L (addK L I (ofActI ((sgA k c x).re s3 s4))) au n kl':=by
 rw [gR q] at q'
 exact ⟨(tP h q h0 hcn e3 e4 q' aa).1,q'⟩
theorem SignD.author {L:List Int} {I:List ItemD} {c n:ChainD} {k:KyD} {x b:ActD} (h:SignD L I c n k x b):b.author=c.id:=by rw [h.sig];rfl
theorem SignD.kind {L:List Int} {I:List ItemD} {c n:ChainD} {k:KyD} {x b:ActD} (h:SignD L I c n k x b):b.kind=x.kind:=by rw [h.sig];rfl
theorem SignD.object {L:List Int} {I:List ItemD} {c n:ChainD} {k:KyD} {x b:ActD} (h:SignD L I c n k x b):b.object=x.object:=by rw [h.sig];rfl
theorem SignD.target {L:List Int} {I:List ItemD} {c n:ChainD} {k:KyD} {x b:ActD} (h:SignD L I c n k x b):b.target=x.target:=by rw [h.sig];rfl
theorem SignD.text {L:List Int} {I:List ItemD} {c n:ChainD} {k:KyD} {x b:ActD} (h:SignD L I c n k x b):b.text=x.text:=by rw [h.sig];rfl
theorem j6 (s r:SlV) (l m:List ByteArray):Pu Tryz.prog 17 #[s.v,r.v] (fun w=>Strs w s l∧Strs w r m) (.bool (eqL l m)):=by
 refine ak (args:=[_,_]) _ Tryz.func17 rfl Tryz.ntmps17 rfl fun av bor w0=>?_
 refine aP (p:=(s.n=l.length∧s.n≤maxLen∧(0<l.length→s.p.isSome=true))∧(r.n=m.length∧r.n≤maxLen∧(0<m.length→r.p.isSome=true))) (fun w h=>⟨⟨h.1.len_,ZY (RowsD.cap h.1) (RowsD.max h.1),h.1.some_⟩,⟨h.2.len_,ZY (RowsD.cap h.2) (RowsD.max h.2),h.2.some_⟩⟩) fun ⟨⟨hl,hm,hp⟩,⟨hl',hm',hp'⟩⟩=>?_
 simp only [maxLen] at hm hm'
 repeat' (first|refine gs ?_|(refine gp ?_ ?_<;>intro hx_ this)|fail)
 · apply ad;apply ag;rfl;rfl
   have:¬ l.length=m.length:=by
    have h1:¬ (s.n:Int)=(r.n:Int):=by simpa using hx_
    omega
   simp only [eqL,Zc this,Zj]
 have hlm:l.length=m.length:=by
  have h1:(s.n:Int)=(r.n:Int):=by simpa using hx_
  omega
 refine aq (ι:=Upto l.length (eqBad l m)) (fun i=>⟨[(0,s.v),(1,r.v),(5,.int .i64 i.k)],[],fun w=>Strs w s l∧Strs w r m⟩) (fun i=>l.length-i.k) (Upto.zero _ _) (aj (by repeat (first|exact trivial|refine ⟨rfl,?_⟩)) (al _) fun _ h=>h) fun i=>?_
 have hik:=i.hk
 repeat' (first|refine gs ?_|(refine gp ?_ ?_<;>intro hx_ this)|fail)
 · have hlt:i.k<l.length:=by omega
   have hlt':i.k<m.length:=by omega
   have hp1:=hp aa
   have hp2:=hp' aa
   (refine aV ⟨[0,1,2,3,4,5,6,7,8],[]⟩ (h:=?_))
   all_goals repeat' (first|refine gd ?_|refine ay (hy:=by first|(apply aC (q:=i.k);rfl;rfl;omega;omega;assumption;omega)|(apply er;rfl;exact fun w h=>Strs.get h.1 hlt)|(apply er;rfl;exact fun w h=>Strs.get h.2 hlt')) ?_|refine aA ?_ (h':=?_)|exact aB|(refine gq ?_ ?_<;>intro hx_ this)|fail)
   repeat' (first|refine gs ?_|(refine gp ?_ ?_<;>intro hx_ this)|fail)
   · apply ad;apply ag;rfl;rfl
     rw [eqL,cM hlt (by assumption),Zk]
   · exact ⟨i.next hlt (by assumption),(by show l.length-(i.k+1)<l.length-i.k;omega),aj (by repeat (first|exact trivial|refine ⟨rfl,?_⟩)) (al _) fun _ h=>h⟩
 · apply ad;apply ag;rfl;rfl
   rw [eqL,i.all aa,Zd hlm]
   rfl
def lbP1:ActD:={ ActD.zero with kind:=17,target:=idB,text:=spamS }
def lbP2:ActD:={ ActD.zero with kind:=17,target:=idB,text:=botS }
def lbP3:ActD:={ ActD.zero with kind:=12,object:=xS }
def lbL:List ActD:=[lbP1,lbP2,lbP3]
def chainB (b:Nat):ChainD:=⟨idA,⟨some ⟨b,0,none⟩,3,3⟩,⟨none,0,0⟩,⟨#[]⟩,0,false,lbL⟩
def lb0:CntD:=⟨botS,1⟩
def lb1:CntD:=⟨spamS,1⟩
theorem lz {P:ActD→Prop} (h1:P lbP1) (h2:P lbP2) (h3:P lbP3):∀ a∈lbL,P a:=by
 intro a ha
 simp only [lbL,ZI,Qk,or_false] at ha
 rcases ha with rfl|rfl|rfl
 · exact h1
 · exact h2
 · exact h3
theorem By:ActsOk lbL:=⟨lz ⟨by decide,fun w hw=>absurd hw (by show ¬ w∈[];simp),rfl,rfl⟩ ⟨by decide,fun w hw=>absurd hw (by show ¬ w∈[];simp),rfl,rfl⟩ ⟨by decide,fun w hw=>absurd hw (by show ¬ w∈[];simp),rfl,rfl⟩,
 lz ⟨by decide,by decide,by decide⟩ ⟨by decide,by decide,by decide⟩ ⟨by decide,by decide,by decide⟩⟩
theorem r8:∀ a∈lbL,a.text.size≤1000000:=lz (by decide) (by decide) (by decide)
theorem pf {b:Nat} {w:World} (hc:(cel b 46 (lbL.map ActD.cells).flatten).F w):(chainB b).at_ w :=
 ⟨aN hc rfl (by decide) (fF lbL),lz ⟨bt w 1,bt w 5⟩ ⟨bt w 1,bt w 5⟩ ⟨bt w 1,bt w 5⟩⟩
theorem chainsB {b b2:Nat} {w:World} (hc:(cel b 46 (lbL.map ActD.cells).flatten).F w) (h2:(cel b2 35 (chainB b).cells).F w):Chains w ⟨some ⟨b2,0,none⟩,1,1⟩ [chainB b] :=
 ⟨aN (xs:=[(chainB b).cells]) h2 rfl (by decide) (by intro r hr;rw [Z5.1 hr];rfl),fun c h=>by rw [Z5.1 h];exact pf hc⟩
theorem chainsB2 {b b2:Nat} {w:World} (hc:(cel b 46 (lbL.map ActD.cells).flatten).F w) (h2:(cel b2 35 ((chainB b).cells++(chainB b).cells)).F w):Chains w ⟨some ⟨b2,0,none⟩,2,2⟩ [chainB b,chainB b] :=
 ⟨aN (xs:=[(chainB b).cells,(chainB b).cells]) h2 rfl (by decide) (by intro r hr;simp only [ZI,Qk,or_false,or_self] at hr;rw [hr];rfl),fun c h=>by simp only [ZI,Qk,or_false,or_self] at h;rw [h];exact pf hc⟩
theorem mem1 {α:Type} {P:α→Prop} {a:α} (h:P a):∀ x∈[a],P x:=fun x hx=>by rw [Z5.1 hx];exact h
theorem asc2:Asc [botS,spamS]:=List.Pairwise.cons (fun b hb=>by rw [Z5.1 hb];kernel_rfl) (List.pairwise_singleton _ _)
theorem ov (b:Nat):validV [chainB b] idA idB=[botS,spamS]:=by
 have h:validV [chainB b] idA idB=compB (sortB [spamS,botS]):=by kernel_rfl
 rw [h]
 refine fN asc2 fun x=>?_
 simp only [ZI,Qk,or_false]
 exact or_comm
theorem EM (b:Nat):cntV [chainB b] [idA,idA] idB=[lb0,lb1]:=by
 have h1:cntFL [chainB b] idB [idA,idA] 2=([idA],(validV [chainB b] idA idB).foldl cntStep []):=by kernel_rfl
 rw [ov] at h1
 have h2:[botS,spamS].foldl cntStep []=[(botS,1),(spamS,1)]:=by kernel_rfl
 rw [h2] at h1
 have h3:sortB [botS,spamS]=[botS,spamS]:=(yG asc2.nodup).ext asc2 fun x=>mem_sortB
 have h4:cntV [chainB b] [idA,idA] idB=(sortB ((cntFL [chainB b] idB [idA,idA] 2).2.map (·.1))).map fun a=>⟨a,(mget (cntFL [chainB b] idB [idA,idA] 2).2 a).getD 0⟩:=rfl
 rw [h4,h1]
 show (sortB [botS,spamS]).map _=_
 rw [h3]
 kernel_rfl
theorem tO:Pu Tryz.prog 9 #[] Glob (.bool true):=by
 refine ak (args:=[]) _ Tryz.func9 rfl Tryz.ntmps9 rfl fun av bor w0=>?_
 repeat' (first|refine aD (cs:=lbP1.cells) (hf:=by rfl) ?_|refine aD (cs:=lbP2.cells) (hf:=by rfl) ?_|refine aD (cs:=lbP3.cells) (hf:=by rfl) ?_|(refine cA (size:=20) (vs:=[.agg lbP1.cells.toArray,.agg lbP2.cells.toArray,.agg lbP3.cells.toArray]) (css:=(lbL.map ActD.cells).flatten) (hsz:=by rfl) (hcs:=by rfl) fun bR=>?_;refine aZ ?_)|refine aD (cs:=(chainB bR).cells) (hf:=by rfl) ?_|(refine cA (size:=6) (vs:=[(chainB bR).v]) (css:=(chainB bR).cells) (hsz:=by rfl) (hcs:=by rfl) fun bC=>?_;refine aZ ?_)|(refine cQ (len:=2) (vs:=[encB idA,encB idA]) fun bK=>?_;refine aZ ?_)|refine gs ?_|refine gs1 fun _=>?_|(refine gp ?_ ?_<;>intro hx_ this)|fail)
 have ho:=sS ⟨some ⟨bC,0,none⟩,1,1⟩ [chainB bR] ⟨some ⟨bK,0,none⟩,2,2⟩ [idA,idA] idB (mem1 By) (fun c h=>by rw [Z5.1 h];show (3:Nat)≤1000;decide) (mem1 r8) (by decide)
 rw [EM] at ho
 refine bZ (hc:=ho) (hX:=fun w h=>⟨chainsB h.1.1.2 h.1.2,gY (l:=[idA,idA]) h.2 (by decide),h.1.1.1⟩) fun v4 X4 h4=>?_
 obtain ⟨s4,rfl,hs4⟩:=h4
 have hv0:=dQ ⟨none,0,0⟩ [] idA idB (fun c h=>by cases h) (fun c h=>by cases h) (fun c h=>by cases h)
 rw [show validV [] idA idB=[] from by kernel_rfl] at hv0
 have hv1:∀ b:Nat,Mk Tryz.prog 14 #[(⟨some ⟨b,0,none⟩,1,1⟩:SlV).v,.string idA,.string idB] (fun w=>Chains w ⟨some ⟨b,0,none⟩,1,1⟩ [chainB bR]∧Glob w) (StrsAt [botS,spamS]):=fun b=>by
  have h:=dQ ⟨some ⟨b,0,none⟩,1,1⟩ [chainB bR] idA idB (mem1 By) (fun c h=>by rw [Z5.1 h];show (3:Nat)≤1000000;decide) (mem1 r8)
  rw [ov] at h
  exact h
 have ho0:∀ b:Nat,Mk Tryz.prog 43 #[(⟨none,0,0⟩:SlV).v,(⟨some ⟨b,0,none⟩,1,1⟩:SlV).v,.string idB] (fun w=>Chains w ⟨none,0,0⟩ []∧Strs w ⟨some ⟨b,0,none⟩,1,1⟩ [idA]∧Glob w) (fun u X=>∃ S:SlV,u=S.v∧∀ w,X w→Cnts w S []):=fun b=>by
  have h:=sS ⟨none,0,0⟩ [] ⟨some ⟨b,0,none⟩,1,1⟩ [idA] idB (fun c h=>by cases h) (fun c h=>by cases h) (fun c h=>by cases h) (by decide)
  rw [show cntV [] [idA] idB=[] from by kernel_rfl] at h
  exact h
 have hr0:Pu Tryz.prog 44 #[(⟨none,0,0⟩:SlV).v,.string xS] (fun w=>Chains w ⟨none,0,0⟩ []) (.int .i64 0):=by
  have h:=iN ⟨none,0,0⟩ [] xS (fun c h=>by cases h)
  rw [show reportsV [] xS=0 from by kernel_rfl] at h
  exact h
 have hr1:∀ b:Nat,Pu Tryz.prog 44 #[(⟨some ⟨b,0,none⟩,2,2⟩:SlV).v,.string xS] (fun w=>Chains w ⟨some ⟨b,0,none⟩,2,2⟩ [chainB bR,chainB bR]) (.int .i64 1):=fun b=>by
  have h:=iN ⟨some ⟨b,0,none⟩,2,2⟩ [chainB bR,chainB bR] xS (fun c h=>by simp only [ZI,Qk,or_false,or_self] at h;rw [h];show 3≤1000000;decide)
  rw [show reportsV [chainB bR,chainB bR] xS=1 from by kernel_rfl] at h
  exact h
 have hr2:∀ b:Nat,Pu Tryz.prog 44 #[(⟨some ⟨b,0,none⟩,1,1⟩:SlV).v,.string ⟨#[]⟩] (fun w=>Chains w ⟨some ⟨b,0,none⟩,1,1⟩ [chainB bR]) (.int .i64 0):=fun b=>by
  have h:=iN ⟨some ⟨b,0,none⟩,1,1⟩ [chainB bR] ⟨#[]⟩ (fun c h=>by rw [Z5.1 h];show (3:Nat)≤1000000;decide)
  rw [show reportsV [chainB bR] ⟨#[]⟩=0 from by kernel_rfl] at h
  exact h
 have hs21:∀ r q:SlV,Pu Tryz.prog 17 #[r.v,q.v] (fun w=>Strs w r [botS,spamS]∧Strs w q [botS,spamS]) (.bool true):=fun r q=>by
  have h:=j6 r q [botS,spamS] [botS,spamS]
  rw [nA] at h
  exact h
 have hs34:∀ r q:SlV,Pu Tryz.prog 45 #[r.v,q.v] (fun w=>Cnts w r [lb0,lb1]∧Cnts w q [lb0,lb1]) (.bool true):=fun r q=>by
  have h:=xz r q [lb0,lb1] [lb0,lb1]
  rw [yv] at h
  exact h
 refine cH (X':=fun w=>Glob w∧(cel bR 46 (lbL.map ActD.cells).flatten).F w∧Cnts w s4 [lb0,lb1]) (fun w h=>⟨h.1.1.1.1,h.1.1.1.2,hs4 w h.2⟩) ?_
 repeat' (first|refine aH (hab:=by omega) ?_|(refine cQ (len:=1) (vs:=[encB idA]) fun bK1=>?_;refine aZ ?_)|(refine cA (size:=6) (vs:=[(chainB bR).v]) (css:=(chainB bR).cells) (hsz:=by rfl) (hcs:=by rfl) fun bD=>?_;refine aZ ?_)|(refine cQ (len:=2) (vs:=[encB botS,encB spamS]) fun bS=>?_;refine aZ ?_)|refine aD (cs:=lb0.cells) (hf:=by rfl) ?_|refine aD (cs:=lb1.cells) (hf:=by rfl) ?_|(refine cA (size:=2) (vs:=[.agg lb0.cells.toArray,.agg lb1.cells.toArray]) (css:=([lb0,lb1].map CntD.cells).flatten) (hsz:=by rfl) (hcs:=by rfl) fun bQ=>?_;refine aZ ?_)|(refine cA (size:=6) (vs:=[(chainB bR).v,(chainB bR).v]) (css:=(chainB bR).cells++(chainB bR).cells) (hsz:=by rfl) (hcs:=by rfl) fun bE=>?_;refine aZ ?_)|(refine bZ (hc:=hv0) (hX:=fun w h=>⟨chainsNil w,h.1⟩) fun v5 X5 h5=>?_;obtain ⟨s5,rfl,hs5⟩:=h5;refine fb (p:=(s5.n:Int)=0) (fun w h=>by have:=(hs5 w h.2).len_;rw [this];rfl) fun hn5=>?_)|(refine bZ (hc:=ho0 bK1) (hX:=fun w h=>⟨chainsNil w,gY (l:=[idA]) h.2 (by decide),h.1.1.1⟩) fun v6 X6 h6=>?_;obtain ⟨s6,rfl,hs6⟩:=h6;refine fb (p:=(s6.n:Int)=0) (fun w h=>by have:=(Cnts.know w (hs6 w h.2)).1;rw [this];rfl) fun hn6=>?_)|(refine ab (hc:=hr0) (hX:=fun w h=>chainsNil w) ?_)|(refine bZ (hc:=hv1 bD) (hX:=fun w h=>⟨chainsB h.1.1.1.1.2.1 h.2,h.1.1.1.1.1⟩) fun v7 X7 h7=>?_;obtain ⟨s7,rfl,hs7⟩:=h7)|(refine ab (hc:=hs21 s7 ⟨some ⟨bS,0,none⟩,2,2⟩) (hX:=fun w h=>⟨hs7 w h.1.2,gY (l:=[botS,spamS]) h.2 (by decide)⟩) ?_)|(refine ab (hc:=hs34 s4 ⟨some ⟨bQ,0,none⟩,2,2⟩) (hX:=fun w h=>⟨h.1.1.1.1.1.1.1.2.2,aN (xs:=[lb0.cells,lb1.cells]) h.2 rfl (by decide) (by intro r hr;simp only [ZI,Qk,or_false] at hr;rcases hr with rfl|rfl<;>rfl)⟩) ?_)|(refine ab (hc:=hr1 bE) (hX:=fun w h=>chainsB2 h.1.1.1.1.1.1.1.1.2.1 h.2) ?_)|(refine ab (hc:=hr2 bD) (hX:=fun w h=>chainsB h.1.1.1.1.1.1.1.1.1.2.1 h.2) ?_)|refine gs ?_|refine gs1 fun _=>?_|(refine gp ?_ ?_<;>intro hx_ this)|fail)
 apply ad;apply ag;rfl;rfl
 rfl
theorem AG {a:ActD} (hr:a.Rng) (h:rightB a=true) (ht:a.target.size≤maxLen):a.Sm:=by
 simp only [rightB,Zp] at h
 have hB:=ld hr h.2
 have h1:=hB.to.len
 have h2:=hB.wraps.len
 have h3:=hr.to_len
 have h4:=hr.wraps_len
 exact ⟨by omega,by omega,ht⟩
theorem yM {a:ActD} (h:actZ a=true):a.to.n=0∧a.wraps.n=0:=by
 simp only [actZ,Zp,Zw] at h
 omega
theorem Dn {i:ItemD} (hs:i.Str) (h:rightIt i=true):i.act.Sm:=by
 rw [rightIt,Zp] at h
 obtain ⟨h1,h2⟩:=h
 have ht:=hs.act.target
 by_cases h0:i.kind=0
 · rw [rightK2,Zd h0,Zf] at h1
   exact AG hs.rng h1 ht
 · have hz:actZ i.act=true:=by
    rw [rightK2,Zc h0,Ze] at h1
    rw [restI,Zc h0,Ze] at h2
    by_cases k1:i.kind=1
    · rw [Zd k1,Zf,sameIZ,Zp,Zp] at h2
      exact h2.2.1
    · rw [Zc k1,Ze] at h1 h2
      by_cases k2:i.kind=2
      · rw [Zd k2,Zf,sameIZ,Zp,Zp] at h2
        exact h2.2.1
      · rw [Zc k2,Ze] at h1 h2
        by_cases k3:i.kind=3
        · rw [Zd k3,Zf,sameIZ,Zp,Zp] at h2
          exact h2.2.1
        · rw [Zc k3,Ze] at h1
          cases h1
   obtain ⟨e1,e2⟩:=yM hz
   exact ⟨by omega,by omega,ht⟩
theorem yf {L:List Int} {I:List ItemD} (h:rightKn L I=true) (hl:I.length≤100) (hs:∀ i∈I,i.Str) (hd:∀ i∈I,i.dec.to.n=i.dec.toL.length):KnR L I :=
 F5 h hl (fun i hi=>(hs i hi).rng) (fun i hi=>Dn (hs i hi) (by
  have h1:=g8 h i hi
  rw [signedIt,Zp] at h1
  exact h1.1)) hd
theorem chainsOne {b:Nat} {w:World} {c:ChainD} (hc:c.at_ w) (h2:(cel b 35 c.cells).F w):Chains w ⟨some ⟨b,0,none⟩,1,1⟩ [c] :=
 ⟨aN (xs:=[c.cells]) h2 rfl (by decide) (by intro r hr;rw [Z5.1 hr];rfl),fun x h=>by rw [Z5.1 h];exact hc⟩
structure RevI (l:List ChainD) where
 k:Nat
 hk:k≤l.length
 A:Option Addr
 c:Nat
 xs:List Value
 hxs:xs=((l.reverse.take k).map ChainD.cells).flatten
end Go.Proofs.YtaolfiikahlmkaaGreatDoor
