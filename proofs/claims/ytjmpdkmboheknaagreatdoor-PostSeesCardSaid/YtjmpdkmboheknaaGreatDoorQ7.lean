/- Joined by program out of: Jp Mq Mr Jq Wo To Rn Pa St Pc Pe Dt Jr Js. -/
import Derived.Test.YtjmpdkmboheknaaGreatDoorQ6
set_option linter.unusedVariables false
set_option linter.unusedSimpArgs false
namespace Go.Proofs.YtjmpdkmboheknaaGreatDoor
open Go Go.Proofs Sy
structure ChS where
  acts : List ActD
  keys : List KeyD
  prev : ByteArray
  gen : Nat
structure OfW where
  L : List ActD
  id : ByteArray
  won : Nat → Option ClaimD
  clm : Int → ClaimD → Bool
  dgC : ClaimD → ByteArray
  ver : Int → ActD → Bool
  B : Nat
def ChS.key (st : ChS) : Int := (st.keys.getD (st.keys.length - 1) KeyD.zero).public_
def ChS.ch (st : ChS) (id : ByteArray) : ChainD := ⟨id,⟨none,st.acts.length,0⟩,⟨none,0,0⟩,st.prev,(st.gen : Int),false,st.acts⟩
def posB (n : Nat) (p : ByteArray) (a : ActD) : Bool := decide (a.seq = (n : Int)) && seqB a.prev p
def addS (st : ChS) (a : ActD) : ChS := ⟨st.acts ++ [a],bif decide (a.kind = 18) then st.keys ++ [⟨((st.acts.length + 1 : Nat) : Int),a.n,a.m⟩] else st.keys,digV a,st.gen⟩
def setI (l : List ActD) : Nat → Option Nat
  | 0 => none
  | n + 1 => bif decide ((l.getD n ActD.zero).kind = 19) then some n else setI l n
def regS (W : OfW) (st : ChS) : Option ChS := match W.won st.gen with
  | none => none
  | some c => bif decide (c.base = (st.acts.length : Int)) && seqB c.prev st.prev then (match setI st.acts st.acts.length with
    | none => none
    | some i => bif W.clm (st.acts.getD i ActD.zero).m c then some ⟨st.acts,st.keys ++ [⟨(st.acts.length : Nat),c.pub,c.home⟩],W.dgC c,st.gen + 1⟩ else none) else none
def candB (W : OfW) (st : ChS) (a : ActD) : Bool := fitsV (st.ch W.id) a (idxV st.acts a.object) && W.ver st.key a
def candL (W : OfW) (st : ChS) : List ActD := (W.L.filter (posB st.acts.length st.prev)).filter (candB W st)
def oneA : List ActD → Option ActD
  | [a] => some a
  | _ => none
def stepS (W : OfW) (st : ChS) : Option ChS := match regS W st with
  | some s => some s
  | none => (oneA (candL W st)).map (addS st)
def runS (W : OfW) : Nat → ChS → ChS
  | 0,st => st
  | n + 1,st => match stepS W st with
    | some s => runS W n s
    | none => st
def firstB (W : OfW) (a : ActD) : Bool := decide (a.kind = 0) && seqB (idV a.n) W.id && W.ver a.n a
def firstL (W : OfW) : List ActD := (W.L.filter (posB 0 ⟨#[]⟩)).filter (firstB W)
def begS (a : ActD) : ChS := addS ⟨[], [⟨0,a.n,a.m⟩],⟨#[]⟩,0⟩ a
def finS (W : OfW) (a : ActD) : ChS := runS W (W.L.length + W.B) (begS a)
structure InvS (W : OfW) (st : ChS) : Prop where
  seq : ∀ i,i < st.acts.length → ∃ a ∈ W.L,a.seq = (i : Int)
  mem : ∀ a ∈ st.acts,a ∈ W.L
  one : 0 < st.acts.length
  key : 0 < st.keys.length
  keyn : st.keys.length ≤ st.acts.length + st.gen + 1
  gen : st.gen ≤ W.B
theorem nodup_sub : ∀ {n : Nat} {l : List Int},(∀ i,i < n → (i : Int) ∈ l) → n ≤ l.length
  | 0,l,_ => Nat.zero_le _
  | n + 1,l,h => by
    have ih := nodup_sub (n:=n) (l:=l.erase (n : Int)) fun i hi => (List.mem_erase_of_ne (by omega)).2 (h i (by omega))
    have hm := h n (Nat.lt_succ_self n)
    rw [List.length_erase_of_mem hm] at ih
    have : 0 < l.length := List.length_pos_of_mem hm
    omega
theorem InvS.len {W : OfW} {st : ChS} (h : InvS W st) : st.acts.length ≤ W.L.length := by
  have := nodup_sub (n:=st.acts.length) (l:=W.L.map ActD.seq) fun i hi => by
    obtain ⟨a,ha,e⟩ := h.seq i hi
    exact List.mem_map.2 ⟨a,ha,e⟩
  simpa using this
def muS (W : OfW) (st : ChS) : Nat := (W.L.length - st.acts.length) + (W.B - st.gen)
theorem oneA_some {l : List ActD} {a : ActD} (h : oneA l = some a) : l = [a] := by
  cases l with
  | nil => cases h
  | cons x r =>
    cases r with
    | nil => rw [oneA,Option.some.injEq] at h;rw [h]
    | cons y r => cases h
theorem regS_some {W : OfW} {st s : ChS} (h : regS W st = some s) : ∃ c,W.won st.gen = some c ∧ s.acts = st.acts ∧ s.gen = st.gen + 1 ∧ s.keys.length = st.keys.length + 1 := by
  rw [regS] at h
  cases hw : W.won st.gen with
  | none => rw [hw] at h;cases h
  | some c =>
    rw [hw] at h
    simp only at h
    cases hb : decide (c.base = (st.acts.length : Int)) && seqB c.prev st.prev with
    | false => rw [hb] at h;cases h
    | true =>
      rw [hb] at h
      cases hs : setI st.acts st.acts.length with
      | none => rw [hs] at h;cases h
      | some i =>
        rw [hs] at h
        simp only [cond_true] at h
        cases hc : W.clm (st.acts.getD i ActD.zero).m c with
        | false => rw [hc] at h;cases h
        | true =>
          rw [hc,cond_true,Option.some.injEq] at h
          subst h
          exact ⟨c,rfl,rfl,rfl,by simp⟩
theorem cand_mem {W : OfW} {st : ChS} {a : ActD} (h : a ∈ candL W st) : a ∈ W.L ∧ a.seq = (st.acts.length : Int) ∧ candB W st a = true := by
  rw [candL,List.mem_filter,List.mem_filter] at h
  have h2 := h.1.2
  simp only [posB,Bool.and_eq_true,decide_eq_true_eq] at h2
  exact ⟨h.1.1,h2.1,h.2⟩
theorem addS_keys (st : ChS) (a : ActD) : st.keys.length ≤ (addS st a).keys.length ∧ (addS st a).keys.length ≤ st.keys.length + 1 := by
  simp only [addS]
  cases decide (a.kind = 18) with
  | true => simp
  | false => simp
theorem step_inv {W : OfW} (hB : ∀ g c,W.won g = some c → g < W.B) {st s : ChS} (h : InvS W st) (hs : stepS W st = some s) : InvS W s ∧ muS W s + 1 ≤ muS W st := by
  have hl := h.len
  rw [stepS] at hs
  cases hr : regS W st with
  | some s' =>
    rw [hr,Option.some.injEq] at hs
    subst hs
    obtain ⟨c,h1,h2,h3,h4⟩ := regS_some hr
    have := hB _ _ h1
    refine ⟨⟨by rw [h2];exact h.seq,by rw [h2];exact h.mem,by rw [h2];exact h.one,by omega,by rw [h2,h3];have := h.keyn;omega,by omega⟩, ?_⟩
    simp only [muS,h2,h3]
    omega
  | none =>
    rw [hr] at hs
    cases ho : oneA (candL W st) with
    | none => rw [ho] at hs;cases hs
    | some a =>
      rw [ho,Option.map_some,Option.some.injEq] at hs
      subst hs
      have ha : a ∈ candL W st := by rw [oneA_some ho];exact List.mem_singleton.2 rfl
      obtain ⟨m1,m2,m3⟩ := cand_mem ha
      have hk := addS_keys st a
      have hal : (addS st a).acts.length = st.acts.length + 1 := by simp [addS]
      have hI : InvS W (addS st a) := ⟨fun i hi => by
          rw [hal] at hi
          by_cases e : i = st.acts.length
          · subst e;exact ⟨a,m1,m2⟩
          · exact h.seq i (by omega),fun x hx => by
          rcases List.mem_append.1 (show x ∈ st.acts ++ [a] from hx) with hx | hx
          · exact h.mem x hx
          · rw [List.mem_singleton.1 hx];exact m1,by omega,by have := h.key;omega,by rw [hal];have := h.keyn;show _ ≤ _ + st.gen + 1;omega,h.gen⟩
      refine ⟨hI, ?_⟩
      have := hI.len
      simp only [muS,hal] at *
      show _ + (W.B - st.gen) + 1 ≤ _
      omega
theorem run_stop {W : OfW} {st : ChS} (h : stepS W st = none) : ∀ n,runS W n st = st
  | 0 => rfl
  | n + 1 => by rw [runS,h]
theorem run_step {W : OfW} {st s : ChS} (h : stepS W st = some s) {n : Nat} : runS W (n + 1) st = runS W n s := by rw [runS,h]
theorem beg_inv {W : OfW} {a : ActD} (ha : a ∈ firstL W) : InvS W (begS a) ∧ muS W (begS a) + 1 ≤ W.L.length + W.B := by
  rw [firstL,List.mem_filter,List.mem_filter] at ha
  have h2 := ha.1.2
  simp only [posB,Bool.and_eq_true,decide_eq_true_eq] at h2
  have h3 := ha.2
  simp only [firstB,Bool.and_eq_true,decide_eq_true_eq] at h3
  have hk : begS a = ⟨[a], [⟨0,a.n,a.m⟩],digV a,0⟩ := by
    rw [begS,addS,h3.1.1]
    rfl
  have hL : 0 < W.L.length := List.length_pos_of_mem ha.1.1
  rw [hk]
  refine ⟨⟨fun i hi => ⟨a,ha.1.1,by rw [h2.1,show i = 0 from by simpa using hi]⟩,fun x hx => by rw [List.mem_singleton.1 hx];exact ha.1.1,by simp,by simp,by simp,Nat.zero_le _⟩, ?_⟩
  simp only [muS,List.length_singleton]
  omega
end Go.Proofs.YtjmpdkmboheknaaGreatDoor

namespace Go.Proofs.YtjmpdkmboheknaaGreatDoor.Sy
open Go Go.RowKit Go.MapKept

class KeyS (P : Program) (kt : TypeId) (κ : Type) [DecidableEq κ] where
  enc : κ → Value
  inj : ∀ a b,enc a = enc b → a = b
  check : ∀ (w : World) e a,(Instr.checkKey e 10000 kt (enc a)).run P w = .ok () w
  eq : ∀ (w : World) a b,(Op.equal kt (enc a) (enc b)).run P w = .ok (decide (a = b)) w
  ask : ∀ d a b,P.underlying kt = some d → Instr.sameNow d (enc a) (enc b) = none
  stay : ∀ (w : World) a,(Instr.keyThatStays (enc a) (enc a)).run P w = .ok (enc a) w
section
variable {κ : Type} [DecidableEq κ] {β : Type}
def dget : List (κ × β) → κ → Option β
  | [],_ => none
  | (k',v') :: r,k => bif decide (k = k') then some v' else dget r k
def dput : List (κ × β) → κ → β → List (κ × β)
  | [],k,v => [(k,v)]
  | (k',v') :: r,k,v => bif decide (k = k') then (k,v) :: r else (k',v') :: dput r k v
theorem dget_dput : ∀ (b : List (κ × β)) (k a : κ) (v : β),dget (dput b k v) a = bif decide (a = k) then some v else dget b a
  | [],k,a,v => rfl
  | (k',v') :: r,k,a,v => by
    have ih := dget_dput r k a v
    simp only [dput]
    by_cases hk : k = k'
    · subst hk
      simp only [decide_true,cond_true,dget]
      cases decide (a = k) <;> rfl
    · simp only [hk,decide_false,cond_false,dget,ih]
      by_cases ha : a = k'
      · subst ha
        have : ¬ a = k := fun e => hk e.symm
        simp [this]
      · simp [ha]
theorem dget_mem : ∀ {b : List (κ × β)} {k : κ} {v : β},dget b k = some v → (k,v) ∈ b
  | (k',v') :: r,k,v,h => by
    simp only [dget] at h
    by_cases hk : k = k'
    · simp only [hk,decide_true,cond_true,Option.some.injEq] at h
      rw [hk,h]
      exact List.mem_cons_self
    · simp only [hk,decide_false,cond_false] at h
      exact List.mem_cons_of_mem _ (dget_mem h)
end
section
variable {P : Program} {kt : TypeId} {κ : Type} [DecidableEq κ] [K : KeyS P kt κ]
def SMapAt (P : Program) (kt : TypeId) {κ : Type} [DecidableEq κ] [K : KeyS P kt κ] (w : World) (g : Nat) (l : List (κ × Value)) : Prop :=
  ∃ es clock,w.heap[g]? = some (.map es clock) ∧ Stamped es clock ∧ es.toList.map (fun e => (e.key,e.val)) = l.map fun p => (K.enc p.1,p.2)
def smapr (P : Program) (kt : TypeId) {κ : Type} [DecidableEq κ] [K : KeyS P kt κ] (g : Nat) (l : List (κ × Value)) : Res := ⟨[g],fun w => SMapAt P kt w g l⟩
theorem find_encS (w : World) (k : κ) : ∀ (es : List MapEntry) (l : List (κ × Value)) (i : Nat),es.map (fun e => (e.key,e.val)) = l.map (fun p => (K.enc p.1,p.2)) →
    ((Instr.findAsking kt (K.enc k) es i).run P w = .ok none w ∧ dget l k = none ∧ (∀ v,dput l k v = l ++ [(k,v)]) ∧ ∀ x ∈ es,x.key ≠ K.enc k) ∨
    ∃ j e v0,(Instr.findAsking kt (K.enc k) es i).run P w = .ok (some (i + j,v0)) w ∧ es[j]? = some e ∧ e.key = K.enc k ∧ dget l k = some v0 ∧ ∀ v,dput l k v = l.set j (k,v)
  | [],l,i,h => by
    have : l = [] := by cases l <;> simp_all
    subst this
    exact .inl ⟨rfl,rfl,fun _ => rfl,by simp⟩
  | e :: es, [],i,h => by simp at h
  | e :: es,(k',v') :: l,i,h => by
    simp only [List.map_cons,List.cons.injEq,Prod.mk.injEq] at h
    obtain ⟨⟨h1,h2⟩,h3⟩ := h
    have hs : (Op.equal kt (K.enc k) e.key).run P w = .ok (decide (k = k')) w := by rw [h1];exact K.eq w k k'
    by_cases hb : k = k'
    · subst hb
      exact .inr ⟨0,e,v',by simp [Instr.findAsking,hs,h2,Result.andThen],rfl,h1,by simp [dget],fun v => by simp [dput]⟩
    · have hne : e.key ≠ K.enc k := fun q => hb (K.inj _ _ (q.symm.trans h1))
      rcases find_encS w k es l (i + 1) h3 with ⟨g1,g2,g3,g4⟩ | ⟨j,e',v0,g1,g2,g3,g4,g5⟩
      · exact .inl ⟨by simp [Instr.findAsking,hs,hb,g1,Result.andThen],by simp [dget,hb,g2],fun v => by simp [dput,hb,g3],fun x hx => by
          cases hx with
          | head => exact hne
          | tail _ hx => exact g4 x hx⟩
      · exact .inr ⟨j + 1,e',v0,by simp [Instr.findAsking,hs,hb,g1,Result.andThen];omega,by simpa using g2,g3,by simp [dget,hb,g4],fun v => by simp [dput,hb,g5]⟩
theorem run_findKeyS {w : World} {d : TypeDesc} (hd : P.underlying kt = some d) (k : κ) {es : List MapEntry} {l : List (κ × Value)} (h : es.map (fun e => (e.key,e.val)) = l.map (fun p => (K.enc p.1,p.2))) :
    (Instr.findKey kt (K.enc k) es).run P w = (Instr.findAsking kt (K.enc k) es 0).run P w := by
  cases es with
  | nil => simp [Instr.findKey,run_underlying hd,Result.andThen,Instr.findNow,Instr.findAsking]
  | cons e es =>
    cases l with
    | nil => simp at h
    | cons p l =>
      simp only [List.map_cons,List.cons.injEq,Prod.mk.injEq] at h
      have hs : Instr.sameNow d (K.enc k) e.key = none := by rw [h.1.1];exact K.ask d k p.1 hd
      simp [Instr.findKey,run_underlying hd,Result.andThen,Instr.findNow,hs]
def smapOf (P : Program) (t : TypeId) : Option (TypeId × TypeId) :=
  match P.underlying t with
  | some (.map kt et) => (P.underlying kt).map fun _ => (kt,et)
  | _ => none
class TySMap (P : Program) (t : TypeId) (kt et : outParam Nat) : Prop where out : smapOf P t = some (kt,et)
theorem smapOf_spec {t kt et : TypeId} (h : smapOf P t = some (kt,et)) : P.underlying t = some (.map kt et) ∧ ∃ d,P.underlying kt = some d := by
  unfold smapOf at h
  split at h
  · rename_i kt et' he
    cases hk : P.underlying kt with
    | none => simp [hk] at h
    | some d' =>
      simp [hk] at h
      obtain ⟨rfl,rfl⟩ := h
      exact ⟨he,_,hk⟩
  · cases h
theorem run_lookupS {w : World} {t et : TypeId} {z : Value} (ht : smapOf P t = some (kt,et)) (hz : zeroOf P et = some z) {g : Nat} {l : List (κ × Value)} (h : SMapAt P kt w g l) (k : κ) :
    (Instr.lookup t (.map (some g)) (K.enc k) false).run P w = .ok ((dget l k).getD z) w := by
  obtain ⟨h1,d,h2⟩ := smapOf_spec ht
  obtain ⟨es,clock,hb,hs,hl⟩ := h
  have hzr : (zeroValue et).run P w = .ok z w := run_zero hz w
  have hf := run_findKeyS (w:=w) h2 k hl
  have hc := K.check w es.isEmpty k
  rcases find_encS w k es.toList l 0 hl with ⟨g1,g2,g3,g4⟩ | ⟨j,e,v0,g1,g2,g3,g4,g5⟩
  · rw [g1] at hf
    simp [Instr.lookup,run_underlying h1,MapKept.run_getObj_map hb,hc,hf,hzr,g2,Result.andThen]
  · rw [g1] at hf
    simp [Instr.lookup,run_underlying h1,MapKept.run_getObj_map hb,hc,hf,g4,Result.andThen]
end
section
variable {P : Program} {N : Nat} {av bor : List Nat} {w0 : World} {ops : Array Oper} {rest : List Oper} {k : St → Prop} {E : Env} {loc loc' : List Res} {X : World → Prop}
variable {d : Option Tmp} {ty : TypeId} {pos : String} {af : Array Edge} {g : Option (Nat × Bool)} {bb want : Bool}
theorem sw_makeMapS (κ : Type) (kt : TypeId) [DecidableEq κ] [KS : KeyS P kt κ] {n : Nat} {t : TypeId} (hg : gdB ops E g = some (bb,want) := by rfl) (hb : bb = want := by (first | with_reducible rfl | with_reducible assumption | with_reducible exact Bool.not_false | with_reducible exact Bool.not_true)) (hd : Nat.blt n N = true := by rfl)
    (h : ∀ q,Sw P N av bor w0 ops rest ⟨(n,.map (some q)) :: E,smapr P kt q ([] : List (κ × Value)) :: loc,X⟩ k) : Sw P N av bor w0 ops (⟨some n,.makeMap t none,ty,pos,af,g⟩ :: rest) ⟨E,loc,X⟩ k := Sw.mk fun a w ok => by
  have hd' : inB N (some n) = true := by have h1 : n < N := Nat.le_of_ble_eq_true hd;simpa [inB] using h1
  simp only [wpList]
  rw [wanted_of ok (o:=⟨some n,.makeMap t none,ty,pos,af,g⟩) hg]
  subst hb
  simp only [beq_self_eq_true,if_true]
  left
  unfold Oper.wp
  have hr : (execOp a.eval ⟨some n,.makeMap t none,ty,pos,af,g⟩).run P w = .ok (.value (.map (some w.heap.size))) (w.alloc (.map #[] 0)) := by
    have : (newObj (.map #[] 0)).run P w = .ok w.heap.size (w.alloc (.map #[] 0)) := rfl
    simp [execOp,Instr.makeMap,this]
  rw [hr]
  have ok' : Ok N av bor w0 ⟨E,smapr P kt w.heap.size ([] : List (κ × Value)) :: loc,X⟩ a (w.alloc (.map #[] 0)) := (ok.via fun M G => G.new (.map #[] 0) (fun w2 => SMapAt P kt w2 w.heap.size ([] : List (κ × Value))) fun w2 h => ⟨#[],0,h,stamped_empty 0,rfl⟩)
  exact (h _).run _ _ (put_eq (some n) _ ▸ ok'.put hd' _)
theorem y_lookupS {κ : Type} {kt : TypeId} [DecidableEq κ] [KS : KeyS P kt κ] {st : St} {t et : Nat} [ht : TySMap P t kt et] {z : Value} [hz : TyZero P et z] {m x : Operand} {q : Nat} {l : List (κ × Value)} {kk : κ} {o : Option Value} {v : Value} (hm : ev st.env m = some (.map (some q))) (hx : ev st.env x = some (KS.enc kk))
    (hl : ∀ w,Gam av bor w0 st.loc st.ext w → SMapAt P kt w q l) (ho : dget l kk = o) (hv : o.getD z = v) : Sy.Yields P N av bor w0 st (.lookup t m x false) ty v := Sy.Yields.mk fun A w ok d pos af g => by
  have := run_lookupS (P:=P) (t:=t) ht.out hz.out (hl w ok.gam) kk
  subst ho
  subst hv
  simp [execOp,ok.eval hm,ok.eval hx,this]
theorem smap_ext {κ : Type} {kt : TypeId} [DecidableEq κ] [KS : KeyS P kt κ] {q : Nat} {l : List (κ × Value)} (hm : ∀ w,X w → SMapAt P kt w q l) : ∀ w,Gam av bor w0 loc X w → SMapAt P kt w q l := fun w G => hm w G.keep.now
end
end Go.Proofs.YtjmpdkmboheknaaGreatDoor.Sy

namespace Go.Proofs.YtjmpdkmboheknaaGreatDoor.Sy
open Go Go.RowKit Go.MapKept
section
variable {κ : Type} [DecidableEq κ] {β : Type}
theorem dput_dput : ∀ (l : List (κ × β)) (k : κ) (u v : β),dput (dput l k u) k v = dput l k v
  | [],k,u,v => by simp [dput]
  | (k',v') :: r,k,u,v => by
    by_cases h : k = k'
    · subst h;simp [dput]
    · simp [dput,h,dput_dput r k u v]
theorem dput_dget : ∀ (l : List (κ × β)) (k : κ) (v : β),dget l k = some v → dput l k v = l
  | [],k,v,h => by cases h
  | (k',v') :: r,k,v,h => by
    by_cases e : k = k'
    · subst e
      simp only [dget,decide_true,cond_true,Option.some.injEq] at h
      simp [dput,h]
    · simp only [dget,e,decide_false,cond_false] at h
      simp [dput,e,dput_dget r k v h]
end
section
variable {P : Program} {kt : TypeId} {κ : Type} [DecidableEq κ] [K : KeyS P kt κ]
def SMapE (P : Program) (kt : TypeId) {κ : Type} [DecidableEq κ] [K : KeyS P kt κ] (w : World) (g : Nat) (l : List (κ × Value)) (k : κ) (b : Nat) : Prop :=
  ∃ es clock j e,w.heap[g]? = some (.map es clock) ∧ Stamped es clock ∧ es.toList.map (fun e => (e.key,e.val)) = l.map (fun p => (K.enc p.1,p.2)) ∧ es[j]? = some e ∧ e.key = K.enc k ∧ e.born = b ∧ ∀ v,dput l k v = l.set j (k,v)
def smape (P : Program) (kt : TypeId) {κ : Type} [DecidableEq κ] [K : KeyS P kt κ] (g : Nat) (l : List (κ × Value)) (k : κ) (b : Nat) : Res := ⟨[g],fun w => SMapE P kt w g l k b⟩
theorem run_mapEntryS {w : World} {t et : TypeId} {z : Value} (ht : smapOf P t = some (kt,et)) (hz : zeroOf P et = some z) {g : Nat} {l : List (κ × Value)} (h : SMapAt P kt w g l) (k : κ) :
    ∃ o b,(Instr.mapEntry t (.map (some g)) (K.enc k)).run P w = .ok (.tuple #[(dget l k).getD z,.int .i64 (b : Nat)]) { w with heap := w.heap.setIfInBounds g o } ∧ ∀ w' : World,w'.heap[g]? = some o → SMapE P kt w' g (dput l k ((dget l k).getD z)) k b := by
  obtain ⟨h1,d,h2⟩ := smapOf_spec ht
  obtain ⟨es,clock,hb,hs,hl⟩ := h
  have hf := run_findKeyS (w:=w) h2 k hl
  have hc := K.check w false k
  have hzr : (zeroValue et).run P w = .ok z w := run_zero hz w
  have hlen : es.size = l.length := by simpa using congrArg List.length hl
  rcases find_encS w k es.toList l 0 hl with ⟨g1,g2,g3,g4⟩ | ⟨j,e,v0,g1,g2,g3,g4,g5⟩
  · rw [g1] at hf
    refine ⟨.map (es.push { key := K.enc k,val := z,born := clock }) (clock + 1),clock, ?_,fun w' hw => ⟨_,_,es.size, { key := K.enc k,val := z,born := clock },hw,stamped_push hs g4, ?_,by simp,rfl,rfl,fun v => ?_⟩⟩
    · simp [Instr.mapEntry,run_underlying h1,MapKept.run_getObj_map hb,hc,hf,hzr,g2,MapKept.run_setObj_map _ hb,Result.andThen,goInt]
    · rw [g2,Option.getD_none,g3]
      simp [hl]
    · rw [g2,Option.getD_none,dput_dput,g3,g3,hlen]
      simp
  · have hj : es[j]? = some e := by simpa using g2
    have hst := K.stay w k
    rw [g1] at hf
    refine ⟨.map (es.modify j fun e => { e with key := K.enc k }) clock,e.born, ?_,fun w' hw => ⟨_,_,j, { e with key := K.enc k },hw,stamped_modify hs _ _ (fun _ _ => rfl) (fun e' _ he' => by rw [hj] at he';cases he';exact g3.symm), ?_,by simp [Array.getElem?_modify,hj],rfl,rfl,fun v => ?_⟩⟩
    · simp [Instr.mapEntry,run_underlying h1,MapKept.run_getObj_map hb,hc,hf,hj,g3,g4,hst,MapKept.run_setObj_map _ hb,Result.andThen,goInt]
    · rw [g4,Option.getD_some,dput_dget l k v0 g4, ← hl]
      apply List.ext_getElem?
      intro q
      simp only [List.getElem?_map,Array.getElem?_toList,Array.getElem?_modify]
      by_cases e1 : j = q
      · subst e1
        simp [hj,g3]
      · simp [e1]
    · rw [g4,Option.getD_some,dput_dget l k v0 g4]
      exact g5 v
theorem run_entryStoreS {w : World} {t : TypeId} {g : Nat} {l : List (κ × Value)} {k : κ} {b : Nat} (h : SMapE P kt w g l k b) (v : Value) :
    ∃ o,(Instr.entryStore t (.map (some g)) (.int .i64 (b : Nat)) v).run P w = .ok () { w with heap := w.heap.setIfInBounds g o } ∧ ∀ w' : World,w'.heap[g]? = some o → SMapAt P kt w' g (dput l k v) := by
  obtain ⟨es,clock,j,e,hb,hs,hl,hj,hk,hbn,hset⟩ := h
  have hjl : j < es.size := (Array.getElem?_eq_some_iff.1 hj).1
  have hje : es[j] = e := (Array.getElem?_eq_some_iff.1 hj).2
  have hlen : es.size = l.length := by simpa using congrArg List.length hl
  have hfi : es.findIdx? (fun e => (e.born : Int) == (b : Int)) = some j := by
    rw [Array.findIdx?_eq_some_iff_getElem]
    refine ⟨hjl,by rw [hje,hbn];simp,fun q hq hp => ?_⟩
    have hnd := ((stamped_iff es clock).1 hs).2.1
    have hq' : es[q].born = e.born := by rw [hbn];have := beq_iff_eq.1 hp;omega
    have h1 : (es.toList.map (·.born))[q]? = some e.born := by simp [List.getElem?_map,Array.getElem?_toList,Array.getElem?_eq_getElem (show q < es.size by omega),hq']
    have h2 : (es.toList.map (·.born))[j]? = some e.born := by simp [List.getElem?_map,Array.getElem?_toList,hj]
    have := (List.getElem?_inj (by simp;omega) hnd).1 (h1.trans h2.symm)
    omega
  refine ⟨.map (es.modify j fun e => { e with val := v }) clock, ?_,fun w' hw => ⟨_,_,hw,stamped_modify hs _ _ (fun _ _ => rfl) (fun e' _ he' => rfl), ?_⟩⟩
  · have ha : (asIntOf (Value.int IntKind.i64 (b : Nat))).run P w = .ok (.i64,((b : Nat) : Int)) w := rfl
    simp [Instr.entryStore,MapKept.run_getObj_map hb,asInt,ha,hfi,MapKept.run_setObj_map _ hb,Result.andThen]
  · rw [hset]
    apply List.ext_getElem?
    intro q
    have hq := congrArg (fun l => l[q]?) hl
    simp only [List.getElem?_map,Array.getElem?_toList] at hq
    simp only [List.getElem?_map,Array.getElem?_toList,Array.getElem?_modify,List.getElem?_set]
    by_cases e1 : j = q
    · subst e1
      simp [hj,show j < l.length by omega,hk]
    · simp [e1,hq]
end
section
variable {P : Program} {N : Nat} {av bor : List Nat} {w0 : World} {ops : Array Oper} {rest : List Oper} {k : St → Prop} {E : Env} {loc loc' : List Res} {X : World → Prop}
variable {d : Option Tmp} {ty : TypeId} {pos : String} {af : Array Edge} {g : Option (Nat × Bool)} {bb want : Bool}
theorem sw_mapEntryS {lo : Nat → List Res} {κ : Type} {kt : TypeId} [DecidableEq κ] [KS : KeyS P kt κ] {n : Nat} {t et : Nat} [ht : TySMap P t kt et] {z : Value} [hz : TyZero P et z] {m x : Operand} {q : Nat} {l : List (κ × Value)} {kk : κ} {o : Option Value} {u : Value} (hm : ev E m = some (.map (some q)) := by rfl) (hx : ev E x = some (KS.enc kk) := by rfl) (ho : dget l kk = o) (hu : o.getD z = u := by rfl)
    (hA : ∀ b,At (smapr P kt q l) (smape P kt q (dput l kk u) kk b) loc (lo b)) (hg : gdB ops E g = some (bb,want) := by rfl) (hb : bb = want := by (first | with_reducible rfl | with_reducible assumption | with_reducible exact Bool.not_false | with_reducible exact Bool.not_true)) (hd : Nat.blt n N = true := by rfl)
    (h : ∀ b : Nat,Sw P N av bor w0 ops rest ⟨(n,.tuple #[u,.int .i64 (b : Nat)]) :: E,lo b,X⟩ k) : Sw P N av bor w0 ops (⟨some n,.mapEntry t m x,ty,pos,af,g⟩ :: rest) ⟨E,loc,X⟩ k := Sw.mk fun a w ok => by
  have hd' : inB N (some n) = true := by have h1 : n < N := Nat.le_of_ble_eq_true hd;simpa [inB] using h1
  subst ho
  subst hu
  simp only [wpList]
  rw [wanted_of ok (o:=⟨some n,.mapEntry t m x,ty,pos,af,g⟩) hg]
  subst hb
  simp only [beq_self_eq_true,if_true]
  left
  unfold Oper.wp
  have hmp : SMapAt P kt w q l := (ok.gam.here _ (hA 0).mem).now
  obtain ⟨o,b,hr,ho⟩ := run_mapEntryS ht.out hz.out hmp kk
  obtain ⟨es,c,hbk,_⟩ := hmp
  have hs := heap_set (o':=o) hbk
  have ok' : Ok N av bor w0 ⟨E,lo b,X⟩ a { w with heap := w.heap.setIfInBounds q o } := ok.via fun M G => G.turn ((hA b).app M) rfl rfl rfl (by simp) (fun i hi => hs.2 i hi) fun w2 h2 => ho w2 (h2.trans hs.1)
  have hr' : (execOp a.eval ⟨some n,.mapEntry t m x,ty,pos,af,g⟩).run P w = .ok (.value (.tuple #[(dget l kk).getD z,.int .i64 (b : Nat)])) { w with heap := w.heap.setIfInBounds q o } := by
    simp [execOp,ok.eval (st:=⟨E,loc,X⟩) hm,ok.eval (st:=⟨E,loc,X⟩) hx,hr]
  rw [hr']
  exact (h b).run _ _ (put_eq (some n) _ ▸ ok'.put hd' _)
theorem sw_entryStoreS {κ : Type} {kt : TypeId} [DecidableEq κ] [KS : KeyS P kt κ] {t : Nat} {m x y : Operand} {q : Nat} {l : List (κ × Value)} {kk : κ} {b : Nat} {v : Value} (hm : ev E m = some (.map (some q)) := by rfl) (hx : ev E x = some (.int .i64 (b : Nat)) := by rfl) (hy : ev E y = some v := by rfl)
    (hA : At (smape P kt q l kk b) (smapr P kt q (dput l kk v)) loc loc' := by (repeat (first | exact At.here _ | apply At.there))) (hg : gdB ops E g = some (bb,want) := by rfl) (hb : bb = want := by (first | with_reducible rfl | with_reducible assumption | with_reducible exact Bool.not_false | with_reducible exact Bool.not_true)) (hd : inB N d = true := by rfl)
    (h : Sw P N av bor w0 ops rest ⟨putE E d undef,loc',X⟩ k) : Sw P N av bor w0 ops (⟨d,.entryStore t m x y,ty,pos,af,g⟩ :: rest) ⟨E,loc,X⟩ k := Sw.mk fun a w ok => by
  simp only [wpList]
  rw [wanted_of ok (o:=⟨d,.entryStore t m x y,ty,pos,af,g⟩) hg]
  subst hb
  simp only [beq_self_eq_true,if_true]
  left
  unfold Oper.wp
  have hmp : SMapE P kt w q l kk b := (ok.gam.here _ hA.mem).now
  obtain ⟨o,hr,ho⟩ := run_entryStoreS (t:=t) hmp v
  obtain ⟨es,c,j,e,hbk,_⟩ := hmp
  have hs := heap_set (o':=o) hbk
  have ok' : Ok N av bor w0 ⟨E,loc',X⟩ a { w with heap := w.heap.setIfInBounds q o } := ok.via fun M G => G.turn (hA.app M) rfl rfl rfl (by simp) (fun i hi => hs.2 i hi) fun w2 h2 => ho w2 (h2.trans hs.1)
  have hr' : (execOp a.eval ⟨d,.entryStore t m x y,ty,pos,af,g⟩).run P w = .ok .skip { w with heap := w.heap.setIfInBounds q o } := by
    simp [execOp,ok.eval (st:=⟨E,loc,X⟩) hm,ok.eval (st:=⟨E,loc,X⟩) hx,ok.eval (st:=⟨E,loc,X⟩) hy,hr]
  rw [hr']
  exact h.run _ _ (put_eq d _ ▸ ok'.put hd _)
end
end Go.Proofs.YtjmpdkmboheknaaGreatDoor.Sy

namespace Go.Proofs.YtjmpdkmboheknaaGreatDoor
open Go Go.Proofs Sy
abbrev PosK := Int × ByteArray
def posV (k : PosK) : Value := .agg #[.int .i64 k.1,.string k.2]
theorem run_partS' (w : World) {cs : Array Value} {off : Nat} {v : Value} (h : cs[off]? = some v) : (part 9 cs off).run Tryz.prog w = .ok v w := by
  simp [part,isAgg,run_underlying Tryz.underlying9,h]
theorem eqS_run' (w : World) (d : Nat) (a b : ByteArray) : (Op.equalIn (d + 1) 9 (.string a) (.string b)).run Tryz.prog w = .ok (seqB a b) w := by
  rw [run_equalIn_string w d _ a b Tryz.underlying9]
  rfl
theorem run_eqPos (w : World) (d : Nat) (a b : PosK) : (Op.equalIn (d + 2) 149 (posV a) (posV b)).run Tryz.prog w = .ok (decide (a = b)) w := by
  have p0 : ∀ x : PosK,(part 3 #[.int .i64 x.1,.string x.2] 0).run Tryz.prog w = .ok (.int .i64 x.1) w := fun x => run_partI' w rfl
  have p1 : ∀ x : PosK,(part 9 #[.int .i64 x.1,.string x.2] 1).run Tryz.prog w = .ok (.string x.2) w := fun x => run_partS' w rfl
  unfold posV
  rw [run_equalIn_agg _ _ _ _ _ (by kernel_rfl) (by kernel_rfl)]
  simp only [Program.fieldsOf,Tryz.underlying149]
  simp [Op.eqFields,p0,p1,eqI_run',eqS_run']
  obtain ⟨a1,a2⟩ := a
  obtain ⟨b1,b2⟩ := b
  by_cases h1 : a1 = b1 <;> cases h2 : seqB a2 b2 <;> simp [h1,h2]
  · exact fun e => by rw [e,seqB_self] at h2;cases h2
  · exact seqB_iff.1 h2
instance posK : KeyS Tryz.prog 149 PosK where
  enc := posV
  inj := by
    rintro ⟨a,b⟩ ⟨c,d⟩ h
    simp [posV] at h
    simp [h]
  check := by
    intro w e a
    have c0 : (Instr.checkKey e 9999 3 (.int .i64 a.1)).run Tryz.prog w = .ok () w := MapKept.run_checkKey (k:=.int .i64 a.1) Tryz.underlying3 (show IntKind.i64 = IntKind.i64 from rfl) e 9998
    have c1 : (Instr.checkKey e 9999 9 (.string a.2)).run Tryz.prog w = .ok () w := MapKept.run_checkKey (k:=.string a.2) Tryz.underlying9 (show True from trivial) e 9998
    have p0 : (part 3 #[.int .i64 a.1,.string a.2] 0).run Tryz.prog w = .ok (.int .i64 a.1) w := run_partI' w rfl
    have p1 : (part 9 #[.int .i64 a.1,.string a.2] 1).run Tryz.prog w = .ok (.string a.2) w := run_partS' w rfl
    unfold posV Instr.checkKey
    simp [run_underlying Tryz.underlying149,Result.andThen,p0,p1,c0,c1]
  eq := by
    intro w a b
    exact run_eqPos w 9998 a b
  ask := by
    intro d a b h
    rw [Tryz.underlying149] at h
    cases h
    rfl
  stay := by
    intro w a
    have hb : Instr.sameBits (9999 + 1) (posV a) (posV a) = true := by simp [posV,Instr.sameBits,MapKept.bytes_beq]
    show (Instr.keyThatStays (posV a) (posV a)).run Tryz.prog w = .ok (posV a) w
    simp [Instr.keyThatStays,hb]
instance : TySMap Tryz.prog 144 149 36 := ⟨by kernel_rfl⟩
end Go.Proofs.YtjmpdkmboheknaaGreatDoor

namespace Go.Proofs.YtjmpdkmboheknaaGreatDoor
open Go Go.Proofs Sy
namespace Sy
section
variable {P : Program} {N : Nat} {av bor : List Nat} {w0 : World} {ops : Array Oper} {rest : List Oper} {E : Env} {loc : List Res} {X : World → Prop} {k : St → Prop}
theorem orow_of_cell {w : World} {b e size m : Nat} {cs : List Value} (h : w.heap[b]? = some (.cells cs.toArray e (0,0))) (hl : cs.length = m * size) (hm : m ≤ maxLen) : ORow w e size (.slice (some ⟨b,0,none⟩) m m) m cs :=
  ⟨hl,.inr ⟨b,m,cs.toArray,(0,0),rfl,h,Nat.le_refl _,hm,by simpa using hl,by rw [← hl];simp,.inl rfl⟩⟩
theorem Gam.orow {w : World} {b e size m : Nat} {cs : List Value} (hl : cs.length = m * size) (hm : m ≤ maxLen) (G : Gam av bor w0 (cel b e cs :: loc) X w) : Gam av bor w0 (orow e size (.slice (some ⟨b,0,none⟩) m m) m cs :: loc) X w := by
  have e1 : fps (Sy.orow e size (.slice (some ⟨b,0,none⟩) m m) m cs :: loc) = fps (cel b e cs :: loc) := by simp [fps,Sy.orow,cel,Value.ownBlock]
  refine ⟨G.fr,G.avb,by rw [e1];exact G.nodup,by rw [e1];exact G.own,fun r hr => ?_,by rw [e1];exact G.keep⟩
  rcases List.mem_cons.1 hr with rfl | hr
  · exact orow_holds (orow_of_cell (G.here _ List.mem_cons_self).now hl hm)
  · exact G.here r (List.mem_cons_of_mem _ hr)
theorem sw_orow {b e : Nat} {cs : List Value} (size m : Nat) (hl : cs.length = m * size := by rfl) (hm : m ≤ maxLen) (h : Sw P N av bor w0 ops rest ⟨E,orow e size (.slice (some ⟨b,0,none⟩) m m) m cs :: loc,X⟩ k) : Sw P N av bor w0 ops rest ⟨E,cel b e cs :: loc,X⟩ k :=
  Sw.mk fun a w ok => h.run a w (ok.via fun M G => G.orow hl hm)
end
end Sy
end Go.Proofs.YtjmpdkmboheknaaGreatDoor

namespace Go.Proofs.YtjmpdkmboheknaaGreatDoor.Sy
open Go Go.Proofs
section
variable {P : Program} {N : Nat} {av bor : List Nat} {w0 : World} {st : St} {ty : TypeId} {x y : Operand} {t t2 : TypeId}
variable {E : Env} {loc : List Res} {X : World → Prop} {ops : Array Oper} {kk : St → Prop} {n : Nat} {pos : String} {af : Array Edge} {g : Option (Nat × Bool)} {rest : List Oper} {bb want : Bool} {K : Exit → St → Prop} {c : Code}
theorem cw_knowR {p : Prop} {r : Res} (hm : r ∈ loc := by (repeat (first | exact List.mem_cons_self | apply List.mem_cons_of_mem))) (hp : ∀ w,r.F w → p) (h : p → Cw P N av bor w0 c ⟨E,loc,X⟩ K) : Cw P N av bor w0 c ⟨E,loc,X⟩ K := Cw.mk fun a w ok => (h (hp w (ok.gam.here r hm).now)).run a w ok
theorem orow_some {w : World} {e size n c : Nat} {A : Option Addr} {xs : List Value} (h : ORow w e size (.slice A n c) n xs) (hn : 0 < n) : A.isSome = true := by
  rcases h.2 with ⟨h1,h2⟩ | ⟨g,cap,cur,fz,h1,hg,_⟩
  · omega
  · simp only [Value.slice.injEq] at h1
    obtain ⟨rfl,_⟩ := h1
    rfl
theorem y_ldOs {e size m i c : Nat} [h : TyAgg P t size] {A : Option Addr} {xs : List (List Value)} {cs : List Value} (hx : ev st.env x = some (elP A (i * size))) (hm : orow e size (.slice A m c) m xs.flatten ∈ st.loc) (hn : m = xs.length) (hs : ∀ r ∈ xs,r.length = size) (hi : xs[i]? = some cs) :
    Yields P N av bor w0 st (.load t x) ty (.agg cs.toArray) := Sy.Yields.mk fun B w ok d pos af g => by
  have hr := rows_of_orow (ok.gam.here _ hm).now hn hs
  obtain ⟨h1,hp,hc⟩ := RowsD.row hr i cs hi
  obtain ⟨a,rfl⟩ := Option.isSome_iff_exists.1 hp
  have := run_loadVar_cells (P:=P) (t:=t) h.out (w:=w) (A:=a.add (i * size)) h1 (fun j v hj => by rw [Addr_add_add];exact (hc j v hj).2 a rfl)
  simp [execOp,ok.eval hx,elP,Instr.loadAt,Instr.sureAddr,this]
theorem take_putR (l vs : List Value) (o s M : Nat) (hv : vs.length = s) (h1 : o + s ≤ M) (h2 : M ≤ l.length) : (l.take o ++ vs ++ l.drop (o + s)).take M = (l.take M).take o ++ vs ++ (l.take M).drop (o + s) := by
  have e1 : (l.take o ++ vs).length = o + s := by rw [List.length_append,List.length_take,hv];omega
  rw [List.take_append,e1,List.take_of_length_le (by omega),List.take_take,Nat.min_eq_left (by omega),List.drop_take]
theorem put_lenR (l vs : List Value) (o s M : Nat) (hv : vs.length = s) (h1 : o + s ≤ M) (hl : l.length = M) : (l.take o ++ vs ++ l.drop (o + s)).length = M := by
  simp only [List.length_append,List.length_take,List.length_drop,hv,hl]
  omega
theorem sw_stO {d : Option Tmp} {loc' : List Res} {e size m i c : Nat} {A : Option Addr} {xs vs xs' : List Value} {v : Value} (hsz : (P.info? t).map (·.size) = some size) (hx : ev E x = some (elP A (i * size)) := by rfl) (hy : ev E y = some v := by rfl) (hv : v.cells.toList = vs) (h1 : (vs.all (·.oneCell')) = true := by rfl) (hvl : vs.length = size) (hi : i < m := by omega)
    (hxs : xs.take (i * size) ++ vs ++ xs.drop (i * size + size) = xs') (hA : At (orow e size (.slice A m c) m xs) (orow e size (.slice A m c) m xs') loc loc' := by (repeat (first | exact At.here _ | apply At.there))) (hg : gdB ops E g = some (bb,want) := by rfl) (hb : bb = want := by (first | with_reducible rfl | with_reducible assumption | with_reducible exact Bool.not_false | with_reducible exact Bool.not_true)) (hd : inB N d = true := by rfl)
    (h : Sw P N av bor w0 ops rest ⟨putE E d undef,loc',X⟩ kk) : Sw P N av bor w0 ops (⟨d,.store t x y,ty,pos,af,g⟩ :: rest) ⟨E,loc,X⟩ kk := Sw.mk fun a w ok => by
  have ho : ORow w e size (.slice A m c) m xs := (ok.gam.here _ hA.mem).now
  rcases ho.2 with ⟨_,h0⟩ | ⟨b,cap,cur,fz,hs,hb',hnc,hcm,hcs,htake,hfz⟩
  · omega
  simp only [Value.slice.injEq] at hs
  obtain ⟨rfl,_,rfl⟩ := hs
  have hm1 : i * size + size ≤ m * size := by rw [← Nat.succ_mul];exact Nat.mul_le_mul_right _ hi
  have hm2 : m * size ≤ cur.size := by rw [hcs];exact Nat.mul_le_mul_right _ hnc
  have hst := run_storeCells_m P b (i * size) e fz vs 0 cur w hb' hfz (by omega) (by simpa using h1)
  have hadd : (⟨b,0,none⟩ : Addr).add (i * size) = ⟨b,i * size,none⟩ := by unfold Addr.add;split <;> simp_all
  simp only [wpList]
  rw [wanted_of ok (o:=⟨d,.store t x y,ty,pos,af,g⟩) hg]
  subst hb
  simp only [beq_self_eq_true,if_true]
  left
  unfold Oper.wp
  have hs : v.cells.size = size := by rw [← hvl, ← hv];simp
  generalize hnew : (cur.toList.take (i * size) ++ vs ++ cur.toList.drop (i * size + size)).toArray = new at *
  have hr : (execOp a.eval ⟨d,.store t x y,ty,pos,af,g⟩).run P w = .ok .skip (w.setRow b new) := by
    simp only [Nat.add_zero,hvl,hnew] at hst
    simp [execOp,ok.eval (st:=⟨E,loc,X⟩) hx,ok.eval (st:=⟨E,loc,X⟩) hy,elP,hadd,Instr.storeAt,Instr.sureAddr,storeVar,run_sizeOf hsz,hs,hv,hst]
  rw [hr]
  have hsn : new.size = cur.size := by
    rw [← hnew]
    simpa using put_lenR cur.toList vs (i * size) size cur.size hvl (by omega) (by simp)
  have ho' : ORow (w.setRow b new) e size (.slice (some ⟨b,0,none⟩) m c) m xs' := by
    refine ⟨by rw [← hxs];exact put_lenR xs vs (i * size) size (m * size) hvl hm1 ho.1,.inr ⟨b,c,new,fz,rfl,Go.setRow_heap w b cur new e fz hb',hnc,hcm,hsn.trans hcs, ?_,by rw [hsn];exact hfz⟩⟩
    rw [← hnew, ← hxs, ← htake]
    exact take_putR cur.toList vs (i * size) size (m * size) hvl hm1 (by simpa using hm2)
  have ok' : Ok N av bor w0 ⟨E,loc',X⟩ a (w.setRow b new) := (ok.via fun M G => G.swap (hA.app M) rfl rfl rfl (by rw [Go.setRow_size];exact Nat.le_refl _) (fun j _ hj => Go.setRow_other w b j new (by rintro rfl;exact hj (by simp [orow,Value.ownBlock]))) (by simp [orow,Value.ownBlock]) (fun j hj => by
    have hj : j = b := by simpa [orow,Value.ownBlock] using hj
    subst hj
    exact ⟨by rw [Go.setRow_size];exact (Array.getElem?_eq_some_iff.1 hb').1,.inl (by simp [orow,Value.ownBlock])⟩) (orow_holds ho'))
  exact h.run _ _ (put_eq d _ ▸ ok'.put hd _)
end
end Go.Proofs.YtjmpdkmboheknaaGreatDoor.Sy

namespace Go.Proofs.YtjmpdkmboheknaaGreatDoor
open Go Go.Proofs Sy
theorem eqbB (a b : ByteArray) : KeyT.eqb a b = seqB a b := Bool.eq_iff_iff.2 ((KeyT.eqb_iff a b).trans seqB_iff.symm)
end Go.Proofs.YtjmpdkmboheknaaGreatDoor

namespace Go.Proofs.YtjmpdkmboheknaaGreatDoor
open Go Go.Proofs Sy
structure PostD where
  id : ByteArray
  author : ByteArray
  pos : Nat
  kind : Int
  scope : Int
  group : ByteArray
  to : SlV
  object : ByteArray
  time : Int
  ed : SlV
  gone : Bool
  toL : List ByteArray
  edL : List Int
def PostD.cells (p : PostD) : List Value := [.string p.id,.string p.author,.int .i64 (p.pos : Nat),.int .i64 p.kind,.int .i64 p.scope,.string p.group,p.to.v,.string p.object,.int .i64 p.time,p.ed.v,.bool p.gone]
def PostD.v (p : PostD) : Value := .agg p.cells.toArray
def PostD.zero : PostD := ⟨⟨#[]⟩,⟨#[]⟩,0,0,0,⟨#[]⟩,⟨none,0,0⟩,⟨#[]⟩,0,⟨none,0,0⟩,false, [], []⟩
theorem cells11 (L : List PostD) : ∀ r ∈ L.map PostD.cells,r.length = 11 := fun r hr => by
  obtain ⟨c,_,rfl⟩ := List.mem_map.1 hr
  rfl
def edR (p : PostD) : Res := orow 3 1 (.slice p.ed.p p.ed.n p.ed.c) p.ed.n (p.edL.map fun n => .int .i64 n)
def PostD.can (p : PostD) : PostD := { p with to := ⟨none,0,0⟩,ed := ⟨none,0,0⟩ }
def newP (id : ByteArray) (i : Nat) (a : ActD) : PostD := ⟨digV a,id,i,a.kind,a.scope,a.group,⟨none,0,0⟩,a.object,a.time,⟨none,0,0⟩,false,a.toL, []⟩
def openF (c : ChainD) : Nat → List PostD
  | 0 => []
  | i + 1 => openF c i ++ (bif postK (c.actsL.getD i ActD.zero).kind then [newP c.id i (c.actsL.getD i ActD.zero)] else [])
def posP (P : List PostD) (j : Nat) : Option Nat := P.findIdx? fun p => p.pos == j
def refV (l : List ActD) (P : List PostD) (i : Nat) : Option Nat := match idxV l (l.getD i ActD.zero).object with
  | some j => bif decide (j < i) then posP P j else none
  | none => none
def goneP (p : PostD) : PostD := { p with gone := true }
def editB (a : ActD) (p : PostD) : Bool := !p.gone && decide (a.scope = p.scope) && seqB a.group p.group && eqL a.toL p.toL
def editP (a : ActD) (i : Nat) (p : PostD) : PostD := bif editB a p then { p with edL := p.edL ++ [(i : Int)] } else p
def modP (P : List PostD) (o : Option Nat) (f : PostD → PostD) : List PostD := match o with
  | some n => P.set n (f (P.getD n PostD.zero))
  | none => P
def stepP (l : List ActD) (i : Nat) (P : List PostD) : List PostD :=
  bif decide ((l.getD i ActD.zero).kind = 13) then modP P (refV l P i) goneP else bif decide ((l.getD i ActD.zero).kind = 14) then modP P (refV l P i) (editP (l.getD i ActD.zero) i) else P
def ofP (c : ChainD) : Nat → List PostD
  | 0 => openF c c.actsL.length
  | i + 1 => stepP c.actsL i (ofP c i)
def postsV (c : ChainD) : List PostD := ofP c c.actsL.length
theorem posP_can (P : List PostD) (j : Nat) : posP (P.map PostD.can) j = posP P j := by
  rw [posP,posP,List.findIdx?_map]
  rfl
theorem refV_can (l : List ActD) (P : List PostD) (i : Nat) : refV l (P.map PostD.can) i = refV l P i := by
  rw [refV,refV]
  cases idxV l (l.getD i ActD.zero).object with
  | none => rfl
  | some j => simp only [posP_can]
theorem getD_canP (P : List PostD) (n : Nat) : (P.map PostD.can).getD n PostD.zero = (P.getD n PostD.zero).can := by
  rw [List.getD_eq_getElem?_getD,List.getD_eq_getElem?_getD,List.getElem?_map]
  cases P[n]? <;> rfl
theorem openF_len (c : ChainD) : ∀ i,(openF c i).length ≤ i
  | 0 => Nat.le_refl _
  | i + 1 => by
    have ih := openF_len c i
    rw [openF,List.length_append]
    cases postK (c.actsL.getD i ActD.zero).kind with
    | true => simp only [cond_true,List.length_singleton];omega
    | false => simp only [cond_false,List.length_nil];omega
theorem posP_lt {P : List PostD} {j n : Nat} (h : posP P j = some n) : n < P.length := by
  rw [posP,List.findIdx?_eq_some_iff_getElem] at h
  exact h.1
theorem openF_pos (c : ChainD) : ∀ i, ∀ p ∈ openF c i,p.pos < i
  | 0,p,h => (List.not_mem_nil h).elim
  | i + 1,p,h => by
    rw [openF] at h
    rcases List.mem_append.1 h with h | h
    · have := openF_pos c i p h
      omega
    · revert h
      cases postK (c.actsL.getD i ActD.zero).kind with
      | true => intro h;rw [cond_true,List.mem_singleton] at h;subst h;exact Nat.lt_succ_self i
      | false => intro h;exact (List.not_mem_nil h).elim
theorem mget_mputG {κ β : Type} [KeyT κ] : ∀ (b : List (κ × β)) (k a : κ) (v : β),mget (mput b k v) a = bif KeyT.eqb a k then some v else mget b a
  | [],k,a,v => rfl
  | (k',v') :: r,k,a,v => by
    have ih := mget_mputG r k a v
    simp only [mput]
    cases hk : KeyT.eqb k k' with
    | true =>
      obtain rfl := (KeyT.eqb_iff k k').1 hk
      simp only [cond_true,mget]
      cases KeyT.eqb a k <;> rfl
    | false =>
      simp only [cond_false,mget,ih]
      cases ha : KeyT.eqb a k' with
      | true =>
        obtain rfl := (KeyT.eqb_iff a k').1 ha
        have hne : KeyT.eqb a k = false := by
          rw [← Bool.not_eq_true]
          intro e
          rw [(KeyT.eqb_iff a k).1 e,(KeyT.eqb_iff k k).2 rfl] at hk
          cases hk
        rw [hne]
        rfl
      | false => rfl
theorem idxV_take {l : List ActD} {k : Nat} {x : ActD} (hx : l[k]? = some x) (d : ByteArray) : idxV (l.take (k + 1)) d = (idxV (l.take k) d).or (bif seqB (digV x) d then some k else none) := by
  have hk : k < l.length := (List.getElem?_eq_some_iff.1 hx).1
  have hl : (l.take k).length = k := by rw [List.length_take];omega
  rw [idxV,idxV,List.take_add_one,hx,Option.toList_some,List.findIdx?_append,hl]
  congr 1
  rw [List.findIdx?_singleton]
  cases seqB (digV x) d with
  | true => simp
  | false => simp
theorem posP_append (P : List PostD) (p : PostD) (j : Nat) : posP (P ++ [p]) j = (posP P j).or (bif p.pos == j then some P.length else none) := by
  rw [posP,posP,List.findIdx?_append]
  congr 1
  rw [List.findIdx?_singleton]
  cases p.pos == j with
  | true => simp
  | false => simp
theorem posP_none {P : List PostD} {j : Nat} (h : ∀ p ∈ P,p.pos ≠ j) : posP P j = none := by
  rw [posP,List.findIdx?_eq_none_iff]
  intro p hp
  simpa using h p hp
theorem eqbI (a b : Int) : KeyT.eqb a b = decide (a = b) := rfl
end Go.Proofs.YtjmpdkmboheknaaGreatDoor

namespace Go.Proofs.YtjmpdkmboheknaaGreatDoor
open Go Go.Proofs Sy
abbrev postR (s : SlV) (P : List PostD) : Res := orow 26 11 (.slice s.p s.n s.c) s.n (P.map PostD.cells).flatten
theorem flatten_setP : ∀ (L : List PostD) (p : Nat) (x : PostD),p < L.length → (L.map PostD.cells).flatten.take (p * 11) ++ x.cells ++ (L.map PostD.cells).flatten.drop (p * 11 + 11) = ((L.set p x).map PostD.cells).flatten
  | [],p,x,h => absurd h (by simp)
  | c :: L,0,x,h => by
    have h6 : c.cells.length = 11 := rfl
    rw [List.set_cons_zero,List.map_cons,List.map_cons,List.flatten_cons,List.flatten_cons,Nat.zero_mul,Nat.zero_add,List.take_zero,List.nil_append,List.drop_append,h6,List.drop_of_length_le (by omega)]
    rfl
  | c :: L,p + 1,x,h => by
    have h6 : c.cells.length = 11 := rfl
    have ih := flatten_setP L p x (by simpa using h)
    rw [List.set_cons_succ,List.map_cons,List.map_cons,List.flatten_cons,List.flatten_cons, ← ih,List.take_append,List.drop_append,h6,List.take_of_length_le (by omega),List.drop_of_length_le (by omega),
      show (p + 1) * 11 - 11 = p * 11 from by omega,show (p + 1) * 11 + 11 - 11 = p * 11 + 11 from by omega,List.nil_append,List.append_assoc,List.append_assoc,List.append_assoc]
theorem swap_perm {P : List PostD} {i j : Nat} {x y : PostD} (hi : P[i]? = some x) (hj : P[j]? = some y) : ((P.set i y).set j x).Perm P := by
  obtain ⟨h1,rfl⟩ := List.getElem?_eq_some_iff.1 hi
  obtain ⟨h2,rfl⟩ := List.getElem?_eq_some_iff.1 hj
  exact List.set_set_perm h1 h2
namespace Sy
section
variable {N : Nat} {av bor : List Nat} {w0 : World} {st : St} {ty : TypeId} {x y : Operand} {E : Env} {loc : List Res} {X : World → Prop} {ops : Array Oper} {kk : St → Prop} {pos : String} {af : Array Edge} {g : Option (Nat × Bool)} {rest : List Oper} {bb want : Bool}
theorem y_ldP {A : Option Addr} {m c i : Nat} {P : List PostD} {p : PostD} (hx : ev st.env x = some (elP A (i * 11))) (hm : orow 26 11 (.slice A m c) m (P.map PostD.cells).flatten ∈ st.loc) (hn : m = P.length) (hi : P[i]? = some p) :
    Yields Tryz.prog N av bor w0 st (.load 26 x) ty p.v := y_ldOs (xs:=P.map PostD.cells) (cs:=p.cells) hx hm (by simp [hn]) (cells11 P) (by simp [hi])
theorem sw_stP {d : Option Tmp} {loc' : List Res} {A : Option Addr} {m c i : Nat} {P : List PostD} {p : PostD} (hx : ev E x = some (elP A (i * 11)) := by rfl) (hy : ev E y = some p.v := by rfl) (hi : i < m := by omega) (hn : m = P.length)
    (hA : At (orow 26 11 (.slice A m c) m (P.map PostD.cells).flatten) (orow 26 11 (.slice A m c) m ((P.set i p).map PostD.cells).flatten) loc loc' := by (repeat (first | exact At.here _ | apply At.there))) (hg : gdB ops E g = some (bb,want) := by rfl) (hb : bb = want := by (first | with_reducible rfl | with_reducible assumption | with_reducible exact Bool.not_false | with_reducible exact Bool.not_true)) (hd : inB N d = true := by rfl)
    (h : Sw Tryz.prog N av bor w0 ops rest ⟨putE E d undef,loc',X⟩ kk) : Sw Tryz.prog N av bor w0 ops (⟨d,.store 26 x y,ty,pos,af,g⟩ :: rest) ⟨E,loc,X⟩ kk :=
  sw_stO (i:=i) (size:=11) (vs:=p.cells) (by kernel_rfl) hx hy rfl rfl rfl hi (flatten_setP P i p (by omega)) hA hg hb hd h
variable {n : Nat} {t t2 : TypeId}
theorem sy_addN [hI : TyInt Tryz.prog t .i64] {p q : Nat} (hx : ev E x = some (.int .i64 (p : Nat)) := by rfl) (hy : ev E y = some (.int .i64 (q : Nat)) := by rfl) (hq : p + q < 9223372036854775808) (hg : gdB ops E g = some (bb,want) := by rfl) (hbb : bb = want := by (first | with_reducible rfl | with_reducible assumption | with_reducible exact Bool.not_false | with_reducible exact Bool.not_true)) (hd : Nat.blt n N = true := by rfl) (h : Sw Tryz.prog N av bor w0 ops rest ⟨(n,.int .i64 ((p + q : Nat) : Int)) :: E,loc,X⟩ kk) :
    Sw Tryz.prog N av bor w0 ops (⟨some n,.binOp .add t x y t2,ty,pos,af,g⟩ :: rest) ⟨E,loc,X⟩ kk := sy_add (c:=((p + q : Nat) : Int)) hx hy (by rw [← Int.natCast_add];exact IntWalk.i64_in _ (by omega)) hg hbb hd h
theorem sy_subN [hI : TyInt Tryz.prog t .i64] {p q : Nat} (hx : ev E x = some (.int .i64 (p : Nat)) := by rfl) (hy : ev E y = some (.int .i64 (q : Nat)) := by rfl) (hq : q ≤ p ∧ p < 9223372036854775808) (hg : gdB ops E g = some (bb,want) := by rfl) (hbb : bb = want := by (first | with_reducible rfl | with_reducible assumption | with_reducible exact Bool.not_false | with_reducible exact Bool.not_true)) (hd : Nat.blt n N = true := by rfl) (h : Sw Tryz.prog N av bor w0 ops rest ⟨(n,.int .i64 ((p - q : Nat) : Int)) :: E,loc,X⟩ kk) :
    Sw Tryz.prog N av bor w0 ops (⟨some n,.binOp .sub t x y t2,ty,pos,af,g⟩ :: rest) ⟨E,loc,X⟩ kk := sy_sub (c:=((p - q : Nat) : Int)) hx hy (by rw [show (p : Int) - (q : Int) = ((p - q : Nat) : Int) by omega];exact IntWalk.i64_in _ (by omega)) hg hbb hd h
end
end Sy
def PermAt (s : SlV) (P : List PostD) (u : Value) (R : List Res) (X : World → Prop) : Prop := u = .tuple #[] ∧ ∃ Q : List PostD,Q.Perm P ∧ R = [postR s Q]
structure PermI (P : List PostD) (n : Nat) where
  k : Nat
  hk : k ≤ n
  Q : List PostD
  hQ : Q.Perm P
set_option maxHeartbeats 4000000 in
theorem swapRange_ct (s : SlV) (P : List PostD) (a b n : Nat) (fv : Value) (hs : s.n = P.length) (hm : s.n ≤ 1000000) (ha : a + n ≤ s.n) (hb : b + n ≤ s.n) :
    Ct Tryz.prog 248 #[s.v,.int .i64 (a : Nat),.int .i64 (b : Nat),.int .i64 (n : Nat),fv] [postR s P] (fun _ => True) (PermAt s P) := by
  refine ct_of_cw (args:=[_,_,_,_,_]) _ Tryz.func248 rfl Tryz.ntmps248 rfl fun av bor w0 => ?_
  refine cw_knowR (r:=postR s P) List.mem_cons_self (p:=0 < s.n → s.p.isSome = true) (fun w h hn => orow_some h hn) fun hp => ?_
  repeat' (first | apply sw_nil | apply cw_seq | apply cw_reg | refine sy_assign (h:=?_) | apply cw_block | fail)
  refine cw_loop (ι:=PermI P n) (fun i => ⟨[(0,s.v),(1,.int .i64 (a : Nat)),(2,.int .i64 (b : Nat)),(3,.int .i64 (n : Nat)),(10,.int .i64 (i.k : Nat))], [postR s i.Q],fun _ => True⟩) (fun i => n - i.k) ⟨0,Nat.zero_le _,P,List.Perm.refl _⟩ (ok_sub ⟨rfl,rfl,rfl,rfl,rfl,trivial⟩ (List.Sublist.refl _) fun _ h => h) fun i => ?_
  obtain ⟨k,hk,Q,hQ⟩ := i
  simp only
  have hl := hQ.length_eq
  repeat' (first | apply sw_nil | apply cw_seq | apply cw_reg | refine sy_move (h:=?_) | refine sy_lss (h:=?_) | apply cw_skip | apply cw_block | apply cw_exit | (refine cw_cond (ht:=?_) (hf:=?_);all_goals (intro hx_;first | have := of_decide_eq_true hx_ | have := of_decide_eq_false hx_)))
  · have hlt : k < n := by omega
    have hp' := hp (by omega)
    obtain ⟨x,hx⟩ : ∃ x,Q[a + k]? = some x := ⟨_,List.getElem?_eq_getElem (by omega)⟩
    obtain ⟨y,hy⟩ : ∃ y,Q[b + k]? = some y := ⟨_,List.getElem?_eq_getElem (by omega)⟩
    (refine cw_draw [] (fun _ => True) (by kernel_rfl) ?_)
    all_goals (refine aw_take 0 (h:=?_))
    all_goals (refine aw_take 1 (h:=?_))
    all_goals (refine aw_take 2 (h:=?_))
    all_goals (refine aw_take 3 (h:=?_))
    all_goals (refine aw_take 4 (h:=?_))
    all_goals (refine aw_take 5 (h:=?_))
    all_goals (refine aw_take 6 (h:=?_))
    all_goals (refine aw_take 7 (h:=?_))
    all_goals (refine aw_take 8 (h:=?_))
    all_goals (refine aw_take 9 (h:=?_))
    all_goals (refine aw_take 10 (h:=?_))
    all_goals (refine aw_take 11 (h:=?_))
    all_goals (refine aw_take 12 (hy:=by (apply y_idxX (q:=(b + k) * 11);rfl;rfl;omega;omega;assumption;(rfl))) (h:=?_))
    all_goals (refine aw_take 14 (h:=?_))
    all_goals (refine aw_take 15 (h:=?_))
    all_goals (refine aw_take 16 (h:=?_))
    all_goals (refine aw_take 17 (h:=?_))
    all_goals (refine aw_take 18 (hy:=by (apply y_idxX (q:=(a + k) * 11);rfl;rfl;omega;omega;assumption;(rfl))) (h:=?_))
    all_goals (refine aw_two 13 19 (h:=?_) (h':=?_);(focus (((refine sw_yield (y_ldP (i:=b + k) (P:=Q) rfl List.mem_cons_self (by omega) hy) rfl rfl rfl ?_);apply sw_nil;refine aw_fin (h:=?_));all_goals ((refine aw_step 19 (h:=?_);(refine sw_yield (y_ldP (i:=a + k) (P:=Q) rfl List.mem_cons_self (by omega) hx) rfl rfl rfl ?_);apply sw_nil;refine aw_fin (h:=?_));all_goals (refine aw_take 20 (hy:=by (apply y_idxX (q:=(a + k) * 11);rfl;rfl;omega;omega;assumption;(rfl))) (h:=?_));all_goals (refine aw_step 21 (h:=?_);(refine sw_stP (i:=a + k) (p:=y) rfl rfl (by omega) (by omega) (At.here _) rfl (by (with_reducible rfl)) rfl ?_);apply sw_nil;refine aw_fin (h:=?_));all_goals (refine aw_take 22 (hy:=by (apply y_idxX (q:=(b + k) * 11);rfl;rfl;omega;omega;assumption;(rfl))) (h:=?_));all_goals (refine aw_step 23 (h:=?_);(refine sw_stP (i:=b + k) (p:=x) rfl rfl (by omega) (by (simp only [List.length_set];omega)) (At.here _) rfl (by (with_reducible rfl)) rfl ?_);apply sw_nil;refine aw_fin (h:=?_));all_goals (refine aw_done (h:=?_)))));rotate_right;(focus (((refine sw_yield (y_ldP (i:=a + k) (P:=Q) rfl List.mem_cons_self (by omega) hx) rfl rfl rfl ?_);apply sw_nil;refine aw_fin (h:=?_));all_goals ((refine aw_step 13 (h:=?_);(refine sw_yield (y_ldP (i:=b + k) (P:=Q) rfl List.mem_cons_self (by omega) hy) rfl rfl rfl ?_);apply sw_nil;refine aw_fin (h:=?_));all_goals (refine aw_take 20 (hy:=by (apply y_idxX (q:=(a + k) * 11);rfl;rfl;omega;omega;assumption;(rfl))) (h:=?_));all_goals (refine aw_step 21 (h:=?_);(refine sw_stP (i:=a + k) (p:=y) rfl rfl (by omega) (by omega) (At.here _) rfl (by (with_reducible rfl)) rfl ?_);apply sw_nil;refine aw_fin (h:=?_));all_goals (refine aw_take 22 (hy:=by (apply y_idxX (q:=(b + k) * 11);rfl;rfl;omega;omega;assumption;(rfl))) (h:=?_));all_goals (refine aw_step 23 (h:=?_);(refine sw_stP (i:=b + k) (p:=x) rfl rfl (by omega) (by (simp only [List.length_set];omega)) (At.here _) rfl (by (with_reducible rfl)) rfl ?_);apply sw_nil;refine aw_fin (h:=?_));all_goals (refine aw_done (h:=?_))))))
    all_goals
      repeat' (first | apply sw_nil | apply cw_reg | refine sy_move (h:=?_) | refine sy_assign (h:=?_) | refine sy_add (h:=?_) | fail)
      exact ⟨(⟨k + 1,hlt,(Q.set (a + k) y).set (b + k) x,(swap_perm hx hy).trans hQ⟩ : PermI P n),(by show n - (k + 1) < n - k;omega),ok_sub ⟨rfl,rfl,rfl,rfl,rfl,trivial⟩ (List.Sublist.refl _) fun _ h => h⟩
  · exact ends_end (res_none rfl) ⟨rfl,Q,hQ,rfl⟩
section
variable {N : Nat} {av bor : List Nat} {w0 : World} {ops : Array Oper} {rest : List Oper} {k : St → Prop} {E : Env} {X : World → Prop} {d : Option Tmp} {ty : TypeId} {pos : String} {af : Array Edge} {g : Option (Nat × Bool)} {bb want : Bool}
theorem sw_permAt {x : Operand} {xs : List Operand} {ats : Array TypeId} {f : FuncId} {args : List Value} {s : SlV} {Q : List PostD}
    (hx : ev E x = some (.func (.func f) #[] #[]) := by rfl) (ha : evs E xs = some args := by rfl) (hg : gdB ops E g = some (bb,want) := by rfl) (hb : bb = want := by (first | with_reducible rfl | with_reducible assumption | with_reducible exact Bool.not_false | with_reducible exact Bool.not_true)) (hd : inB N d = true := by rfl) (hf : FnBody Tryz.prog f := by infer_instance)
    (hc : Ct Tryz.prog f args.toArray [postR s Q] (fun _ => True) (PermAt s Q))
    (h : ∀ Q' : List PostD,Q'.Perm Q → Sw Tryz.prog N av bor w0 ops rest ⟨putE E d (.tuple #[]), [postR s Q'],X⟩ k) :
    Sw Tryz.prog N av bor w0 ops (⟨d,.call ⟨.value x,xs.toArray,ats⟩,ty,pos,af,g⟩ :: rest) ⟨E, [postR s Q],X⟩ k :=
  sw_fn (pre:=[postR s Q]) (fr:=[]) (first:=#[]) (caps:=#[]) (Post:=PermAt s Q) hx ha rfl hg hb hd hf (by simpa using hc) (fun _ _ => trivial) fun u R X' ⟨h1,Q',h2,h3⟩ => by
    subst h1
    subst h3
    refine sw_to (fun a w ok => ?_) (h Q' h2)
    exact ok.via fun M G => G.imp fun _ h => h.1
end
structure RotI (P : List PostD) (p q : Nat) where
  i : Nat
  j : Nat
  h1 : 1 ≤ i
  h2 : i ≤ p
  h3 : 1 ≤ j
  h4 : j ≤ q
  Q : List PostD
  hQ : Q.Perm P
set_option maxHeartbeats 4000000 in
theorem rotate_ct (s : SlV) (P : List PostD) (a m b : Nat) (fv : Value) (hs : s.n = P.length) (hm : s.n ≤ 1000000) (ha : a < m) (hb : m < b) (hbs : b ≤ s.n) :
    Ct Tryz.prog 215 #[s.v,.int .i64 (a : Nat),.int .i64 (m : Nat),.int .i64 (b : Nat),fv] [postR s P] (fun _ => True) (PermAt s P) := by
  refine ct_of_cw (args:=[_,_,_,_,_]) _ Tryz.func215 rfl Tryz.ntmps215 rfl fun av bor w0 => ?_
  repeat' (first | refine sy_subN (hq:=by omega) (h:=?_) | apply sw_nil | apply cw_seq | apply cw_reg | refine sy_move (h:=?_) | refine sy_assign (h:=?_) | apply cw_block | fail)
  refine cw_loop (ι:=RotI P (m - a) (b - m)) (fun r => ⟨[(0,s.v),(2,.int .i64 (m : Nat)),(4,fv),(10,.int .i64 (r.i : Nat)),(11,.int .i64 (r.j : Nat))], [postR s r.Q],fun _ => True⟩) (fun r => r.i + r.j) ⟨m - a,b - m,by omega,by omega,by omega,by omega,P,List.Perm.refl _⟩ (ok_sub ⟨rfl,rfl,rfl,rfl,rfl,trivial⟩ (List.Sublist.refl _) fun _ h => h) fun r => ?_
  obtain ⟨i,j,h1,h2,h3,h4,Q,hQ⟩ := r
  simp only
  have hl := hQ.length_eq
  by_cases hij : i = j
  · repeat' (first | refine sy_neqF (hab:=by omega) (h:=?_) | refine sy_subN (hq:=by omega) (h:=?_) | apply sw_nil | apply cw_seq | apply cw_reg | refine sy_move (h:=?_) | refine cw_cond_f (hf:=?_) | apply cw_exit | (refine sw_permAt (hc:=swapRange_ct s Q (m - i) m i fv (by omega) hm (by omega) (by omega)) (h:=fun Q2 hQ2 => ?_)) | fail)
    exact ends_end (res_none rfl) ⟨rfl,Q2,hQ2.trans hQ,rfl⟩
  · repeat' (first | refine sy_subN (hq:=by omega) (h:=?_) | refine sy_addN (hq:=by omega) (h:=?_) | apply sw_nil | apply cw_seq | apply cw_reg | refine sy_move (h:=?_) | refine sy_assign (h:=?_) | refine sy_neq (h:=?_) | refine sy_gtr (h:=?_) | apply cw_skip | apply cw_block | apply cw_exit | (refine sw_permAt (hc:=swapRange_ct s Q (m - i) m j fv (by omega) hm (by omega) (by omega)) (h:=fun Q2 hQ2 => ?_)) | (refine sw_permAt (hc:=swapRange_ct s Q (m - i) (m + j - i) i fv (by omega) hm (by omega) (by omega)) (h:=fun Q2 hQ2 => ?_)) | (refine cw_cond (ht:=?_) (hf:=?_);all_goals (intro hx_;first | have := of_decide_eq_true hx_ | have := of_decide_eq_false hx_ | skip)))
    · exact ⟨(⟨i - j,j,by omega,by omega,h3,h4,Q2,hQ2.trans hQ⟩ : RotI P (m - a) (b - m)),(by show i - j + j < i + j;omega),ok_sub ⟨rfl,rfl,rfl,rfl,rfl,trivial⟩ (List.Sublist.refl _) fun _ h => h⟩
    · exact ⟨(⟨i,j - i,h1,h2,by omega,by omega,Q2,hQ2.trans hQ⟩ : RotI P (m - a) (b - m)),(by show i + (j - i) < i + j;omega),ok_sub ⟨rfl,rfl,rfl,rfl,rfl,trivial⟩ (List.Sublist.refl _) fun _ h => h⟩
    · have h9 : (i : Int) = (j : Int) := by simpa using hx_
      exact absurd (show i = j by omega) hij
def cmpB (x y : ByteArray) : Int := bif Op.bytesLess x.toList y.toList then -1 else bif !(Op.bytesLess x.toList y.toList || seqB x y) then 1 else 0
theorem isNaN_pu (x : ByteArray) : Pu Tryz.prog 110 #[.string x] (fun _ => True) (.bool false) := by
  refine pu_of_cw (args:=[_]) _ Tryz.func110 rfl Tryz.ntmps110 rfl fun av bor w0 => ?_
  have h := seqB_self x
  repeat' (first | apply sw_nil | apply cw_seq | apply cw_reg | refine sy_move (h:=?_) | refine sy_assign (h:=?_) | refine sy_sneq (h:=?_) | apply cw_ret | fail)
  apply ends_ret;apply res_tmp;rfl;rfl
  rw [h]
  rfl
theorem compare_pu (x y : ByteArray) : Pu Tryz.prog 63 #[.string x,.string y] (fun _ => True) (.int .i64 (cmpB x y)) := by
  refine pu_of_cw (args:=[_,_]) _ Tryz.func63 rfl Tryz.ntmps63 rfl fun av bor w0 => ?_
  repeat' (first | apply sw_nil | apply cw_seq | apply cw_reg | refine sy_move (h:=?_) | refine sy_assign (h:=?_) | refine cw_cond_f (hf:=?_) | apply cw_skip | apply cw_ret | refine sw_pu (hc:=isNaN_pu _) (h:=?_) | (refine sy_slss (h:=?_)) | (refine sy_sgtr (h:=?_)) | (refine cw_cond (ht:=?_) (hf:=?_);all_goals (intro hx_;skip)))
  (all_goals (apply ends_ret;apply res_tmp;rfl;rfl));all_goals first | (simp only [cmpB, *,decide_true,decide_false,cond_true,cond_false,Bool.and_true,Bool.true_and,Bool.and_false,Bool.false_and,Bool.not_true,Bool.not_false,Bool.or_true,Bool.true_or,Bool.or_false,Bool.false_or];done) | (simp_all [cmpB];done)
theorem cmp_pu (x y : PostD) : Pu Tryz.prog 62 #[x.v,y.v] (fun _ => True) (.int .i64 (cmpB x.id y.id)) := by
  refine pu_of_cw (args:=[_,_]) _ Tryz.func62 rfl Tryz.ntmps62 rfl fun av bor w0 => ?_
  have h := compare_pu x.id y.id
  generalize cmpB x.id y.id = k at *
  repeat' (first | apply sw_nil | apply cw_seq | apply cw_reg | refine sy_assign (h:=?_) | refine sy_fld (h:=?_) | refine sy_ld (h:=?_) | refine sw_box (h:=fun _ => ?_) | apply cw_ret | (refine sw_pu (hc:=h) (hX:=fun _ _ => trivial) (h:=?_)) | fail)
  exact ends_ret (res_tmp rfl rfl) rfl
def cmpF : Value := .func (.func 62) #[] #[]
end Go.Proofs.YtjmpdkmboheknaaGreatDoor

namespace Go.Proofs.YtjmpdkmboheknaaGreatDoor
open Go Go.Proofs Sy
theorem flatten_cellP : ∀ (L : List PostD) (n j : Nat) (p p' : PostD) (v : Value),L[n]? = some p → j < 11 → p'.cells = p.cells.take j ++ [v] ++ p.cells.drop (j + 1) → (L.map PostD.cells).flatten.take (n * 11 + j) ++ [v] ++ (L.map PostD.cells).flatten.drop (n * 11 + j + 1) = ((L.set n p').map PostD.cells).flatten
  | [],n,j,p,p',v,h,_,_ => by simp at h
  | c :: L,0,j,p,p',v,h,hj,hc => by
    have h6 : c.cells.length = 11 := rfl
    obtain rfl : c = p := by simpa using h
    rw [List.set_cons_zero,List.map_cons,List.map_cons,List.flatten_cons,List.flatten_cons,Nat.zero_mul,Nat.zero_add,List.take_append_of_le_length (by omega),List.drop_append_of_le_length (by omega),hc,List.append_assoc,List.append_assoc,List.append_assoc]
  | c :: L,n + 1,j,p,p',v,h,hj,hc => by
    have h6 : c.cells.length = 11 := rfl
    have ih := flatten_cellP L n j p p' v (by simpa using h) hj hc
    rw [List.set_cons_succ,List.map_cons,List.map_cons,List.flatten_cons,List.flatten_cons, ← ih,List.take_append,List.drop_append,h6,List.take_of_length_le (by omega),List.drop_of_length_le (by omega),
      show (n + 1) * 11 + j - 11 = n * 11 + j from by omega,show (n + 1) * 11 + j + 1 - 11 = n * 11 + j + 1 from by omega,List.nil_append,List.append_assoc,List.append_assoc,List.append_assoc]
namespace Sy
section
variable {N : Nat} {av bor : List Nat} {w0 : World} {st : St} {ty : TypeId} {x y : Operand} {E : Env} {loc : List Res} {X : World → Prop} {ops : Array Oper} {kk : St → Prop} {pos : String} {af : Array Edge} {g : Option (Nat × Bool)} {rest : List Oper} {bb want : Bool} {t : TypeId}
theorem y_nilX {A : Option Addr} {q : Nat} {ad : Addr} (hx : ev st.env x = some (elP A q)) (hp : A = some ad) : Yields Tryz.prog N av bor w0 st (.nilCheck x) ty (elP A q) := by
  subst hp
  exact y_nilCheck (a:=ad.add q) hx
theorem sy_nilX {n : Nat} {A : Option Addr} {q : Nat} {ad : Addr} (hx : ev E x = some (elP A q) := by rfl) (hp : A = some ad) (hg : gdB ops E g = some (bb,want) := by rfl) (hbb : bb = want := by (first | with_reducible rfl | with_reducible assumption | with_reducible exact Bool.not_false | with_reducible exact Bool.not_true)) (hd : Nat.blt n N = true := by rfl) (h : Sw Tryz.prog N av bor w0 ops rest ⟨(n,elP A q) :: E,loc,X⟩ kk) :
    Sw Tryz.prog N av bor w0 ops (⟨some n,.nilCheck x,ty,pos,af,g⟩ :: rest) ⟨E,loc,X⟩ kk := sw_yield (y_nilX hx hp) hg hbb hd h
theorem y_ldPf [h : TyOne Tryz.prog t] {A : Option Addr} {m c i j : Nat} {P : List PostD} {p : PostD} {u : Value} (hx : ev st.env x = some (elP A (i * 11 + j))) (hm : orow 26 11 (.slice A m c) m (P.map PostD.cells).flatten ∈ st.loc) (hn : m = P.length) (hi : P[i]? = some p) (hj : p.cells[j]? = some u) :
    Yields Tryz.prog N av bor w0 st (.load t x) ty u := Sy.Yields.mk fun B w ok d pos af g => by
  have hr := rows_of_orow (ok.gam.here _ hm).now (by simp [hn]) (cells11 P)
  obtain ⟨h1,hp,hc⟩ := RowsD.row hr i p.cells (by simp [hi])
  obtain ⟨a,rfl⟩ := Option.isSome_iff_exists.1 hp
  simp [execOp,ok.eval hx,elP,Instr.loadAt,Instr.sureAddr,loadVar,(oneCell_spec h.out w).1,(hc j u hj).2 a rfl]
theorem sw_stC {P : Program} {d : Option Tmp} {loc' : List Res} {e size m q c : Nat} {A : Option Addr} {xs xs' : List Value} {v : Value} (hsz : (P.info? t).map (·.size) = some 1) (hx : ev E x = some (elP A q) := by rfl) (hy : ev E y = some v := by rfl) (hv : v.cells.toList = [v]) (h1 : v.oneCell' = true := by rfl) (hq : q < m * size)
    (hxs : xs.take q ++ [v] ++ xs.drop (q + 1) = xs') (hA : At (orow e size (.slice A m c) m xs) (orow e size (.slice A m c) m xs') loc loc' := by (repeat (first | exact At.here _ | apply At.there))) (hg : gdB ops E g = some (bb,want) := by rfl) (hb : bb = want := by (first | with_reducible rfl | with_reducible assumption | with_reducible exact Bool.not_false | with_reducible exact Bool.not_true)) (hd : inB N d = true := by rfl)
    (h : Sw P N av bor w0 ops rest ⟨putE E d undef,loc',X⟩ kk) : Sw P N av bor w0 ops (⟨d,.store t x y,ty,pos,af,g⟩ :: rest) ⟨E,loc,X⟩ kk := Sw.mk fun a w ok => by
  have ho : ORow w e size (.slice A m c) m xs := (ok.gam.here _ hA.mem).now
  rcases ho.2 with ⟨_,h0⟩ | ⟨b,cap,cur,fz,hs,hb',hnc,hcm,hcs,htake,hfz⟩
  · rw [h0] at hq
    omega
  simp only [Value.slice.injEq] at hs
  obtain ⟨rfl,_,rfl⟩ := hs
  have hm2 : m * size ≤ cur.size := by rw [hcs];exact Nat.mul_le_mul_right _ hnc
  have hst := run_storeCells_m P b q e fz [v] 0 cur w hb' hfz (by simp;omega) (by simpa using h1)
  have hadd : (⟨b,0,none⟩ : Addr).add q = ⟨b,q,none⟩ := by unfold Addr.add;split <;> simp_all
  simp only [wpList]
  rw [wanted_of ok (o:=⟨d,.store t x y,ty,pos,af,g⟩) hg]
  subst hb
  simp only [beq_self_eq_true,if_true]
  left
  unfold Oper.wp
  have hs : v.cells.size = 1 := by have := congrArg List.length hv;simpa using this
  generalize hnew : (cur.toList.take q ++ [v] ++ cur.toList.drop (q + 1)).toArray = new at *
  have hr : (execOp a.eval ⟨d,.store t x y,ty,pos,af,g⟩).run P w = .ok .skip (w.setRow b new) := by
    try simp only [Nat.add_zero,List.length_singleton,hnew] at hst
    simp [execOp,ok.eval (st:=⟨E,loc,X⟩) hx,ok.eval (st:=⟨E,loc,X⟩) hy,elP,hadd,Instr.storeAt,Instr.sureAddr,storeVar,run_sizeOf hsz,hs,hv,hst]
  rw [hr]
  have hsn : new.size = cur.size := by
    rw [← hnew]
    simpa using put_lenR cur.toList [v] q 1 cur.size rfl (by omega) (by simp)
  have ho' : ORow (w.setRow b new) e size (.slice (some ⟨b,0,none⟩) m c) m xs' := by
    refine ⟨by rw [← hxs];exact put_lenR xs [v] q 1 (m * size) rfl (by omega) ho.1,.inr ⟨b,c,new,fz,rfl,Go.setRow_heap w b cur new e fz hb',hnc,hcm,hsn.trans hcs, ?_,by rw [hsn];exact hfz⟩⟩
    rw [← hnew, ← hxs, ← htake]
    exact take_putR cur.toList [v] q 1 (m * size) rfl (by omega) (by simpa using hm2)
  have ok' : Ok N av bor w0 ⟨E,loc',X⟩ a (w.setRow b new) := (ok.via fun M G => G.swap (hA.app M) rfl rfl rfl (by rw [Go.setRow_size];exact Nat.le_refl _) (fun j _ hj => Go.setRow_other w b j new (by rintro rfl;exact hj (by simp [orow,Value.ownBlock]))) (by simp [orow,Value.ownBlock]) (fun j hj => by
    have hj : j = b := by simpa [orow,Value.ownBlock] using hj
    subst hj
    exact ⟨by rw [Go.setRow_size];exact (Array.getElem?_eq_some_iff.1 hb').1,.inl (by simp [orow,Value.ownBlock])⟩) (orow_holds ho'))
  exact h.run _ _ (put_eq d _ ▸ ok'.put hd _)
theorem sw_stPf {d : Option Tmp} {loc' : List Res} {A : Option Addr} {m c i j : Nat} {P : List PostD} (p' : PostD) {p : PostD} {v : Value} (hi : P[i]? = some p) (hj : j < 11) (hc : p'.cells = p.cells.take j ++ [v] ++ p.cells.drop (j + 1)) (hn : m = P.length) (hsz : (Tryz.prog.info? t).map (·.size) = some 1) (hx : ev E x = some (elP A (i * 11 + j)) := by rfl) (hy : ev E y = some v := by rfl) (hv : v.cells.toList = [v]) (h1 : v.oneCell' = true := by rfl)
    (hA : At (orow 26 11 (.slice A m c) m (P.map PostD.cells).flatten) (orow 26 11 (.slice A m c) m ((P.set i p').map PostD.cells).flatten) loc loc' := by (repeat (first | exact At.here _ | apply At.there))) (hg : gdB ops E g = some (bb,want) := by rfl) (hb : bb = want := by (first | with_reducible rfl | with_reducible assumption | with_reducible exact Bool.not_false | with_reducible exact Bool.not_true)) (hd : inB N d = true := by rfl)
    (h : Sw Tryz.prog N av bor w0 ops rest ⟨putE E d undef,loc',X⟩ kk) : Sw Tryz.prog N av bor w0 ops (⟨d,.store t x y,ty,pos,af,g⟩ :: rest) ⟨E,loc,X⟩ kk := by
  have hil := (List.getElem?_eq_some_iff.1 hi).1
  exact sw_stC hsz hx hy hv h1 (by omega) (flatten_cellP P i j p p' v hi hj hc) hA hg hb hd h
end
end Sy
end Go.Proofs.YtjmpdkmboheknaaGreatDoor

namespace Go.Proofs.YtjmpdkmboheknaaGreatDoor
open Go Go.Proofs Sy
instance : TyMap Tryz.prog 85 3 (keyD Int) := ⟨by kernel_rfl⟩
instance : TyMap Tryz.prog 86 3 (keyD ByteArray) := ⟨by kernel_rfl⟩
structure RegI (c : ChainD) where
  k : Nat
  hk : k ≤ c.actsL.length
  P : List PostD
  hP : P.map PostD.can = openF c k
  hz : ∀ p ∈ P,p.ed = ⟨none,0,0⟩ ∧ p.edL = []
  pl : List (ByteArray × Value)
  hpl : ∀ d,mget pl d = (idxV (c.actsL.take k) d).map fun (j : Nat) => Value.int .i64 (j : Int)
  num : List (Int × Value)
  hnum : ∀ j : Nat,mget num (j : Int) = (posP P j).map fun (n : Nat) => Value.int .i64 (n : Int)
  n : Nat
  hn : n = P.length
  xs : List Value
  hxs : xs = (P.map PostD.cells).flatten
  A : Option Addr
  cp : Nat
def RegI.s {c : ChainD} (r : RegI c) : SlV := ⟨r.A,r.n,r.cp⟩
def regC (c : ChainD) (u : Value) (q1 q2 : Nat) : List Value := c.cells ++ [u,.map (some q1),.map (some q2)]
def RegAt (c : ChainD) (u : Value) (R : List Res) (X : World → Prop) : Prop := ∃ (r : RegI c) (b b1 q1 q2 : Nat),r.k = c.actsL.length ∧ u = .pointer (some ⟨b,0,none⟩) ∧ R = [cel b 88 (regC c r.s.v q1 q2),mapr q2 r.pl,mapr q1 r.num,cel b1 39 c.cells,postR r.s r.P] ∧ ∀ w,X w → ∀ p ∈ r.P,Strs w p.to p.toL
end Go.Proofs.YtjmpdkmboheknaaGreatDoor

namespace Go.Proofs.YtjmpdkmboheknaaGreatDoor
open Go Go.Proofs Sy
namespace Sy
section
variable {P : Program} {N : Nat} {av bor : List Nat} {w0 : World} {loc0 : List Res} {X0 : World → Prop} {ops : Array Oper} {fuel : Nat} {listed : Array Bool} {E : Env} {loc : List Res} {X : World → Prop} {k : St → Prop}
theorem aw_three (i j l : Nat) {o o' o'' : Oper} (hi : ops[i]? = some o := by rfl) (hj : ops[j]? = some o' := by rfl) (hl : ops[l]? = some o'' := by rfl) (hr : Region.ready .any ops listed = [i,j,l] := by kernel_rfl)
    (h : Sw P N av bor w0 ops [o] ⟨E,loc,X⟩ (fun s => (∀ w,Gam av bor w0 s.loc s.ext w → Gam av bor w0 loc0 X0 w) ∧ Aw P N av bor w0 loc0 X0 ops fuel (listed.setIfInBounds i true) s k))
    (h' : Sw P N av bor w0 ops [o'] ⟨E,loc,X⟩ (fun s => (∀ w,Gam av bor w0 s.loc s.ext w → Gam av bor w0 loc0 X0 w) ∧ Aw P N av bor w0 loc0 X0 ops fuel (listed.setIfInBounds j true) s k))
    (h'' : Sw P N av bor w0 ops [o''] ⟨E,loc,X⟩ (fun s => (∀ w,Gam av bor w0 s.loc s.ext w → Gam av bor w0 loc0 X0 w) ∧ Aw P N av bor w0 loc0 X0 ops fuel (listed.setIfInBounds l true) s k)) :
    Aw P N av bor w0 loc0 X0 ops (fuel + 1) listed ⟨E,loc,X⟩ k := ⟨fun a w ok => wpAnyH_all hr (by simp) fun x hx => by
  rcases List.mem_cons.1 hx with rfl | hx
  · exact aw_op hi h a w ok
  · rcases List.mem_cons.1 hx with rfl | hx
    · exact aw_op hj h' a w ok
    · rw [List.mem_singleton] at hx
      subst hx
      exact aw_op hl h'' a w ok⟩
theorem aw_four (i j l m : Nat) {o o' o'' o3 : Oper} (hi : ops[i]? = some o := by rfl) (hj : ops[j]? = some o' := by rfl) (hl : ops[l]? = some o'' := by rfl) (hm : ops[m]? = some o3 := by rfl) (hr : Region.ready .any ops listed = [i,j,l,m] := by kernel_rfl)
    (h : Sw P N av bor w0 ops [o] ⟨E,loc,X⟩ (fun s => (∀ w,Gam av bor w0 s.loc s.ext w → Gam av bor w0 loc0 X0 w) ∧ Aw P N av bor w0 loc0 X0 ops fuel (listed.setIfInBounds i true) s k))
    (h' : Sw P N av bor w0 ops [o'] ⟨E,loc,X⟩ (fun s => (∀ w,Gam av bor w0 s.loc s.ext w → Gam av bor w0 loc0 X0 w) ∧ Aw P N av bor w0 loc0 X0 ops fuel (listed.setIfInBounds j true) s k))
    (h'' : Sw P N av bor w0 ops [o''] ⟨E,loc,X⟩ (fun s => (∀ w,Gam av bor w0 s.loc s.ext w → Gam av bor w0 loc0 X0 w) ∧ Aw P N av bor w0 loc0 X0 ops fuel (listed.setIfInBounds l true) s k))
    (h3 : Sw P N av bor w0 ops [o3] ⟨E,loc,X⟩ (fun s => (∀ w,Gam av bor w0 s.loc s.ext w → Gam av bor w0 loc0 X0 w) ∧ Aw P N av bor w0 loc0 X0 ops fuel (listed.setIfInBounds m true) s k)) :
    Aw P N av bor w0 loc0 X0 ops (fuel + 1) listed ⟨E,loc,X⟩ k := ⟨fun a w ok => wpAnyH_all hr (by simp) fun x hx => by
  rcases List.mem_cons.1 hx with rfl | hx
  · exact aw_op hi h a w ok
  · rcases List.mem_cons.1 hx with rfl | hx
    · exact aw_op hj h' a w ok
    · rcases List.mem_cons.1 hx with rfl | hx
      · exact aw_op hl h'' a w ok
      · rw [List.mem_singleton] at hx
        subst hx
        exact aw_op hm h3 a w ok⟩
end
end Sy
end Go.Proofs.YtjmpdkmboheknaaGreatDoor

namespace Go.Proofs.YtjmpdkmboheknaaGreatDoor
open Go Go.Proofs Sy
structure BldH where
  ks : SlV
  ki : SlV
  id : ByteArray
  fork : Bool
  q1 : Nat
  q2 : Nat
  cl : ClaimD
  wn : Bool
def bldC (h : BldH) (sa sk : SlV) (prev : ByteArray) (gen : Int) : List Value := [h.ks.v,h.ki.v,.string h.id,.slice sa.p sa.n sa.c,.slice sk.p sk.n sk.c,.string prev,.int .i64 gen,.bool h.fork,.map (some h.q1),.map (some h.q2),.string h.cl.actor,.int .i64 h.cl.base,.string h.cl.prev,.int .i64 h.cl.gen,.int .i64 h.cl.home,.int .i64 h.cl.pub,.int .i64 h.cl.time,.int .i64 h.cl.e,.int .i64 h.cl.s,.bool h.wn]
def actR (s : SlV) (L : List ActD) : Res := orow 46 20 (.slice s.p s.n s.c) s.n (L.map ActD.cells).flatten
def keyR (s : SlV) (L : List KeyD) : Res := orow 152 3 (.slice s.p s.n s.c) s.n (L.map KeyD.cells).flatten
def bldR (b : Nat) (h : BldH) (sa sk : SlV) (st : ChS) (pl : List (ByteArray × Value)) : List Res := [cel b 146 (bldC h sa sk st.prev (st.gen : Nat)),actR sa st.acts,keyR sk st.keys,mapr h.q2 pl]
def PlOk (pl : List (ByteArray × Value)) (l : List ActD) : Prop := ∀ d,mget pl d = (idxV l d).map fun (j : Nat) => Value.int .i64 (j : Int)
structure BldOk (sa sk : SlV) (st : ChS) (pl : List (ByteArray × Value)) : Prop where
  hn : sa.n = st.acts.length
  hk : sk.n = st.keys.length
  hp : PlOk pl st.acts
def BldAt (b : Nat) (h : BldH) (st : ChS) (v u : Value) (R : List Res) : Prop := u = v ∧ ∃ (sa sk : SlV) (pl : List (ByteArray × Value)),BldOk sa sk st pl ∧ R = bldR b h sa sk st pl
theorem idxV_snoc (l : List ActD) (x : ActD) (d : ByteArray) : idxV (l ++ [x]) d = (idxV l d).or (bif seqB (digV x) d then some l.length else none) := by
  rw [idxV,idxV,List.findIdx?_append]
  congr 1
  rw [List.findIdx?_singleton]
  cases seqB (digV x) d with
  | true => simp
  | false => simp
theorem plOk_old {pl : List (ByteArray × Value)} {l : List ActD} (h : PlOk pl l) {x : ActD} {j : Nat} (hj : idxV l (digV x) = some j) : PlOk pl (l ++ [x]) := fun d => by
  rw [idxV_snoc,h d]
  cases hs : seqB (digV x) d with
  | true =>
    obtain rfl := seqB_iff.1 hs
    rw [hj]
    rfl
  | false => cases idxV l d <;> rfl
theorem plOk_new {pl : List (ByteArray × Value)} {l : List ActD} (h : PlOk pl l) {x : ActD} (hj : idxV l (digV x) = none) : PlOk (mput pl (digV x) (.int .i64 (l.length : Nat))) (l ++ [x]) := fun d => by
  rw [mget_mputG,idxV_snoc,eqbB]
  cases hs : seqB d (digV x) with
  | true =>
    obtain rfl := seqB_iff.1 hs
    rw [hj,hs]
    rfl
  | false =>
    rw [seqB_comm (digV x) d,hs,h d]
    cases idxV l d <;> rfl
set_option maxHeartbeats 8000000 in
theorem add_ct (b : Nat) (h : BldH) (sa sk : SlV) (st : ChS) (pl : List (ByteArray × Value)) (ok : BldOk sa sk st pl) (a : ActD) (ha : a.Rng) (hs : a.Sm) (hl : st.acts.length ≤ 1000000) (hl2 : st.keys.length ≤ 1000000) :
    Ct Tryz.prog 92 #[.pointer (some ⟨b,0,none⟩),a.v] (bldR b h sa sk st pl) (fun w => a.at_ w ∧ Glob w) (fun u R _ => BldAt b h (addS st a) (.tuple #[]) u R) := by
  obtain ⟨hn,hk,hp⟩ := ok
  refine ct_of_cwS (args:=[_,_]) _ Tryz.func92 rfl Tryz.ntmps92 rfl fun av bor w0 => ?_
  have hlk := hp (digV a)
  unfold bldR actR keyR
  repeat' (first | apply sw_nil | apply cw_seq | apply cw_reg | refine sy_move (h:=?_) | refine sy_assign (h:=?_) | refine sy_nilCheck (h:=?_) | refine sy_fld (h:=?_) | refine sy_ld (h:=?_) | refine sy_len (h:=?_) | refine sw_box (h:=fun _ => ?_) | fail)
  rename_i b1
  refine cw_meet (ι:=Option Addr × Nat) (fun i => ⟨[(0,.pointer (some ⟨b,0,none⟩)),(3,.pointer (some ⟨b1,0,none⟩)),(4,.pointer (some ⟨b,2,none⟩)),(5,.int .i64 (sa.n : Nat))], [cel b1 46 a.cells,cel b 146 (bldC h ⟨i.1,sa.n + 1,i.2⟩ sk st.prev (st.gen : Nat)),orow 46 20 (.slice i.1 (sa.n + 1) i.2) (sa.n + 1) ((st.acts.map ActD.cells).flatten ++ a.cells),orow 152 3 (.slice sk.p sk.n sk.c) sk.n (st.keys.map KeyD.cells).flatten,mapr h.q2 pl],fun w => a.at_ w ∧ Glob w⟩) ?_ fun i => ?_
  · (refine cw_draw [cel b1 46 a.cells] (fun w => a.at_ w ∧ Glob w) (by kernel_rfl) ?_)
    all_goals (refine aw_take 0 (hsub:=by (exact fun _ h => h.drop (by ((repeat (first | exact List.nil_sublist _ | apply List.Sublist.cons_cons));done)))) (h:=?_))
    all_goals (refine aw_take 1 (hsub:=by (exact fun _ h => h.drop (by ((repeat (first | exact List.nil_sublist _ | apply List.Sublist.cons_cons));done)))) (h:=?_))
    all_goals (refine aw_take 2 (hsub:=by (exact fun _ h => h.drop (by ((repeat (first | exact List.nil_sublist _ | apply List.Sublist.cons_cons));done)))) (h:=?_))
    all_goals (refine aw_take 3 (hsub:=by (exact fun _ h => h.drop (by ((repeat (first | exact List.nil_sublist _ | apply List.Sublist.cons_cons));done)))) (h:=?_))
    all_goals (refine aw_take 5 (hsub:=by (exact fun _ h => h.drop (by ((repeat (first | exact List.nil_sublist _ | apply List.Sublist.cons_cons));done)))) (h:=?_))
    all_goals (refine aw_two 4 6 (h:=?_) (h':=?_);(focus (((refine sy_ld (h:=?_));apply sw_nil;refine aw_fin (hsub:=by (exact fun _ h => h.drop (by ((repeat (first | exact List.nil_sublist _ | apply List.Sublist.cons_cons));done)))) (h:=?_));all_goals ((refine aw_step 6 (h:=?_);(refine sw_bslS (size:=20) (vs:=[a.v]) (css:=a.cells) (hsz:=by rfl) (hcs:=by rfl) (h:=fun _ => ?_));apply sw_nil;refine aw_fin (hsub:=by (exact fun _ h => h.drop (by ((repeat (first | exact List.nil_sublist _ | apply List.Sublist.cons_cons | apply List.Sublist.cons));done)))) (h:=?_));all_goals (refine aw_step 7 (h:=?_);(refine sw_append (size:=20) (news:=a.cells) (q:=1) rfl rfl rfl rfl (fun _ => by (repeat (first | with_reducible exact At.here _ | apply At.there))) (fun w G => src_cel G (by (repeat (exact List.mem_cons_self))) rfl rfl 1) (by omega) (by simp only [maxLen];omega) rfl ?_ rfl ?_;(with_reducible rfl);intro A2 c2);apply sw_nil;refine aw_fin (hsub:=by (exact fun _ h => h.drop (by ((repeat (first | exact List.nil_sublist _ | apply List.Sublist.cons_cons | apply List.Sublist.cons));done)))) (h:=?_));all_goals (refine aw_take 8 (hsub:=by (exact fun _ h => h.drop (by ((repeat (first | exact List.nil_sublist _ | apply List.Sublist.cons_cons | apply List.Sublist.cons));done)))) (h:=?_));all_goals (refine aw_take 9 (hsub:=by (exact fun _ h => h.drop (by ((repeat (first | exact List.nil_sublist _ | apply List.Sublist.cons_cons | apply List.Sublist.cons));done)))) (h:=?_));all_goals (refine aw_step 10 (h:=?_);(refine sw_st1 (h:=?_));apply sw_nil;refine aw_fin (hsub:=by (exact fun _ h => h.drop (by ((repeat (first | exact List.nil_sublist _ | apply List.Sublist.cons_cons | apply List.Sublist.cons));done)))) (h:=?_));all_goals (refine aw_done (h:=?_)))));rotate_right;(focus (((refine sw_bslS (size:=20) (vs:=[a.v]) (css:=a.cells) (hsz:=by rfl) (hcs:=by rfl) (h:=fun _ => ?_));apply sw_nil;refine aw_fin (hsub:=by (exact fun _ h => h.drop (by ((repeat (first | exact List.nil_sublist _ | apply List.Sublist.cons_cons | apply List.Sublist.cons));done)))) (h:=?_));all_goals ((refine aw_step 4 (h:=?_);(refine sy_ld (h:=?_));apply sw_nil;refine aw_fin (hsub:=by (exact fun _ h => h.drop (by ((repeat (first | exact List.nil_sublist _ | apply List.Sublist.cons_cons | apply List.Sublist.cons));done)))) (h:=?_));all_goals (refine aw_step 7 (h:=?_);(refine sw_append (size:=20) (news:=a.cells) (q:=1) rfl rfl rfl rfl (fun _ => by (repeat (first | with_reducible exact At.here _ | apply At.there))) (fun w G => src_cel G (by (repeat (exact List.mem_cons_self))) rfl rfl 1) (by omega) (by simp only [maxLen];omega) rfl ?_ rfl ?_;(with_reducible rfl);intro A2 c2);apply sw_nil;refine aw_fin (hsub:=by (exact fun _ h => h.drop (by ((repeat (first | exact List.nil_sublist _ | apply List.Sublist.cons_cons | apply List.Sublist.cons));done)))) (h:=?_));all_goals (refine aw_take 8 (hsub:=by (exact fun _ h => h.drop (by ((repeat (first | exact List.nil_sublist _ | apply List.Sublist.cons_cons | apply List.Sublist.cons));done)))) (h:=?_));all_goals (refine aw_take 9 (hsub:=by (exact fun _ h => h.drop (by ((repeat (first | exact List.nil_sublist _ | apply List.Sublist.cons_cons | apply List.Sublist.cons));done)))) (h:=?_));all_goals (refine aw_step 10 (h:=?_);(refine sw_st1 (h:=?_));apply sw_nil;refine aw_fin (hsub:=by (exact fun _ h => h.drop (by ((repeat (first | exact List.nil_sublist _ | apply List.Sublist.cons_cons | apply List.Sublist.cons));done)))) (h:=?_));all_goals (refine aw_done (h:=?_))))))
    all_goals exact ⟨(_,_),ok_sub ⟨rfl,rfl,rfl,rfl,trivial⟩ (List.Sublist.cons _ (List.Sublist.refl _)) fun w h => h⟩
  obtain ⟨A2,c2⟩ := i
  simp only
  repeat' (first | apply cw_seq | apply cw_reg | refine sy_move (h:=?_) | refine sy_ldAll (h:=?_) | fail)
  refine sw_mk (hc:=ofAct_mk a ha hs) (hX:=fun w h => h.1) (h:=fun v1 X1 h1 => ?_)
  obtain ⟨x',rfl,hdig,hr',hat⟩ := h1
  refine sw_pu (hc:=digest_pu x' hr') (hX:=fun w h => ⟨hat w h.2,h.1.2⟩) (h:=?_)
  rw [hdig]
  generalize hD : digV a = D at hlk
  refine sy_nilCheck (h:=?_)
  refine sy_fld (h:=?_)
  refine sw_st1 (h:=?_)
  apply sw_nil
  apply cw_seq
  refine cw_meet (ι:={ pl' : List (ByteArray × Value) // PlOk pl' (st.acts ++ [a]) }) (fun i => ⟨[(3,.pointer (some ⟨b1,0,none⟩)),(4,.pointer (some ⟨b,2,none⟩)),(5,.int .i64 (sa.n : Nat))], [cel b1 46 a.cells,cel b 146 (bldC h ⟨A2,sa.n + 1,c2⟩ sk D (st.gen : Nat)),orow 46 20 (.slice A2 (sa.n + 1) c2) (sa.n + 1) ((st.acts.map ActD.cells).flatten ++ a.cells),orow 152 3 (.slice sk.p sk.n sk.c) sk.n (st.keys.map KeyD.cells).flatten,mapr h.q2 i.1],fun w => a.at_ w ∧ Glob w⟩) ?_ fun i => ?_
  · have hpn := fun hj => plOk_new hp (x:=a) hj
    have hpo := fun j hj => plOk_old hp (x:=a) (j:=j) hj
    rw [hD] at hpn hpo
    cases hj : idxV st.acts D with
    | none =>
      rw [hj] at hlk
      apply cw_seq
      (refine cw_draw [cel b1 46 a.cells,cel b 146 (bldC h ⟨A2,sa.n + 1,c2⟩ sk D (st.gen : Nat)),orow 46 20 (.slice A2 (sa.n + 1) c2) (sa.n + 1) ((st.acts.map ActD.cells).flatten ++ a.cells),orow 152 3 (.slice sk.p sk.n sk.c) sk.n (st.keys.map KeyD.cells).flatten,mapr h.q2 pl] (fun w => (a.at_ w ∧ Glob w) ∧ X1 w) (by kernel_rfl) ?_)
      all_goals (refine aw_dtake 0 (h:=?_))
      all_goals (refine aw_dtake 1 (h:=?_))
      all_goals (refine aw_dtake 2 (h:=?_))
      all_goals (refine aw_dtake 3 (h:=?_))
      all_goals (refine aw_dtake 4 (h:=?_))
      all_goals (refine aw_dtake 5 (h:=?_))
      all_goals (refine aw_dtake 6 (h:=?_))
      all_goals (refine aw_dtake 7 (h:=?_))
      all_goals (refine aw_step 8 (h:=?_);(refine sy_lookup2 (κ:=ByteArray) (kk:=D) (b:=false) (v:=.int .i64 0) (hl:=map_loc (by (repeat (first | exact List.mem_cons_self | apply List.mem_cons_of_mem)))) (ho:=hlk) (h:=?_));apply sw_nil;refine aw_dfin (h:=?_))
      all_goals (refine aw_dtake 9 (h:=?_))
      all_goals (refine aw_dtake 10 (h:=?_))
      all_goals (refine aw_dtake 11 (h:=?_))
      all_goals (refine aw_dtake 12 (h:=?_))
      all_goals (refine aw_dtake 13 (h:=?_))
      all_goals (refine aw_done (h:=?_))
      all_goals
        repeat' (first | apply sw_nil | apply cw_seq | apply cw_reg | refine sy_move (h:=?_) | refine sy_not (h:=?_) | refine cw_cond_t (ht:=?_) | fail)
        (refine cw_draw [cel b1 46 a.cells,cel b 146 (bldC h ⟨A2,sa.n + 1,c2⟩ sk D (st.gen : Nat)),orow 46 20 (.slice A2 (sa.n + 1) c2) (sa.n + 1) ((st.acts.map ActD.cells).flatten ++ a.cells),orow 152 3 (.slice sk.p sk.n sk.c) sk.n (st.keys.map KeyD.cells).flatten] (fun w => (a.at_ w ∧ Glob w) ∧ X1 w) (by kernel_rfl) ?_)
        all_goals (refine aw_take 0 (hsub:=by (exact fun _ h => h.drop (by ((repeat (first | exact List.nil_sublist _ | apply List.Sublist.cons_cons));done)))) (h:=?_))
        all_goals (refine aw_take 1 (hsub:=by (exact fun _ h => h.drop (by ((repeat (first | exact List.nil_sublist _ | apply List.Sublist.cons_cons));done)))) (h:=?_))
        all_goals (refine aw_take 2 (hsub:=by (exact fun _ h => h.drop (by ((repeat (first | exact List.nil_sublist _ | apply List.Sublist.cons_cons));done)))) (h:=?_))
        all_goals (refine aw_take 3 (hsub:=by (exact fun _ h => h.drop (by ((repeat (first | exact List.nil_sublist _ | apply List.Sublist.cons_cons));done)))) (h:=?_))
        all_goals (refine aw_take 4 (hsub:=by (exact fun _ h => h.drop (by ((repeat (first | exact List.nil_sublist _ | apply List.Sublist.cons_cons));done)))) (h:=?_))
        all_goals (refine aw_take 5 (hsub:=by (exact fun _ h => h.drop (by ((repeat (first | exact List.nil_sublist _ | apply List.Sublist.cons_cons));done)))) (h:=?_))
        all_goals (refine aw_take 6 (hsub:=by (exact fun _ h => h.drop (by ((repeat (first | exact List.nil_sublist _ | apply List.Sublist.cons_cons));done)))) (h:=?_))
        all_goals (refine aw_take 7 (hsub:=by (exact fun _ h => h.drop (by ((repeat (first | exact List.nil_sublist _ | apply List.Sublist.cons_cons));done)))) (h:=?_))
        all_goals (refine aw_take 8 (hsub:=by (exact fun _ h => h.drop (by ((repeat (first | exact List.nil_sublist _ | apply List.Sublist.cons_cons));done)))) (h:=?_))
        all_goals (refine aw_step 9 (h:=?_);(refine sw_update (κ:=ByteArray) (kk:=D) (v:=.int .i64 (sa.n : Nat)) (h:=?_));apply sw_nil;refine aw_fin (hsub:=by (exact fun _ h => h.drop (by ((repeat (first | exact List.nil_sublist _ | apply List.Sublist.cons_cons));done)))) (h:=?_))
        all_goals (refine aw_done (h:=?_))
        all_goals exact ⟨⟨mput pl D (.int .i64 (sa.n : Nat)),by rw [hn];exact hpn hj⟩,ok_sub ⟨rfl,rfl,rfl,trivial⟩ (List.Sublist.refl _) fun w h => h.1⟩
    | some j =>
      rw [hj] at hlk
      apply cw_seq
      (refine cw_draw [cel b1 46 a.cells,cel b 146 (bldC h ⟨A2,sa.n + 1,c2⟩ sk D (st.gen : Nat)),orow 46 20 (.slice A2 (sa.n + 1) c2) (sa.n + 1) ((st.acts.map ActD.cells).flatten ++ a.cells),orow 152 3 (.slice sk.p sk.n sk.c) sk.n (st.keys.map KeyD.cells).flatten,mapr h.q2 pl] (fun w => (a.at_ w ∧ Glob w) ∧ X1 w) (by kernel_rfl) ?_)
      all_goals (refine aw_dtake 0 (h:=?_))
      all_goals (refine aw_dtake 1 (h:=?_))
      all_goals (refine aw_dtake 2 (h:=?_))
      all_goals (refine aw_dtake 3 (h:=?_))
      all_goals (refine aw_dtake 4 (h:=?_))
      all_goals (refine aw_dtake 5 (h:=?_))
      all_goals (refine aw_dtake 6 (h:=?_))
      all_goals (refine aw_dtake 7 (h:=?_))
      all_goals (refine aw_step 8 (h:=?_);(refine sy_lookup2 (κ:=ByteArray) (kk:=D) (b:=true) (v:=.int .i64 (j : Nat)) (hl:=map_loc (by (repeat (first | exact List.mem_cons_self | apply List.mem_cons_of_mem)))) (ho:=hlk) (h:=?_));apply sw_nil;refine aw_dfin (h:=?_))
      all_goals (refine aw_dtake 9 (h:=?_))
      all_goals (refine aw_dtake 10 (h:=?_))
      all_goals (refine aw_dtake 11 (h:=?_))
      all_goals (refine aw_dtake 12 (h:=?_))
      all_goals (refine aw_dtake 13 (h:=?_))
      all_goals (refine aw_done (h:=?_))
      all_goals
        repeat' (first | apply sw_nil | apply cw_seq | apply cw_reg | refine sy_move (h:=?_) | refine sy_not (h:=?_) | refine cw_cond_f (hf:=?_) | apply cw_skip | fail)
        exact ⟨⟨pl,hpo j hj⟩,ok_sub ⟨rfl,rfl,rfl,trivial⟩ (List.Sublist.refl _) fun w h => h.1⟩
  obtain ⟨pl',hpl'⟩ := i
  simp only
  clear hp hlk hdig hr' hat
  have hfl : ((st.acts ++ [a]).map ActD.cells).flatten = (st.acts.map ActD.cells).flatten ++ a.cells := by simp
  by_cases hk18 : a.kind = 18
  · have hst : addS st a = ⟨st.acts ++ [a],st.keys ++ [⟨((sa.n + 1 : Nat) : Int),a.n,a.m⟩],D,st.gen⟩ := by rw [addS,hk18,hD,hn];rfl
    have hfk : ((st.keys ++ [(⟨((sa.n + 1 : Nat) : Int),a.n,a.m⟩ : KeyD)]).map KeyD.cells).flatten = (st.keys.map KeyD.cells).flatten ++ KeyD.cells ⟨((sa.n + 1 : Nat) : Int),a.n,a.m⟩ := by simp
    repeat' (first | refine sy_eqlT (hab:=hk18) (h:=?_) | apply sw_nil | apply cw_seq | apply cw_reg | refine sy_fld (h:=?_) | refine sy_ld (h:=?_) | refine cw_cond_t (ht:=?_) | fail)
    (refine cw_draw [cel b1 46 a.cells] (fun w => a.at_ w ∧ Glob w) (by kernel_rfl) ?_)
    all_goals (refine aw_take 0 (hsub:=by (exact fun _ h => h.drop (by ((repeat (first | exact List.nil_sublist _ | apply List.Sublist.cons_cons));done)))) (h:=?_))
    all_goals (refine aw_take 1 (hsub:=by (exact fun _ h => h.drop (by ((repeat (first | exact List.nil_sublist _ | apply List.Sublist.cons_cons));done)))) (h:=?_))
    all_goals (refine aw_take 2 (hsub:=by (exact fun _ h => h.drop (by ((repeat (first | exact List.nil_sublist _ | apply List.Sublist.cons_cons));done)))) (h:=?_))
    all_goals (refine aw_take 3 (hsub:=by (exact fun _ h => h.drop (by ((repeat (first | exact List.nil_sublist _ | apply List.Sublist.cons_cons));done)))) (h:=?_))
    all_goals (refine aw_take 5 (hsub:=by (exact fun _ h => h.drop (by ((repeat (first | exact List.nil_sublist _ | apply List.Sublist.cons_cons));done)))) (h:=?_))
    all_goals (refine aw_take 6 (hsub:=by (exact fun _ h => h.drop (by ((repeat (first | exact List.nil_sublist _ | apply List.Sublist.cons_cons));done)))) (h:=?_))
    all_goals (refine aw_take 7 (hsub:=by (exact fun _ h => h.drop (by ((repeat (first | exact List.nil_sublist _ | apply List.Sublist.cons_cons));done)))) (h:=?_))
    all_goals (refine aw_take 8 (hsub:=by (exact fun _ h => h.drop (by ((repeat (first | exact List.nil_sublist _ | apply List.Sublist.cons_cons));done)))) (h:=?_))
    all_goals (refine aw_take 9 (hsub:=by (exact fun _ h => h.drop (by ((repeat (first | exact List.nil_sublist _ | apply List.Sublist.cons_cons));done)))) (h:=?_))
    all_goals (refine aw_take 10 (hsub:=by (exact fun _ h => h.drop (by ((repeat (first | exact List.nil_sublist _ | apply List.Sublist.cons_cons));done)))) (h:=?_))
    all_goals (refine aw_take 11 (hsub:=by (exact fun _ h => h.drop (by ((repeat (first | exact List.nil_sublist _ | apply List.Sublist.cons_cons));done)))) (hy:=by (apply y_build (cs:=KeyD.cells ⟨((sa.n + 1 : Nat) : Int),a.n,a.m⟩);rfl;rfl)) (h:=?_))
    all_goals (refine aw_two 4 12 (h:=?_) (h':=?_);(focus (((refine sy_ld (h:=?_));apply sw_nil;refine aw_fin (hsub:=by (exact fun _ h => h.drop (by ((repeat (first | exact List.nil_sublist _ | apply List.Sublist.cons_cons));done)))) (h:=?_));all_goals ((refine aw_step 12 (h:=?_);(refine sw_bslS (size:=3) (vs:=[KeyD.v ⟨((sa.n + 1 : Nat) : Int),a.n,a.m⟩]) (css:=KeyD.cells ⟨((sa.n + 1 : Nat) : Int),a.n,a.m⟩) (hsz:=by rfl) (hcs:=by rfl) (h:=fun _ => ?_));apply sw_nil;refine aw_fin (hsub:=by (exact fun _ h => h.drop (by ((repeat (first | exact List.nil_sublist _ | apply List.Sublist.cons_cons | apply List.Sublist.cons));done)))) (h:=?_));all_goals (refine aw_step 13 (h:=?_);(refine sw_append (size:=3) (news:=KeyD.cells ⟨((sa.n + 1 : Nat) : Int),a.n,a.m⟩) (q:=1) rfl rfl rfl rfl (fun _ => by (repeat (first | with_reducible exact At.here _ | apply At.there))) (fun w G => src_cel G (by (repeat (exact List.mem_cons_self))) rfl rfl 1) (by omega) (by simp only [maxLen];omega) rfl ?_ rfl ?_;(with_reducible rfl);intro A3 c3);apply sw_nil;refine aw_fin (hsub:=by (exact fun _ h => h.drop (by ((repeat (first | exact List.nil_sublist _ | apply List.Sublist.cons_cons | apply List.Sublist.cons));done)))) (h:=?_));all_goals (refine aw_take 14 (hsub:=by (exact fun _ h => h.drop (by ((repeat (first | exact List.nil_sublist _ | apply List.Sublist.cons_cons | apply List.Sublist.cons));done)))) (h:=?_));all_goals (refine aw_take 15 (hsub:=by (exact fun _ h => h.drop (by ((repeat (first | exact List.nil_sublist _ | apply List.Sublist.cons_cons | apply List.Sublist.cons));done)))) (h:=?_));all_goals (refine aw_step 16 (h:=?_);(refine sw_st1 (h:=?_));apply sw_nil;refine aw_fin (hsub:=by (exact fun _ h => h.drop (by ((repeat (first | exact List.nil_sublist _ | apply List.Sublist.cons_cons | apply List.Sublist.cons));done)))) (h:=?_));all_goals (refine aw_done (h:=?_)))));rotate_right;(focus (((refine sw_bslS (size:=3) (vs:=[KeyD.v ⟨((sa.n + 1 : Nat) : Int),a.n,a.m⟩]) (css:=KeyD.cells ⟨((sa.n + 1 : Nat) : Int),a.n,a.m⟩) (hsz:=by rfl) (hcs:=by rfl) (h:=fun _ => ?_));apply sw_nil;refine aw_fin (hsub:=by (exact fun _ h => h.drop (by ((repeat (first | exact List.nil_sublist _ | apply List.Sublist.cons_cons | apply List.Sublist.cons));done)))) (h:=?_));all_goals ((refine aw_step 4 (h:=?_);(refine sy_ld (h:=?_));apply sw_nil;refine aw_fin (hsub:=by (exact fun _ h => h.drop (by ((repeat (first | exact List.nil_sublist _ | apply List.Sublist.cons_cons | apply List.Sublist.cons));done)))) (h:=?_));all_goals (refine aw_step 13 (h:=?_);(refine sw_append (size:=3) (news:=KeyD.cells ⟨((sa.n + 1 : Nat) : Int),a.n,a.m⟩) (q:=1) rfl rfl rfl rfl (fun _ => by (repeat (first | with_reducible exact At.here _ | apply At.there))) (fun w G => src_cel G (by (repeat (exact List.mem_cons_self))) rfl rfl 1) (by omega) (by simp only [maxLen];omega) rfl ?_ rfl ?_;(with_reducible rfl);intro A3 c3);apply sw_nil;refine aw_fin (hsub:=by (exact fun _ h => h.drop (by ((repeat (first | exact List.nil_sublist _ | apply List.Sublist.cons_cons | apply List.Sublist.cons));done)))) (h:=?_));all_goals (refine aw_take 14 (hsub:=by (exact fun _ h => h.drop (by ((repeat (first | exact List.nil_sublist _ | apply List.Sublist.cons_cons | apply List.Sublist.cons));done)))) (h:=?_));all_goals (refine aw_take 15 (hsub:=by (exact fun _ h => h.drop (by ((repeat (first | exact List.nil_sublist _ | apply List.Sublist.cons_cons | apply List.Sublist.cons));done)))) (h:=?_));all_goals (refine aw_step 16 (h:=?_);(refine sw_st1 (h:=?_));apply sw_nil;refine aw_fin (hsub:=by (exact fun _ h => h.drop (by ((repeat (first | exact List.nil_sublist _ | apply List.Sublist.cons_cons | apply List.Sublist.cons));done)))) (h:=?_));all_goals (refine aw_done (h:=?_))))))
    all_goals
      refine ends_end (res_none rfl) ⟨_,List.Sublist.cons _ (List.Sublist.cons _ (List.Sublist.refl _)),rfl,⟨A2,sa.n + 1,c2⟩,⟨A3,sk.n + 1,c3⟩,pl',⟨?_, ?_, ?_⟩, ?_⟩
      · rw [hst,List.length_append,hn];rfl
      · rw [hst,List.length_append,hk];rfl
      · rw [hst];exact hpl'
      · rw [hst]
        unfold bldR actR keyR
        rw [hfl,hfk]
        rfl
  · repeat' (first | refine sy_eqlF (hab:=hk18) (h:=?_) | apply sw_nil | apply cw_seq | apply cw_reg | refine sy_fld (h:=?_) | refine sy_ld (h:=?_) | refine cw_cond_f (hf:=?_) | apply cw_skip | fail)
    have hst : addS st a = ⟨st.acts ++ [a],st.keys,D,st.gen⟩ := by rw [addS,hD,decide_eq_false hk18];rfl
    refine ends_end (res_none rfl) ⟨_,List.Sublist.cons _ (List.Sublist.refl _),rfl,⟨A2,sa.n + 1,c2⟩,sk,pl',⟨?_, ?_, ?_⟩, ?_⟩
    · rw [hst,List.length_append,hn];rfl
    · rw [hst,hk]
    · rw [hst];exact hpl'
    · rw [hst]
      unfold bldR actR keyR
      rw [hfl]
end Go.Proofs.YtjmpdkmboheknaaGreatDoor

namespace Go.Proofs.YtjmpdkmboheknaaGreatDoor
open Go Go.Proofs Sy
def BldH.look (h : BldH) (o : Option ClaimD) : BldH := { h with cl := o.getD ClaimD.zero,wn := o.isSome }
def bldCel (b : Nat) (h : BldH) (sa sk : SlV) (st : ChS) : Res := cel b 146 (bldC h sa sk st.prev (st.gen : Nat))
set_option maxHeartbeats 4000000 in
theorem look_ct (b : Nat) (h : BldH) (sa sk : SlV) (st : ChS) (o : Option ClaimD) (Y : World → Prop)
    (hwon : Pu Tryz.prog 148 #[.agg #[h.ks.v,h.ki.v],.string h.id,.int .i64 (st.gen : Nat)] Y (.tuple #[(o.getD ClaimD.zero).v,.bool o.isSome])) :
    Ct Tryz.prog 93 #[.pointer (some ⟨b,0,none⟩)] [bldCel b h sa sk st] Y (fun u R _ => u = .tuple #[] ∧ R = [bldCel b (h.look o) sa sk st]) := by
  refine ct_of_cwS (args:=[_]) _ Tryz.func93 rfl Tryz.ntmps93 rfl fun av bor w0 => ?_
  unfold bldCel
  generalize hc : o.getD ClaimD.zero = c at hwon
  generalize hi : o.isSome = i at hwon
  have hL : h.look o = { h with cl := c,wn := i } := by rw [BldH.look,hc,hi]
  rw [hL]
  (refine cw_draw [] (fun w => Y w) (by kernel_rfl) ?_)
  all_goals (refine aw_take 0 (h:=?_))
  all_goals (refine aw_take 1 (h:=?_))
  all_goals (refine aw_take 2 (h:=?_))
  all_goals (refine aw_take 3 (h:=?_))
  all_goals (refine aw_take 4 (h:=?_))
  all_goals (refine aw_take 6 (h:=?_))
  all_goals (refine aw_take 7 (h:=?_))
  all_goals (refine aw_take 8 (h:=?_))
  all_goals (refine aw_take 9 (h:=?_))
  all_goals (refine aw_take 11 (h:=?_))
  all_goals (refine aw_take 12 (h:=?_))
  all_goals (refine aw_take 13 (h:=?_))
  all_goals (refine aw_take 14 (h:=?_))
  all_goals (refine aw_three 5 10 15 (h:=?_) (h':=?_) (h'':=?_);(focus (((refine sy_ldSub (vs:=[h.ks.v,h.ki.v]) (hv:=rfl) (h:=?_));apply sw_nil;refine aw_fin (h:=?_));all_goals ((refine aw_two 10 15 (h:=?_) (h':=?_);(focus (((refine sy_ld (h:=?_));apply sw_nil;refine aw_fin (h:=?_));all_goals ((refine aw_step 15 (h:=?_);(refine sy_ld (h:=?_));apply sw_nil;refine aw_fin (h:=?_));all_goals (refine aw_step 16 (h:=?_);(refine sw_pu (hc:=hwon) (hX:=fun w h => h) (h:=?_));apply sw_nil;refine aw_fin (h:=?_));all_goals (refine aw_take 17 (h:=?_));all_goals (refine aw_take 18 (h:=?_));all_goals (refine aw_take 19 (h:=?_));all_goals (refine aw_take 20 (h:=?_));all_goals (refine aw_take 21 (h:=?_));all_goals (refine aw_step 22 (h:=?_);(refine sw_stSub (bldC { h with cl := c } sa sk st.prev (st.gen : Nat)) (h:=?_));apply sw_nil;refine aw_fin (h:=?_));all_goals (refine aw_take 23 (h:=?_));all_goals (refine aw_take 24 (h:=?_));all_goals (refine aw_step 25 (h:=?_);(refine sw_st1 (h:=?_));apply sw_nil;refine aw_fin (h:=?_));all_goals (refine aw_done (h:=?_)))));rotate_right;(focus (((refine sy_ld (h:=?_));apply sw_nil;refine aw_fin (h:=?_));all_goals ((refine aw_step 10 (h:=?_);(refine sy_ld (h:=?_));apply sw_nil;refine aw_fin (h:=?_));all_goals (refine aw_step 16 (h:=?_);(refine sw_pu (hc:=hwon) (hX:=fun w h => h) (h:=?_));apply sw_nil;refine aw_fin (h:=?_));all_goals (refine aw_take 17 (h:=?_));all_goals (refine aw_take 18 (h:=?_));all_goals (refine aw_take 19 (h:=?_));all_goals (refine aw_take 20 (h:=?_));all_goals (refine aw_take 21 (h:=?_));all_goals (refine aw_step 22 (h:=?_);(refine sw_stSub (bldC { h with cl := c } sa sk st.prev (st.gen : Nat)) (h:=?_));apply sw_nil;refine aw_fin (h:=?_));all_goals (refine aw_take 23 (h:=?_));all_goals (refine aw_take 24 (h:=?_));all_goals (refine aw_step 25 (h:=?_);(refine sw_st1 (h:=?_));apply sw_nil;refine aw_fin (h:=?_));all_goals (refine aw_done (h:=?_)))))))));rotate_right;(focus (((refine sy_ld (h:=?_));apply sw_nil;refine aw_fin (h:=?_));all_goals ((refine aw_two 5 10 (h:=?_) (h':=?_);(focus (((refine sy_ldSub (vs:=[h.ks.v,h.ki.v]) (hv:=rfl) (h:=?_));apply sw_nil;refine aw_fin (h:=?_));all_goals ((refine aw_step 10 (h:=?_);(refine sy_ld (h:=?_));apply sw_nil;refine aw_fin (h:=?_));all_goals (refine aw_step 16 (h:=?_);(refine sw_pu (hc:=hwon) (hX:=fun w h => h) (h:=?_));apply sw_nil;refine aw_fin (h:=?_));all_goals (refine aw_take 17 (h:=?_));all_goals (refine aw_take 18 (h:=?_));all_goals (refine aw_take 19 (h:=?_));all_goals (refine aw_take 20 (h:=?_));all_goals (refine aw_take 21 (h:=?_));all_goals (refine aw_step 22 (h:=?_);(refine sw_stSub (bldC { h with cl := c } sa sk st.prev (st.gen : Nat)) (h:=?_));apply sw_nil;refine aw_fin (h:=?_));all_goals (refine aw_take 23 (h:=?_));all_goals (refine aw_take 24 (h:=?_));all_goals (refine aw_step 25 (h:=?_);(refine sw_st1 (h:=?_));apply sw_nil;refine aw_fin (h:=?_));all_goals (refine aw_done (h:=?_)))));rotate_right;(focus (((refine sy_ld (h:=?_));apply sw_nil;refine aw_fin (h:=?_));all_goals ((refine aw_step 5 (h:=?_);(refine sy_ldSub (vs:=[h.ks.v,h.ki.v]) (hv:=rfl) (h:=?_));apply sw_nil;refine aw_fin (h:=?_));all_goals (refine aw_step 16 (h:=?_);(refine sw_pu (hc:=hwon) (hX:=fun w h => h) (h:=?_));apply sw_nil;refine aw_fin (h:=?_));all_goals (refine aw_take 17 (h:=?_));all_goals (refine aw_take 18 (h:=?_));all_goals (refine aw_take 19 (h:=?_));all_goals (refine aw_take 20 (h:=?_));all_goals (refine aw_take 21 (h:=?_));all_goals (refine aw_step 22 (h:=?_);(refine sw_stSub (bldC { h with cl := c } sa sk st.prev (st.gen : Nat)) (h:=?_));apply sw_nil;refine aw_fin (h:=?_));all_goals (refine aw_take 23 (h:=?_));all_goals (refine aw_take 24 (h:=?_));all_goals (refine aw_step 25 (h:=?_);(refine sw_st1 (h:=?_));apply sw_nil;refine aw_fin (h:=?_));all_goals (refine aw_done (h:=?_)))))))));rotate_right;(focus (((refine sy_ld (h:=?_));apply sw_nil;refine aw_fin (h:=?_));all_goals ((refine aw_two 5 15 (h:=?_) (h':=?_);(focus (((refine sy_ldSub (vs:=[h.ks.v,h.ki.v]) (hv:=rfl) (h:=?_));apply sw_nil;refine aw_fin (h:=?_));all_goals ((refine aw_step 15 (h:=?_);(refine sy_ld (h:=?_));apply sw_nil;refine aw_fin (h:=?_));all_goals (refine aw_step 16 (h:=?_);(refine sw_pu (hc:=hwon) (hX:=fun w h => h) (h:=?_));apply sw_nil;refine aw_fin (h:=?_));all_goals (refine aw_take 17 (h:=?_));all_goals (refine aw_take 18 (h:=?_));all_goals (refine aw_take 19 (h:=?_));all_goals (refine aw_take 20 (h:=?_));all_goals (refine aw_take 21 (h:=?_));all_goals (refine aw_step 22 (h:=?_);(refine sw_stSub (bldC { h with cl := c } sa sk st.prev (st.gen : Nat)) (h:=?_));apply sw_nil;refine aw_fin (h:=?_));all_goals (refine aw_take 23 (h:=?_));all_goals (refine aw_take 24 (h:=?_));all_goals (refine aw_step 25 (h:=?_);(refine sw_st1 (h:=?_));apply sw_nil;refine aw_fin (h:=?_));all_goals (refine aw_done (h:=?_)))));rotate_right;(focus (((refine sy_ld (h:=?_));apply sw_nil;refine aw_fin (h:=?_));all_goals ((refine aw_step 5 (h:=?_);(refine sy_ldSub (vs:=[h.ks.v,h.ki.v]) (hv:=rfl) (h:=?_));apply sw_nil;refine aw_fin (h:=?_));all_goals (refine aw_step 16 (h:=?_);(refine sw_pu (hc:=hwon) (hX:=fun w h => h) (h:=?_));apply sw_nil;refine aw_fin (h:=?_));all_goals (refine aw_take 17 (h:=?_));all_goals (refine aw_take 18 (h:=?_));all_goals (refine aw_take 19 (h:=?_));all_goals (refine aw_take 20 (h:=?_));all_goals (refine aw_take 21 (h:=?_));all_goals (refine aw_step 22 (h:=?_);(refine sw_stSub (bldC { h with cl := c } sa sk st.prev (st.gen : Nat)) (h:=?_));apply sw_nil;refine aw_fin (h:=?_));all_goals (refine aw_take 23 (h:=?_));all_goals (refine aw_take 24 (h:=?_));all_goals (refine aw_step 25 (h:=?_);(refine sw_st1 (h:=?_));apply sw_nil;refine aw_fin (h:=?_));all_goals (refine aw_done (h:=?_))))))))))
  all_goals exact ends_end (res_none rfl) ⟨_,List.Sublist.refl _,rfl,rfl⟩
namespace Sy
section
variable {P : Program} {N : Nat} {av bor : List Nat} {w0 : World} {st : St} {t : TypeId} {ty : TypeId} {x : Operand}
theorem y_ldO1' {e size m i c j : Nat} [h : TyOne P t] {A : Option Addr} {xs : List (List Value)} {cs : List Value} {u : Value} (hx : ev st.env x = some (elP A (i * size + j))) (hm : orow e size (.slice A m c) m xs.flatten ∈ st.loc) (hn : m = xs.length) (hs : ∀ r ∈ xs,r.length = size) (hi : xs[i]? = some cs) (hj : cs[j]? = some u) :
    Yields P N av bor w0 st (.load t x) ty u := Sy.Yields.mk fun B w ok d pos af g => by
  have hr := rows_of_orow (ok.gam.here _ hm).now hn hs
  obtain ⟨h1,hp,hc⟩ := RowsD.row hr i cs hi
  obtain ⟨a,rfl⟩ := Option.isSome_iff_exists.1 hp
  simp [execOp,ok.eval hx,elP,Instr.loadAt,Instr.sureAddr,loadVar,(oneCell_spec h.out w).1,(hc j u hj).2 a rfl]
theorem y_ldC1 [h : TyOne P t] {bl j : Nat} {v : Value} (hx : ev st.env x = some (.pointer (some ⟨bl,j,none⟩))) (hF : ∀ w,st.ext w → w.cell? ⟨bl,j,none⟩ = some v) : Yields P N av bor w0 st (.load t x) ty v := Sy.Yields.mk fun B w ok d pos af g => by
  simp [execOp,ok.eval hx,Instr.loadAt,Instr.sureAddr,loadVar,(oneCell_spec h.out w).1,hF w ok.gam.keep.now]
end
end Sy
def CelD (b : Nat) (cs : List Value) (w : World) : Prop := ∀ j v,cs[j]? = some v → w.cell? ⟨b,j,none⟩ = some v
theorem celD_of {b T : Nat} {cs : List Value} {w : World} (h : (cel b T cs).F w) : CelD b cs w := fun j v hj => by
  have h1 : w.heap[b]? = some (.cells cs.toArray T (0,0)) := h
  simp [World.cell?,h1,hj]
theorem cont1_pu (b b1 : Nat) (h : BldH) (sa sk : SlV) (st : ChS) (pl : List (ByteArray × Value)) (hp : PlOk pl st.acts) (d : ByteArray) :
    Pu Tryz.prog 151 #[.string d,.pointer (some ⟨b1,0,none⟩)] (fun w => CelD b1 [.pointer (some ⟨b,0,none⟩)] w ∧ CelD b (bldC h sa sk st.prev (st.gen : Nat)) w ∧ MapAt w h.q2 pl) (idxP (idxV st.acts d)) := by
  refine pu_of_cw (args:=[_,_]) _ Tryz.func151 rfl Tryz.ntmps151 rfl fun av bor w0 => ?_
  have hlk := hp d
  cases hj : idxV st.acts d with
  | none =>
    rw [hj] at hlk
    repeat' (first | apply sw_nil | apply cw_seq | apply cw_reg | refine sy_move (h:=?_) | refine sy_assign (h:=?_) | refine sy_nilCheck (h:=?_) | refine sy_fld (h:=?_) | refine sy_extract (h:=?_) | apply cw_ret | (refine sw_yield (y_ldC1 rfl (fun w h => h.1 0 _ rfl)) rfl rfl rfl ?_) | (refine sw_yield (y_ldC1 rfl (fun w h => h.2.1 9 _ rfl)) rfl rfl rfl ?_) | (refine sy_lookup2 (κ:=ByteArray) (kk:=d) (b:=false) (v:=.int .i64 0) (hl:=map_ext fun w h => h.2.2) (ho:=hlk) (h:=?_)) | fail)
    exact ends_ret (res_tmp2 rfl rfl rfl) rfl
  | some j =>
    rw [hj] at hlk
    repeat' (first | apply sw_nil | apply cw_seq | apply cw_reg | refine sy_move (h:=?_) | refine sy_assign (h:=?_) | refine sy_nilCheck (h:=?_) | refine sy_fld (h:=?_) | refine sy_extract (h:=?_) | apply cw_ret | (refine sw_yield (y_ldC1 rfl (fun w h => h.1 0 _ rfl)) rfl rfl rfl ?_) | (refine sw_yield (y_ldC1 rfl (fun w h => h.2.1 9 _ rfl)) rfl rfl rfl ?_) | (refine sy_lookup2 (κ:=ByteArray) (kk:=d) (b:=true) (v:=.int .i64 (j : Nat)) (hl:=map_ext fun w h => h.2.2) (ho:=hlk) (h:=?_)) | fail)
    exact ends_ret (res_tmp2 rfl rfl rfl) rfl
end Go.Proofs.YtjmpdkmboheknaaGreatDoor
