/- Joined. -/
import Derived.Test.YtamfbppnlomgfaaGreatDoorG5
set_option linter.unusedVariables false
set_option linter.unusedSimpArgs false
set_option maxHeartbeats 16000000
namespace Go.Proofs.YtamfbppnlomgfaaGreatDoor.Sy
open Go Go.RowKit Go.MapKept
class KeyS (P:Program) (kt:TypeId) (κ:Type) [DecidableEq κ] where
 enc:κ→Value
 inj:∀ a b,enc a=enc b→a=b
 check:∀ (w:World) e a,(Instr.checkKey e 10000 kt (enc a)).run P w=.ok () w
 eq:∀ (w:World) a b,(Op.equal kt (enc a) (enc b)).run P w=.ok (decide (a=b)) w
 ask:∀ d a b,P.underlying kt=some d→Instr.sameNow d (enc a) (enc b)=none
 stay:∀ (w:World) a,(Instr.keyThatStays (enc a) (enc a)).run P w=.ok (enc a) w
section
variable {κ:Type} [DecidableEq κ] {β:Type}
def dget:List (κ×β)→κ→Option β
 | [],_=>none
 | (k',v')::r,k=>bif decide (k=k') then some v' else dget r k
def dput:List (κ×β)→κ→β→List (κ×β)
 | [],k,v=>[(k,v)]
 | (k',v')::r,k,v=>bif decide (k=k') then (k,v)::r else (k',v')::dput r k v
theorem gM:∀ (b:List (κ×β)) (k a:κ) (v:β),dget (dput b k v) a=bif decide (a=k) then some v else dget b a
 | [],k,a,v=>rfl
 | (k',v')::r,k,a,v=>by
  have ih:=gM r k a v
  simp only [dput]
  by_cases hk:k=k'
  · subst hk
    simp only [Zp,Zg,dget]
    cases decide (a=k)<;>rfl
  · simp only [hk,Zo,Zf,dget,ih]
    by_cases ha:a=k'
    · subst ha
      have:¬ a=k:=fun e=>hk e.symm
      simp [this]
    · simp [ha]
theorem ma:∀ {b:List (κ×β)} {k:κ} {v:β},dget b k=some v→(k,v)∈b
 | (k',v')::r,k,v,h=>by
  simp only [dget] at h
  by_cases hk:k=k'
  · simp only [hk,Zp,Zg,ZE] at h
    rw [hk,h]
    exact aC
  · simp only [hk,Zo,Zf] at h
    exact Zr _ (ma h)
end
section
variable {P:Program} {kt:TypeId} {κ:Type} [DecidableEq κ] [K:KeyS P kt κ]
def SMapAt (P:Program) (kt:TypeId) {κ:Type} [DecidableEq κ] [K:KeyS P kt κ] (w:World) (g:Nat) (l:List (κ×Value)):Prop :=
 ∃ es clock,w.heap[g]?=some (.map es clock)∧Stamped es clock∧es.toList.map (fun e=>(e.key,e.val))=l.map fun p=>(K.enc p.1,p.2)
def smapr (P:Program) (kt:TypeId) {κ:Type} [DecidableEq κ] [K:KeyS P kt κ] (g:Nat) (l:List (κ×Value)):Xi:=⟨[g],fun w=>SMapAt P kt w g l⟩
theorem gI (w:World) (k:κ):∀ (es:List MapEntry) (l:List (κ×Value)) (i:Nat),es.map (fun e=>(e.key,e.val))=l.map (fun p=>(K.enc p.1,p.2)) →
  ((Instr.findAsking kt (K.enc k) es i).run P w=.ok none w∧dget l k=none∧(∀ v,dput l k v=l++[(k,v)])∧∀ x∈es,x.key≠K.enc k) ∨
  ∃ j e v0,(Instr.findAsking kt (K.enc k) es i).run P w=.ok (some (i+j,v0)) w∧es[j]?=some e∧e.key=K.enc k∧dget l k=some v0∧∀ v,dput l k v=l.set j (k,v)
 | [],l,i,h=>by
  have:l=[]:=by cases l<;>simp_all
  subst this
  exact .inl ⟨rfl,rfl,fun _=>rfl,by simp⟩
 | e::es,[],i,h=>by simp at h
 | e::es,(k',v')::l,i,h=>by
  simp only [ZR,List.cons.injEq,Prod.mk.injEq] at h
  obtain ⟨⟨h1,h2⟩,h3⟩:=h
  have hs:(Op.equal kt (K.enc k) e.key).run P w=.ok (decide (k=k')) w:=by rw [h1];exact K.eq w k k'
  by_cases hb:k=k'
  · subst hb
    exact .inr ⟨0,e,v',by simp [Instr.findAsking,hs,h2,Result.andThen],rfl,h1,by simp [dget],fun v=>by simp [dput]⟩
  · have hne:e.key≠K.enc k:=fun q=>hb (K.inj _ _ (q.symm.trans h1))
    rcases gI w k es l (i+1) h3 with ⟨g1,g2,g3,g4⟩|⟨j,e',v0,g1,g2,g3,g4,g5⟩
    · exact .inl ⟨by simp [Instr.findAsking,hs,hb,g1,Result.andThen],by simp [dget,hb,g2],fun v=>by simp [dput,hb,g3],fun x hx=>by
       cases hx with
       | head=>exact hne
       | tail _ hx=>exact g4 x hx⟩
    · exact .inr ⟨j+1,e',v0,by simp [Instr.findAsking,hs,hb,g1,Result.andThen];omega,by simpa using g2,g3,by simp [dget,hb,g4],fun v=>by simp [dput,hb,g5]⟩
theorem fS {w:World} {d:TypeDesc} (hd:P.underlying kt=some d) (k:κ) {es:List MapEntry} {l:List (κ×Value)} (h:es.map (fun e=>(e.key,e.val))=l.map (fun p=>(K.enc p.1,p.2))) :
  (Instr.findKey kt (K.enc k) es).run P w=(Instr.findAsking kt (K.enc k) es 0).run P w:=by
 cases es with
 | nil=>simp [Instr.findKey,run_underlying hd,Result.andThen,Instr.findNow,Instr.findAsking]
 | cons e es =>
  cases l with
  | nil=>simp at h
  | cons p l =>
   simp only [ZR,List.cons.injEq,Prod.mk.injEq] at h
   have hs:Instr.sameNow d (K.enc k) e.key=none:=by rw [h.1.1];exact K.ask d k p.1 hd
   simp [Instr.findKey,run_underlying hd,Result.andThen,Instr.findNow,hs]
def smapOf (P:Program) (t:TypeId):Option (TypeId×TypeId) :=
 match P.underlying t with
 | some (.map kt et)=>(P.underlying kt).map fun _=>(kt,et)
 | _=>none
class TySMap (P:Program) (t:TypeId) (kt et:outParam Nat):Prop where out:smapOf P t=some (kt,et)
theorem gT {t kt et:TypeId} (h:smapOf P t=some (kt,et)):P.underlying t=some (.map kt et)∧∃ d,P.underlying kt=some d:=by
 unfold smapOf at h
 split at h
 · rename_i kt et' he
   cases hk:P.underlying kt with
   | none=>simp [hk] at h
   | some d' =>
    simp [hk] at h
    obtain ⟨rfl,rfl⟩:=h
    exact ⟨he,_,hk⟩
 · cases h
theorem lu {w:World} {t et:TypeId} {z:Value} (ht:smapOf P t=some (kt,et)) (hz:zeroOf P et=some z) {g:Nat} {l:List (κ×Value)} (h:SMapAt P kt w g l) (k:κ) :
  (Instr.lookup t (.map (some g)) (K.enc k) false).run P w=.ok ((dget l k).getD z) w:=by
 obtain ⟨h1,d,h2⟩:=gT ht
 obtain ⟨es,clock,hb,hs,hl⟩:=h
 have hzr:(zeroValue et).run P w=.ok z w:=cb hz w
 have hf:=fS (w:=w) h2 k hl
 have hc:=K.check w es.isEmpty k
 rcases gI w k es.toList l 0 hl with ⟨g1,g2,g3,g4⟩|⟨j,e,v0,g1,g2,g3,g4,g5⟩
 · rw [g1] at hf
   simp [Instr.lookup,run_underlying h1,MapKept.run_getObj_map hb,hc,hf,hzr,g2,Result.andThen]
 · rw [g1] at hf
   simp [Instr.lookup,run_underlying h1,MapKept.run_getObj_map hb,hc,hf,g4,Result.andThen]
end
section
variable {P:Program} {N:Nat} {av bor:List Nat} {w0:World} {ops:Array Oper} {rest:List Oper} {k:St→Prop} {E:Env} {loc loc':List Xi} {X:World→Prop}
variable {d:Option Tmp} {ty:TypeId} {pos:String} {af:Array Edge} {g:Option (Nat×Bool)} {bb want:Bool}
theorem lj (κ:Type) (kt:TypeId) [DecidableEq κ] [KS:KeyS P kt κ] {n:Nat} {t:TypeId} (hg:gdB ops E g=some (bb,want):=by rfl) (hb:bb=want:=by exact ay) (hd:Nat.blt n N=true:=by rfl)
  (h:∀ q,Sw P N av bor w0 ops rest ⟨(n,.map (some q))::E,smapr P kt q ([]:List (κ×Value))::loc,X⟩ k):Sw P N av bor w0 ops (⟨some n,.makeMap t none,ty,pos,af,g⟩::rest) ⟨E,loc,X⟩ k:=Sw.mk fun a w ok=>by
 have hd':inB N (some n)=true:=by have h1:n<N:=Zt hd;simpa [inB] using h1
 simp only [wpList]
 rw [aM ok (o:=⟨some n,.makeMap t none,ty,pos,af,g⟩) hg]
 subst hb
 simp only [Zv,ZF]
 left
 unfold Oper.wp
 have hr:(execOp a.eval ⟨some n,.makeMap t none,ty,pos,af,g⟩).run P w=.ok (.value (.map (some w.heap.size))) (w.alloc (.map #[] 0)):=by
  have:(newObj (.map #[] 0)).run P w=.ok w.heap.size (w.alloc (.map #[] 0)):=rfl
  simp [execOp,Instr.makeMap,this]
 rw [hr]
 have ok':Ok N av bor w0 ⟨E,smapr P kt w.heap.size ([]:List (κ×Value))::loc,X⟩ a (w.alloc (.map #[] 0)):=(ok.via fun M G=>G.new (.map #[] 0) (fun w2=>SMapAt P kt w2 w.heap.size ([]:List (κ×Value))) fun w2 h=>⟨#[],0,h,stamped_empty 0,rfl⟩)
 exact (h _).run _ _ (bw (some n) _▸ok'.put hd' _)
theorem jv {κ:Type} {kt:TypeId} [DecidableEq κ] [KS:KeyS P kt κ] {st:St} {t et:Nat} [ht:TySMap P t kt et] {z:Value} [hz:Xl P et z] {m x:Operand} {q:Nat} {l:List (κ×Value)} {kk:κ} {o:Option Value} {v:Value} (hm:ev st.env m=some (.map (some q))) (hx:ev st.env x=some (KS.enc kk))
  (hl:∀ w,Xn av bor w0 st.loc st.ext w→SMapAt P kt w q l) (ho:dget l kk=o) (hv:o.getD z=v):Sy.Yields P N av bor w0 st (.lookup t m x false) ty v:=Sy.Yields.mk fun A w ok d pos af g=>by
 have:=lu (P:=P) (t:=t) ht.out hz.out (hl w ok.gam) kk
 subst ho
 subst hv
 simp [execOp,ok.eval hm,ok.eval hx,this]
theorem ln {κ:Type} {kt:TypeId} [DecidableEq κ] [KS:KeyS P kt κ] {q:Nat} {l:List (κ×Value)} (hm:∀ w,X w→SMapAt P kt w q l):∀ w,Xn av bor w0 loc X w→SMapAt P kt w q l:=fun w G=>hm w G.keep.now
end
section
variable {κ:Type} [DecidableEq κ] {β:Type}
theorem gK:∀ (l:List (κ×β)) (k:κ) (u v:β),dput (dput l k u) k v=dput l k v
 | [],k,u,v=>by simp [dput]
 | (k',v')::r,k,u,v=>by
  by_cases h:k=k'
  · subst h;simp [dput]
  · simp [dput,h,gK r k u v]
theorem gL:∀ (l:List (κ×β)) (k:κ) (v:β),dget l k=some v→dput l k v=l
 | [],k,v,h=>by cases h
 | (k',v')::r,k,v,h=>by
  by_cases e:k=k'
  · subst e
    simp only [dget,Zp,Zg,ZE] at h
    simp [dput,h]
  · simp only [dget,e,Zo,Zf] at h
    simp [dput,e,gL r k v h]
end
section
variable {P:Program} {kt:TypeId} {κ:Type} [DecidableEq κ] [K:KeyS P kt κ]
def SMapE (P:Program) (kt:TypeId) {κ:Type} [DecidableEq κ] [K:KeyS P kt κ] (w:World) (g:Nat) (l:List (κ×Value)) (k:κ) (b:Nat):Prop :=
 ∃ es clock j e,w.heap[g]?=some (.map es clock)∧Stamped es clock∧es.toList.map (fun e=>(e.key,e.val))=l.map (fun p=>(K.enc p.1,p.2))∧es[j]?=some e∧e.key=K.enc k∧e.born=b∧∀ v,dput l k v=l.set j (k,v)
def smape (P:Program) (kt:TypeId) {κ:Type} [DecidableEq κ] [K:KeyS P kt κ] (g:Nat) (l:List (κ×Value)) (k:κ) (b:Nat):Xi:=⟨[g],fun w=>SMapE P kt w g l k b⟩
theorem jp {w:World} {t et:TypeId} {z:Value} (ht:smapOf P t=some (kt,et)) (hz:zeroOf P et=some z) {g:Nat} {l:List (κ×Value)} (h:SMapAt P kt w g l) (k:κ) :
  ∃ o b,(Instr.mapEntry t (.map (some g)) (K.enc k)).run P w=.ok (.tuple #[(dget l k).getD z,.int .i64 (b:Nat)]) { w with heap:=w.heap.setIfInBounds g o }∧∀ w':World,w'.heap[g]?=some o→SMapE P kt w' g (dput l k ((dget l k).getD z)) k b:=by
 obtain ⟨h1,d,h2⟩:=gT ht
 obtain ⟨es,clock,hb,hs,hl⟩:=h
 have hf:=fS (w:=w) h2 k hl
 have hc:=K.check w false k
 have hzr:(zeroValue et).run P w=.ok z w:=cb hz w
 have hlen:es.size=l.length:=by simpa using congrArg List.length hl
 rcases gI w k es.toList l 0 hl with ⟨g1,g2,g3,g4⟩|⟨j,e,v0,g1,g2,g3,g4,g5⟩
 · rw [g1] at hf
   refine ⟨.map (es.push { key:=K.enc k,val:=z,born:=clock }) (clock+1),clock,?_,fun w' hw=>⟨_,_,es.size,{ key:=K.enc k,val:=z,born:=clock },hw,stamped_push hs g4,?_,by simp,rfl,rfl,fun v=>?_⟩⟩
   · simp [Instr.mapEntry,run_underlying h1,MapKept.run_getObj_map hb,hc,hf,hzr,g2,MapKept.run_setObj_map _ hb,Result.andThen,goInt]
   · rw [g2,Option.getD_none,g3]
     simp [hl]
   · rw [g2,Option.getD_none,gK,g3,g3,hlen]
     simp
 · have hj:es[j]?=some e:=by simpa using g2
   have hst:=K.stay w k
   rw [g1] at hf
   refine ⟨.map (es.modify j fun e=>{ e with key:=K.enc k }) clock,e.born,?_,fun w' hw=>⟨_,_,j,{ e with key:=K.enc k },hw,stamped_modify hs _ _ (fun _ _=>rfl) (fun e' _ he'=>by rw [hj] at he';cases he';exact g3.symm),?_,by simp [Qs,hj],rfl,rfl,fun v=>?_⟩⟩
   · simp [Instr.mapEntry,run_underlying h1,MapKept.run_getObj_map hb,hc,hf,hj,g3,g4,hst,MapKept.run_setObj_map _ hb,Result.andThen,goInt]
   · rw [g4,Z3,gL l k v0 g4,←hl]
     apply List.ext_getElem?
     intro q
     simp only [ZX,Qc,Qs]
     by_cases e1:j=q
     · subst e1
       simp [hj,g3]
     · simp [e1]
   · rw [g4,Z3,gL l k v0 g4]
     exact g5 v
theorem ig {w:World} {t:TypeId} {g:Nat} {l:List (κ×Value)} {k:κ} {b:Nat} (h:SMapE P kt w g l k b) (v:Value) :
  ∃ o,(Instr.entryStore t (.map (some g)) (.int .i64 (b:Nat)) v).run P w=.ok () { w with heap:=w.heap.setIfInBounds g o }∧∀ w':World,w'.heap[g]?=some o→SMapAt P kt w' g (dput l k v):=by
 obtain ⟨es,clock,j,e,hb,hs,hl,hj,hk,hbn,hset⟩:=h
 have hjl:j<es.size:=(Qv.1 hj).1
 have hje:es[j]=e:=(Qv.1 hj).2
 have hlen:es.size=l.length:=by simpa using congrArg List.length hl
 have hfi:es.findIdx? (fun e=>(e.born:Int)==(b:Int))=some j:=by
  rw [Array.findIdx?_eq_some_iff_getElem]
  refine ⟨hjl,by rw [hje,hbn];simp,fun q hq hp=>?_⟩
  have hnd:=((stamped_iff es clock).1 hs).2.1
  have hq':es[q].born=e.born:=by rw [hbn];have:=beq_iff_eq.1 hp;omega
  have h1:(es.toList.map (·.born))[q]?=some e.born:=by simp [ZX,Qc,Array.getElem?_eq_getElem (show q<es.size by omega),hq']
  have h2:(es.toList.map (·.born))[j]?=some e.born:=by simp [ZX,Qc,hj]
  have:=(List.getElem?_inj (by simp;omega) hnd).1 (h1.trans h2.symm)
  omega
 refine ⟨.map (es.modify j fun e=>{ e with val:=v }) clock,?_,fun w' hw=>⟨_,_,hw,stamped_modify hs _ _ (fun _ _=>rfl) (fun e' _ he'=>rfl),?_⟩⟩
 · have ha:(asIntOf (Value.int IntKind.i64 (b:Nat))).run P w=.ok (.i64,((b:Nat):Int)) w:=rfl
   simp [Instr.entryStore,MapKept.run_getObj_map hb,asInt,ha,hfi,MapKept.run_setObj_map _ hb,Result.andThen]
 · rw [hset]
   apply List.ext_getElem?
   intro q
   have hq:=congrArg (fun l=>l[q]?) hl
   simp only [ZX,Qc] at hq
   simp only [ZX,Qc,Qs,List.getElem?_set]
   by_cases e1:j=q
   · subst e1
     simp [hj,show j<l.length by omega,hk]
   · simp [e1,hq]
end
section
variable {P:Program} {N:Nat} {av bor:List Nat} {w0:World} {ops:Array Oper} {rest:List Oper} {k:St→Prop} {E:Env} {loc loc':List Xi} {X:World→Prop}
variable {d:Option Tmp} {ty:TypeId} {pos:String} {af:Array Edge} {g:Option (Nat×Bool)} {bb want:Bool}
theorem fP {lo:Nat→List Xi} {κ:Type} {kt:TypeId} [DecidableEq κ] [KS:KeyS P kt κ] {n:Nat} {t et:Nat} [ht:TySMap P t kt et] {z:Value} [hz:Xl P et z] {m x:Operand} {q:Nat} {l:List (κ×Value)} {kk:κ} {o:Option Value} {u:Value} (hm:ev E m=some (.map (some q)):=by rfl) (hx:ev E x=some (KS.enc kk):=by rfl) (ho:dget l kk=o) (hu:o.getD z=u:=by rfl)
  (hA:∀ b,At (smapr P kt q l) (smape P kt q (dput l kk u) kk b) loc (lo b)) (hg:gdB ops E g=some (bb,want):=by rfl) (hb:bb=want:=by exact ay) (hd:Nat.blt n N=true:=by rfl)
  (h:∀ b:Nat,Sw P N av bor w0 ops rest ⟨(n,.tuple #[u,.int .i64 (b:Nat)])::E,lo b,X⟩ k):Sw P N av bor w0 ops (⟨some n,.mapEntry t m x,ty,pos,af,g⟩::rest) ⟨E,loc,X⟩ k:=Sw.mk fun a w ok=>by
 have hd':inB N (some n)=true:=by have h1:n<N:=Zt hd;simpa [inB] using h1
 subst ho
 subst hu
 simp only [wpList]
 rw [aM ok (o:=⟨some n,.mapEntry t m x,ty,pos,af,g⟩) hg]
 subst hb
 simp only [Zv,ZF]
 left
 unfold Oper.wp
 have hmp:SMapAt P kt w q l:=(ok.gam.here _ (hA 0).mem).now
 obtain ⟨o,b,hr,ho⟩:=jp ht.out hz.out hmp kk
 obtain ⟨es,c,hbk,_⟩:=hmp
 have hs:=heap_set (o':=o) hbk
 have ok':Ok N av bor w0 ⟨E,lo b,X⟩ a { w with heap:=w.heap.setIfInBounds q o }:=ok.via fun M G=>G.turn ((hA b).app M) rfl rfl rfl (by simp) (fun i hi=>hs.2 i hi) fun w2 h2=>ho w2 (h2.trans hs.1)
 have hr':(execOp a.eval ⟨some n,.mapEntry t m x,ty,pos,af,g⟩).run P w=.ok (.value (.tuple #[(dget l kk).getD z,.int .i64 (b:Nat)])) { w with heap:=w.heap.setIfInBounds q o }:=by
  simp [execOp,ok.eval (st:=⟨E,loc,X⟩) hm,ok.eval (st:=⟨E,loc,X⟩) hx,hr]
 rw [hr']
 exact (h b).run _ _ (bw (some n) _▸ok'.put hd' _)
theorem iH {κ:Type} {kt:TypeId} [DecidableEq κ] [KS:KeyS P kt κ] {t:Nat} {m x y:Operand} {q:Nat} {l:List (κ×Value)} {kk:κ} {b:Nat} {v:Value} (hm:ev E m=some (.map (some q)):=by rfl) (hx:ev E x=some (.int .i64 (b:Nat)):=by rfl) (hy:ev E y=some v:=by rfl)
  (hA:At (smape P kt q l kk b) (smapr P kt q (dput l kk v)) loc loc':=by (repeat (first|exact At.here _|apply At.there))) (hg:gdB ops E g=some (bb,want):=by rfl) (hb:bb=want:=by exact ay) (hd:inB N d=true:=by rfl)
  (h:Sw P N av bor w0 ops rest ⟨putE E d undef,loc',X⟩ k):Sw P N av bor w0 ops (⟨d,.entryStore t m x y,ty,pos,af,g⟩::rest) ⟨E,loc,X⟩ k:=Sw.mk fun a w ok=>by
 simp only [wpList]
 rw [aM ok (o:=⟨d,.entryStore t m x y,ty,pos,af,g⟩) hg]
 subst hb
 simp only [Zv,ZF]
 left
 unfold Oper.wp
 have hmp:SMapE P kt w q l kk b:=(ok.gam.here _ hA.mem).now
 obtain ⟨o,hr,ho⟩:=ig (t:=t) hmp v
 obtain ⟨es,c,j,e,hbk,_⟩:=hmp
 have hs:=heap_set (o':=o) hbk
 have ok':Ok N av bor w0 ⟨E,loc',X⟩ a { w with heap:=w.heap.setIfInBounds q o }:=ok.via fun M G=>G.turn (hA.app M) rfl rfl rfl (by simp) (fun i hi=>hs.2 i hi) fun w2 h2=>ho w2 (h2.trans hs.1)
 have hr':(execOp a.eval ⟨d,.entryStore t m x y,ty,pos,af,g⟩).run P w=.ok .skip { w with heap:=w.heap.setIfInBounds q o }:=by
  simp [execOp,ok.eval (st:=⟨E,loc,X⟩) hm,ok.eval (st:=⟨E,loc,X⟩) hx,ok.eval (st:=⟨E,loc,X⟩) hy,hr]
 rw [hr']
 exact h.run _ _ (bw d _▸ok'.put hd _)
end
end Go.Proofs.YtamfbppnlomgfaaGreatDoor.Sy
namespace Go.Proofs.YtamfbppnlomgfaaGreatDoor
open Go Go.Proofs Sy Tryz
abbrev PosK:=Int×ByteArray
def posV (k:PosK):Value:=.agg #[.int .i64 k.1,.string k.2]
theorem iM (w:World) {cs:Array Value} {off:Nat} {v:Value} (h:cs[off]?=some v):(part 9 cs off).run prog w=.ok v w:=by
 simp [part,isAgg,run_underlying underlying9,h]
theorem rD (w:World) (d:Nat) (a b:ByteArray):(Op.equalIn (d+1) 9 (.string a) (.string b)).run prog w=.ok (seqB a b) w:=by
 rw [run_equalIn_string w d _ a b underlying9]
 rfl
theorem oX (w:World) (d:Nat) (a b:PosK):(Op.equalIn (d+2) 121 (posV a) (posV b)).run prog w=.ok (decide (a=b)) w:=by
 have p0:∀ x:PosK,(part 3 #[.int .i64 x.1,.string x.2] 0).run prog w=.ok (.int .i64 x.1) w:=fun x=>ek w rfl
 have p1:∀ x:PosK,(part 9 #[.int .i64 x.1,.string x.2] 1).run prog w=.ok (.string x.2) w:=fun x=>iM w rfl
 unfold posV
 rw [run_equalIn_agg _ _ _ _ _ ac ac]
 simp only [Program.fieldsOf,underlying121]
 simp [Op.eqFields,p0,p1,l4,rD]
 obtain ⟨a1,a2⟩:=a
 obtain ⟨b1,b2⟩:=b
 by_cases h1:a1=b1<;>cases h2:seqB a2 b2<;>simp [h1,h2]
 · exact fun e=>by rw [e,bo] at h2;cases h2
 · exact seqB_iff.1 h2
instance posK:KeyS prog 121 PosK where
 enc:=posV
 inj:=by
  rintro ⟨a,b⟩ ⟨c,d⟩ h
  simp [posV] at h
  simp [h]
 check:=by
  intro w e a
  have c0:(Instr.checkKey e 9999 3 (.int .i64 a.1)).run prog w=.ok () w:=MapKept.run_checkKey (k:=.int .i64 a.1) underlying3 (show IntKind.i64=IntKind.i64 from rfl) e 9998
  have c1:(Instr.checkKey e 9999 9 (.string a.2)).run prog w=.ok () w:=MapKept.run_checkKey (k:=.string a.2) underlying9 (show True from trivial) e 9998
  have p0:(part 3 #[.int .i64 a.1,.string a.2] 0).run prog w=.ok (.int .i64 a.1) w:=ek w rfl
  have p1:(part 9 #[.int .i64 a.1,.string a.2] 1).run prog w=.ok (.string a.2) w:=iM w rfl
  unfold posV Instr.checkKey
  simp [run_underlying underlying121,Result.andThen,p0,p1,c0,c1]
 eq:=by
  intro w a b
  exact oX w 9998 a b
 ask:=by
  intro d a b h
  rw [underlying121] at h
  cases h
  rfl
 stay:=by
  intro w a
  have hb:Instr.sameBits (9999+1) (posV a) (posV a)=true:=by simp [posV,Instr.sameBits,MapKept.bytes_beq]
  show (Instr.keyThatStays (posV a) (posV a)).run prog w=.ok (posV a) w
  simp [Instr.keyThatStays,hb]
instance:TySMap prog 115 121 23:=⟨ac⟩
namespace Sy
section
variable {P:Program} {N:Nat} {av bor:List Nat} {w0:World} {ops:Array Oper} {rest:List Oper} {E:Env} {loc:List Xi} {X:World→Prop} {k:St→Prop}
theorem kB {w:World} {b e size m:Nat} {cs:List Value} (h:w.heap[b]?=some (.cells cs.toArray e (0,0))) (hl:cs.length=m*size) (hm:m≤maxLen):ORow w e size (.slice (some ⟨b,0,none⟩) m m) m cs :=
 ⟨hl,.inr ⟨b,m,cs.toArray,(0,0),rfl,h,ZN _,hm,by simpa using hl,by rw [←hl];simp,.inl rfl⟩⟩
theorem Xn.orow {w:World} {b e size m:Nat} {cs:List Value} (hl:cs.length=m*size) (hm:m≤maxLen) (G:Xn av bor w0 (cel b e cs::loc) X w):Xn av bor w0 (orow e size (.slice (some ⟨b,0,none⟩) m m) m cs::loc) X w:=by
 have e1:fps (Sy.orow e size (.slice (some ⟨b,0,none⟩) m m) m cs::loc)=fps (cel b e cs::loc):=by simp [fps,Sy.orow,cel,Value.ownBlock]
 refine ⟨G.fr,G.avb,by rw [e1];exact G.nodup,by rw [e1];exact G.own,fun r hr=>?_,by rw [e1];exact G.keep⟩
 rcases ZC.1 hr with rfl|hr
 · exact cP (kB (G.here _ aC).now hl hm)
 · exact G.here r (Zr _ hr)
end
end Sy
end Go.Proofs.YtamfbppnlomgfaaGreatDoor
namespace Go.Proofs.YtamfbppnlomgfaaGreatDoor.Sy
open Go Go.Proofs
section
variable {P:Program} {N:Nat} {av bor:List Nat} {w0:World} {st:St} {ty:TypeId} {x y:Operand} {t t2:TypeId}
variable {E:Env} {loc:List Xi} {X:World→Prop} {ops:Array Oper} {kk:St→Prop} {n:Nat} {pos:String} {af:Array Edge} {g:Option (Nat×Bool)} {rest:List Oper} {bb want:Bool} {K:Exit→St→Prop} {c:Code}
theorem dV {p:Prop} {r:Xi} (hm:r∈loc:=by exact aB) (hp:∀ w,r.F w→p) (h:p→Cw P N av bor w0 c ⟨E,loc,X⟩ K):Cw P N av bor w0 c ⟨E,loc,X⟩ K:=Cw.mk fun a w ok=>(h (hp w (ok.gam.here r hm).now)).run a w ok
theorem dq {w:World} {e size n c:Nat} {A:Option Addr} {xs:List Value} (h:ORow w e size (.slice A n c) n xs) (hn:0<n):A.isSome=true:=by
 rcases h.2 with ⟨h1,h2⟩|⟨g,cap,cur,fz,h1,hg,_⟩
 · omega
 · simp only [Value.slice.injEq] at h1
   obtain ⟨rfl,_⟩:=h1
   rfl
theorem kc {e size m i c:Nat} [h:Xq P t size] {A:Option Addr} {xs:List (List Value)} {cs:List Value} (hx:ev st.env x=some (elP A (i*size))) (hm:orow e size (.slice A m c) m xs.flatten∈st.loc) (hn:m=xs.length) (hs:∀ r∈xs,r.length=size) (hi:xs[i]?=some cs) :
  Yields P N av bor w0 st (.load t x) ty (.agg cs.toArray):=Sy.Yields.mk fun B w ok d pos af g=>by
 have hr:=aW (ok.gam.here _ hm).now hn hs
 obtain ⟨h1,hp,hc⟩:=Xd.row hr i cs hi
 obtain ⟨a,rfl⟩:=Qx.1 hp
 have:=bU (P:=P) (t:=t) h.out (w:=w) (A:=a.add (i*size)) h1 (fun j v hj=>by rw [dp];exact (hc j v hj).2 a rfl)
 simp [execOp,ok.eval hx,elP,Instr.loadAt,Instr.sureAddr,this]
end
end Go.Proofs.YtamfbppnlomgfaaGreatDoor.Sy
namespace Go.Proofs.YtamfbppnlomgfaaGreatDoor
open Go Go.Proofs Sy Tryz
theorem eqbB (a b:ByteArray):Xj.eqb a b=seqB a b:=Bool.eq_iff_iff.2 ((Xj.eqb_iff a b).trans seqB_iff.symm)
structure Xp where
 id:ByteArray
 author:ByteArray
 pos:Nat
 kind:Int
 scope:Int
 group:ByteArray
 to:Xh
 object:ByteArray
 time:Int
 ed:Xh
 gone:Bool
 toL:List ByteArray
 edL:List Int
def Xp.cells (p:Xp):List Value:=[.string p.id,.string p.author,.int .i64 (p.pos:Nat),.int .i64 p.kind,.int .i64 p.scope,.string p.group,p.to.v,.string p.object,.int .i64 p.time,p.ed.v,.bool p.gone]
def Xp.v (p:Xp):Value:=.agg p.cells.toArray
def Xp.zero:Xp:=⟨⟨#[]⟩,⟨#[]⟩,0,0,0,⟨#[]⟩,⟨none,0,0⟩,⟨#[]⟩,0,⟨none,0,0⟩,false,[],[]⟩
def Xp.can (p:Xp):Xp:={ p with to:=⟨none,0,0⟩,ed:=⟨none,0,0⟩ }
def newP (id:ByteArray) (i:Nat) (a:Xa):Xp:=⟨digV a,id,i,a.kind,a.scope,a.group,⟨none,0,0⟩,a.object,a.time,⟨none,0,0⟩,false,a.toL,[]⟩
def openF (c:Xb):Nat→List Xp
 | 0=>[]
 | i+1=>openF c i++(bif postK (c.actsL.getD i Xa.zero).kind then [newP c.id i (c.actsL.getD i Xa.zero)] else [])
def posP (P:List Xp) (j:Nat):Option Nat:=P.findIdx? fun p=>p.pos==j
def refV (l:List Xa) (P:List Xp) (i:Nat):Option Nat:=match idxV l (l.getD i Xa.zero).object with
 | some j=>bif decide (j<i) then posP P j else none
 | none=>none
def goneP (p:Xp):Xp:={ p with gone:=true }
def editB (a:Xa) (p:Xp):Bool:=!p.gone&&decide (a.scope=p.scope)&&seqB a.group p.group&&eqL a.toL p.toL
def editP (a:Xa) (i:Nat) (p:Xp):Xp:=bif editB a p then { p with edL:=p.edL++[(i:Int)] } else p
def modP (P:List Xp) (o:Option Nat) (f:Xp→Xp):List Xp:=match o with
 | some n=>P.set n (f (P.getD n Xp.zero))
 | none=>P
def stepP (l:List Xa) (i:Nat) (P:List Xp):List Xp :=
 bif decide ((l.getD i Xa.zero).kind=13) then modP P (refV l P i) goneP else bif decide ((l.getD i Xa.zero).kind=14) then modP P (refV l P i) (editP (l.getD i Xa.zero) i) else P
def ofP (c:Xb):Nat→List Xp
 | 0=>openF c c.actsL.length
 | i+1=>stepP c.actsL i (ofP c i)
def postsV (c:Xb):List Xp:=ofP c c.actsL.length
theorem iT {κ β:Type} [Xj κ]:∀ (b:List (κ×β)) (k a:κ) (v:β),mget (mput b k v) a=bif Xj.eqb a k then some v else mget b a
 | [],k,a,v=>rfl
 | (k',v')::r,k,a,v=>by
  have ih:=iT r k a v
  simp only [mput]
  cases hk:Xj.eqb k k' with
  | true =>
   obtain rfl:=(Xj.eqb_iff k k').1 hk
   simp only [Zg,mget]
   cases Xj.eqb a k<;>rfl
  | false =>
   simp only [Zf,mget,ih]
   cases ha:Xj.eqb a k' with
   | true =>
    obtain rfl:=(Xj.eqb_iff a k').1 ha
    have hne:Xj.eqb a k=false:=by
     rw [←Bool.not_eq_true]
     intro e
     rw [(Xj.eqb_iff a k).1 e,(Xj.eqb_iff k k).2 rfl] at hk
     cases hk
    rw [hne]
    rfl
   | false=>rfl
namespace Sy
section
variable {N:Nat} {av bor:List Nat} {w0:World} {st:St} {ty:TypeId} {x y:Operand} {E:Env} {loc:List Xi} {X:World→Prop} {ops:Array Oper} {kk:St→Prop} {pos:String} {af:Array Edge} {g:Option (Nat×Bool)} {rest:List Oper} {bb want:Bool}
variable {n:Nat} {t t2:TypeId}
end
end Sy
structure PermI (P:List Xp) (n:Nat) where
 k:Nat
 hk:k≤n
 Q:List Xp
 hQ:Q.Perm P
section
variable {N:Nat} {av bor:List Nat} {w0:World} {ops:Array Oper} {rest:List Oper} {k:St→Prop} {E:Env} {X:World→Prop} {d:Option Tmp} {ty:TypeId} {pos:String} {af:Array Edge} {g:Option (Nat×Bool)} {bb want:Bool}
end
structure RotI (P:List Xp) (p q:Nat) where
 i:Nat
 j:Nat
 h1:1≤i
 h2:i≤p
 h3:1≤j
 h4:j≤q
 Q:List Xp
 hQ:Q.Perm P
namespace Sy
section
variable {N:Nat} {av bor:List Nat} {w0:World} {st:St} {ty:TypeId} {x y:Operand} {E:Env} {loc:List Xi} {X:World→Prop} {ops:Array Oper} {kk:St→Prop} {pos:String} {af:Array Edge} {g:Option (Nat×Bool)} {rest:List Oper} {bb want:Bool} {t:TypeId}
end
end Sy
instance:TyMap prog 116 3 (keyD ByteArray):=⟨ac⟩
structure RegI (c:Xb) where
 k:Nat
 hk:k≤c.actsL.length
 P:List Xp
 hP:P.map Xp.can=openF c k
 hz:∀ p∈P,p.ed=⟨none,0,0⟩∧p.edL=[]
 pl:List (ByteArray×Value)
 hpl:∀ d,mget pl d=(idxV (c.actsL.take k) d).map fun (j:Nat)=>Value.int .i64 (j:Int)
 num:List (Int×Value)
 hnum:∀ j:Nat,mget num (j:Int)=(posP P j).map fun (n:Nat)=>Value.int .i64 (n:Int)
 n:Nat
 hn:n=P.length
 xs:List Value
 hxs:xs=(P.map Xp.cells).flatten
 A:Option Addr
 cp:Nat
namespace Sy
section
variable {P:Program} {N:Nat} {av bor:List Nat} {w0:World} {loc0:List Xi} {X0:World→Prop} {ops:Array Oper} {fuel:Nat} {listed:Array Bool} {E:Env} {loc:List Xi} {X:World→Prop} {k:St→Prop}
end
end Sy
structure BldH where
 ks:Xh
 ki:Xh
 id:ByteArray
 fork:Bool
 q1:Nat
 q2:Nat
 cl:Xm
 wn:Bool
def bldC (h:BldH) (sa sk:Xh) (prev:ByteArray) (gen:Int):List Value:=[h.ks.v,h.ki.v,.string h.id,.slice sa.p sa.n sa.c,.slice sk.p sk.n sk.c,.string prev,.int .i64 gen,.bool h.fork,.map (some h.q1),.map (some h.q2),.string h.cl.actor,.int .i64 h.cl.base,.string h.cl.prev,.int .i64 h.cl.gen,.int .i64 h.cl.home,.int .i64 h.cl.pub,.int .i64 h.cl.time,.int .i64 h.cl.e,.int .i64 h.cl.s,.bool h.wn]
def actR (s:Xh) (L:List Xa):Xi:=orow 36 20 (.slice s.p s.n s.c) s.n (L.map Xa.cells).flatten
def keyR (s:Xh) (L:List Xg):Xi:=orow 40 3 (.slice s.p s.n s.c) s.n (L.map Xg.cells).flatten
def bldR (b:Nat) (h:BldH) (sa sk:Xh) (st:Ea) (pl:List (ByteArray×Value)):List Xi:=[cel b 118 (bldC h sa sk st.prev (st.gen:Nat)),actR sa st.acts,keyR sk st.keys,mapr h.q2 pl]
def PlOk (pl:List (ByteArray×Value)) (l:List Xa):Prop:=∀ d,mget pl d=(idxV l d).map fun (j:Nat)=>Value.int .i64 (j:Int)
structure BldOk (sa sk:Xh) (st:Ea) (pl:List (ByteArray×Value)):Prop where
 hn:sa.n=st.acts.length
 hk:sk.n=st.keys.length
 hp:PlOk pl st.acts
def BldAt (b:Nat) (h:BldH) (st:Ea) (v u:Value) (R:List Xi):Prop:=u=v∧∃ (sa sk:Xh) (pl:List (ByteArray×Value)),BldOk sa sk st pl∧R=bldR b h sa sk st pl
theorem jS (l:List Xa) (x:Xa) (d:ByteArray):idxV (l++[x]) d=(idxV l d).or (bif seqB (digV x) d then some l.length else none):=by
 rw [idxV,idxV,List.findIdx?_append]
 congr 1
 rw [List.findIdx?_singleton]
 cases seqB (digV x) d with
 | true=>simp
 | false=>simp
theorem qN {pl:List (ByteArray×Value)} {l:List Xa} (h:PlOk pl l) {x:Xa} {j:Nat} (hj:idxV l (digV x)=some j):PlOk pl (l++[x]):=fun d=>by
 rw [jS,h d]
 cases hs:seqB (digV x) d with
 | true =>
  obtain rfl:=seqB_iff.1 hs
  rw [hj]
  rfl
 | false=>cases idxV l d<;>rfl
theorem qO {pl:List (ByteArray×Value)} {l:List Xa} (h:PlOk pl l) {x:Xa} (hj:idxV l (digV x)=none):PlOk (mput pl (digV x) (.int .i64 (l.length:Nat))) (l++[x]):=fun d=>by
 rw [iT,jS,eqbB]
 cases hs:seqB d (digV x) with
 | true =>
  obtain rfl:=seqB_iff.1 hs
  rw [hj,hs]
  rfl
 | false =>
  rw [oW (digV x) d,hs,h d]
  cases idxV l d<;>rfl
theorem rU (b:Nat) (h:BldH) (sa sk:Xh) (st:Ea) (pl:List (ByteArray×Value)) (ok:BldOk sa sk st pl) (a:Xa) (ha:a.Rng) (hs:a.Sm) (hl:st.acts.length≤1000000) (hl2:st.keys.length≤1000000) :
  Ct prog 63 #[.pointer (some ⟨b,0,none⟩),a.v] (bldR b h sa sk st pl) (fun w=>a.at_ w∧Xc w) (fun u R _=>BldAt b h (addS st a) (.tuple #[]) u R):=by
 obtain ⟨hn,hk,hp⟩:=ok
 refine bQ (args:=[_,_]) _ func63 rfl ntmps63 rfl fun av bor w0=>?_
 have hlk:=hp (digV a)
 unfold bldR actR keyR
 repeat' (first|refine gs ?_|refine gs1 fun _=>?_|(refine sy_nilX (hp:=rfl) (h:=?_))|(refine gp ?_ ?_<;>intro hx_ this)|fail)
 rename_i b1
 refine bc (ι:=Option Addr×Nat) (fun i=>⟨[(0,.pointer (some ⟨b,0,none⟩)),(3,.pointer (some ⟨b1,0,none⟩)),(4,.pointer (some ⟨b,2,none⟩)),(5,.int .i64 (sa.n:Nat))],[cel b1 36 a.cells,cel b 118 (bldC h ⟨i.1,sa.n+1,i.2⟩ sk st.prev (st.gen:Nat)),orow 36 20 (.slice i.1 (sa.n+1) i.2) (sa.n+1) ((st.acts.map Xa.cells).flatten++a.cells),orow 40 3 (.slice sk.p sk.n sk.c) sk.n (st.keys.map Xg.cells).flatten,mapr h.q2 pl],fun w=>a.at_ w∧Xc w⟩) ?_ fun i=>?_
 · (refine aw_draw ⟨[0,1,2,3,5],[(4,⟨[],[(6,⟨[],[(7,⟨[8,9],[(10,⟨[],[]⟩)]⟩)]⟩)]⟩),(6,⟨[],[(4,⟨[],[(7,⟨[8,9],[(10,⟨[],[]⟩)]⟩)]⟩)]⟩)]⟩ [cel b1 36 a.cells] (fun w=>a.at_ w∧Xc w) (h:=?_))
   all_goals repeat' (first|refine gdz ?_|refine aE ?_ (h':=?_)|exact aF|refine bT (size:=20) (vs:=[a.v]) (css:=a.cells) (hsz:=by rfl) (hcs:=by rfl) fun _=>?_|(refine ga ?_;refine aD (size:=20) (news:=a.cells) (q:=1) rfl rfl rfl rfl (fun _=>by (repeat (first|with_reducible exact At.here _|apply At.there))) (fun w G=>aR G aB rfl rfl 1) ab (by simp only [maxLen];omega) rfl ?_ rfl ?_;(first|with_reducible rfl|with_reducible assumption|with_reducible exact Zj|with_reducible exact Zk);intro A2 c2)|refine gs1 fun _=>?_|(refine gq ?_ ?_<;>intro hx_ this)|fail)
   all_goals exact ⟨(_,_),ak aw (ZS _ (aj _)) fun w h=>h⟩
 obtain ⟨A2,c2⟩:=i
 simp only
 repeat' (first|refine gs ?_|refine gs1 fun _=>?_|(refine gp ?_ ?_<;>intro hx_ this)|fail)
 refine aU (hc:=iR a ha hs) fun v1 X1 h1=>?_
 obtain ⟨x',rfl,hdig,hr',hat⟩:=h1
 refine ae (hc:=fm x' hr') (hX:=fun w h=>⟨hat w h.2,h.1.2⟩) ?_
 rw [hdig]
 generalize hD:digV a=D at hlk
 refine gS ?_
 refine dJ ?_
 refine bX ?_
 apply cD
 apply QA
 refine bc (ι:={ pl':List (ByteArray×Value) // PlOk pl' (st.acts++[a]) }) (fun i=>⟨[(3,.pointer (some ⟨b1,0,none⟩)),(4,.pointer (some ⟨b,2,none⟩)),(5,.int .i64 (sa.n:Nat))],[cel b1 36 a.cells,cel b 118 (bldC h ⟨A2,sa.n+1,c2⟩ sk D (st.gen:Nat)),orow 36 20 (.slice A2 (sa.n+1) c2) (sa.n+1) ((st.acts.map Xa.cells).flatten++a.cells),orow 40 3 (.slice sk.p sk.n sk.c) sk.n (st.keys.map Xg.cells).flatten,mapr h.q2 i.1],fun w=>a.at_ w∧Xc w⟩) ?_ fun i=>?_
 · have hpn:=fun hj=>qO hp (x:=a) hj
   have hpo:=fun j hj=>qN hp (x:=a) (j:=j) hj
   rw [hD] at hpn hpo
   cases hj:idxV st.acts D with
   | none =>
    rw [hj] at hlk
    apply QA
    (refine aw_draw ⟨[0,1,2,3,4,5,6,7],[(8,⟨[9,10,11,12,13],[]⟩)]⟩ [cel b1 36 a.cells,cel b 118 (bldC h ⟨A2,sa.n+1,c2⟩ sk D (st.gen:Nat)),orow 36 20 (.slice A2 (sa.n+1) c2) (sa.n+1) ((st.acts.map Xa.cells).flatten++a.cells),orow 40 3 (.slice sk.p sk.n sk.c) sk.n (st.keys.map Xg.cells).flatten,mapr h.q2 pl] (fun w=>(a.at_ w∧Xc w)∧X1 w) (h:=?_))
    all_goals repeat' (first|refine gdz ?_|refine aE ?_ (h':=?_)|exact aF|(refine cN (κ:=ByteArray) (kk:=D) (b:=false) (v:=.int .i64 0) (hl:=nO aB) (ho:=hlk) ?_)|refine gs1 fun _=>?_|(refine gq ?_ ?_<;>intro hx_ this)|fail)
    all_goals
     repeat' (first|refine gs ?_|refine gs1 fun _=>?_|(refine gp ?_ ?_<;>intro hx_ this)|fail)
     (refine aw_draw ⟨[0,1,2,3,4,5,6,7,8],[(9,⟨[],[]⟩)]⟩ [cel b1 36 a.cells,cel b 118 (bldC h ⟨A2,sa.n+1,c2⟩ sk D (st.gen:Nat)),orow 36 20 (.slice A2 (sa.n+1) c2) (sa.n+1) ((st.acts.map Xa.cells).flatten++a.cells),orow 40 3 (.slice sk.p sk.n sk.c) sk.n (st.keys.map Xg.cells).flatten] (fun w=>(a.at_ w∧Xc w)∧X1 w) (h:=?_))
     all_goals repeat' (first|refine gdz ?_|refine aE ?_ (h':=?_)|exact aF|(refine jA (κ:=ByteArray) (kk:=D) (v:=.int .i64 (sa.n:Nat)) ?_)|refine gs1 fun _=>?_|(refine gq ?_ ?_<;>intro hx_ this)|fail)
     all_goals exact ⟨⟨mput pl D (.int .i64 (sa.n:Nat)),by rw [hn];exact hpn hj⟩,ak aw (aj _) fun w h=>h.1⟩
   | some j =>
    rw [hj] at hlk
    apply QA
    (refine aw_draw ⟨[0,1,2,3,4,5,6,7],[(8,⟨[9,10,11,12,13],[]⟩)]⟩ [cel b1 36 a.cells,cel b 118 (bldC h ⟨A2,sa.n+1,c2⟩ sk D (st.gen:Nat)),orow 36 20 (.slice A2 (sa.n+1) c2) (sa.n+1) ((st.acts.map Xa.cells).flatten++a.cells),orow 40 3 (.slice sk.p sk.n sk.c) sk.n (st.keys.map Xg.cells).flatten,mapr h.q2 pl] (fun w=>(a.at_ w∧Xc w)∧X1 w) (h:=?_))
    all_goals repeat' (first|refine gdz ?_|refine aE ?_ (h':=?_)|exact aF|(refine cN (κ:=ByteArray) (kk:=D) (b:=true) (v:=.int .i64 (j:Nat)) (hl:=nO aB) (ho:=hlk) ?_)|refine gs1 fun _=>?_|(refine gq ?_ ?_<;>intro hx_ this)|fail)
    all_goals
     repeat' (first|refine gs ?_|refine gs1 fun _=>?_|(refine gp ?_ ?_<;>intro hx_ this)|fail)
     exact ⟨⟨pl,hpo j hj⟩,ak aw (aj _) fun w h=>h.1⟩
 obtain ⟨pl',hpl'⟩:=i
 simp only
 clear hp hlk hdig hr' hat
 have hfl:((st.acts++[a]).map Xa.cells).flatten=(st.acts.map Xa.cells).flatten++a.cells:=by simp
 by_cases hk18:a.kind=18
 · have hst:addS st a=⟨st.acts++[a],st.keys++[⟨((sa.n+1:Nat):Int),a.n,a.m⟩],D,st.gen⟩:=by rw [addS,hk18,hD,hn];rfl
   have hfk:((st.keys++[(⟨((sa.n+1:Nat):Int),a.n,a.m⟩:Xg)]).map Xg.cells).flatten=(st.keys.map Xg.cells).flatten++Xg.cells ⟨((sa.n+1:Nat):Int),a.n,a.m⟩:=by simp
   repeat' (first|refine dA (hab:=hk18) ?_|refine gs ?_|refine gs1 fun _=>?_|(refine gp ?_ ?_<;>intro hx_ this)|fail)
   (refine aw_draw ⟨[0,1,2,3,5,6,7,8,9,10,11],[(4,⟨[],[(12,⟨[],[(13,⟨[14,15],[(16,⟨[],[]⟩)]⟩)]⟩)]⟩),(12,⟨[],[(4,⟨[],[(13,⟨[14,15],[(16,⟨[],[]⟩)]⟩)]⟩)]⟩)]⟩ [cel b1 36 a.cells] (fun w=>a.at_ w∧Xc w) (h:=?_))
   all_goals repeat' (first|refine gdz ?_|refine aH (hsub:=by exact aN) (hy:=by first|(apply dy (cs:=Xg.cells ⟨((sa.n+1:Nat):Int),a.n,a.m⟩);rfl;rfl)) ?_|refine aE ?_ (h':=?_)|exact aF|refine bT (size:=3) (vs:=[Xg.v ⟨((sa.n+1:Nat):Int),a.n,a.m⟩]) (css:=Xg.cells ⟨((sa.n+1:Nat):Int),a.n,a.m⟩) (hsz:=by rfl) (hcs:=by rfl) fun _=>?_|(refine ga ?_;refine aD (size:=3) (news:=Xg.cells ⟨((sa.n+1:Nat):Int),a.n,a.m⟩) (q:=1) rfl rfl rfl rfl (fun _=>by (repeat (first|with_reducible exact At.here _|apply At.there))) (fun w G=>aR G aB rfl rfl 1) ab (by simp only [maxLen];omega) rfl ?_ rfl ?_;(first|with_reducible rfl|with_reducible assumption|with_reducible exact Zj|with_reducible exact Zk);intro A3 c3)|refine gs1 fun _=>?_|(refine gq ?_ ?_<;>intro hx_ this)|fail)
   all_goals
    refine bj (aX rfl) ⟨_,ZS _ (ZS _ (aj _)),rfl,⟨A2,sa.n+1,c2⟩,⟨A3,sk.n+1,c3⟩,pl',⟨?_,?_,?_⟩,?_⟩
    · rw [hst,Zw,hn];rfl
    · rw [hst,Zw,hk];rfl
    · rw [hst];exact hpl'
    · rw [hst]
      unfold bldR actR keyR
      rw [hfl,hfk]
      rfl
 · repeat' (first|refine dB (hab:=hk18) ?_|refine gs ?_|refine gs1 fun _=>?_|(refine gp ?_ ?_<;>intro hx_ this)|fail)
   have hst:addS st a=⟨st.acts++[a],st.keys,D,st.gen⟩:=by rw [addS,hD,Zd hk18];rfl
   refine bj (aX rfl) ⟨_,ZS _ (aj _),rfl,⟨A2,sa.n+1,c2⟩,sk,pl',⟨?_,?_,?_⟩,?_⟩
   · rw [hst,Zw,hn];rfl
   · rw [hst,hk]
   · rw [hst];exact hpl'
   · rw [hst]
     unfold bldR actR keyR
     rw [hfl]
end Go.Proofs.YtamfbppnlomgfaaGreatDoor
namespace Go.Proofs.YtamfbppnlomgfaaGreatDoor
open Go Go.Proofs Sy Tryz
def BldH.look (h:BldH) (o:Option Xm):BldH:={ h with cl:=o.getD Xm.zero,wn:=o.isSome }
def bldCel (b:Nat) (h:BldH) (sa sk:Xh) (st:Ea):Xi:=cel b 118 (bldC h sa sk st.prev (st.gen:Nat))
theorem nQ (b:Nat) (h:BldH) (sa sk:Xh) (st:Ea) (o:Option Xm) (Y:World→Prop)
  (hwon:Pu prog 105 #[.agg #[h.ks.v,h.ki.v],.string h.id,.int .i64 (st.gen:Nat)] Y (.tuple #[(o.getD Xm.zero).v,.bool o.isSome])) :
  Ct prog 64 #[.pointer (some ⟨b,0,none⟩)] [bldCel b h sa sk st] Y (fun u R _=>u=.tuple #[]∧R=[bldCel b (h.look o) sa sk st]):=by
 refine bQ (args:=[_]) _ func64 rfl ntmps64 rfl fun av bor w0=>?_
 unfold bldCel
 generalize hc:o.getD Xm.zero=c at hwon
 generalize hi:o.isSome=i at hwon
 have hL:h.look o={ h with cl:=c,wn:=i }:=by rw [BldH.look,hc,hi]
 rw [hL]
 (refine aw_draw ⟨[0,1,2,3,4,6,7,8,9,11,12,13,14],[(5,⟨[],[(10,⟨[],[(15,⟨[],[(16,⟨[17,18,19,20,21],[(22,⟨[23,24],[(25,⟨[],[]⟩)]⟩)]⟩)]⟩)]⟩),(15,⟨[],[(10,⟨[],[(16,⟨[17,18,19,20,21],[(22,⟨[23,24],[(25,⟨[],[]⟩)]⟩)]⟩)]⟩)]⟩)]⟩),(10,⟨[],[(5,⟨[],[(15,⟨[],[(16,⟨[17,18,19,20,21],[(22,⟨[23,24],[(25,⟨[],[]⟩)]⟩)]⟩)]⟩)]⟩),(15,⟨[],[(5,⟨[],[(16,⟨[17,18,19,20,21],[(22,⟨[23,24],[(25,⟨[],[]⟩)]⟩)]⟩)]⟩)]⟩)]⟩),(15,⟨[],[(5,⟨[],[(10,⟨[],[(16,⟨[17,18,19,20,21],[(22,⟨[23,24],[(25,⟨[],[]⟩)]⟩)]⟩)]⟩)]⟩),(10,⟨[],[(5,⟨[],[(16,⟨[17,18,19,20,21],[(22,⟨[23,24],[(25,⟨[],[]⟩)]⟩)]⟩)]⟩)]⟩)]⟩)]⟩ [] (fun w=>Y w) (h:=?_))
 all_goals repeat' (first|(refine ae (hc:=hwon) ?_)|refine gd ?_|refine aE ?_ (h':=?_)|exact aF|(refine aV (vs:=[h.ks.v,h.ki.v]) (hv:=rfl) ?_)|(refine cT (bldC { h with cl:=c } sa sk st.prev (st.gen:Nat)) (h:=?_))|(refine cT (bldC { h with cl:=c,wn:=i } sa sk st.prev (st.gen:Nat)) (h:=?_))|(refine gq ?_ ?_<;>intro hx_ this)|fail)
 all_goals exact bj (aX rfl) ⟨_,aj _,rfl,rfl⟩
namespace Sy
section
variable {P:Program} {N:Nat} {av bor:List Nat} {w0:World} {st:St} {t:TypeId} {ty:TypeId} {x:Operand}
theorem dY {e size m i c j:Nat} [h:Xs P t] {A:Option Addr} {xs:List (List Value)} {cs:List Value} {u:Value} (hx:ev st.env x=some (elP A (i*size+j))) (hm:orow e size (.slice A m c) m xs.flatten∈st.loc) (hn:m=xs.length) (hs:∀ r∈xs,r.length=size) (hi:xs[i]?=some cs) (hj:cs[j]?=some u) :
  Yields P N av bor w0 st (.load t x) ty u:=Sy.Yields.mk fun B w ok d pos af g=>by
 have hr:=aW (ok.gam.here _ hm).now hn hs
 obtain ⟨h1,hp,hc⟩:=Xd.row hr i cs hi
 obtain ⟨a,rfl⟩:=Qx.1 hp
 simp [execOp,ok.eval hx,elP,Instr.loadAt,Instr.sureAddr,loadVar,(aT h.out w).1,(hc j u hj).2 a rfl]
theorem eE [h:Xs P t] {bl j:Nat} {v:Value} (hx:ev st.env x=some (.pointer (some ⟨bl,j,none⟩))) (hF:∀ w,st.ext w→w.cell? ⟨bl,j,none⟩=some v):Yields P N av bor w0 st (.load t x) ty v:=Sy.Yields.mk fun B w ok d pos af g=>by
 simp [execOp,ok.eval hx,Instr.loadAt,Instr.sureAddr,loadVar,(aT h.out w).1,hF w ok.gam.keep.now]
end
end Sy
def CelD (b:Nat) (cs:List Value) (w:World):Prop:=∀ j v,cs[j]?=some v→w.cell? ⟨b,j,none⟩=some v
theorem iw {b T:Nat} {cs:List Value} {w:World} (h:(cel b T cs).F w):CelD b cs w:=fun j v hj=>by
 have h1:w.heap[b]?=some (.cells cs.toArray T (0,0)):=h
 simp [World.cell?,h1,hj]
theorem rH (b b1:Nat) (h:BldH) (sa sk:Xh) (st:Ea) (pl:List (ByteArray×Value)) (hp:PlOk pl st.acts) (d:ByteArray) :
  Pu prog 108 #[.string d,.pointer (some ⟨b1,0,none⟩)] (fun w=>CelD b1 [.pointer (some ⟨b,0,none⟩)] w∧CelD b (bldC h sa sk st.prev (st.gen:Nat)) w∧MapAt w h.q2 pl) (idxP (idxV st.acts d)):=by
 refine ax func108 ntmps108 fun av bor w0=>?_
 have hlk:=hp d
 cases hj:idxV st.acts d with
 | none =>
  rw [hj] at hlk
  repeat' (first|refine gs ?_|(refine ao (eE rfl (fun w h=>h.1 0 _ rfl)) rfl rfl rfl ?_)|(refine ao (eE rfl (fun w h=>h.2.1 9 _ rfl)) rfl rfl rfl ?_)|(refine cN (κ:=ByteArray) (kk:=d) (b:=false) (v:=.int .i64 0) (hl:=iq fun w h=>h.2.2) (ho:=hlk) ?_)|(refine gp ?_ ?_<;>intro hx_ this)|fail)
  exact aa (bg rfl rfl rfl) rfl
 | some j =>
  rw [hj] at hlk
  repeat' (first|refine gs ?_|(refine ao (eE rfl (fun w h=>h.1 0 _ rfl)) rfl rfl rfl ?_)|(refine ao (eE rfl (fun w h=>h.2.1 9 _ rfl)) rfl rfl rfl ?_)|(refine cN (κ:=ByteArray) (kk:=d) (b:=true) (v:=.int .i64 (j:Nat)) (hl:=iq fun w h=>h.2.2) (ho:=hlk) ?_)|(refine gp ?_ ?_<;>intro hx_ this)|fail)
  exact aa (bg rfl rfl rfl) rfl
end Go.Proofs.YtamfbppnlomgfaaGreatDoor
namespace Go.Proofs.YtamfbppnlomgfaaGreatDoor
open Go Go.Proofs Sy Tryz
def actsFor (L:List Xa) (k:PosK):List Xa:=L.filter fun a=>decide (a.seq=k.1)&&seqB a.prev k.2
structure Xw (q:Nat) (G:List (PosK×Xh)) (L:List Xa) (w:World):Prop where
 map:SMapAt prog 121 w q (G.map fun g=>(g.1,g.2.v))
 rows:∀ k,Acts w ((dget G k).getD ⟨none,0,0⟩) (actsFor L k)
theorem eV {κ β γ:Type} [DecidableEq κ] (f:β→γ):∀ (l:List (κ×β)) (k:κ),dget (l.map fun p=>(p.1,f p.2)) k=(dget l k).map f
 | [],_=>rfl
 | (k',v')::r,k=>by
  simp only [ZR,dget,eV f r k]
  cases decide (k=k')<;>rfl
theorem rA {st:Ea} {h:BldH} {sa sk:Xh} {id:ByteArray} (hid:h.id=id) (hn:sa.n=st.acts.length) (a:Xa) (pl:Option Nat):fitsV ⟨h.id,sa,sk,st.prev,(st.gen:Nat),h.fork,st.acts⟩ a pl=fitsV (st.ch id) a pl:=by
 subst hid
 obtain ⟨p,n,c⟩:=sa
 simp only at hn
 subst hn
 rfl
theorem jR (l:List Xg):∀ r∈l.map Xg.cells,r.length=3:=fun r hr=>by
 obtain ⟨c,_,rfl⟩:=Qt.1 hr
 rfl
theorem jM {l:List Xa} (h:l.length≠1):oneA l=none:=by
 match l,h with
 | [],_=>rfl
 | [x],h=>exact absurd rfl h
 | x::y::r,_=>rfl
structure CanI (M:List Xa) (B:Xa→Bool) where
 k:Nat
 hk:k≤M.length
 A:Option Addr
 c:Nat
 n:Nat
 hn:n=((M.take k).filter B).length
 xs:List Value
 hxs:xs=(((M.take k).filter B).map Xa.cells).flatten
theorem kS (b:Nat) (h:BldH) (sa sk:Xh) (st:Ea) (pl:List (ByteArray×Value)) (ok:BldOk sa sk st pl) (W:OfW) (G:List (PosK×Xh)) (hI:InvS W st) (hid:h.id=W.id)
  (hok:Xr W.L) (hL:W.L.length≤100000) (hB:W.B≤100000)
  (hver:∀ a∈W.L,∀ p:Int,Pu prog 62 #[.int .i64 p,a.v] (fun w=>a.at_ w∧Xc w) (.bool (W.ver p a))) :
  Ct prog 66 #[.pointer (some ⟨b,0,none⟩)] (bldR b h sa sk st pl) (fun w=>(Xw h.q1 G W.L w∧∀ a∈W.L,a.at_ w)∧Xc w)
   (fun u R _=>(∀ a,oneA (candL W st)=some a→BldAt b h (addS st a) (.bool true) u R)∧(oneA (candL W st)=none→BldAt b { h with fork:=decide (1<(candL W st).length) } st (.bool false) u R)):=by
 have hlen:=hI.len
 have hkn:=hI.keyn
 have hgen:=hI.gen
 have ok':=ok
 obtain ⟨hn,hk,hp⟩:=ok
 refine bQ (args:=[_]) _ func66 rfl ntmps66 rfl fun av bor w0=>?_
 obtain ⟨K,hK⟩:∃ K,st.keys[st.keys.length-1]?=some K:=⟨_,Zc (by have:=hI.key;omega)⟩
 have hKey:st.key=K.public_:=by rw [Ea.key,Zl,hK];rfl
 have hk0:=hI.key
 obtain ⟨M,hM⟩:∃ M,actsFor W.L ((sa.n:Int),st.prev)=M:=⟨_,rfl⟩
 have hcand:candL W st=M.filter (candB W st):=by rw [candL,←hM,actsFor,hn];rfl
 have hMm:∀ a∈M,a∈W.L:=fun a ha=>by rw [←hM] at ha;exact (Qw.1 ha).1
 have hMl:M.length≤W.L.length:=by rw [←hM];exact ZZ _ _
 obtain ⟨s,hs⟩:∃ s,(dget G ((sa.n:Int),st.prev)).getD ⟨none,0,0⟩=s:=⟨_,rfl⟩
 have hgl:∃ o,dget (G.map fun g=>(g.1,g.2.v)) ((sa.n:Int),st.prev)=o∧o.getD (.slice none 0 0)=s.v:=by
  refine ⟨_,rfl,?_⟩
  rw [eV,←hs]
  cases dget G ((sa.n:Int),st.prev)<;>rfl
 obtain ⟨o,ho,hov⟩:=hgl
 refine aK (p:=s.n=M.length∧s.n≤maxLen∧(0<M.length→s.p.isSome=true)) (fun w h=>by
  have h1:=h.1.1.rows ((sa.n:Int),st.prev)
  rw [hs,hM] at h1
  exact ⟨h1.len_,h1.max_,h1.some_⟩) fun ⟨hsn,hsm,hsp⟩=>?_
 simp only [maxLen] at hsm
 have hro:∀ w,((Xw h.q1 G W.L w∧∀ a∈W.L,a.at_ w)∧Xc w)→Acts w s M:=fun w h=>by
  have h1:=h.1.1.rows ((sa.n:Int),st.prev)
  rwa [hs,hM] at h1
 unfold bldR keyR actR
 refine dV (r:=orow 40 3 (.slice sk.p sk.n sk.c) sk.n (st.keys.map Xg.cells).flatten) aB (p:=sk.p.isSome=true) (fun w h=>dq h ab) fun hkp=>?_
 repeat' (first|refine gs ?_|refine gs1 fun _=>?_|(refine gp ?_ ?_<;>intro hx_ this)|fail)
 rename_i b1
 have hLOC:True:=trivial
 (refine aw_draw ⟨[0,1,2,3,4,5,6,7,8,9,10,11,12,13],[]⟩ [cel b1 114 [.pointer (some ⟨b,0,none⟩)],cel b 118 (bldC h sa sk st.prev (st.gen:Nat)),orow 36 20 (.slice sa.p sa.n sa.c) sa.n (st.acts.map Xa.cells).flatten,orow 40 3 (.slice sk.p sk.n sk.c) sk.n (st.keys.map Xg.cells).flatten,mapr h.q2 pl] (fun w=>(Xw h.q1 G W.L w∧∀ a∈W.L,a.at_ w)∧Xc w) (h:=?_))
 all_goals repeat' (first|refine gdz ?_|refine aH (hsub:=by exact aN) (hy:=by first|(apply du (q:=(sk.n-1)*3);rfl;rfl;omega;omega;assumption;omega)|(apply eF;rfl;assumption;rfl)|(apply dY (xs:=st.keys.map Xg.cells) (cs:=K.cells) (i:=sk.n-1) (j:=1) (u:=.int .i64 K.public_);rfl;(repeat (first|exact aC|apply Zr));(simp [hk]);exact jR st.keys;(simp [hk,hK]);rfl)) ?_|refine aE ?_ (h':=?_)|exact aF|refine gs1 fun _=>?_|(refine gq ?_ ?_<;>intro hx_ this)|fail)
 repeat' (first|refine gs ?_|refine gs1 fun _=>?_|(refine bV ?_)|(refine gp ?_ ?_<;>intro hx_ this)|fail)
 (refine aw_draw ⟨[0,1,2,3,4,5,6,7,8,9,10,11,12,13,16],[(14,⟨[15],[]⟩)]⟩ [cel b1 114 [.pointer (some ⟨b,0,none⟩)],cel b 118 (bldC h sa sk st.prev (st.gen:Nat)),orow 36 20 (.slice sa.p sa.n sa.c) sa.n (st.acts.map Xa.cells).flatten,orow 40 3 (.slice sk.p sk.n sk.c) sk.n (st.keys.map Xg.cells).flatten,mapr h.q2 pl] (fun w=>(Xw h.q1 G W.L w∧∀ a∈W.L,a.at_ w)∧Xc w) (h:=?_))
 all_goals repeat' (first|refine gdz ?_|refine aH (hsub:=by exact aN) (hy:=by first|(apply dy (cs:=[.int .i64 (sa.n:Nat),.string st.prev]);rfl;rfl)) ?_|refine aE ?_ (h':=?_)|exact aF|(refine ao (jv (κ:=PosK) (kk:=((sa.n:Int),st.prev)) (z:=.slice none 0 0) (o:=o) (v:=s.v) rfl rfl (ln fun w h=>h.1.1.map) ho hov) rfl rfl rfl ?_)|refine gs1 fun _=>?_|(refine gq ?_ ?_<;>intro hx_ this)|fail)
 apply QC
 refine bA 36 20 ?_
 refine az (ι:=CanI M (candB W st)) (fun i=>⟨[(1,.pointer (some ⟨b1,0,none⟩)),(3,.pointer (some ⟨b,2,none⟩)),(4,.int .i64 K.public_),(5,.func (.func 108) #[] #[.pointer (some ⟨b1,0,none⟩)]),(6,.slice i.A i.n i.c),(40,s.v),(41,.int .i64 (s.n:Nat)),(42,.int .i64 (i.k:Nat))],[orow 36 20 (.slice i.A i.n i.c) i.n i.xs,cel b1 114 [.pointer (some ⟨b,0,none⟩)],cel b 118 (bldC h sa sk st.prev (st.gen:Nat)),orow 36 20 (.slice sa.p sa.n sa.c) sa.n (st.acts.map Xa.cells).flatten,orow 40 3 (.slice sk.p sk.n sk.c) sk.n (st.keys.map Xg.cells).flatten,mapr h.q2 pl],(fun w=>(Xw h.q1 G W.L w∧∀ a∈W.L,a.at_ w)∧Xc w)⟩) (fun i=>M.length-i.k) ⟨0,ZU _,none,0,0,rfl,[],rfl⟩ (ak aw (aj _) fun _ h=>h) fun i=>?_
 obtain ⟨k,hk',A,cc,n,hn',xs,hxs⟩:=i
 simp only
 have hnl:n≤100000:=by have h1:=ZZ (candB W st) (M.take k);rw [←hn',Z7] at h1;omega
 repeat' (first|refine gs ?_|refine gs1 fun _=>?_|(refine gp ?_ ?_<;>intro hx_ this)|fail)
 · have hlt:k<M.length:=by omega
   have hsp':=hsp ab
   obtain ⟨a,ha⟩:∃ a,M[k]?=some a:=⟨_,Zc hlt⟩
   have ham:a∈M:=ZW ha
   repeat' (first|refine gs ?_|refine gs1 fun _=>?_|(refine aA (q:=k*20) ?_)|(refine aO (cs:=a.cells) (hF:=fun w h=>Acts.get (hro w h) ha) ?_)|(refine gp ?_ ?_<;>intro hx_ this)|fail)
   rename_i b8
   have hf:=om ⟨h.id,sa,sk,st.prev,(st.gen:Nat),h.fork,st.acts⟩ a 108 [.pointer (some ⟨b1,0,none⟩)] (idxV st.acts a.object) _ (rH b b1 h sa sk st pl hp a.object) (fun j hj=>kJ hj)
   rw [rA hid hn] at hf
   have hXf:∀ w,((Xw h.q1 G W.L w∧∀ a∈W.L,a.at_ w)∧Xc w)→(∀ r∈[cel b8 36 a.cells,orow 36 20 (.slice A n cc) n xs,cel b1 114 [.pointer (some ⟨b,0,none⟩)],cel b 118 (bldC h sa sk st.prev (st.gen:Nat)),orow 36 20 (.slice sa.p sa.n sa.c) sa.n (st.acts.map Xa.cells).flatten,orow 40 3 (.slice sk.p sk.n sk.c) sk.n (st.keys.map Xg.cells).flatten,mapr h.q2 pl],r.F w)→(Xb.at_ w ⟨h.id,sa,sk,st.prev,(st.gen:Nat),h.fork,st.acts⟩∧a.at_ w∧CelD b1 [.pointer (some ⟨b,0,none⟩)] w∧CelD b (bldC h sa sk st.prev (st.gen:Nat)) w∧MapAt w h.q2 pl):=fun w hw hr =>
    ⟨cL (hr _ (.tail _ (.tail _ (.tail _ (.tail _ (.head _)))))) hn (fun x hx=>hw.1.2 x (hI.mem x hx)),hw.1.2 a (hMm a ham),iw (hr _ (.tail _ (.tail _ (.head _)))),iw (hr _ (.tail _ (.tail _ (.tail _ (.head _))))),hr _ (.tail _ (.tail _ (.tail _ (.tail _ (.tail _ (.tail _ (.head _)))))))⟩
   have hv:=hver a (hMm a ham) K.public_
   have htk:((M.take (k+1)).filter (candB W st))=(M.take k).filter (candB W st)++(bif candB W st a then [a] else []):=by
    rw [Z5,ha,Qi,Qh]
    congr 1
   have hcb:candB W st a=(fitsV (st.ch W.id) a (idxV st.acts a.object)&&W.ver K.public_ a):=by rw [candB,hKey]
   cases hfv:fitsV (st.ch W.id) a (idxV st.acts a.object) with
   | false =>
    rw [hfv] at hf hcb
    have hno:(M.take (k+1)).filter (candB W st)=(M.take k).filter (candB W st):=by simp [htk,hcb]
    (refine aw_draw ⟨[0,1,2,3,4],[(5,⟨[6,7,8],[(9,⟨[10],[]⟩)]⟩)]⟩ [cel b8 36 a.cells,orow 36 20 (.slice A n cc) n xs,cel b1 114 [.pointer (some ⟨b,0,none⟩)],cel b 118 (bldC h sa sk st.prev (st.gen:Nat)),orow 36 20 (.slice sa.p sa.n sa.c) sa.n (st.acts.map Xa.cells).flatten,orow 40 3 (.slice sk.p sk.n sk.c) sk.n (st.keys.map Xg.cells).flatten,mapr h.q2 pl] (fun w=>(Xw h.q1 G W.L w∧∀ a∈W.L,a.at_ w)∧Xc w) (h:=?_))
    all_goals repeat' (first|(refine db (hc:=hf) (hX:=hXf) ?_)|(refine ae (hc:=hv) (hX:=fun w h=>⟨h.1.2 a (hMm a ham),h.2⟩) ?_)|refine gdz ?_|refine aH (hsub:=by exact aN) (hy:=by first|(apply bS (vs:=[.string h.id,.slice sa.p sa.n sa.c,.slice sk.p sk.n sk.c,.string st.prev,.int .i64 (st.gen:Nat),.bool h.fork]);rfl;(repeat (first|exact aC|apply Zr));rfl;rfl)) ?_|refine aE ?_ (h':=?_)|exact aF|refine gs1 fun _=>?_|(refine gq ?_ ?_<;>intro hx_ this)|fail)
    all_goals
     repeat' (first|refine gs ?_|refine gs1 fun _=>?_|(refine gp ?_ ?_<;>intro hx_ this)|fail)
     exact ⟨(⟨k+1,hlt,A,cc,n,by rw [hno];exact hn',xs,by rw [hno];exact hxs⟩:CanI M (candB W st)),(by show M.length-(k+1)<M.length-k;omega),ak aw (ZS _ (aj _)) fun _ h=>h⟩
   | true =>
    rw [hfv] at hf hcb
    cases hve:W.ver K.public_ a with
    | false =>
     rw [hve] at hv hcb
     have hno:(M.take (k+1)).filter (candB W st)=(M.take k).filter (candB W st):=by simp [htk,hcb]
     (refine aw_draw ⟨[0,1,2,3,4],[(5,⟨[6,7,8],[(9,⟨[10],[]⟩)]⟩)]⟩ [cel b8 36 a.cells,orow 36 20 (.slice A n cc) n xs,cel b1 114 [.pointer (some ⟨b,0,none⟩)],cel b 118 (bldC h sa sk st.prev (st.gen:Nat)),orow 36 20 (.slice sa.p sa.n sa.c) sa.n (st.acts.map Xa.cells).flatten,orow 40 3 (.slice sk.p sk.n sk.c) sk.n (st.keys.map Xg.cells).flatten,mapr h.q2 pl] (fun w=>(Xw h.q1 G W.L w∧∀ a∈W.L,a.at_ w)∧Xc w) (h:=?_))
     all_goals repeat' (first|(refine db (hc:=hf) (hX:=hXf) ?_)|(refine ae (hc:=hv) (hX:=fun w h=>⟨h.1.2 a (hMm a ham),h.2⟩) ?_)|refine gdz ?_|refine aH (hsub:=by exact aN) (hy:=by first|(apply bS (vs:=[.string h.id,.slice sa.p sa.n sa.c,.slice sk.p sk.n sk.c,.string st.prev,.int .i64 (st.gen:Nat),.bool h.fork]);rfl;(repeat (first|exact aC|apply Zr));rfl;rfl)) ?_|refine aE ?_ (h':=?_)|exact aF|refine gs1 fun _=>?_|(refine gq ?_ ?_<;>intro hx_ this)|fail)
     all_goals
      repeat' (first|refine gs ?_|refine gs1 fun _=>?_|(refine gp ?_ ?_<;>intro hx_ this)|fail)
      exact ⟨(⟨k+1,hlt,A,cc,n,by rw [hno];exact hn',xs,by rw [hno];exact hxs⟩:CanI M (candB W st)),(by show M.length-(k+1)<M.length-k;omega),ak aw (ZS _ (aj _)) fun _ h=>h⟩
    | true =>
     rw [hve] at hv hcb
     have hyes:(M.take (k+1)).filter (candB W st)=(M.take k).filter (candB W st)++[a]:=by rw [htk,hcb];rfl
     (refine aw_draw ⟨[0,1,2,3,4],[(5,⟨[6,7,8],[(9,⟨[10],[]⟩)]⟩)]⟩ [cel b8 36 a.cells,orow 36 20 (.slice A n cc) n xs,cel b1 114 [.pointer (some ⟨b,0,none⟩)],cel b 118 (bldC h sa sk st.prev (st.gen:Nat)),orow 36 20 (.slice sa.p sa.n sa.c) sa.n (st.acts.map Xa.cells).flatten,orow 40 3 (.slice sk.p sk.n sk.c) sk.n (st.keys.map Xg.cells).flatten,mapr h.q2 pl] (fun w=>(Xw h.q1 G W.L w∧∀ a∈W.L,a.at_ w)∧Xc w) (h:=?_))
     all_goals repeat' (first|(refine db (hc:=hf) (hX:=hXf) ?_)|(refine ae (hc:=hv) (hX:=fun w h=>⟨h.1.2 a (hMm a ham),h.2⟩) ?_)|refine gdz ?_|refine aH (hsub:=by exact aN) (hy:=by first|(apply bS (vs:=[.string h.id,.slice sa.p sa.n sa.c,.slice sk.p sk.n sk.c,.string st.prev,.int .i64 (st.gen:Nat),.bool h.fork]);rfl;(repeat (first|exact aC|apply Zr));rfl;rfl)) ?_|refine aE ?_ (h':=?_)|exact aF|refine gs1 fun _=>?_|(refine gq ?_ ?_<;>intro hx_ this)|fail)
     all_goals
      repeat' (first|refine bT (size:=20) (vs:=[a.v]) (css:=a.cells) (hsz:=by rfl) (hcs:=by rfl) fun _=>?_|refine gs ?_|refine gs1 fun _=>?_|(refine gp ?_ ?_<;>intro hx_ this)|fail)
      refine aD (size:=20) (news:=a.cells) (q:=1) rfl rfl rfl rfl (fun _=>At.there _ (At.there _ (At.here _))) (fun w G=>aR G aC rfl rfl 1) ab (by simp only [maxLen];omega) rfl ?_ rfl ?_
      · (first|with_reducible rfl|with_reducible assumption|with_reducible exact Zj|with_reducible exact Zk)
      intro A2 c2
      repeat' (first|refine gs ?_|refine gs1 fun _=>?_|(refine gp ?_ ?_<;>intro hx_ this)|fail)
      exact ⟨(⟨k+1,hlt,A2,c2,n+1,by rw [hyes,Zw,←hn'];rfl,xs++a.cells,by rw [hyes,hxs];simp⟩:CanI M (candB W st)),(by show M.length-(k+1)<M.length-k;omega),ak aw (ZS _ (ZS _ (aj _))) fun _ h=>h⟩
 have hkE:k=M.length:=by omega
 have hfin:candL W st=(M.take k).filter (candB W st):=by rw [hcand,hkE,Z6]
 have hnc:n=(candL W st).length:=by rw [hfin];exact hn'
 · have hn1:n≠1:=by
    intro e
    rw [e] at hx_
    exact absurd hx_ (by decide)
   have hone:oneA (candL W st)=none:=jM ab
   have hdc:decide ((1:Int)<(n:Int))=decide (1<(candL W st).length):=by
    rw [←hnc]
    by_cases h1:1<n
    · rw [Ze h1,Ze (by omega)]
    · rw [Zd h1,Zd (by omega)]
   refine aa (ai rfl rfl) ⟨bldR b { h with fork:=decide ((1:Int)<(n:Int)) } sa sk st pl,ZS _ (ZS _ (aj _)),fun a ha=>?_,fun _=>?_⟩
   · rw [hone] at ha
     cases ha
   · rw [←hdc]
     exact ⟨rfl,sa,sk,pl,ok',rfl⟩
 have hkE:k=M.length:=by omega
 have hfin:candL W st=(M.take k).filter (candB W st):=by rw [hcand,hkE,Z6]
 have hnc:n=(candL W st).length:=by rw [hfin];exact hn'
 have hn1:n=1:=by
  by_cases e:n=1
  · exact e
  · exact absurd hx_ (by simp;omega)
 obtain ⟨a,ha⟩:∃ a,candL W st=[a]:=List.length_eq_one_iff.1 ab
 have ham:a∈W.L:=(mg (show a∈candL W st from by rw [ha];exact ZV.2 rfl)).1
 have hxa:xs=a.cells:=by rw [hxs,←hfin,ha];simp
 subst hxa
 subst hn1
 refine dV (r:=orow 36 20 (.slice A 1 cc) 1 a.cells) aB (p:=A.isSome=true) (fun w h=>dq h (by decide)) fun hAp=>?_
 have had:=rU b h sa sk st pl ok' a (hok.rng a ham) (hok.sm a ham) ab ab
 (refine aw_draw ⟨[1,2],[(0,⟨[],[(3,⟨[],[(4,⟨[],[]⟩)]⟩)]⟩),(3,⟨[],[(0,⟨[],[(4,⟨[],[]⟩)]⟩)]⟩)]⟩ [] (fun _=>True) (h:=?_))
 all_goals repeat' (first|refine gd ?_|refine aH (hy:=by first|(apply du (q:=0);rfl;rfl;omega;omega;assumption;rfl)) ?_|refine aE ?_ (h':=?_)|exact aF|((refine ao (kc (size:=20) (m:=1) (i:=0) (xs:=[a.cells]) (cs:=a.cells) rfl (by exact aC) rfl (fun r hr=>by rw [ZV.1 hr];rfl) rfl) rfl rfl rfl ?_))|((refine d7 (l:=bldR b h sa sk st pl++[orow 36 20 (.slice A 1 cc) 1 a.cells,cel b1 114 [.pointer (some ⟨b,0,none⟩)]]) (Qz (l₁:=[orow 36 20 (.slice A 1 cc) 1 a.cells,cel b1 114 [.pointer (some ⟨b,0,none⟩)]]) (l₂:=bldR b h sa sk st pl)) ?_;refine cr (pre:=bldR b h sa sk st pl) (fr:=[orow 36 20 (.slice A 1 cc) 1 a.cells,cel b1 114 [.pointer (some ⟨b,0,none⟩)]]) (first:=#[]) (caps:=#[]) (hc:=had) (hX:=fun w hw=>⟨hw.1.2 a ham,hw.2⟩) (h:=?_);rintro v R X' ⟨rfl,sa2,sk2,pl2,ok2,rfl⟩;simp only [bldR,List.cons_append,List.nil_append]))|refine gs1 fun _=>?_|(refine gq ?_ ?_<;>intro hx_ this)|fail)
 all_goals
  repeat' (first|refine gs ?_|refine gs1 fun _=>?_|(refine gp ?_ ?_<;>intro hx_ this)|fail)
  refine aa (ai rfl rfl) ⟨bldR b h sa2 sk2 (addS st a) pl2,Qo _ _,fun a' ha'=>?_,fun ho=>?_⟩
  · rw [ha,oneA,ZE] at ha'
    subst ha'
    exact ⟨rfl,sa2,sk2,pl2,ok2,rfl⟩
  · rw [ha] at ho
    cases ho
def ofClaimI (c:Xm):Xe:=⟨1,Xa.zero,c,X8.zero,DecD.zero⟩
theorem mS (c:Xm):Pu prog 107 #[c.v] (fun _=>True) (ofClaimI c).v:=by
 refine ax func107 ntmps107 fun av bor w0=>?_
 repeat' (first|refine aI (cs:=(ofClaimI c).cells) (hf:=by rfl) ?_|refine gs ?_|refine gs1 fun _=>?_|(refine gp ?_ ?_<;>intro hx_ this)|fail)
 exact aa (aP rfl rfl aB (by rfl)) rfl
theorem jt (b:Nat) (h:BldH) (sa sk:Xh) (st:Ea) (pl:List (ByteArray×Value)) (ok:BldOk sa sk st pl) (hw:h.wn=false) (Y:World→Prop) :
  Ct prog 65 #[.pointer (some ⟨b,0,none⟩)] (bldR b h sa sk st pl) Y (fun u R _=>BldAt b h st (.bool false) u R):=by
 obtain ⟨ks,ki,id,fork,q1,q2,cl,wn⟩:=h
 simp only at hw
 subst hw
 refine bQ (args:=[_]) _ func65 rfl ntmps65 rfl fun av bor w0=>?_
 unfold bldR
 repeat' (first|refine gs ?_|refine gs1 fun _=>?_|(refine gp ?_ ?_<;>intro hx_ this)|fail)
 (refine aw_draw ⟨[0,1,2,3,4,5,6,7,8,9,10,11,12,13,14,15,16,17,18,19,20,21,22,23,24,25,26,27,28,29],[]⟩ [cel b 118 (bldC ⟨ks,ki,id,fork,q1,q2,cl,false⟩ sa sk st.prev (st.gen:Nat)),actR sa st.acts,keyR sk st.keys,mapr q2 pl] (fun w=>Y w) (h:=?_))
 all_goals repeat' (first|refine aH (hsub:=by exact aN) (hy:=by first|(apply kf (v:=.bool false);rfl;(repeat (first|exact aC|apply Zr));rfl)) ?_|refine gdz ?_|refine aE ?_ (h':=?_)|exact aF|refine gs1 fun _=>?_|(refine gq ?_ ?_<;>intro hx_ this)|fail)
 repeat' (first|refine gs ?_|refine gs1 fun _=>?_|(refine gp ?_ ?_<;>intro hx_ this)|fail)
 exact aa (ai rfl rfl) ⟨_,aj _,rfl,sa,sk,pl,ok,rfl⟩
structure SetI (l:List Xa) where
 k:Nat
 hk:k≤l.length
 hs:setI l l.length=setI l k
theorem js (b:Nat) (h:BldH) (sa sk:Xh) (st:Ea) (pl:List (ByteArray×Value)) (ok:BldOk sa sk st pl) (W:OfW) (c0:Xm) (hwc:W.won st.gen=some c0) (hcl:h.cl=c0) (hwn:h.wn=true) (Y:World→Prop)
  (hl:st.acts.length≤1000000) (hl2:st.keys.length≤1000000) (hg:st.gen≤1000000)
  (hclm:∀ p:Int,Pu prog 106 #[.int .i64 p,c0.v] (fun w=>Y w∧Xc w) (.bool (W.clm p c0)))
  (hdg:Pu prog 33 #[(ofClaimI c0).v] (fun w=>Y w∧Xc w) (.string (W.dgC c0)))
  (hwon:Pu prog 105 #[.agg #[h.ks.v,h.ki.v],.string h.id,.int .i64 ((st.gen+1:Nat):Int)] (fun w=>Y w∧Xc w) (.tuple #[((W.won (st.gen+1)).getD Xm.zero).v,.bool (W.won (st.gen+1)).isSome])) :
  Ct prog 65 #[.pointer (some ⟨b,0,none⟩)] (bldR b h sa sk st pl) (fun w=>Y w∧Xc w)
   (fun u R _=>(∀ s,regS W st=some s→BldAt b (h.look (W.won (st.gen+1))) s (.bool true) u R)∧(regS W st=none→BldAt b h st (.bool false) u R)):=by
 obtain ⟨ks,ki,id,fork,q1,q2,c,wn⟩:=h
 simp only at hcl hwn
 subst hcl
 subst hwn
 have ok':=ok
 obtain ⟨hn,hk,hp⟩:=ok
 refine bQ (args:=[_]) _ func65 rfl ntmps65 rfl fun av bor w0=>?_
 have hreg:regS W st=bif decide (c.base=(st.acts.length:Int))&&seqB c.prev st.prev then (match setI st.acts st.acts.length with
  | none=>none
  | some i=>bif W.clm (st.acts.getD i Xa.zero).m c then some ⟨st.acts,st.keys++[⟨(st.acts.length:Nat),c.pub,c.home⟩],W.dgC c,st.gen+1⟩ else none) else none:=by rw [regS,hwc];rfl
 generalize hgo:regS W st=go at *
 unfold bldR actR keyR
 repeat' (first|refine gs ?_|refine gs1 fun _=>?_|(refine gp ?_ ?_<;>intro hx_ this)|fail)
 cases hb:decide (c.base=(st.acts.length:Int)) with
 | false =>
  rw [hb] at hreg
  have hb':(!decide (c.base=(sa.n:Int)))=true:=by rw [hn,hb];rfl
  (refine aw_draw ⟨[0,1,2,3,4,5,6,7,8,9,10,11,12,13,14,15,16,17,18,19,20,21,22,23,24,25,26,27,28,29],[]⟩ [cel b 118 (bldC ⟨ks,ki,id,fork,q1,q2,c,true⟩ sa sk st.prev (st.gen:Nat)),orow 36 20 (.slice sa.p sa.n sa.c) sa.n (st.acts.map Xa.cells).flatten,orow 40 3 (.slice sk.p sk.n sk.c) sk.n (st.keys.map Xg.cells).flatten,mapr q2 pl] (fun w=>Y w∧Xc w) (h:=?_))
  all_goals repeat' (first|refine aH (hsub:=by exact aN) (hy:=by first|(apply kf (v:=.bool true);rfl;(repeat (first|exact aC|apply Zr));rfl)|(apply bG true;rfl;rfl;exact hb')) ?_|refine gdz ?_|refine aE ?_ (h':=?_)|exact aF|refine gs1 fun _=>?_|(refine gq ?_ ?_<;>intro hx_ this)|fail)
  all_goals
   repeat' (first|refine gs ?_|refine gs1 fun _=>?_|(refine gp ?_ ?_<;>intro hx_ this)|fail)
   exact aa (ai rfl rfl) ⟨bldR b ⟨ks,ki,id,fork,q1,q2,c,true⟩ sa sk st pl,aj _,⟨fun s hs=>(by rw [hreg] at hs;cases hs),fun _=>⟨rfl,sa,sk,pl,ok',rfl⟩⟩⟩
 | true =>
 rw [hb] at hreg
 have hb':(!decide (c.base=(sa.n:Int)))=false:=by rw [hn,hb];rfl
 have hbe:c.base=(st.acts.length:Int):=bC hb
 cases hpv:seqB c.prev st.prev with
 | false =>
  rw [hpv] at hreg
  have hpv':(!seqB c.prev st.prev)=true:=by rw [hpv];rfl
  (refine aw_draw ⟨[0,1,2,3,4,5,6,7,8,9,10,11,12,13,14,15,16,17,18,19,20,21,22,23,24,25,26,27,28,29],[]⟩ [cel b 118 (bldC ⟨ks,ki,id,fork,q1,q2,c,true⟩ sa sk st.prev (st.gen:Nat)),orow 36 20 (.slice sa.p sa.n sa.c) sa.n (st.acts.map Xa.cells).flatten,orow 40 3 (.slice sk.p sk.n sk.c) sk.n (st.keys.map Xg.cells).flatten,mapr q2 pl] (fun w=>Y w∧Xc w) (h:=?_))
  all_goals repeat' (first|refine aH (hsub:=by exact aN) (hy:=by first|(apply kf (v:=.bool true);rfl;(repeat (first|exact aC|apply Zr));rfl)|(apply bG false;rfl;rfl;exact hb')|(apply dX true;rfl;rfl;exact hpv')) ?_|refine gdz ?_|refine aE ?_ (h':=?_)|exact aF|refine gs1 fun _=>?_|(refine gq ?_ ?_<;>intro hx_ this)|fail)
  all_goals
   repeat' (first|refine gs ?_|refine gs1 fun _=>?_|(refine gp ?_ ?_<;>intro hx_ this)|fail)
   exact aa (ai rfl rfl) ⟨bldR b ⟨ks,ki,id,fork,q1,q2,c,true⟩ sa sk st pl,aj _,⟨fun s hs=>(by rw [hreg] at hs;cases hs),fun _=>⟨rfl,sa,sk,pl,ok',rfl⟩⟩⟩
 | true =>
 rw [hpv] at hreg
 have hpv':(!seqB c.prev st.prev)=false:=by rw [hpv];rfl
 (refine aw_draw ⟨[0,1,2,3,4,5,6,7,8,9,10,11,12,13,14,15,16,17,18,19,20,21,22,23,24,25,26,27,28,29],[]⟩ [cel b 118 (bldC ⟨ks,ki,id,fork,q1,q2,c,true⟩ sa sk st.prev (st.gen:Nat)),orow 36 20 (.slice sa.p sa.n sa.c) sa.n (st.acts.map Xa.cells).flatten,orow 40 3 (.slice sk.p sk.n sk.c) sk.n (st.keys.map Xg.cells).flatten,mapr q2 pl] (fun w=>Y w∧Xc w) (h:=?_))
 all_goals repeat' (first|refine aH (hsub:=by exact aN) (hy:=by first|(apply kf (v:=.bool true);rfl;(repeat (first|exact aC|apply Zr));rfl)|(apply bG false;rfl;rfl;exact hb')|(apply dX false;rfl;rfl;exact hpv')) ?_|refine gdz ?_|refine aE ?_ (h':=?_)|exact aF|refine gs1 fun _=>?_|(refine gq ?_ ?_<;>intro hx_ this)|fail)
 repeat' (first|refine gs ?_|refine gs1 fun _=>?_|(refine gp ?_ ?_<;>intro hx_ this)|fail)
 refine az (ι:=SetI st.acts) (fun i=>⟨[(0,.pointer (some ⟨b,0,none⟩)),(3,.pointer (some ⟨b,2,none⟩)),(4,.int .i64 ((i.k:Nat)-1))],[cel b 118 (bldC ⟨ks,ki,id,fork,q1,q2,c,true⟩ sa sk st.prev (st.gen:Nat)),orow 36 20 (.slice sa.p sa.n sa.c) sa.n (st.acts.map Xa.cells).flatten,orow 40 3 (.slice sk.p sk.n sk.c) sk.n (st.keys.map Xg.cells).flatten,mapr q2 pl],fun w=>Y w∧Xc w⟩) (fun i=>i.k) ⟨sa.n,by omega,by rw [hn]⟩ (ak aw (aj _) fun _ h=>h) fun i=>?_
 obtain ⟨k,hk',hs⟩:=i
 simp only
 cases k with
 | zero =>
  have hset:setI st.acts st.acts.length=none:=hs
  rw [hset] at hreg
  simp only [Bool.and_true,Zh,Zg] at hreg
  repeat' (first|refine se ?_|refine gs ?_|refine gs1 fun _=>?_|(refine gp ?_ ?_<;>intro hx_ this)|fail)
  (refine aw_draw ⟨[0,1,2,3,4,5,6,7,8,9,10,11,12,13,14],[(15,⟨[16,17],[]⟩)]⟩ [cel b 118 (bldC ⟨ks,ki,id,fork,q1,q2,c,true⟩ sa sk st.prev (st.gen:Nat)),orow 36 20 (.slice sa.p sa.n sa.c) sa.n (st.acts.map Xa.cells).flatten,orow 40 3 (.slice sk.p sk.n sk.c) sk.n (st.keys.map Xg.cells).flatten,mapr q2 pl] (fun w=>Y w∧Xc w) (h:=?_))
  all_goals repeat' (first|refine aH (hsub:=by exact aN) (hy:=by first|(apply bR true;rfl;rfl;exact Ze ab)) ?_|refine gdz ?_|refine aE ?_ (h':=?_)|exact aF|refine gs1 fun _=>?_|(refine gq ?_ ?_<;>intro hx_ this)|fail)
  all_goals
   repeat' (first|refine gs ?_|refine gs1 fun _=>?_|(refine gp ?_ ?_<;>intro hx_ this)|fail)
   exact aa (ai rfl rfl) ⟨bldR b ⟨ks,ki,id,fork,q1,q2,c,true⟩ sa sk st pl,aj _,⟨fun s hs=>(by rw [hreg] at hs;cases hs),fun _=>⟨rfl,sa,sk,pl,ok',rfl⟩⟩⟩
 | succ k =>
  obtain ⟨a,ha⟩:∃ a,st.acts[k]?=some a:=⟨_,Zc ab⟩
  have haD:st.acts.getD k Xa.zero=a:=by rw [Zl,ha];rfl
  refine dV (r:=orow 36 20 (.slice sa.p sa.n sa.c) sa.n (st.acts.map Xa.cells).flatten) aB (p:=sa.p.isSome=true) (fun w h=>dq h ab) fun hap=>?_
  have hm1:(sa.n:Nat)=(st.acts.map Xa.cells).length:=by rw [ZA];exact hn
  have hi1:(st.acts.map Xa.cells)[k]?=some a.cells:=by simp [ha]
  have hrow:orow 36 20 (.slice sa.p sa.n sa.c) sa.n (st.acts.map Xa.cells).flatten∈[cel b 118 (bldC ⟨ks,ki,id,fork,q1,q2,c,true⟩ sa sk st.prev (st.gen:Nat)),orow 36 20 (.slice sa.p sa.n sa.c) sa.n (st.acts.map Xa.cells).flatten,orow 40 3 (.slice sk.p sk.n sk.c) sk.n (st.keys.map Xg.cells).flatten,mapr q2 pl]:=.tail _ (.head _)
  by_cases hk19:a.kind=19
  · have hset:setI st.acts st.acts.length=some k:=by rw [hs,setI,haD,Ze hk19];rfl
    rw [hset] at hreg
    simp only [Bool.and_true,Zh,Zg,haD] at hreg
    have hcl:=hclm a.m
    repeat' (first|refine ao (cY true rfl rfl (Ze ab)) rfl rfl rfl ?_|refine eZ (hab:=hk19) ?_|refine gs ?_|refine gs1 fun _=>?_|(refine aA (q:=k*20) ?_)|(refine cH ?_)|(refine ao (dY (i:=k) (j:=3) (cs:=a.cells) (u:=.int .i64 a.kind) rfl hrow hm1 (dW _) hi1 rfl) rfl rfl rfl ?_)|(refine gp ?_ ?_<;>intro hx_ this)|fail)
    cases hcm:W.clm a.m c with
    | false =>
     rw [hcm] at hcl hreg
     (refine aw_draw ⟨[0,1,2,3,4,5,6,7,8,9,10,11,12,13,14],[(15,⟨[16,17],[]⟩)]⟩ [cel b 118 (bldC ⟨ks,ki,id,fork,q1,q2,c,true⟩ sa sk st.prev (st.gen:Nat)),orow 36 20 (.slice sa.p sa.n sa.c) sa.n (st.acts.map Xa.cells).flatten,orow 40 3 (.slice sk.p sk.n sk.c) sk.n (st.keys.map Xg.cells).flatten,mapr q2 pl] (fun w=>Y w∧Xc w) (h:=?_))
     all_goals repeat' (first|refine aH (hsub:=by exact aN) (hy:=by first|(apply bR false;rfl;rfl;exact Zd ab)) ?_|(refine ae (hc:=hcl) ?_)|refine gdz ?_|refine aH (hsub:=by exact aN) (hy:=by first|(apply du (q:=k*20);rfl;rfl;omega;omega;assumption;omega)|(apply eF;rfl;assumption;rfl)|(apply dY (i:=k) (j:=17) (cs:=a.cells) (u:=.int .i64 a.m);rfl;exact hrow;exact hm1;exact dW _;exact hi1;rfl)|(apply bS (vs:=c.cells);rfl;exact .head _;rfl;rfl)) ?_|refine aE ?_ (h':=?_)|exact aF|refine gs1 fun _=>?_|(refine gq ?_ ?_<;>intro hx_ this)|fail)
     all_goals
      repeat' (first|refine gs ?_|refine gs1 fun _=>?_|(refine gp ?_ ?_<;>intro hx_ this)|fail)
      exact aa (ai rfl rfl) ⟨bldR b ⟨ks,ki,id,fork,q1,q2,c,true⟩ sa sk st pl,aj _,⟨fun s hs=>(by rw [hreg] at hs;cases hs),fun _=>⟨rfl,sa,sk,pl,ok',rfl⟩⟩⟩
    | true =>
     rw [hcm] at hcl hreg
     simp only [Zg] at hreg
     (refine aw_draw ⟨[0,1,2,3,4,5,6,7,8,9,10,11,12,13,14],[(15,⟨[16,17],[]⟩)]⟩ [cel b 118 (bldC ⟨ks,ki,id,fork,q1,q2,c,true⟩ sa sk st.prev (st.gen:Nat)),orow 36 20 (.slice sa.p sa.n sa.c) sa.n (st.acts.map Xa.cells).flatten,orow 40 3 (.slice sk.p sk.n sk.c) sk.n (st.keys.map Xg.cells).flatten,mapr q2 pl] (fun w=>Y w∧Xc w) (h:=?_))
     all_goals repeat' (first|refine aH (hsub:=by exact aN) (hy:=by first|(apply bR false;rfl;rfl;exact Zd ab)) ?_|(refine ae (hc:=hcl) ?_)|refine gdz ?_|refine aH (hsub:=by exact aN) (hy:=by first|(apply du (q:=k*20);rfl;rfl;omega;omega;assumption;omega)|(apply eF;rfl;assumption;rfl)|(apply dY (i:=k) (j:=17) (cs:=a.cells) (u:=.int .i64 a.m);rfl;exact hrow;exact hm1;exact dW _;exact hi1;rfl)|(apply bS (vs:=c.cells);rfl;exact .head _;rfl;rfl)) ?_|refine aE ?_ (h':=?_)|exact aF|refine gs1 fun _=>?_|(refine gq ?_ ?_<;>intro hx_ this)|fail)
     all_goals
      repeat' (first|refine gs ?_|refine gs1 fun _=>?_|(refine gp ?_ ?_<;>intro hx_ this)|fail)
      refine bc (ι:=Option Addr×Nat) (fun i=>⟨[(0,.pointer (some ⟨b,0,none⟩)),(3,.pointer (some ⟨b,2,none⟩))],[cel b 118 (bldC ⟨ks,ki,id,fork,q1,q2,c,true⟩ sa ⟨i.1,sk.n+1,i.2⟩ st.prev (st.gen:Nat)),orow 36 20 (.slice sa.p sa.n sa.c) sa.n (st.acts.map Xa.cells).flatten,orow 40 3 (.slice i.1 (sk.n+1) i.2) (sk.n+1) ((st.keys.map Xg.cells).flatten++(⟨((sa.n:Nat):Int),c.pub,c.home⟩:Xg).cells),mapr q2 pl],fun w=>Y w∧Xc w⟩) ?_ fun i=>?_
      · (refine aw_draw ⟨[0,1,2,3,5,6,7,10,11,12,13,15,16,17,18],[(4,⟨[],[(8,⟨[9],[(14,⟨[],[(19,⟨[20],[(21,⟨[],[(22,⟨[23,24],[(25,⟨[],[]⟩)]⟩)]⟩)]⟩)]⟩),(19,⟨[],[(14,⟨[20],[(21,⟨[],[(22,⟨[23,24],[(25,⟨[],[]⟩)]⟩)]⟩)]⟩)]⟩)]⟩),(14,⟨[],[(8,⟨[9],[(19,⟨[20],[(21,⟨[],[(22,⟨[23,24],[(25,⟨[],[]⟩)]⟩)]⟩)]⟩)]⟩),(19,⟨[],[(8,⟨[9,20],[(21,⟨[],[(22,⟨[23,24],[(25,⟨[],[]⟩)]⟩)]⟩)]⟩)]⟩)]⟩),(19,⟨[],[(8,⟨[9],[(14,⟨[20],[(21,⟨[],[(22,⟨[23,24],[(25,⟨[],[]⟩)]⟩)]⟩)]⟩)]⟩),(14,⟨[],[(8,⟨[9,20],[(21,⟨[],[(22,⟨[23,24],[(25,⟨[],[]⟩)]⟩)]⟩)]⟩)]⟩)]⟩)]⟩),(8,⟨[9],[(4,⟨[],[(14,⟨[],[(19,⟨[20],[(21,⟨[],[(22,⟨[23,24],[(25,⟨[],[]⟩)]⟩)]⟩)]⟩)]⟩),(19,⟨[],[(14,⟨[20],[(21,⟨[],[(22,⟨[23,24],[(25,⟨[],[]⟩)]⟩)]⟩)]⟩)]⟩)]⟩),(14,⟨[],[(4,⟨[],[(19,⟨[20],[(21,⟨[],[(22,⟨[23,24],[(25,⟨[],[]⟩)]⟩)]⟩)]⟩)]⟩),(19,⟨[20],[(4,⟨[],[(21,⟨[],[(22,⟨[23,24],[(25,⟨[],[]⟩)]⟩)]⟩)]⟩),(21,⟨[],[(4,⟨[],[(22,⟨[23,24],[(25,⟨[],[]⟩)]⟩)]⟩)]⟩)]⟩)]⟩),(19,⟨[],[(4,⟨[],[(14,⟨[20],[(21,⟨[],[(22,⟨[23,24],[(25,⟨[],[]⟩)]⟩)]⟩)]⟩)]⟩),(14,⟨[20],[(4,⟨[],[(21,⟨[],[(22,⟨[23,24],[(25,⟨[],[]⟩)]⟩)]⟩)]⟩),(21,⟨[],[(4,⟨[],[(22,⟨[23,24],[(25,⟨[],[]⟩)]⟩)]⟩)]⟩)]⟩)]⟩)]⟩),(14,⟨[],[(4,⟨[],[(8,⟨[9],[(19,⟨[20],[(21,⟨[],[(22,⟨[23,24],[(25,⟨[],[]⟩)]⟩)]⟩)]⟩)]⟩),(19,⟨[],[(8,⟨[9,20],[(21,⟨[],[(22,⟨[23,24],[(25,⟨[],[]⟩)]⟩)]⟩)]⟩)]⟩)]⟩),(8,⟨[9],[(4,⟨[],[(19,⟨[20],[(21,⟨[],[(22,⟨[23,24],[(25,⟨[],[]⟩)]⟩)]⟩)]⟩)]⟩),(19,⟨[20],[(4,⟨[],[(21,⟨[],[(22,⟨[23,24],[(25,⟨[],[]⟩)]⟩)]⟩)]⟩),(21,⟨[],[(4,⟨[],[(22,⟨[23,24],[(25,⟨[],[]⟩)]⟩)]⟩)]⟩)]⟩)]⟩),(19,⟨[],[(4,⟨[],[(8,⟨[9,20],[(21,⟨[],[(22,⟨[23,24],[(25,⟨[],[]⟩)]⟩)]⟩)]⟩)]⟩),(8,⟨[9,20],[(4,⟨[],[(21,⟨[],[(22,⟨[23,24],[(25,⟨[],[]⟩)]⟩)]⟩)]⟩),(21,⟨[],[(4,⟨[],[(22,⟨[23,24],[(25,⟨[],[]⟩)]⟩)]⟩)]⟩)]⟩)]⟩)]⟩),(19,⟨[],[(4,⟨[],[(8,⟨[9],[(14,⟨[20],[(21,⟨[],[(22,⟨[23,24],[(25,⟨[],[]⟩)]⟩)]⟩)]⟩)]⟩),(14,⟨[],[(8,⟨[9,20],[(21,⟨[],[(22,⟨[23,24],[(25,⟨[],[]⟩)]⟩)]⟩)]⟩)]⟩)]⟩),(8,⟨[9],[(4,⟨[],[(14,⟨[20],[(21,⟨[],[(22,⟨[23,24],[(25,⟨[],[]⟩)]⟩)]⟩)]⟩)]⟩),(14,⟨[20],[(4,⟨[],[(21,⟨[],[(22,⟨[23,24],[(25,⟨[],[]⟩)]⟩)]⟩)]⟩),(21,⟨[],[(4,⟨[],[(22,⟨[23,24],[(25,⟨[],[]⟩)]⟩)]⟩)]⟩)]⟩)]⟩),(14,⟨[],[(4,⟨[],[(8,⟨[9,20],[(21,⟨[],[(22,⟨[23,24],[(25,⟨[],[]⟩)]⟩)]⟩)]⟩)]⟩),(8,⟨[9,20],[(4,⟨[],[(21,⟨[],[(22,⟨[23,24],[(25,⟨[],[]⟩)]⟩)]⟩)]⟩),(21,⟨[],[(4,⟨[],[(22,⟨[23,24],[(25,⟨[],[]⟩)]⟩)]⟩)]⟩)]⟩)]⟩)]⟩)]⟩ [] (fun _=>True) (h:=?_))
        all_goals repeat' (first|refine gd ?_|refine aH (hy:=by first|(apply dy (cs:=(⟨((sa.n:Nat):Int),c.pub,c.home⟩:Xg).cells);rfl;rfl)) ?_|refine aE ?_ (h':=?_)|exact aF|refine bT (size:=3) (vs:=[(⟨((sa.n:Nat):Int),c.pub,c.home⟩:Xg).v]) (css:=(⟨((sa.n:Nat):Int),c.pub,c.home⟩:Xg).cells) (hsz:=by rfl) (hcs:=by rfl) fun _=>?_|(refine ga ?_;refine aD (size:=3) (news:=(⟨((sa.n:Nat):Int),c.pub,c.home⟩:Xg).cells) (q:=1) rfl rfl rfl rfl (fun _=>At.there _ (At.there _ (At.there _ (At.here _)))) (fun w G=>aR G aC rfl rfl 1) ab (by simp only [maxLen];omega) rfl ?_ rfl ?_;(first|with_reducible rfl|with_reducible assumption|with_reducible exact Zj|with_reducible exact Zk);intro A3 c3)|refine gs1 fun _=>?_|(refine gq ?_ ?_<;>intro hx_ this)|fail)
        all_goals exact ⟨(_,_),ak aw (ZS _ (aj _)) fun w h=>h⟩
      obtain ⟨A3,c3⟩:=i
      simp only
      have hlk:=nQ b ⟨ks,ki,id,fork,q1,q2,c,true⟩ sa ⟨A3,sk.n+1,c3⟩ ⟨st.acts,st.keys++[(⟨((sa.n:Nat):Int),c.pub,c.home⟩:Xg)],W.dgC c,st.gen+1⟩ (W.won (st.gen+1)) (fun w=>Y w∧Xc w) hwon
      repeat' (first|(refine ae (hc:=mS c) ?_)|(refine ae (hc:=hdg) ?_)|refine gs ?_|refine gs1 fun _=>?_|(refine aV (vs:=c.cells) (hv:=rfl) ?_)|(refine gp ?_ ?_<;>intro hx_ this)|fail)
      refine cr (pre:=[bldCel b ⟨ks,ki,id,fork,q1,q2,c,true⟩ sa ⟨A3,sk.n+1,c3⟩ (⟨st.acts,st.keys++[(⟨((sa.n:Nat):Int),c.pub,c.home⟩:Xg)],W.dgC c,st.gen+1⟩:Ea)]) (fr:=[orow 36 20 (.slice sa.p sa.n sa.c) sa.n (st.acts.map Xa.cells).flatten,orow 40 3 (.slice A3 (sk.n+1) c3) (sk.n+1) ((st.keys.map Xg.cells).flatten++(⟨((sa.n:Nat):Int),c.pub,c.home⟩:Xg).cells),mapr q2 pl]) (first:=#[]) (caps:=#[]) (hc:=hlk) (hX:=fun _ h=>h) (h:=?_)
      rintro v R X' ⟨rfl,rfl⟩
      repeat' (first|refine gs ?_|refine gs1 fun _=>?_|(refine gp ?_ ?_<;>intro hx_ this)|fail)
      have hfk:((st.keys++[(⟨((sa.n:Nat):Int),c.pub,c.home⟩:Xg)]).map Xg.cells).flatten=(st.keys.map Xg.cells).flatten++(⟨((sa.n:Nat):Int),c.pub,c.home⟩:Xg).cells:=by simp
      rw [←hn] at hreg
      refine aa (ai rfl rfl) ⟨bldR b ((⟨ks,ki,id,fork,q1,q2,c,true⟩:BldH).look (W.won (st.gen+1))) sa ⟨A3,sk.n+1,c3⟩ (⟨st.acts,st.keys++[(⟨((sa.n:Nat):Int),c.pub,c.home⟩:Xg)],W.dgC c,st.gen+1⟩:Ea) pl,?_,⟨fun s hs=>?_,fun hs=>?_⟩⟩
      · unfold bldR actR keyR
        rw [hfk]
        exact aj _
      · rw [hreg,ZE] at hs
        subst hs
        exact ⟨rfl,sa,⟨A3,sk.n+1,c3⟩,pl,⟨hn,by rw [Zw,←hk];rfl,hp⟩,rfl⟩
      · rw [hreg] at hs
        cases hs
  · have hne:(!decide (a.kind=(19:Int)))=true:=by rw [Zd hk19];rfl
    repeat' (first|refine ao (cY true rfl rfl (Ze ab)) rfl rfl rfl ?_|refine aL ?_ (bG true rfl rfl hne)|refine gs ?_|refine gs1 fun _=>?_|(refine aA (q:=k*20) ?_)|(refine cH ?_)|(refine ao (dY (i:=k) (j:=3) (cs:=a.cells) (u:=.int .i64 a.kind) rfl hrow hm1 (dW _) hi1 rfl) rfl rfl rfl ?_)|(refine gp ?_ ?_<;>intro hx_ this)|fail)
    exact ⟨(⟨k,by omega,by rw [hs,setI,haD,Zd hk19];rfl⟩:SetI st.acts),Nat.lt_succ_self k,ak ⟨rfl,rfl,(by show some (Value.int IntKind.i64 (((k+1:Nat):Int)-1-1))=some (Value.int IntKind.i64 ((k:Int)-1));rw [show ((k+1:Nat):Int)-1-1=(k:Int)-1 from by omega]),trivial⟩ (aj _) fun _ h=>h⟩
end Go.Proofs.YtamfbppnlomgfaaGreatDoor
namespace Go.Proofs.YtamfbppnlomgfaaGreatDoor
open Go Go.Proofs Sy Tryz
structure Grp where
 s:Xh
 l:List Xa
def grpR (g:PosK×Grp):Xi:=actR g.2.s g.2.l
theorem l7 {κ β γ:Type} [DecidableEq κ] (f:β→γ):∀ (l:List (κ×β)) (k:κ) (v:β),(dput l k v).map (fun p=>(p.1,f p.2))=dput (l.map fun p=>(p.1,f p.2)) k (f v)
 | [],_,_=>rfl
 | (k',v')::r,k,v=>by
  simp only [dput,ZR,←l7 f r k v]
  cases decide (k=k')<;>rfl
theorem lR {κ β:Type} [DecidableEq κ] (R:κ×β→Xi):∀ (G:List (κ×β)) (k:κ),∃ rest:List Xi,(∀ g',((dput G k g').map R).Perm (R (k,g')::rest))∧(∀ g,dget G k=some g→(G.map R).Perm (R (k,g)::rest))∧(dget G k=none→rest=G.map R)
 | [],k=>⟨[],fun g'=>Qb _,fun g h=>(by cases h),fun _=>rfl⟩
 | (k',v')::r,k=>by
  by_cases e:k=k'
  · subst e
    refine ⟨r.map R,fun g'=>?_,fun g h=>?_,fun h=>?_⟩
    · simp [dput]
    · simp only [dget,Zp,Zg,ZE] at h
      subst h
      exact Qb _
    · simp [dget] at h
  · obtain ⟨rest,h1,h2,h3⟩:=lR R r k
    refine ⟨R (k',v')::rest,fun g'=>?_,fun g h=>?_,fun h=>?_⟩
    · have:=(h1 g').cons (R (k',v'))
      simp only [dput,e,Zo,Zf,ZR]
      exact this.trans (List.Perm.swap _ _ _)
    · simp only [dget,e,Zo,Zf] at h
      exact ((h2 g h).cons (R (k',v'))).trans (List.Perm.swap _ _ _)
    · simp only [dget,e,Zo,Zf] at h
      rw [h3 h]
      rfl
theorem permG {x O:Xi} {C rest R:List Xi} (h:R.Perm (O::rest)):(x::O::(C++rest)).Perm (x::(C++R)):=((List.perm_middle.symm).trans (h.symm.append_left C)).cons x
theorem permH {c m sm c4:Xi} {R:List Xi}:([c,m,sm,c4]++R).Perm ((sm::R)++[c,m,c4]):=(List.perm_middle (l₁:=[c,m])).trans (List.Perm.cons sm (Qz (l₁:=[c,m,c4])))
theorem permK {an kb o c m c4:Xi}:[an,kb,o,c,m,c4].Perm [c,an,kb,m,o,c4]:=(List.perm_middle (l₁:=[an,kb,o])).trans (.cons _ (.cons _ (.cons _ (.swap _ _ _))))
def grpL (o:Option Grp):List Xa:=(o.map Grp.l).getD []
def grpS (o:Option Grp):Xh:=(o.map Grp.s).getD ⟨none,0,0⟩
structure GrpOk (G:List (PosK×Grp)) (L:List Xa):Prop where
 all:∀ k,grpL (dget G k)=actsFor L k
 len:∀ k g,dget G k=some g→g.s.n=g.l.length
theorem kZ (L:List Xa) (a:Xa) (k:PosK):actsFor (L++[a]) k=actsFor L k++(bif decide (k=((a.seq,a.prev):PosK)) then [a] else []):=by
 rw [actsFor,actsFor,Qi]
 congr 1
 obtain ⟨n,p⟩:=k
 by_cases h1:a.seq=n
 · by_cases h2:a.prev=p
   · subst h1;subst h2;simp [List.filter,bo]
   · have hb:seqB a.prev p=false:=by
      cases h:seqB a.prev p with
      | false=>rfl
      | true=>exact absurd (seqB_iff.1 h) h2
     have hne:¬ ((n,p):PosK)=(a.seq,a.prev):=fun e=>h2 (congrArg Prod.snd e).symm
     simp [List.filter,hb,hne]
 · have hne:¬ ((n,p):PosK)=(a.seq,a.prev):=fun e=>h1 (congrArg Prod.fst e).symm
   simp [List.filter,h1,hne]
theorem GrpOk.step {G:List (PosK×Grp)} {L:List Xa} (h:GrpOk G L) (a:Xa) (s':Xh) (hs:s'.n=(grpL (dget G ((a.seq,a.prev):PosK))).length+1) :
  GrpOk (dput G ((a.seq,a.prev):PosK) ⟨s',grpL (dget G ((a.seq,a.prev):PosK))++[a]⟩) (L++[a]):=by
 refine ⟨fun k=>?_,fun k g hg=>?_⟩
 · rw [kZ,gM]
   by_cases e:k=((a.seq,a.prev):PosK)
   · subst e
     simp only [Zp,Zg]
     rw [←h.all]
     rfl
   · rw [Zd e,Zf,Zf,ZD]
     exact h.all k
 · rw [gM] at hg
   by_cases e:k=((a.seq,a.prev):PosK)
   · subst e
     simp only [Zp,Zg,ZE] at hg
     subst hg
     rw [Zw]
     exact hs
   · rw [Zd e,Zf] at hg
     exact h.len k g hg
namespace Sy
section
variable {P:Program} {N:Nat} {av bor:List Nat} {w0:World} {E:Env} {loc:List Xi} {X:World→Prop} {K:Exit→St→Prop} {c:Code}
theorem Xn.giveL {w:World}:∀ (L:List Xi) {X:World→Prop},Xn av bor w0 (L++loc) X w→Xn av bor w0 loc (fun w=>X w∧∀ r∈L,r.F w) w
  | [],X,G=>G.imp fun _ h=>⟨h,by simp⟩
  | r :: L,X,G=>(Xn.giveL L (Xn.give (r:=r) (loc:=L++loc) G)).imp fun w h=>⟨h.1.1,fun q hq=>by
      rcases ZC.1 hq with rfl|hq
      · exact h.1.2
      · exact h.2 q hq⟩
theorem qu {ops:Array Oper} {rest:List Oper} {k:St→Prop} (L:List Xi) (h:Sw P N av bor w0 ops rest ⟨E,loc,fun w=>X w∧∀ r∈L,r.F w⟩ k):Sw P N av bor w0 ops rest ⟨E,L++loc,X⟩ k:=Sw.mk fun a w ok=>h.run a w (ok.via fun M G=>by
 rw [Zy] at G
 exact G.giveL L)
theorem rG {b e:Nat} {cs:List Value} (size m:Nat) (hl:cs.length=m*size:=by rfl) (hm:m≤maxLen) (h:Cw P N av bor w0 c ⟨E,orow e size (.slice (some ⟨b,0,none⟩) m m) m cs::loc,X⟩ K):Cw P N av bor w0 c ⟨E,cel b e cs::loc,X⟩ K:=Cw.mk fun a w ok=>h.run a w (ok.via fun M G=>G.orow hl hm)
theorem jm {l:List Xi} (hs:loc.Perm l) (h:Cw P N av bor w0 c ⟨E,l,X⟩ K):Cw P N av bor w0 c ⟨E,loc,X⟩ K:=Cw.mk fun a w ok=>h.run a w (ok.via fun M G=>G.perm (hs.append_right M))
end
end Sy
section
variable {N:Nat} {av bor:List Nat} {w0:World} {E:Env} {X:World→Prop} {K:Exit→St→Prop} {c:Code}
theorem uv {G:List (PosK×Grp)} {k:PosK} {rest:List Xi} (C:List Xi) (h2:∀ g,dget G k=some g→(G.map grpR).Perm (grpR (k,g)::rest)) (h3:dget G k=none→rest=G.map grpR)
  (h:Cw prog N av bor w0 c ⟨E,actR (grpS (dget G k)) (grpL (dget G k))::(C++rest),X⟩ K):Cw prog N av bor w0 c ⟨E,C++G.map grpR,X⟩ K:=by
 cases hd:dget G k with
 | none =>
  rw [hd,h3 hd] at h
  exact bA 36 20 h
 | some g =>
  rw [hd] at h
  exact jm (((h2 g hd).append_left C).trans List.perm_middle) h
end
theorem sD {q:Nat} {G:List (PosK×Grp)} {L:List Xa} (h:GrpOk G L) {w:World} (hm:SMapAt prog 121 w q (G.map fun g=>(g.1,g.2.s.v))) (hr:∀ r∈G.map grpR,r.F w) (ha:∀ a∈L,a.at_ w) :
  Xw q (G.map fun g=>(g.1,g.2.s)) L w:=by
 refine ⟨by rw [ZQ];exact hm,fun k=>?_⟩
 rw [eV,←h.all k]
 have hsub:∀ a∈grpL (dget G k),a.at_ w:=fun a h1=>by
  rw [h.all k] at h1
  exact ha a (Qw.1 h1).1
 cases hd:dget G k with
 | none=>exact ⟨aG w 20,fun a h=>by cases h⟩
 | some g =>
  rw [hd] at hsub
  have hg:=hr (grpR (k,g)) (List.mem_map_of_mem (ma hd))
  exact cL hg (h.len k g hd) hsub
end Go.Proofs.YtamfbppnlomgfaaGreatDoor
namespace Go.Proofs.YtamfbppnlomgfaaGreatDoor
open Go Go.Proofs Sy Tryz
def OfW.at (W:OfW) (L:List Xa):OfW:={ W with L:=L }
def OfRes (W:OfW) (st:Ea) (fork:Bool):Prop:=match oneA (firstL W) with
 | some a=>st=finS W a∧fork=decide (1<(candL W (finS W a)).length)
 | none=>st=⟨[],[],⟨#[]⟩,0⟩∧fork=decide (1<(firstL W).length)
def OfAt19 (W:OfW) (PL:List Xa→Prop) (u:Value) (X:World→Prop):Prop:=∃ (L:List Xa) (sa sk:Xh) (st:Ea) (fork:Bool),PL L∧OfRes (W.at L) st fork∧u=(⟨W.id,sa,sk,st.prev,(st.gen:Nat),fork,st.acts⟩:Xb).v∧∀ w,X w→Acts w sa st.acts∧Keyz w sk st.keys
structure OfHyp (ks ki:Xh) (W:OfW) (PL:List Xa→Prop) (Y:World→Prop):Prop where
 acts:Mk prog 61 #[.agg #[ks.v,ki.v],.string W.id] (fun w=>Y w∧Xc w) (fun u X'=>∃ (s:Xh) (L:List Xa),u=s.v∧PL L∧∀ w,X' w→Acts w s L)
 ok:∀ L,PL L→Xr L∧L.length≤100000
 bB:W.B≤100000
 won:∀ g:Nat,g≤W.B→Pu prog 105 #[.agg #[ks.v,ki.v],.string W.id,.int .i64 (g:Nat)] (fun w=>Y w∧Xc w) (.tuple #[((W.won g).getD Xm.zero).v,.bool (W.won g).isSome])
 bnd:∀ g c,W.won g=some c→g<W.B
 clm:∀ g c,W.won g=some c→∀ p:Int,Pu prog 106 #[.int .i64 p,c.v] (fun w=>Y w∧Xc w) (.bool (W.clm p c))
 dg:∀ g c,W.won g=some c→Pu prog 33 #[(ofClaimI c).v] (fun w=>Y w∧Xc w) (.string (W.dgC c))
 ver:∀ L,PL L→∀ a∈L,∀ p:Int,Pu prog 62 #[.int .i64 p,a.v] (fun w=>a.at_ w∧Xc w) (.bool (W.ver p a))
def chZ (id:ByteArray):List Value:=[.string id,.slice none 0 0,.slice none 0 0,.string ⟨#[]⟩,.int .i64 0,.bool false]
def bldH0 (ks ki:Xh) (id:ByteArray) (q1 q2:Nat):BldH:=⟨ks,ki,id,false,q1,q2,Xm.zero,false⟩
structure GroI (L:List Xa) where
 k:Nat
 hk:k≤L.length
 G:List (PosK×Grp)
 hG:GrpOk G (L.take k)
theorem ly {ks ki:Xh} {W:OfW} {PL:List Xa→Prop} {Y:World→Prop} (H:OfHyp ks ki W PL Y) (L:List Xa) (b q1 q2:Nat) (sa sk:Xh) (st:Ea) (pl:List (ByteArray×Value)) (ok:BldOk sa sk st pl)
  (hl:st.acts.length≤1000000) (hl2:st.keys.length≤1000000) :
  Ct prog 65 #[.pointer (some ⟨b,0,none⟩)] (bldR b ((bldH0 ks ki W.id q1 q2).look (W.won st.gen)) sa sk st pl) (fun w=>Y w∧Xc w)
   (fun u R _=>(∀ s,regS (W.at L) st=some s→BldAt b ((bldH0 ks ki W.id q1 q2).look (W.won s.gen)) s (.bool true) u R)∧(regS (W.at L) st=none→BldAt b ((bldH0 ks ki W.id q1 q2).look (W.won st.gen)) st (.bool false) u R)):=by
 have hwA:(W.at L).won=W.won:=rfl
 cases hw:W.won st.gen with
 | none =>
  refine (jt b ((bldH0 ks ki W.id q1 q2).look none) sa sk st pl ok rfl _).mono fun v R X' h=>⟨fun s hs=>?_,fun _=>h⟩
  rw [regS,hwA,hw] at hs
  cases hs
 | some c =>
  have hg:=H.bnd _ _ hw
  have hB:=H.bB
  refine (js b ((bldH0 ks ki W.id q1 q2).look (some c)) sa sk st pl ok (W.at L) c hw rfl rfl Y hl hl2 ab (H.clm _ _ hw) (H.dg _ _ hw) (H.won (st.gen+1) hg)).mono fun v R X' h=>⟨fun s hs=>?_,h.2⟩
  obtain ⟨_,_,_,e,_⟩:=jJ hs
  rw [e]
  exact h.1 s hs
structure RunI (W:OfW) (a:Xa) where
 st:Ea
 sa:Xh
 sk:Xh
 pl:List (ByteArray×Value)
 ok:BldOk sa sk st pl
 inv:InvS W st
 j:Nat
 hj:muS W st≤j
 hr:runS W j st=finS W a
theorem RunI.next {W:OfW} (hB:∀ g c,W.won g=some c→g<W.B) {a:Xa} {st s:Ea} {j:Nat} (hI:InvS W st) (hj:muS W st≤j) (hr:runS W j st=finS W a) (hs:stepS W st=some s):InvS W s∧muS W s<muS W st∧muS W s≤j-1∧runS W (j-1) s=finS W a:=by
 obtain ⟨h1,h2⟩:=qv hB hI hs
 cases j with
 | zero=>omega
 | succ j=>exact ⟨h1,by omega,by rw [Nat.add_sub_cancel];omega,by rw [qD hs] at hr;exact hr⟩
theorem sA (ks ki:Xh) (W:OfW) (PL:List Xa→Prop) (Y:World→Prop) (H:OfHyp ks ki W PL Y) :
  Mk prog 28 #[.agg #[ks.v,ki.v],.string W.id] (fun w=>Y w∧Xc w) (OfAt19 W PL):=by
 refine cF func28 ntmps28 fun av bor w0=>?_
 repeat' (first|refine aI (cs:=chZ W.id) (hf:=by rfl) ?_|refine gs ?_|refine gs1 fun _=>?_|(refine gp ?_ ?_<;>intro hx_ this)|fail)
 refine lj PosK 121 (h:=fun q1=>?_)
 refine fF ByteArray (h:=fun q2=>?_)
 repeat' (first|refine aI (cs:=bldC (bldH0 ks ki W.id q1 q2) ⟨none,0,0⟩ ⟨none,0,0⟩ ⟨#[]⟩ ((0:Nat):Int)) (hf:=by rfl) ?_|(refine aU (hc:=H.acts) fun v1 X1 h1=>?_;obtain ⟨s,L,rfl,hPL,hw1⟩:=h1)|refine gs ?_|refine gs1 fun _=>?_|(refine gp ?_ ?_<;>intro hx_ this)|fail)
 rename_i b2 b4 b
 refine aK (p:=s.n=L.length∧s.n≤maxLen∧(0<L.length→s.p.isSome=true)) (fun w h=>⟨(hw1 w h.2).len_,(hw1 w h.2).max_,(hw1 w h.2).some_⟩) fun ⟨hsn,hsm,hsp⟩=>?_
 simp only [maxLen] at hsm
 obtain ⟨hok,hL⟩:=H.ok L hPL
 refine az (ι:=GroI L) (fun i=>⟨[(1,.string W.id),(4,.pointer (some ⟨b4,0,none⟩)),(5,.pointer (some ⟨b,0,none⟩)),(21,s.v),(22,.int .i64 (s.n:Nat)),(23,.int .i64 (i.k:Nat))],[cel b 118 (bldC (bldH0 ks ki W.id q1 q2) ⟨none,0,0⟩ ⟨none,0,0⟩ ⟨#[]⟩ ((0:Nat):Int)),mapr q2 ([]:List (ByteArray×Value)),smapr prog 121 q1 (i.G.map fun g=>(g.1,g.2.s.v)),cel b4 26 (chZ ⟨#[]⟩)]++i.G.map grpR,fun w=>(Y w∧Xc w)∧X1 w⟩) (fun i=>L.length-i.k) ⟨0,ZU _,[],⟨fun _=>rfl,fun _ _ h=>by cases h⟩⟩ ?_ fun i=>?_
 · exact ak aw (.cons_cons _ (.cons_cons _ (.cons_cons _ (.cons_cons _ (Zq _))))) fun _ h=>h
 obtain ⟨k,hk,G,hG⟩:=i
 simp only
 repeat' (first|refine gs ?_|refine gs1 fun _=>?_|(refine gp ?_ ?_<;>intro hx_ this)|fail)
 · have hlt:k<L.length:=by omega
   have hsp':=hsp ab
   obtain ⟨a,ha⟩:∃ a,L[k]?=some a:=⟨_,Zc hlt⟩
   have ham:=ZW ha
   repeat' (first|refine gs ?_|refine gs1 fun _=>?_|(refine aA (q:=k*20) ?_)|(refine aO (cs:=a.cells) (hF:=fun w h=>Acts.get (hw1 w h.2) ha) ?_)|(refine aI (cs:=[.int .i64 a.seq,.string a.prev]) (hf:=by rfl) ?_)|(refine gp ?_ ?_<;>intro hx_ this)|fail)
   rename_i b7 b8
   obtain ⟨rest,hp1,hp2,hp3⟩:=lR grpR G ((a.seq,a.prev):PosK)
   obtain ⟨l,hl⟩:∃ l,grpL (dget G ((a.seq,a.prev):PosK))=l:=⟨_,rfl⟩
   have hns:(grpS (dget G ((a.seq,a.prev):PosK))).n=l.length:=by
    rw [←hl]
    cases hd:dget G ((a.seq,a.prev):PosK) with
    | none=>rfl
    | some g=>exact hG.len _ g hd
   have hll:l.length≤100000:=by
    rw [←hl,hG.all]
    have h1:=ZZ (fun x:Xa=>decide (x.seq=a.seq)&&seqB x.prev a.prev) (L.take k)
    rw [Z7] at h1
    exact ZO h1 ab
   have hof:(dget (G.map fun g=>(g.1,g.2.s.v)) ((a.seq,a.prev):PosK)).getD (.slice none 0 0)=(grpS (dget G ((a.seq,a.prev):PosK))).v:=by
    rw [eV (fun g:Grp=>g.s.v)]
    cases dget G ((a.seq,a.prev):PosK)<;>rfl
   have hst:=fun (s':Xh) (h:s'.n=l.length+1)=>hG.step a s' (by rw [hl];exact h)
   rw [hl] at hst
   obtain ⟨⟨A,n,c⟩,hs⟩:∃ s',grpS (dget G ((a.seq,a.prev):PosK))=s':=⟨_,rfl⟩
   rw [hs] at hns hof
   simp only at hns
   refine uv (k:=((a.seq,a.prev):PosK)) (rest:=rest) [cel b8 121 [.int .i64 a.seq,.string a.prev],cel b7 36 a.cells,cel b 118 (bldC (bldH0 ks ki W.id q1 q2) ⟨none,0,0⟩ ⟨none,0,0⟩ ⟨#[]⟩ ((0:Nat):Int)),mapr q2 ([]:List (ByteArray×Value)),smapr prog 121 q1 (G.map fun g=>(g.1,g.2.s.v)),cel b4 26 (chZ ⟨#[]⟩)] hp2 hp3 ?_
   rw [hs,hl]
   unfold actR
   simp only [List.cons_append,List.nil_append]
   (refine aw_draw ⟨[0,1,2,3,4,5],[(6,⟨[],[(7,⟨[8,10],[(9,⟨[],[(11,⟨[],[]⟩)]⟩)]⟩)]⟩)]⟩ [cel b8 121 [.int .i64 a.seq,.string a.prev],cel b7 36 a.cells,cel b 118 (bldC (bldH0 ks ki W.id q1 q2) ⟨none,0,0⟩ ⟨none,0,0⟩ ⟨#[]⟩ ((0:Nat):Int))] (fun w=>(Y w∧Xc w)∧X1 w) (h:=?_))
   all_goals repeat' (first|refine gdz ?_|refine aE ?_ (h':=?_)|exact aF|refine bT (size:=20) (vs:=[a.v]) (css:=a.cells) (hsz:=by rfl) (hcs:=by rfl) fun _=>?_|(refine fP (κ:=PosK) (kk:=((a.seq,a.prev):PosK)) (z:=.slice none 0 0) (u:=.slice A n c) rfl rfl rfl hof (fun _=>At.there _ (At.there _ (At.there _ (At.there _ (At.there _ (At.here _)))))) rfl rfl rfl (fun _=>?_))|(refine fP (κ:=PosK) (kk:=((a.seq,a.prev):PosK)) (z:=.slice none 0 0) (u:=.slice A n c) rfl rfl rfl hof (fun _=>At.there _ (At.there _ (At.there _ (At.there _ (At.there _ (At.there _ (At.here _))))))) rfl rfl rfl (fun _=>?_))|(refine ga ?_;refine aD (size:=20) (news:=a.cells) (q:=1) rfl rfl rfl rfl (fun _=>At.there _ (At.here _)) (fun w G=>aR G aC rfl rfl 1) ab (by simp only [maxLen];omega) rfl ?_ rfl ?_;(first|with_reducible rfl|with_reducible assumption|with_reducible exact Zj|with_reducible exact Zk);intro A2 c2)|(refine iH (κ:=PosK) (kk:=((a.seq,a.prev):PosK)) rfl rfl rfl (At.there _ (At.there _ (At.there _ (At.there _ (At.there _ (At.there _ (At.here _))))))) rfl rfl rfl ?_)|refine gs1 fun _=>?_|(refine gq ?_ ?_<;>intro hx_ this)|fail)
   all_goals
    have hmp:dput (dput (G.map fun g=>(g.1,g.2.s.v)) ((a.seq,a.prev):PosK) (.slice A n c)) ((a.seq,a.prev):PosK) (.slice A2 (n+1) c2)=(dput G ((a.seq,a.prev):PosK) ⟨⟨A2,n+1,c2⟩,l++[a]⟩).map (fun g=>(g.1,g.2.s.v)):=by
     rw [gK]
     exact (l7 (fun g:Grp=>g.s.v) G ((a.seq,a.prev):PosK) ⟨⟨A2,n+1,c2⟩,l++[a]⟩).symm
    have hfl:((l++[a]).map Xa.cells).flatten=(l.map Xa.cells).flatten++a.cells:=by simp
    rw [hmp,←hfl]
    refine jm (permG (C:=[cel b8 121 [.int .i64 a.seq,.string a.prev],cel b7 36 a.cells,cel b 118 (bldC (bldH0 ks ki W.id q1 q2) ⟨none,0,0⟩ ⟨none,0,0⟩ ⟨#[]⟩ ((0:Nat):Int)),mapr q2 ([]:List (ByteArray×Value)),smapr prog 121 q1 ((dput G ((a.seq,a.prev):PosK) ⟨⟨A2,n+1,c2⟩,l++[a]⟩).map (fun g=>(g.1,g.2.s.v))),cel b4 26 (chZ ⟨#[]⟩)]) (hp1 ⟨⟨A2,n+1,c2⟩,l++[a]⟩)) ?_
    repeat' (first|refine gs ?_|refine gs1 fun _=>?_|(refine gp ?_ ?_<;>intro hx_ this)|fail)
    exact ⟨(⟨k+1,hlt,dput G ((a.seq,a.prev):PosK) ⟨⟨A2,n+1,c2⟩,l++[a]⟩,by rw [Z5,ha];exact hst _ (by show n+1=_;rw [hns])⟩:GroI L),(by show L.length-(k+1)<L.length-k;omega),ak aw (.cons _ (.cons _ (.cons _ (aj _)))) fun w h=>h⟩
 have hkE:k=L.length:=by omega
 rw [hkE,Z6] at hG
 refine d7 permH ?_
 refine qu _ ?_
 refine eJ (X':=fun w=>(Y w∧Xc w)∧(Xw q1 (G.map fun g=>(g.1,g.2.s)) L w∧∀ a∈L,a.at_ w)) (fun w h=>⟨h.1.1,sD hG (h.2 _ (.head _)) (fun r hr=>h.2 r (.tail _ hr)) (hw1 w h.1.2).2,(hw1 w h.1.2).2⟩) ?_
 clear hsp hsn hk
 obtain ⟨M,hM⟩:∃ M,actsFor L ((0:Int),⟨#[]⟩)=M:=⟨_,rfl⟩
 have hfl:firstL (W.at L)=M.filter (firstB (W.at L)):=by rw [←hM];rfl
 have hMm:∀ a∈M,a∈L:=fun a ha=>by rw [←hM] at ha;exact (Qw.1 ha).1
 have hMl:M.length≤L.length:=by rw [←hM];exact ZZ _ _
 obtain ⟨G',hG'⟩:∃ G',(G.map fun g=>(g.1,g.2.s))=G':=⟨_,rfl⟩
 rw [hG']
 obtain ⟨s0,hs0⟩:∃ s0,(dget G' ((0:Int),⟨#[]⟩)).getD ⟨none,0,0⟩=s0:=⟨_,rfl⟩
 have hgl:∃ o,dget (G'.map fun g=>(g.1,g.2.v)) ((0:Int),⟨#[]⟩)=o∧o.getD (.slice none 0 0)=s0.v:=by
  refine ⟨_,rfl,?_⟩
  rw [eV,←hs0]
  cases dget G' ((0:Int),⟨#[]⟩)<;>rfl
 obtain ⟨o,ho,hov⟩:=hgl
 have hro:∀ w,((Y w∧Xc w)∧(Xw q1 G' L w∧∀ a∈L,a.at_ w))→Acts w s0 M:=fun w h=>by
  have h1:=h.2.1.rows ((0:Int),⟨#[]⟩)
  rwa [hs0,hM] at h1
 repeat' (first|refine gs ?_|refine gs1 fun _=>?_|(refine aI (cs:=[.int .i64 0,.string ⟨#[]⟩]) (hf:=by rfl) ?_)|(refine ao (jv (κ:=PosK) (kk:=((0:Int),⟨#[]⟩)) (z:=.slice none 0 0) (o:=o) (v:=s0.v) rfl rfl (ln fun w h=>h.2.1.map) ho hov) rfl rfl rfl ?_)|(refine gp ?_ ?_<;>intro hx_ this)|fail)
 refine aK (p:=s0.n=M.length∧s0.n≤maxLen∧(0<M.length→s0.p.isSome=true)) (fun w h=>⟨(hro w h).len_,(hro w h).max_,(hro w h).some_⟩) fun ⟨hsn,hsm,hsp⟩=>?_
 simp only [maxLen] at hsm
 refine bA 36 20 ?_
 refine az (ι:=CanI M (firstB (W.at L))) (fun i=>⟨[(1,.string W.id),(4,.pointer (some ⟨b4,0,none⟩)),(5,.pointer (some ⟨b,0,none⟩)),(9,.slice i.A i.n i.c),(49,s0.v),(50,.int .i64 (s0.n:Nat)),(51,.int .i64 (i.k:Nat))],[orow 36 20 (.slice i.A i.n i.c) i.n i.xs,cel b 118 (bldC (bldH0 ks ki W.id q1 q2) ⟨none,0,0⟩ ⟨none,0,0⟩ ⟨#[]⟩ ((0:Nat):Int)),mapr q2 ([]:List (ByteArray×Value)),cel b4 26 (chZ ⟨#[]⟩)],fun w=>(Y w∧Xc w)∧(Xw q1 G' L w∧∀ a∈L,a.at_ w)⟩) (fun i=>M.length-i.k) ⟨0,ZU _,none,0,0,rfl,[],rfl⟩ (ak aw (aj _) fun _ h=>h) fun i=>?_
 clear hkE this
 obtain ⟨k,hk',A,cc,n,hn',xs,hxs⟩:=i
 simp only
 have hnl:n≤100000:=by have h1:=ZZ (firstB (W.at L)) (M.take k);rw [←hn',Z7] at h1;omega
 repeat' (first|refine gs ?_|refine gs1 fun _=>?_|(refine gp ?_ ?_<;>intro hx_ this)|fail)
 · have hlt:k<M.length:=by omega
   have hsp':=hsp ab
   obtain ⟨a,ha⟩:∃ a,M[k]?=some a:=⟨_,Zc hlt⟩
   have ham:a∈M:=ZW ha
   have hamL:=hMm a ham
   have hnn:a.n<9223372036854775808:=(hok.rng a hamL).ints.2.2.2.2.2.1
   have hv:=H.ver L hPL a hamL a.n
   have htk:((M.take (k+1)).filter (firstB (W.at L)))=(M.take k).filter (firstB (W.at L))++(bif firstB (W.at L) a then [a] else []):=by
    rw [Z5,ha,Qi,Qh]
    congr 1
   have hfb:firstB (W.at L) a=(decide (a.kind=0)&&seqB (idV a.n) W.id&&W.ver a.n a):=rfl
   by_cases h0:a.kind=0
   · cases hid:seqB (idV a.n) W.id with
     | false =>
      have hno:(M.take (k+1)).filter (firstB (W.at L))=(M.take k).filter (firstB (W.at L)):=by simp [htk,hfb,hid]
      repeat' (first|refine dA (hab:=h0) ?_|refine aL ?_ (dd _ rfl rfl hid)|(refine ae (hc:=cQ a.n hnn) (hX:=fun w h=>h.1.2) ?_)|(refine ae (hc:=hv) (hX:=fun w h=>⟨h.2.2 a hamL,h.1.2⟩) ?_)|refine gs ?_|refine gs1 fun _=>?_|(refine aA (q:=k*20) ?_)|(refine aO (cs:=a.cells) (hF:=fun w h=>Acts.get (hro w h) ha) ?_)|(refine gp ?_ ?_<;>intro hx_ this)|fail)
      exact ⟨(⟨k+1,hlt,A,cc,n,by rw [hno];exact hn',xs,by rw [hno];exact hxs⟩:CanI M (firstB (W.at L))),(by show M.length-(k+1)<M.length-k;omega),ak aw (ZS _ (aj _)) fun _ h=>h⟩
     | true =>
      cases hve:W.ver a.n a with
      | false =>
       rw [hve] at hv
       have hno:(M.take (k+1)).filter (firstB (W.at L))=(M.take k).filter (firstB (W.at L)):=by simp [htk,hfb,hve]
       repeat' (first|refine dA (hab:=h0) ?_|refine aL ?_ (dd _ rfl rfl hid)|(refine ae (hc:=cQ a.n hnn) (hX:=fun w h=>h.1.2) ?_)|(refine ae (hc:=hv) (hX:=fun w h=>⟨h.2.2 a hamL,h.1.2⟩) ?_)|refine gs ?_|refine gs1 fun _=>?_|(refine aA (q:=k*20) ?_)|(refine aO (cs:=a.cells) (hF:=fun w h=>Acts.get (hro w h) ha) ?_)|(refine gp ?_ ?_<;>intro hx_ this)|fail)
       exact ⟨(⟨k+1,hlt,A,cc,n,by rw [hno];exact hn',xs,by rw [hno];exact hxs⟩:CanI M (firstB (W.at L))),(by show M.length-(k+1)<M.length-k;omega),ak aw (ZS _ (aj _)) fun _ h=>h⟩
      | true =>
       rw [hve] at hv
       have hyes:(M.take (k+1)).filter (firstB (W.at L))=(M.take k).filter (firstB (W.at L))++[a]:=by rw [htk,hfb,hid,hve,Ze h0];rfl
       repeat' (first|refine bT (size:=20) (vs:=[a.v]) (css:=a.cells) (hsz:=by rfl) (hcs:=by rfl) fun _=>?_|refine dA (hab:=h0) ?_|refine aL ?_ (dd _ rfl rfl hid)|(refine ae (hc:=cQ a.n hnn) (hX:=fun w h=>h.1.2) ?_)|(refine ae (hc:=hv) (hX:=fun w h=>⟨h.2.2 a hamL,h.1.2⟩) ?_)|refine gs ?_|refine gs1 fun _=>?_|(refine aA (q:=k*20) ?_)|(refine aO (cs:=a.cells) (hF:=fun w h=>Acts.get (hro w h) ha) ?_)|(refine gp ?_ ?_<;>intro hx_ this)|fail)
       refine aD (size:=20) (news:=a.cells) (q:=1) rfl rfl rfl rfl (fun _=>At.there _ (At.there _ (At.here _))) (fun w G=>aR G aC rfl rfl 1) ab (by simp only [maxLen];omega) rfl ?_ rfl ?_
       · (first|with_reducible rfl|with_reducible assumption|with_reducible exact Zj|with_reducible exact Zk)
       intro A2 c2
       repeat' (first|refine gs ?_|refine gs1 fun _=>?_|(refine gp ?_ ?_<;>intro hx_ this)|fail)
       exact ⟨(⟨k+1,hlt,A2,c2,n+1,by rw [hyes,Zw,←hn'];rfl,xs++a.cells,by rw [hyes,hxs];simp⟩:CanI M (firstB (W.at L))),(by show M.length-(k+1)<M.length-k;omega),ak aw (ZS _ (ZS _ (aj _))) fun _ h=>h⟩
   · have hno:(M.take (k+1)).filter (firstB (W.at L))=(M.take k).filter (firstB (W.at L)):=by simp [htk,hfb,h0]
     repeat' (first|refine dB (hab:=h0) ?_|(refine ae (hc:=cQ a.n hnn) (hX:=fun w h=>h.1.2) ?_)|(refine ae (hc:=hv) (hX:=fun w h=>⟨h.2.2 a hamL,h.1.2⟩) ?_)|refine gs ?_|refine gs1 fun _=>?_|(refine aA (q:=k*20) ?_)|(refine aO (cs:=a.cells) (hF:=fun w h=>Acts.get (hro w h) ha) ?_)|(refine gp ?_ ?_<;>intro hx_ this)|fail)
     exact ⟨(⟨k+1,hlt,A,cc,n,by rw [hno];exact hn',xs,by rw [hno];exact hxs⟩:CanI M (firstB (W.at L))),(by show M.length-(k+1)<M.length-k;omega),ak aw (ZS _ (aj _)) fun _ h=>h⟩
 have hkE:k=M.length:=by omega
 have hfin:firstL (W.at L)=(M.take k).filter (firstB (W.at L)):=by rw [hfl,hkE,Z6]
 have hnc:n=(firstL (W.at L)).length:=by rw [hfin];exact hn'
 · have hn1:n≠1:=by
    intro e
    rw [e] at hx_
    exact absurd hx_ (by decide)
   have hone:oneA (firstL (W.at L))=none:=jM ab
   have hdc:decide ((1:Int)<(n:Int))=decide (1<(firstL (W.at L)).length):=by
    rw [←hnc]
    by_cases h1:1<n
    · rw [Ze h1,Ze (by omega)]
    · rw [Zd h1,Zd (by omega)]
   repeat' (first|refine gs ?_|refine gs1 fun _=>?_|(refine aV (vs:=[.string W.id,.slice none 0 0,.slice none 0 0,.string ⟨#[]⟩,.int .i64 0,.bool (decide ((1:Int)<(n:Int)))]) (hv:=rfl) ?_)|(refine gp ?_ ?_<;>intro hx_ this)|fail)
   exact aa (aP rfl rfl aB (by rfl)) ⟨L,⟨none,0,0⟩,⟨none,0,0⟩,⟨[],[],⟨#[]⟩,0⟩,decide ((1:Int)<(n:Int)),hPL,(by rw [OfRes,hone];exact ⟨rfl,hdc⟩),rfl,fun w h=>⟨⟨aG w 20,fun a h=>by cases h⟩,aG w 3⟩⟩
 have hkE:k=M.length:=by omega
 have hfin:firstL (W.at L)=(M.take k).filter (firstB (W.at L)):=by rw [hfl,hkE,Z6]
 have hnc:n=(firstL (W.at L)).length:=by rw [hfin];exact hn'
 have hn1:n=1:=by
  by_cases e:n=1
  · exact e
  · exact absurd hx_ (by simp;omega)
 obtain ⟨a,ha⟩:∃ a,firstL (W.at L)=[a]:=List.length_eq_one_iff.1 ab
 have ham:a∈firstL (W.at L):=by rw [ha];exact ZV.2 rfl
 have hamL:a∈L:=hMm a (by rw [hfl] at ham;exact (Qw.1 ham).1)
 have hxa:xs=a.cells:=by rw [hxs,←hfin,ha];simp
 subst hxa
 subst hn1
 refine dV (r:=orow 36 20 (.slice A 1 cc) 1 a.cells) aB (p:=A.isSome=true) (fun w h=>dq h (by decide)) fun hAp=>?_
 have hcr:orow 36 20 (.slice A 1 cc) 1 a.cells∈[orow 36 20 (.slice A 1 cc) 1 a.cells]:=.head _
 (refine aw_draw ⟨[0,1,2,3,4,5,6,7,8,9],[(10,⟨[11,12,13],[(14,⟨[],[]⟩)]⟩)]⟩ [orow 36 20 (.slice A 1 cc) 1 a.cells] (fun w=>(Y w∧Xc w)∧(Xw q1 G' L w∧∀ a∈L,a.at_ w)) (h:=?_))
 all_goals repeat' (first|refine gdz ?_|refine aH (hsub:=by exact aN) (hy:=by first|(apply du (q:=0);rfl;rfl;omega;omega;assumption;rfl)|(apply eF;rfl;assumption;rfl)|(apply dY (size:=20) (i:=0) (j:=16) (xs:=[a.cells]) (cs:=a.cells) (u:=.int .i64 a.n);rfl;exact .head _;rfl;exact (fun r hr=>by rw [ZV.1 hr];rfl);rfl;rfl)|(apply dY (size:=20) (i:=0) (j:=17) (xs:=[a.cells]) (cs:=a.cells) (u:=.int .i64 a.m);rfl;exact .head _;rfl;exact (fun r hr=>by rw [ZV.1 hr];rfl);rfl;rfl)|(apply dy (cs:=Xg.cells ⟨0,a.n,a.m⟩);rfl;rfl)) ?_|refine aE ?_ (h':=?_)|exact aF|refine bT (size:=3) (vs:=[Xg.v ⟨0,a.n,a.m⟩]) (css:=Xg.cells ⟨0,a.n,a.m⟩) (hsz:=by rfl) (hcs:=by rfl) fun bk=>?_|refine gs1 fun _=>?_|(refine gq ?_ ?_<;>intro hx_ this)|fail)
 refine rG 3 1 rfl (by decide) ?_
 refine bA 36 20 ?_
 refine jm permK ?_
 have hadd:=rU b (bldH0 ks ki W.id q1 q2) ⟨none,0,0⟩ ⟨some ⟨bk,0,none⟩,1,1⟩ (⟨[],[⟨0,a.n,a.m⟩],⟨#[]⟩,0⟩:Ea) [] ⟨rfl,rfl,fun d=>rfl⟩ a (hok.rng a hamL) (hok.sm a hamL) (by simp) (by simp)
 repeat' (first|refine gs ?_|refine gs1 fun _=>?_|(refine aA (q:=0) ?_)|(refine ao (kc (size:=20) (m:=1) (i:=0) (xs:=[a.cells]) (cs:=a.cells) rfl (.tail _ (.tail _ (.tail _ (.tail _ (.head _))))) rfl (fun r hr=>by rw [ZV.1 hr];rfl) rfl) rfl rfl rfl ?_)|(refine gp ?_ ?_<;>intro hx_ this)|fail)
 refine cr (pre:=bldR b (bldH0 ks ki W.id q1 q2) ⟨none,0,0⟩ ⟨some ⟨bk,0,none⟩,1,1⟩ (⟨[],[⟨0,a.n,a.m⟩],⟨#[]⟩,0⟩:Ea) []) (fr:=[orow 36 20 (.slice A 1 cc) 1 a.cells,cel b4 26 (chZ ⟨#[]⟩)]) (first:=#[]) (caps:=#[]) (hc:=hadd) (hX:=fun w h=>⟨h.2.2 a hamL,h.1.2⟩) (h:=?_)
 rintro v R X' ⟨rfl,sa,sk,pl,ok,rfl⟩
 refine eJ (X':=fun w=>(Y w∧Xc w)∧(Xw q1 G' L w∧∀ a∈L,a.at_ w)) (fun w h=>h.1) ?_
 repeat' (first|refine gs ?_|refine gs1 fun _=>?_|fail)
 have hlook:=nQ b (bldH0 ks ki W.id q1 q2) sa sk (begS a) (W.won 0) (fun w=>Y w∧Xc w) (H.won 0 (ZU _))
 refine cr (pre:=[bldCel b (bldH0 ks ki W.id q1 q2) sa sk (begS a)]) (fr:=[actR sa (begS a).acts,keyR sk (begS a).keys,mapr q2 pl,orow 36 20 (.slice A 1 cc) 1 a.cells,cel b4 26 (chZ ⟨#[]⟩)]) (first:=#[]) (caps:=#[]) (hc:=hlook) (hX:=fun w h=>h.1) (h:=?_)
 rintro v R X' ⟨rfl,rfl⟩
 repeat' (first|refine gs ?_|refine gs1 fun _=>?_|(refine gp ?_ ?_<;>intro hx_ this)|fail)
 have hbI:=tp ham
 refine az (ι:=RunI (W.at L) a) (fun i=>⟨[(4,.pointer (some ⟨b4,0,none⟩)),(5,.pointer (some ⟨b,0,none⟩))],bldR b ((bldH0 ks ki W.id q1 q2).look (W.won i.st.gen)) i.sa i.sk i.st i.pl++[cel b4 26 (chZ ⟨#[]⟩)],fun w=>(Y w∧Xc w)∧(Xw q1 G' L w∧∀ a∈L,a.at_ w)⟩) (fun i=>muS (W.at L) i.st) ⟨begS a,sa,sk,pl,ok,hbI.1,L.length+W.B,Nat.le_of_succ_le hbI.2,rfl⟩ (ak aw (.cons_cons _ (.cons_cons _ (.cons_cons _ (.cons_cons _ (.cons _ (aj _)))))) fun w h=>h.1) fun i=>?_
 clear ok hlook hadd
 obtain ⟨st,sa2,sk2,pl2,ok2,inv,j,hj,hr⟩:=i
 simp only
 have hlen:=inv.len
 have hlen':st.acts.length≤L.length:=hlen
 have hkn:=inv.keyn
 have hgn:st.gen≤W.B:=inv.gen
 have hbB:=H.bB
 have hreg:=ly H L b q1 q2 sa2 sk2 st pl2 ok2 ab ab
 repeat' (first|refine gs ?_|refine gs1 fun _=>?_|fail)
 refine cr (pre:=bldR b ((bldH0 ks ki W.id q1 q2).look (W.won st.gen)) sa2 sk2 st pl2) (fr:=[cel b4 26 (chZ ⟨#[]⟩)]) (first:=#[]) (caps:=#[]) (hc:=hreg) (hX:=fun w h=>h.1) (h:=?_)
 rintro v R X' ⟨h1,h2⟩
 refine eJ (X':=fun w=>(Y w∧Xc w)∧(Xw q1 G' L w∧∀ a∈L,a.at_ w)) (fun w h=>h.1) ?_
 cases hrg:regS (W.at L) st with
 | some s1 =>
  obtain ⟨rfl,sa3,sk3,pl3,ok3,rfl⟩:=h1 s1 hrg
  have hstep:stepS (W.at L) st=some s1:=by rw [stepS,hrg]
  obtain ⟨n1,n2,n3,n4⟩:=RunI.next (W:=W.at L) H.bnd inv hj hr hstep
  repeat' (first|refine gs ?_|refine gs1 fun _=>?_|(refine gp ?_ ?_<;>intro hx_ this)|fail)
  exact ⟨(⟨s1,sa3,sk3,pl3,ok3,n1,j-1,n3,n4⟩:RunI (W.at L) a),n2,ak aw (aj _) fun w h=>h⟩
 | none =>
  obtain ⟨rfl,sa3,sk3,pl3,ok3,rfl⟩:=h2 hrg
  have hct:=kS b ((bldH0 ks ki W.id q1 q2).look (W.won st.gen)) sa3 sk3 st pl3 ok3 (W.at L) G' inv rfl hok hL H.bB (H.ver L hPL)
  repeat' (first|refine gs ?_|refine gs1 fun _=>?_|fail)
  refine cr (pre:=bldR b ((bldH0 ks ki W.id q1 q2).look (W.won st.gen)) sa3 sk3 st pl3) (fr:=[cel b4 26 (chZ ⟨#[]⟩)]) (first:=#[]) (caps:=#[]) (hc:=hct) (hX:=fun w h=>⟨h.2,h.1.2⟩) (h:=?_)
  rintro v R X' ⟨g1,g2⟩
  refine eJ (X':=fun w=>(Y w∧Xc w)∧(Xw q1 G' L w∧∀ a∈L,a.at_ w)) (fun w h=>h.1) ?_
  cases ho2:oneA (candL (W.at L) st) with
  | some a2 =>
   obtain ⟨rfl,sa4,sk4,pl4,ok4,rfl⟩:=g1 a2 ho2
   have hstep:stepS (W.at L) st=some (addS st a2):=by rw [stepS,hrg,ho2];rfl
   obtain ⟨n1,n2,n3,n4⟩:=RunI.next (W:=W.at L) H.bnd inv hj hr hstep
   repeat' (first|refine gs ?_|refine gs1 fun _=>?_|(refine gp ?_ ?_<;>intro hx_ this)|fail)
   exact ⟨(⟨addS st a2,sa4,sk4,pl4,ok4,n1,j-1,n3,n4⟩:RunI (W.at L) a),n2,ak aw (aj _) fun w h=>h⟩
  | none =>
   obtain ⟨rfl,sa4,sk4,pl4,ok4,rfl⟩:=g2 ho2
   have hstep:stepS (W.at L) st=none:=by rw [stepS,hrg,ho2];rfl
   rw [ls hstep] at hr
   repeat' (first|refine gs ?_|refine gs1 fun _=>?_|(refine aV (vs:=[.string W.id,.slice sa4.p sa4.n sa4.c,.slice sk4.p sk4.n sk4.c,.string st.prev,.int .i64 (st.gen:Nat),.bool (decide (1<(candL (W.at L) st).length))]) (hv:=rfl) ?_)|(refine gp ?_ ?_<;>intro hx_ this)|fail)
   refine aa (aP rfl rfl aB (by rfl)) ⟨L,sa4,sk4,st,decide (1<(candL (W.at L) st).length),hPL,?_,rfl,fun w h=>⟨?_,?_⟩⟩
   · rw [OfRes,show oneA (firstL (W.at L))=some a from by rw [ha];rfl]
     exact ⟨hr,by rw [←hr]⟩
   · exact cL (h.2 (actR sa4 st.acts) (.tail _ (.head _))) ok4.hn fun x hx=>h.1.2.2 x (inv.mem x hx)
   · exact aW (h.2 (keyR sk4 st.keys) (.tail _ (.tail _ (.head _)))) (by rw [ZA];exact ok4.hk) (jR _)
structure Ed where
 rank:Int
 dg:ByteArray
 a:Xa
def Ed.cells (f:Ed):List Value:=.int .i64 f.rank::.string f.dg::f.a.cells
def fndR (s:Xh) (P:List Ed):Xi:=orow 213 22 (.slice s.p s.n s.c) s.n (P.map Ed.cells).flatten
theorem sY (P:List Ed):∀ r∈P.map Ed.cells,r.length=22:=fun r hr=>by
 obtain ⟨c,_,rfl⟩:=Qt.1 hr
 rfl
def cmpA:Value:=.func (.func 157) #[] #[]
def PermA (s:Xh) (P:List Ed) (u:Value) (R:List Xi) (X:World→Prop):Prop:=u=.tuple #[]∧∃ Q:List Ed,Q.Perm P∧R=[fndR s Q]
def SortA (n:Nat):Prop:=∀ (s:Xh) (P:List Ed),s.n=P.length→P.length≤n→Ct prog 156 #[s.v,cmpA] [fndR s P] (fun _=>True) (PermA s P)
theorem rc (s:Xh) (P:List Ed) (hs:s.n=P.length) (h1:P.length≤1):Ct prog 209 #[s.v,.int .i64 0,.int .i64 (s.n:Nat),cmpA] [fndR s P] (fun _=>True) (PermA s P):=by
 refine eD func209 ntmps209 fun av bor w0=>?_
 repeat' (first|refine gs ?_|fail)
 refine az (ι:=Unit) (fun _=>⟨[(2,.int .i64 (s.n:Nat)),(8,.int .i64 1)],[fndR s P],fun _=>True⟩) (fun _=>0) () (ak aw (aj _) fun _ h=>h) fun _=>?_
 repeat' (first|refine gs ?_|(refine gp ?_ ?_<;>intro hx_ this)|fail)
 all_goals first
  | (exfalso;omega)
  | exact bj (aX rfl) ⟨rfl,P,Qb _,rfl⟩
theorem oQ (s:Xh) (P:List Ed) (hs:s.n=P.length) (h1:P.length≤1):Ct prog 193 #[s.v,.int .i64 (s.n:Nat),cmpA] [fndR s P] (fun _=>True) (PermA s P):=by
 refine eD func193 ntmps193 fun av bor w0=>?_
 repeat' (first|refine gs ?_|fail)
 refine az (ι:=Unit) (fun _=>⟨[(0,s.v),(1,.int .i64 (s.n:Nat)),(2,cmpA),(6,.int .i64 20),(7,.int .i64 0),(8,.int .i64 20)],[fndR s P],fun _=>True⟩) (fun _=>0) () (ak aw (aj _) fun _ h=>h) fun _=>?_
 repeat' (first|refine gs ?_|(refine gp ?_ ?_<;>intro hx_ this)|fail)
 · exfalso;omega
 refine cr (pre:=[fndR s P]) (fr:=[]) (first:=#[]) (caps:=#[]) (hc:=rc s P hs h1) (hX:=fun _ _=>trivial) (h:=?_)
 rintro v R X' ⟨rfl,Q,hQ,rfl⟩
 repeat' (first|refine gs ?_|fail)
 refine az (ι:=Unit) (fun _=>⟨[(1,.int .i64 (s.n:Nat)),(6,.int .i64 20)],[fndR s Q],fun _=>True⟩) (fun _=>0) () (ak aw (aj _) fun _ h=>trivial) fun _=>?_
 repeat' (first|refine gs ?_|(refine gp ?_ ?_<;>intro hx_ this)|fail)
 · exfalso;omega
 exact bj (aX rfl) ⟨rfl,Q,hQ,rfl⟩
theorem oS:SortA 1:=fun s P hs h1=>by
 refine eD func156 ntmps156 fun av bor w0=>?_
 repeat' (first|refine gs ?_|fail)
 refine cr (pre:=[fndR s P]) (fr:=[]) (first:=#[]) (caps:=#[]) (hc:=oQ s P hs h1) (hX:=fun _ _=>trivial) (h:=?_)
 rintro v R X' ⟨rfl,Q,hQ,rfl⟩
 repeat' (first|refine gs ?_|fail)
 exact bj (aX rfl) ⟨rfl,Q,hQ,rfl⟩
end Go.Proofs.YtamfbppnlomgfaaGreatDoor
