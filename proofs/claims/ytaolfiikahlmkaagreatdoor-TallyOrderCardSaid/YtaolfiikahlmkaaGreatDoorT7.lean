/- Joined. -/
import Derived.Test.YtaolfiikahlmkaaGreatDoorT6
set_option linter.unusedVariables false
set_option linter.unusedSimpArgs false
set_option maxHeartbeats 16000000
namespace Go.Proofs.YtaolfiikahlmkaaGreatDoor.Sy
open Go Go.RowKit Go.MapKept
class KeyS (P:Program) (kt:TypeId) (κ:Type) [DecidableEq κ] where
 enc:κ→Value
 inj:∀ a b,enc a=enc b→a=b
 check:∀ (w:World) e a,(Instr.checkKey e 10000 kt (enc a)).run P w=.ok () w
 eq:∀ (w:World) a b,(Op.equal kt (enc a) (enc b)).run P w=.ok (decide (a=b)) w
 ask:∀ d a b,P.underlying kt=some d→Instr.sameNow d (enc a) (enc b)=none
 stay:∀ (w:World) a,(Instr.keyThatStays (enc a) (enc a)).run P w=.ok (enc a) w
section
variable {κ:Type} [DecidableEq κ] {β:Type}
def dget:List (κ×β)→κ→Option β
 | [],_=>none
 | (k',v')::r,k=>bif decide (k=k') then some v' else dget r k
def dput:List (κ×β)→κ→β→List (κ×β)
 | [],k,v=>[(k,v)]
 | (k',v')::r,k,v=>bif decide (k=k') then (k,v)::r else (k',v')::dput r k v
theorem kf:∀ (b:List (κ×β)) (k a:κ) (v:β),dget (dput b k v) a=bif decide (a=k) then some v else dget b a
 | [],k,a,v=>rfl
 | (k',v')::r,k,a,v=>by
  have ih:=kf r k a v
  simp only [dput]
  by_cases hk:k=k'
  · subst hk
    simp only [Zt,Zf,dget]
    cases decide (a=k)<;>rfl
  · simp only [hk,Zr,Ze,dget,ih]
    by_cases ha:a=k'
    · subst ha
      have:¬ a=k:=fun e=>hk e.symm
      simp [this]
    · simp [ha]
theorem sE:∀ {b:List (κ×β)} {k:κ} {v:β},dget b k=some v→(k,v)∈b
 | (k',v')::r,k,v,h=>by
  simp only [dget] at h
  by_cases hk:k=k'
  · simp only [hk,Zt,Zf,ZM] at h
    rw [hk,h]
    exact am
  · simp only [hk,Zr,Ze] at h
    exact Zv _ (sE h)
end
section
variable {P:Program} {kt:TypeId} {κ:Type} [DecidableEq κ] [K:KeyS P kt κ]
def SMapAt (P:Program) (kt:TypeId) {κ:Type} [DecidableEq κ] [K:KeyS P kt κ] (w:World) (g:Nat) (l:List (κ×Value)):Prop :=
 ∃ es clock,w.heap[g]?=some (.map es clock)∧Stamped es clock∧es.toList.map (fun e=>(e.key,e.val))=l.map fun p=>(K.enc p.1,p.2)
def smapr (P:Program) (kt:TypeId) {κ:Type} [DecidableEq κ] [K:KeyS P kt κ] (g:Nat) (l:List (κ×Value)):Xm:=⟨[g],fun w=>SMapAt P kt w g l⟩
theorem j9 (w:World) (k:κ):∀ (es:List MapEntry) (l:List (κ×Value)) (i:Nat),es.map (fun e=>(e.key,e.val))=l.map (fun p=>(K.enc p.1,p.2)) →
  ((Instr.findAsking kt (K.enc k) es i).run P w=.ok none w∧dget l k=none∧(∀ v,dput l k v=l++[(k,v)])∧∀ x∈es,x.key≠K.enc k) ∨
  ∃ j e v0,(Instr.findAsking kt (K.enc k) es i).run P w=.ok (some (i+j,v0)) w∧es[j]?=some e∧e.key=K.enc k∧dget l k=some v0∧∀ v,dput l k v=l.set j (k,v)
 | [],l,i,h=>by
  have:l=[]:=by cases l<;>simp_all
  subst this
  exact .inl ⟨rfl,rfl,fun _=>rfl,by simp⟩
 | e::es,[],i,h=>by simp at h
 | e::es,(k',v')::l,i,h=>by
  simp only [Z1,List.cons.injEq,Prod.mk.injEq] at h
  obtain ⟨⟨h1,h2⟩,h3⟩:=h
  have hs:(Op.equal kt (K.enc k) e.key).run P w=.ok (decide (k=k')) w:=by rw [h1];exact K.eq w k k'
  by_cases hb:k=k'
  · subst hb
    exact .inr ⟨0,e,v',by simp [Instr.findAsking,hs,h2,Result.andThen],rfl,h1,by simp [dget],fun v=>by simp [dput]⟩
  · have hne:e.key≠K.enc k:=fun q=>hb (K.inj _ _ (q.symm.trans h1))
    rcases j9 w k es l (i+1) h3 with ⟨g1,g2,g3,g4⟩|⟨j,e',v0,g1,g2,g3,g4,g5⟩
    · exact .inl ⟨by simp [Instr.findAsking,hs,hb,g1,Result.andThen],by simp [dget,hb,g2],fun v=>by simp [dput,hb,g3],fun x hx=>by
       cases hx with
       | head=>exact hne
       | tail _ hx=>exact g4 x hx⟩
    · exact .inr ⟨j+1,e',v0,by simp [Instr.findAsking,hs,hb,g1,Result.andThen];omega,by simpa using g2,g3,by simp [dget,hb,g4],fun v=>by simp [dput,hb,g5]⟩
theorem iY {w:World} {d:TypeDesc} (hd:P.underlying kt=some d) (k:κ) {es:List MapEntry} {l:List (κ×Value)} (h:es.map (fun e=>(e.key,e.val))=l.map (fun p=>(K.enc p.1,p.2))) :
  (Instr.findKey kt (K.enc k) es).run P w=(Instr.findAsking kt (K.enc k) es 0).run P w:=by
 cases es with
 | nil=>simp [Instr.findKey,run_underlying hd,Result.andThen,Instr.findNow,Instr.findAsking]
 | cons e es =>
  cases l with
  | nil=>simp at h
  | cons p l =>
   simp only [Z1,List.cons.injEq,Prod.mk.injEq] at h
   have hs:Instr.sameNow d (K.enc k) e.key=none:=by rw [h.1.1];exact K.ask d k p.1 hd
   simp [Instr.findKey,run_underlying hd,Result.andThen,Instr.findNow,hs]
def smapOf (P:Program) (t:TypeId):Option (TypeId×TypeId) :=
 match P.underlying t with
 | some (.map kt et)=>(P.underlying kt).map fun _=>(kt,et)
 | _=>none
class TySMap (P:Program) (t:TypeId) (kt et:outParam Nat):Prop where out:smapOf P t=some (kt,et)
theorem kr {t kt et:TypeId} (h:smapOf P t=some (kt,et)):P.underlying t=some (.map kt et)∧∃ d,P.underlying kt=some d:=by
 unfold smapOf at h
 split at h
 · rename_i kt et' he
   cases hk:P.underlying kt with
   | none=>simp [hk] at h
   | some d' =>
    simp [hk] at h
    obtain ⟨rfl,rfl⟩:=h
    exact ⟨he,_,hk⟩
 · cases h
theorem q6 {w:World} {t et:TypeId} {z:Value} (ht:smapOf P t=some (kt,et)) (hz:zeroOf P et=some z) {g:Nat} {l:List (κ×Value)} (h:SMapAt P kt w g l) (k:κ) :
  (Instr.lookup t (.map (some g)) (K.enc k) false).run P w=.ok ((dget l k).getD z) w:=by
 obtain ⟨h1,d,h2⟩:=kr ht
 obtain ⟨es,clock,hb,hs,hl⟩:=h
 have hzr:(zeroValue et).run P w=.ok z w:=dF hz w
 have hf:=iY (w:=w) h2 k hl
 have hc:=K.check w es.isEmpty k
 rcases j9 w k es.toList l 0 hl with ⟨g1,g2,g3,g4⟩|⟨j,e,v0,g1,g2,g3,g4,g5⟩
 · rw [g1] at hf
   simp [Instr.lookup,run_underlying h1,MapKept.run_getObj_map hb,hc,hf,hzr,g2,Result.andThen]
 · rw [g1] at hf
   simp [Instr.lookup,run_underlying h1,MapKept.run_getObj_map hb,hc,hf,g4,Result.andThen]
end
section
variable {P:Program} {N:Nat} {av bor:List Nat} {w0:World} {ops:Array Oper} {rest:List Oper} {k:St→Prop} {E:Env} {loc loc':List Xm} {X:World→Prop}
variable {d:Option Tmp} {ty:TypeId} {pos:String} {af:Array Edge} {g:Option (Nat×Bool)} {bb want:Bool}
theorem qP (κ:Type) (kt:TypeId) [DecidableEq κ] [KS:KeyS P kt κ] {n:Nat} {t:TypeId} (hg:gdB ops E g=some (bb,want):=by rfl) (hb:bb=want:=by exact ar) (hd:Nat.blt n N=true:=by rfl)
  (h:∀ q,Sw P N av bor w0 ops rest ⟨(n,.map (some q))::E,smapr P kt q ([]:List (κ×Value))::loc,X⟩ k):Sw P N av bor w0 ops (⟨some n,.makeMap t none,ty,pos,af,g⟩::rest) ⟨E,loc,X⟩ k:=Sw.mk fun a w ok=>by
 have hd':inB N (some n)=true:=by have h1:n<N:=Zx hd;simpa [inB] using h1
 simp only [wpList]
 rw [bx ok (o:=⟨some n,.makeMap t none,ty,pos,af,g⟩) hg]
 subst hb
 simp only [Zz,ZN]
 left
 unfold Oper.wp
 have hr:(execOp a.eval ⟨some n,.makeMap t none,ty,pos,af,g⟩).run P w=.ok (.value (.map (some w.heap.size))) (w.alloc (.map #[] 0)):=by
  have:(newObj (.map #[] 0)).run P w=.ok w.heap.size (w.alloc (.map #[] 0)):=rfl
  simp [execOp,Instr.makeMap,this]
 rw [hr]
 have ok':Ok N av bor w0 ⟨E,smapr P kt w.heap.size ([]:List (κ×Value))::loc,X⟩ a (w.alloc (.map #[] 0)):=(ok.via fun M G=>G.new (.map #[] 0) (fun w2=>SMapAt P kt w2 w.heap.size ([]:List (κ×Value))) fun w2 h=>⟨#[],0,h,stamped_empty 0,rfl⟩)
 exact (h _).run _ _ (cO (some n) _▸ok'.put hd' _)
theorem nU {κ:Type} {kt:TypeId} [DecidableEq κ] [KS:KeyS P kt κ] {st:St} {t et:Nat} [ht:TySMap P t kt et] {z:Value} [hz:Xn P et z] {m x:Operand} {q:Nat} {l:List (κ×Value)} {kk:κ} {o:Option Value} {v:Value} (hm:ev st.env m=some (.map (some q))) (hx:ev st.env x=some (KS.enc kk))
  (hl:∀ w,Xr av bor w0 st.loc st.ext w→SMapAt P kt w q l) (ho:dget l kk=o) (hv:o.getD z=v):Sy.Yields P N av bor w0 st (.lookup t m x false) ty v:=Sy.Yields.mk fun A w ok d pos af g=>by
 have:=q6 (P:=P) (t:=t) ht.out hz.out (hl w ok.gam) kk
 subst ho
 subst hv
 simp [execOp,ok.eval hm,ok.eval hx,this]
theorem qV {κ:Type} {kt:TypeId} [DecidableEq κ] [KS:KeyS P kt κ] {q:Nat} {l:List (κ×Value)} (hm:∀ w,X w→SMapAt P kt w q l):∀ w,Xr av bor w0 loc X w→SMapAt P kt w q l:=fun w G=>hm w G.keep.now
end
section
variable {κ:Type} [DecidableEq κ] {β:Type}
theorem kc:∀ (l:List (κ×β)) (k:κ) (u v:β),dput (dput l k u) k v=dput l k v
 | [],k,u,v=>by simp [dput]
 | (k',v')::r,k,u,v=>by
  by_cases h:k=k'
  · subst h;simp [dput]
  · simp [dput,h,kc r k u v]
theorem ke:∀ (l:List (κ×β)) (k:κ) (v:β),dget l k=some v→dput l k v=l
 | [],k,v,h=>by cases h
 | (k',v')::r,k,v,h=>by
  by_cases e:k=k'
  · subst e
    simp only [dget,Zt,Zf,ZM] at h
    simp [dput,h]
  · simp only [dget,e,Zr,Ze] at h
    simp [dput,e,ke r k v h]
end
section
variable {P:Program} {kt:TypeId} {κ:Type} [DecidableEq κ] [K:KeyS P kt κ]
def SMapE (P:Program) (kt:TypeId) {κ:Type} [DecidableEq κ] [K:KeyS P kt κ] (w:World) (g:Nat) (l:List (κ×Value)) (k:κ) (b:Nat):Prop :=
 ∃ es clock j e,w.heap[g]?=some (.map es clock)∧Stamped es clock∧es.toList.map (fun e=>(e.key,e.val))=l.map (fun p=>(K.enc p.1,p.2))∧es[j]?=some e∧e.key=K.enc k∧e.born=b∧∀ v,dput l k v=l.set j (k,v)
def smape (P:Program) (kt:TypeId) {κ:Type} [DecidableEq κ] [K:KeyS P kt κ] (g:Nat) (l:List (κ×Value)) (k:κ) (b:Nat):Xm:=⟨[g],fun w=>SMapE P kt w g l k b⟩
theorem nD {w:World} {t et:TypeId} {z:Value} (ht:smapOf P t=some (kt,et)) (hz:zeroOf P et=some z) {g:Nat} {l:List (κ×Value)} (h:SMapAt P kt w g l) (k:κ) :
  ∃ o b,(Instr.mapEntry t (.map (some g)) (K.enc k)).run P w=.ok (.tuple #[(dget l k).getD z,.int .i64 (b:Nat)]) { w with heap:=w.heap.setIfInBounds g o }∧∀ w':World,w'.heap[g]?=some o→SMapE P kt w' g (dput l k ((dget l k).getD z)) k b:=by
 obtain ⟨h1,d,h2⟩:=kr ht
 obtain ⟨es,clock,hb,hs,hl⟩:=h
 have hf:=iY (w:=w) h2 k hl
 have hc:=K.check w false k
 have hzr:(zeroValue et).run P w=.ok z w:=dF hz w
 have hlen:es.size=l.length:=by simpa using congrArg List.length hl
 rcases j9 w k es.toList l 0 hl with ⟨g1,g2,g3,g4⟩|⟨j,e,v0,g1,g2,g3,g4,g5⟩
 · rw [g1] at hf
   refine ⟨.map (es.push { key:=K.enc k,val:=z,born:=clock }) (clock+1),clock,?_,fun w' hw=>⟨_,_,es.size,{ key:=K.enc k,val:=z,born:=clock },hw,stamped_push hs g4,?_,by simp,rfl,rfl,fun v=>?_⟩⟩
   · simp [Instr.mapEntry,run_underlying h1,MapKept.run_getObj_map hb,hc,hf,hzr,g2,MapKept.run_setObj_map _ hb,Result.andThen,goInt]
   · rw [g2,Option.getD_none,g3]
     simp [hl]
   · rw [g2,Option.getD_none,kc,g3,g3,hlen]
     simp
 · have hj:es[j]?=some e:=by simpa using g2
   have hst:=K.stay w k
   rw [g1] at hf
   refine ⟨.map (es.modify j fun e=>{ e with key:=K.enc k }) clock,e.born,?_,fun w' hw=>⟨_,_,j,{ e with key:=K.enc k },hw,stamped_modify hs _ _ (fun _ _=>rfl) (fun e' _ he'=>by rw [hj] at he';cases he';exact g3.symm),?_,by simp [QI,hj],rfl,rfl,fun v=>?_⟩⟩
   · simp [Instr.mapEntry,run_underlying h1,MapKept.run_getObj_map hb,hc,hf,hj,g3,g4,hst,MapKept.run_setObj_map _ hb,Result.andThen,goInt]
   · rw [g4,Qe,ke l k v0 g4,←hl]
     apply List.ext_getElem?
     intro q
     simp only [Z7,Qo,QI]
     by_cases e1:j=q
     · subst e1
       simp [hj,g3]
     · simp [e1]
   · rw [g4,Qe,ke l k v0 g4]
     exact g5 v
theorem kV {w:World} {t:TypeId} {g:Nat} {l:List (κ×Value)} {k:κ} {b:Nat} (h:SMapE P kt w g l k b) (v:Value) :
  ∃ o,(Instr.entryStore t (.map (some g)) (.int .i64 (b:Nat)) v).run P w=.ok () { w with heap:=w.heap.setIfInBounds g o }∧∀ w':World,w'.heap[g]?=some o→SMapAt P kt w' g (dput l k v):=by
 obtain ⟨es,clock,j,e,hb,hs,hl,hj,hk,hbn,hset⟩:=h
 have hjl:j<es.size:=(QM.1 hj).1
 have hje:es[j]=e:=(QM.1 hj).2
 have hlen:es.size=l.length:=by simpa using congrArg List.length hl
 have hfi:es.findIdx? (fun e=>(e.born:Int)==(b:Int))=some j:=by
  rw [Array.findIdx?_eq_some_iff_getElem]
  refine ⟨hjl,by rw [hje,hbn];simp,fun q hq hp=>?_⟩
  have hnd:=((stamped_iff es clock).1 hs).2.1
  have hq':es[q].born=e.born:=by rw [hbn];have:=beq_iff_eq.1 hp;omega
  have h1:(es.toList.map (·.born))[q]?=some e.born:=by simp [Z7,Qo,Array.getElem?_eq_getElem (show q<es.size by omega),hq']
  have h2:(es.toList.map (·.born))[j]?=some e.born:=by simp [Z7,Qo,hj]
  have:=(List.getElem?_inj (by simp;omega) hnd).1 (h1.trans h2.symm)
  omega
 refine ⟨.map (es.modify j fun e=>{ e with val:=v }) clock,?_,fun w' hw=>⟨_,_,hw,stamped_modify hs _ _ (fun _ _=>rfl) (fun e' _ he'=>rfl),?_⟩⟩
 · have ha:(asIntOf (Value.int IntKind.i64 (b:Nat))).run P w=.ok (.i64,((b:Nat):Int)) w:=rfl
   simp [Instr.entryStore,MapKept.run_getObj_map hb,asInt,ha,hfi,MapKept.run_setObj_map _ hb,Result.andThen]
 · rw [hset]
   apply List.ext_getElem?
   intro q
   have hq:=congrArg (fun l=>l[q]?) hl
   simp only [Z7,Qo] at hq
   simp only [Z7,Qo,QI,List.getElem?_set]
   by_cases e1:j=q
   · subst e1
     simp [hj,show j<l.length by omega,hk]
   · simp [e1,hq]
end
section
variable {P:Program} {N:Nat} {av bor:List Nat} {w0:World} {ops:Array Oper} {rest:List Oper} {k:St→Prop} {E:Env} {loc loc':List Xm} {X:World→Prop}
variable {d:Option Tmp} {ty:TypeId} {pos:String} {af:Array Edge} {g:Option (Nat×Bool)} {bb want:Bool}
theorem pF {lo:Nat→List Xm} {κ:Type} {kt:TypeId} [DecidableEq κ] [KS:KeyS P kt κ] {n:Nat} {t et:Nat} [ht:TySMap P t kt et] {z:Value} [hz:Xn P et z] {m x:Operand} {q:Nat} {l:List (κ×Value)} {kk:κ} {o:Option Value} {u:Value} (hm:ev E m=some (.map (some q)):=by rfl) (hx:ev E x=some (KS.enc kk):=by rfl) (ho:dget l kk=o) (hu:o.getD z=u:=by rfl)
  (hA:∀ b,At (smapr P kt q l) (smape P kt q (dput l kk u) kk b) loc (lo b)) (hg:gdB ops E g=some (bb,want):=by rfl) (hb:bb=want:=by exact ar) (hd:Nat.blt n N=true:=by rfl)
  (h:∀ b:Nat,Sw P N av bor w0 ops rest ⟨(n,.tuple #[u,.int .i64 (b:Nat)])::E,lo b,X⟩ k):Sw P N av bor w0 ops (⟨some n,.mapEntry t m x,ty,pos,af,g⟩::rest) ⟨E,loc,X⟩ k:=Sw.mk fun a w ok=>by
 have hd':inB N (some n)=true:=by have h1:n<N:=Zx hd;simpa [inB] using h1
 subst ho
 subst hu
 simp only [wpList]
 rw [bx ok (o:=⟨some n,.mapEntry t m x,ty,pos,af,g⟩) hg]
 subst hb
 simp only [Zz,ZN]
 left
 unfold Oper.wp
 have hmp:SMapAt P kt w q l:=(ok.gam.here _ (hA 0).mem).now
 obtain ⟨o,b,hr,ho⟩:=nD ht.out hz.out hmp kk
 obtain ⟨es,c,hbk,_⟩:=hmp
 have hs:=heap_set (o':=o) hbk
 have ok':Ok N av bor w0 ⟨E,lo b,X⟩ a { w with heap:=w.heap.setIfInBounds q o }:=ok.via fun M G=>G.turn ((hA b).app M) rfl rfl rfl (by simp) (fun i hi=>hs.2 i hi) fun w2 h2=>ho w2 (h2.trans hs.1)
 have hr':(execOp a.eval ⟨some n,.mapEntry t m x,ty,pos,af,g⟩).run P w=.ok (.value (.tuple #[(dget l kk).getD z,.int .i64 (b:Nat)])) { w with heap:=w.heap.setIfInBounds q o }:=by
  simp [execOp,ok.eval (st:=⟨E,loc,X⟩) hm,ok.eval (st:=⟨E,loc,X⟩) hx,hr]
 rw [hr']
 exact (h b).run _ _ (cO (some n) _▸ok'.put hd' _)
theorem ms {κ:Type} {kt:TypeId} [DecidableEq κ] [KS:KeyS P kt κ] {t:Nat} {m x y:Operand} {q:Nat} {l:List (κ×Value)} {kk:κ} {b:Nat} {v:Value} (hm:ev E m=some (.map (some q)):=by rfl) (hx:ev E x=some (.int .i64 (b:Nat)):=by rfl) (hy:ev E y=some v:=by rfl)
  (hA:At (smape P kt q l kk b) (smapr P kt q (dput l kk v)) loc loc':=by (repeat (first|exact At.here _|apply At.there))) (hg:gdB ops E g=some (bb,want):=by rfl) (hb:bb=want:=by exact ar) (hd:inB N d=true:=by rfl)
  (h:Sw P N av bor w0 ops rest ⟨putE E d undef,loc',X⟩ k):Sw P N av bor w0 ops (⟨d,.entryStore t m x y,ty,pos,af,g⟩::rest) ⟨E,loc,X⟩ k:=Sw.mk fun a w ok=>by
 simp only [wpList]
 rw [bx ok (o:=⟨d,.entryStore t m x y,ty,pos,af,g⟩) hg]
 subst hb
 simp only [Zz,ZN]
 left
 unfold Oper.wp
 have hmp:SMapE P kt w q l kk b:=(ok.gam.here _ hA.mem).now
 obtain ⟨o,hr,ho⟩:=kV (t:=t) hmp v
 obtain ⟨es,c,j,e,hbk,_⟩:=hmp
 have hs:=heap_set (o':=o) hbk
 have ok':Ok N av bor w0 ⟨E,loc',X⟩ a { w with heap:=w.heap.setIfInBounds q o }:=ok.via fun M G=>G.turn (hA.app M) rfl rfl rfl (by simp) (fun i hi=>hs.2 i hi) fun w2 h2=>ho w2 (h2.trans hs.1)
 have hr':(execOp a.eval ⟨d,.entryStore t m x y,ty,pos,af,g⟩).run P w=.ok .skip { w with heap:=w.heap.setIfInBounds q o }:=by
  simp [execOp,ok.eval (st:=⟨E,loc,X⟩) hm,ok.eval (st:=⟨E,loc,X⟩) hx,ok.eval (st:=⟨E,loc,X⟩) hy,hr]
 rw [hr']
 exact h.run _ _ (cO d _▸ok'.put hd _)
end
end Go.Proofs.YtaolfiikahlmkaaGreatDoor.Sy
namespace Go.Proofs.YtaolfiikahlmkaaGreatDoor
open Go Go.Proofs Sy Tryz
abbrev PosK:=Int×ByteArray
def posV (k:PosK):Value:=.agg #[.int .i64 k.1,.string k.2]
theorem mx (w:World) {cs:Array Value} {off:Nat} {v:Value} (h:cs[off]?=some v):(part 9 cs off).run prog w=.ok v w:=by
 simp [part,isAgg,run_underlying underlying9,h]
theorem Bx (w:World) (d:Nat) (a b:ByteArray):(Op.equalIn (d+1) 9 (.string a) (.string b)).run prog w=.ok (seqB a b) w:=by
 rw [run_equalIn_string w d _ a b underlying9]
 rfl
theorem xc (w:World) (d:Nat) (a b:PosK):(Op.equalIn (d+2) 129 (posV a) (posV b)).run prog w=.ok (decide (a=b)) w:=by
 have p0:∀ x:PosK,(part 3 #[.int .i64 x.1,.string x.2] 0).run prog w=.ok (.int .i64 x.1) w:=fun x=>my w rfl
 have p1:∀ x:PosK,(part 9 #[.int .i64 x.1,.string x.2] 1).run prog w=.ok (.string x.2) w:=fun x=>mx w rfl
 unfold posV
 rw [run_equalIn_agg _ _ _ _ _ ac ac]
 simp only [Program.fieldsOf,underlying129]
 simp [Op.eqFields,p0,p1,Bz,Bx]
 obtain ⟨a1,a2⟩:=a
 obtain ⟨b1,b2⟩:=b
 by_cases h1:a1=b1<;>cases h2:seqB a2 b2<;>simp [h1,h2]
 · exact fun e=>by rw [e,cG] at h2;cases h2
 · exact seqB_iff.1 h2
instance posK:KeyS prog 129 PosK where
 enc:=posV
 inj:=by
  rintro ⟨a,b⟩ ⟨c,d⟩ h
  simp [posV] at h
  simp [h]
 check:=by
  intro w e a
  have c0:(Instr.checkKey e 9999 3 (.int .i64 a.1)).run prog w=.ok () w:=MapKept.run_checkKey (k:=.int .i64 a.1) underlying3 (show IntKind.i64=IntKind.i64 from rfl) e 9998
  have c1:(Instr.checkKey e 9999 9 (.string a.2)).run prog w=.ok () w:=MapKept.run_checkKey (k:=.string a.2) underlying9 (show True from trivial) e 9998
  have p0:(part 3 #[.int .i64 a.1,.string a.2] 0).run prog w=.ok (.int .i64 a.1) w:=my w rfl
  have p1:(part 9 #[.int .i64 a.1,.string a.2] 1).run prog w=.ok (.string a.2) w:=mx w rfl
  unfold posV Instr.checkKey
  simp [run_underlying underlying129,Result.andThen,p0,p1,c0,c1]
 eq:=by
  intro w a b
  exact xc w 9998 a b
 ask:=by
  intro d a b h
  rw [underlying129] at h
  cases h
  rfl
 stay:=by
  intro w a
  have hb:Instr.sameBits (9999+1) (posV a) (posV a)=true:=by simp [posV,Instr.sameBits,MapKept.bytes_beq]
  show (Instr.keyThatStays (posV a) (posV a)).run prog w=.ok (posV a) w
  simp [Instr.keyThatStays,hb]
instance:TySMap prog 123 129 32:=⟨ac⟩
structure BldH where
 ks:Xl
 ki:Xl
 id:ByteArray
 fork:Bool
 q1:Nat
 q2:Nat
 cl:Xg
 wn:Bool
def bldC (h:BldH) (sa sk:Xl) (prev:ByteArray) (gen:Int):List Value:=[h.ks.v,h.ki.v,.string h.id,.slice sa.p sa.n sa.c,.slice sk.p sk.n sk.c,.string prev,.int .i64 gen,.bool h.fork,.map (some h.q1),.map (some h.q2),.string h.cl.actor,.int .i64 h.cl.base,.string h.cl.prev,.int .i64 h.cl.gen,.int .i64 h.cl.home,.int .i64 h.cl.pub,.int .i64 h.cl.time,.int .i64 h.cl.e,.int .i64 h.cl.s,.bool h.wn]
def actR (s:Xl) (L:List Xa):Xm:=orow 46 20 (.slice s.p s.n s.c) s.n (L.map Xa.cells).flatten
def keyR (s:Xl) (L:List Xq):Xm:=orow 133 3 (.slice s.p s.n s.c) s.n (L.map Xq.cells).flatten
def bldR (b:Nat) (h:BldH) (sa sk:Xl) (st:Eb) (pl:List (ByteArray×Value)):List Xm:=[cel b 126 (bldC h sa sk st.prev (st.gen:Nat)),actR sa st.acts,keyR sk st.keys,mapr h.q2 pl]
def PlOk (pl:List (ByteArray×Value)) (l:List Xa):Prop:=∀ d,mget pl d=(idxV l d).map fun (j:Nat)=>Value.int .i64 (j:Int)
structure BldOk (sa sk:Xl) (st:Eb) (pl:List (ByteArray×Value)):Prop where
 hn:sa.n=st.acts.length
 hk:sk.n=st.keys.length
 hp:PlOk pl st.acts
def BldAt (b:Nat) (h:BldH) (st:Eb) (v u:Value) (R:List Xm):Prop:=u=v∧∃ (sa sk:Xl) (pl:List (ByteArray×Value)),BldOk sa sk st pl∧R=bldR b h sa sk st pl
theorem oN (l:List Xa) (x:Xa) (d:ByteArray):idxV (l++[x]) d=(idxV l d).or (bif seqB (digV x) d then some l.length else none):=by
 rw [idxV,idxV,List.findIdx?_append]
 congr 1
 rw [List.findIdx?_singleton]
 cases seqB (digV x) d with
 | true=>simp
 | false=>simp
theorem Au {pl:List (ByteArray×Value)} {l:List Xa} (h:PlOk pl l) {x:Xa} {j:Nat} (hj:idxV l (digV x)=some j):PlOk pl (l++[x]):=fun d=>by
 rw [oN,h d]
 cases hs:seqB (digV x) d with
 | true =>
  obtain rfl:=seqB_iff.1 hs
  rw [hj]
  rfl
 | false=>cases idxV l d<;>rfl
theorem Av {pl:List (ByteArray×Value)} {l:List Xa} (h:PlOk pl l) {x:Xa} (hj:idxV l (digV x)=none):PlOk (mput pl (digV x) (.int .i64 (l.length:Nat))) (l++[x]):=fun d=>by
 rw [gu,oN,eqbB]
 cases hs:seqB d (digV x) with
 | true =>
  obtain rfl:=seqB_iff.1 hs
  rw [hj,hs]
  rfl
 | false =>
  rw [om (digV x) d,hs,h d]
  cases idxV l d<;>rfl
theorem BZ (b:Nat) (h:BldH) (sa sk:Xl) (st:Eb) (pl:List (ByteArray×Value)) (ok:BldOk sa sk st pl) (a:Xa) (ha:a.Rng) (hs:a.Sm) (hl:st.acts.length≤1000000) (hl2:st.keys.length≤1000000) :
  Ct prog 65 #[.pointer (some ⟨b,0,none⟩),a.v] (bldR b h sa sk st pl) (fun w=>a.at_ w∧Xi w) (fun u R _=>BldAt b h (addS st a) (.tuple #[]) u R):=by
 obtain ⟨hn,hk,hp⟩:=ok
 refine eu (args:=[_,_]) _ func65 rfl ntmps65 rfl fun av bor w0=>?_
 have hlk:=hp (digV a)
 unfold bldR actR keyR
 repeat' (first|refine gs ?_|refine gs1 fun _=>?_|fail)
 rename_i b1
 refine ll (ι:=Option Addr×Nat) (fun i=>⟨[(0,.pointer (some ⟨b,0,none⟩)),(3,.pointer (some ⟨b1,0,none⟩)),(4,.pointer (some ⟨b,2,none⟩)),(5,.int .i64 (sa.n:Nat))],[cel b1 46 a.cells,cel b 126 (bldC h ⟨i.1,sa.n+1,i.2⟩ sk st.prev (st.gen:Nat)),orow 46 20 (.slice i.1 (sa.n+1) i.2) (sa.n+1) ((st.acts.map Xa.cells).flatten++a.cells),orow 133 3 (.slice sk.p sk.n sk.c) sk.n (st.keys.map Xq.cells).flatten,mapr h.q2 pl],fun w=>a.at_ w∧Xi w⟩) ?_ fun i=>?_
 · (refine aq ⟨[0,1,2,3,5],[(4,⟨[],[(6,⟨[],[(7,⟨[8,9],[(10,⟨[],[]⟩)]⟩)]⟩)]⟩),(6,⟨[],[(4,⟨[],[(7,⟨[8,9],[(10,⟨[],[]⟩)]⟩)]⟩)]⟩)]⟩ [cel b1 46 a.cells] (fun w=>a.at_ w∧Xi w) (h:=?_))
   all_goals repeat' (first|refine gdz ?_|refine aA ?_ (h':=?_)|exact aB|refine cA (size:=20) (vs:=[a.v]) (css:=a.cells) (hsz:=by rfl) (hcs:=by rfl) fun _=>?_|(refine iF ?_;refine aJ (size:=20) (news:=a.cells) (q:=1) rfl rfl rfl rfl (fun _=>by (repeat (first|with_reducible exact At.here _|apply At.there))) (fun w G=>bA G aQ rfl rfl 1) aa (by simp only [maxLen];omega) rfl ?_ rfl ?_;(with_reducible rfl);intro A2 c2)|fail)
   all_goals exact ⟨(_,_),ai al (Z2 _ (aj _)) fun w h=>h⟩
 obtain ⟨A2,c2⟩:=i
 simp only
 repeat' (first|refine gs ?_|fail)
 refine cd (hc:=jo a ha hs) fun v1 X1 h1=>?_
 obtain ⟨x',rfl,hdig,hr',hat⟩:=h1
 refine ag (hc:=ik x' hr') (hX:=fun w h=>⟨hat w h.2,h.1.2⟩) ?_
 rw [hdig]
 generalize hD:digV a=D at hlk
 refine d9 ?_
 refine bC ?_
 refine bX ?_
 apply aH
 apply QS
 refine ll (ι:={ pl':List (ByteArray×Value) // PlOk pl' (st.acts++[a]) }) (fun i=>⟨[(3,.pointer (some ⟨b1,0,none⟩)),(4,.pointer (some ⟨b,2,none⟩)),(5,.int .i64 (sa.n:Nat))],[cel b1 46 a.cells,cel b 126 (bldC h ⟨A2,sa.n+1,c2⟩ sk D (st.gen:Nat)),orow 46 20 (.slice A2 (sa.n+1) c2) (sa.n+1) ((st.acts.map Xa.cells).flatten++a.cells),orow 133 3 (.slice sk.p sk.n sk.c) sk.n (st.keys.map Xq.cells).flatten,mapr h.q2 i.1],fun w=>a.at_ w∧Xi w⟩) ?_ fun i=>?_
 · have hpn:=fun hj=>Av hp (x:=a) hj
   have hpo:=fun j hj=>Au hp (x:=a) (j:=j) hj
   rw [hD] at hpn hpo
   cases hj:idxV st.acts D with
   | none =>
    rw [hj] at hlk
    apply QS
    (refine aq ⟨[0,1,2,3,4,5,6,7],[(8,⟨[9,10,11,12,13],[]⟩)]⟩ [cel b1 46 a.cells,cel b 126 (bldC h ⟨A2,sa.n+1,c2⟩ sk D (st.gen:Nat)),orow 46 20 (.slice A2 (sa.n+1) c2) (sa.n+1) ((st.acts.map Xa.cells).flatten++a.cells),orow 133 3 (.slice sk.p sk.n sk.c) sk.n (st.keys.map Xq.cells).flatten,mapr h.q2 pl] (fun w=>(a.at_ w∧Xi w)∧X1 w) (h:=?_))
    all_goals repeat' (first|refine gdz ?_|refine aA ?_ (h':=?_)|exact aB|(refine bZ (κ:=ByteArray) (kk:=D) (b:=false) (v:=.int .i64 0) (hl:=cU aQ) (ho:=hlk) ?_)|fail)
    all_goals
     repeat' (first|refine gs ?_|fail)
     (refine aq ⟨[0,1,2,3,4,5,6,7,8],[(9,⟨[],[]⟩)]⟩ [cel b1 46 a.cells,cel b 126 (bldC h ⟨A2,sa.n+1,c2⟩ sk D (st.gen:Nat)),orow 46 20 (.slice A2 (sa.n+1) c2) (sa.n+1) ((st.acts.map Xa.cells).flatten++a.cells),orow 133 3 (.slice sk.p sk.n sk.c) sk.n (st.keys.map Xq.cells).flatten] (fun w=>(a.at_ w∧Xi w)∧X1 w) (h:=?_))
     all_goals repeat' (first|refine gdz ?_|refine aA ?_ (h':=?_)|exact aB|(refine dp (κ:=ByteArray) (kk:=D) (v:=.int .i64 (sa.n:Nat)) ?_)|fail)
     all_goals exact ⟨⟨mput pl D (.int .i64 (sa.n:Nat)),by rw [hn];exact hpn hj⟩,ai al (aj _) fun w h=>h.1⟩
   | some j =>
    rw [hj] at hlk
    apply QS
    (refine aq ⟨[0,1,2,3,4,5,6,7],[(8,⟨[9,10,11,12,13],[]⟩)]⟩ [cel b1 46 a.cells,cel b 126 (bldC h ⟨A2,sa.n+1,c2⟩ sk D (st.gen:Nat)),orow 46 20 (.slice A2 (sa.n+1) c2) (sa.n+1) ((st.acts.map Xa.cells).flatten++a.cells),orow 133 3 (.slice sk.p sk.n sk.c) sk.n (st.keys.map Xq.cells).flatten,mapr h.q2 pl] (fun w=>(a.at_ w∧Xi w)∧X1 w) (h:=?_))
    all_goals repeat' (first|refine gdz ?_|refine aA ?_ (h':=?_)|exact aB|(refine bZ (κ:=ByteArray) (kk:=D) (b:=true) (v:=.int .i64 (j:Nat)) (hl:=cU aQ) (ho:=hlk) ?_)|fail)
    all_goals
     repeat' (first|refine gs ?_|fail)
     exact ⟨⟨pl,hpo j hj⟩,ai al (aj _) fun w h=>h.1⟩
 obtain ⟨pl',hpl'⟩:=i
 simp only
 clear hp hlk hdig hr' hat
 have hfl:((st.acts++[a]).map Xa.cells).flatten=(st.acts.map Xa.cells).flatten++a.cells:=by simp
 by_cases hk18:a.kind=18
 · have hst:addS st a=⟨st.acts++[a],st.keys++[⟨((sa.n+1:Nat):Int),a.n,a.m⟩],D,st.gen⟩:=by rw [addS,hk18,hD,hn];rfl
   have hfk:((st.keys++[(⟨((sa.n+1:Nat):Int),a.n,a.m⟩:Xq)]).map Xq.cells).flatten=(st.keys.map Xq.cells).flatten++Xq.cells ⟨((sa.n+1:Nat):Int),a.n,a.m⟩:=by simp
   repeat' (first|refine aE (hab:=hk18) ?_|refine gs ?_|fail)
   (refine aq ⟨[0,1,2,3,5,6,7,8,9,10,11],[(4,⟨[],[(12,⟨[],[(13,⟨[14,15],[(16,⟨[],[]⟩)]⟩)]⟩)]⟩),(12,⟨[],[(4,⟨[],[(13,⟨[14,15],[(16,⟨[],[]⟩)]⟩)]⟩)]⟩)]⟩ [cel b1 46 a.cells] (fun w=>a.at_ w∧Xi w) (h:=?_))
   all_goals repeat' (first|refine gdz ?_|refine ax (hsub:=by exact aI) (hy:=by (apply dv (cs:=Xq.cells ⟨((sa.n+1:Nat):Int),a.n,a.m⟩);rfl;rfl)) ?_|refine aA ?_ (h':=?_)|exact aB|refine cA (size:=3) (vs:=[Xq.v ⟨((sa.n+1:Nat):Int),a.n,a.m⟩]) (css:=Xq.cells ⟨((sa.n+1:Nat):Int),a.n,a.m⟩) (hsz:=by rfl) (hcs:=by rfl) fun _=>?_|(refine iF ?_;refine aJ (size:=3) (news:=Xq.cells ⟨((sa.n+1:Nat):Int),a.n,a.m⟩) (q:=1) rfl rfl rfl rfl (fun _=>by (repeat (first|with_reducible exact At.here _|apply At.there))) (fun w G=>bA G aQ rfl rfl 1) aa (by simp only [maxLen];omega) rfl ?_ rfl ?_;(with_reducible rfl);intro A3 c3)|fail)
   all_goals
    refine aN (aF rfl) ⟨_,Z2 _ (Z2 _ (aj _)),rfl,⟨A2,sa.n+1,c2⟩,⟨A3,sk.n+1,c3⟩,pl',⟨?_,?_,?_⟩,?_⟩
    · rw [hst,ZA,hn];rfl
    · rw [hst,ZA,hk];rfl
    · rw [hst];exact hpl'
    · rw [hst]
      unfold bldR actR keyR
      rw [hfl,hfk]
      rfl
 · repeat' (first|refine aG (hab:=hk18) ?_|refine gs ?_|fail)
   have hst:addS st a=⟨st.acts++[a],st.keys,D,st.gen⟩:=by rw [addS,hD,Zc hk18];rfl
   refine aN (aF rfl) ⟨_,Z2 _ (aj _),rfl,⟨A2,sa.n+1,c2⟩,sk,pl',⟨?_,?_,?_⟩,?_⟩
   · rw [hst,ZA,hn];rfl
   · rw [hst,hk]
   · rw [hst];exact hpl'
   · rw [hst]
     unfold bldR actR keyR
     rw [hfl]
end Go.Proofs.YtaolfiikahlmkaaGreatDoor
namespace Go.Proofs.YtaolfiikahlmkaaGreatDoor
open Go Go.Proofs Sy Tryz
def BldH.look (h:BldH) (o:Option Xg):BldH:={ h with cl:=o.getD Xg.zero,wn:=o.isSome }
def bldCel (b:Nat) (h:BldH) (sa sk:Xl) (st:Eb):Xm:=cel b 126 (bldC h sa sk st.prev (st.gen:Nat))
theorem vy (b:Nat) (h:BldH) (sa sk:Xl) (st:Eb) (o:Option Xg) (Y:World→Prop)
  (hwon:Pu prog 115 #[.agg #[h.ks.v,h.ki.v],.string h.id,.int .i64 (st.gen:Nat)] Y (.tuple #[(o.getD Xg.zero).v,.bool o.isSome])) :
  Ct prog 66 #[.pointer (some ⟨b,0,none⟩)] [bldCel b h sa sk st] Y (fun u R _=>u=.tuple #[]∧R=[bldCel b (h.look o) sa sk st]):=by
 refine eu (args:=[_]) _ func66 rfl ntmps66 rfl fun av bor w0=>?_
 unfold bldCel
 generalize hc:o.getD Xg.zero=c at hwon
 generalize hi:o.isSome=i at hwon
 have hL:h.look o={ h with cl:=c,wn:=i }:=by rw [BldH.look,hc,hi]
 rw [hL]
 (refine aq ⟨[0,1,2,3,4,6,7,8,9,11,12,13,14],[(5,⟨[],[(10,⟨[],[(15,⟨[],[(16,⟨[17,18,19,20,21],[(22,⟨[23,24],[(25,⟨[],[]⟩)]⟩)]⟩)]⟩)]⟩),(15,⟨[],[(10,⟨[],[(16,⟨[17,18,19,20,21],[(22,⟨[23,24],[(25,⟨[],[]⟩)]⟩)]⟩)]⟩)]⟩)]⟩),(10,⟨[],[(5,⟨[],[(15,⟨[],[(16,⟨[17,18,19,20,21],[(22,⟨[23,24],[(25,⟨[],[]⟩)]⟩)]⟩)]⟩)]⟩),(15,⟨[],[(5,⟨[],[(16,⟨[17,18,19,20,21],[(22,⟨[23,24],[(25,⟨[],[]⟩)]⟩)]⟩)]⟩)]⟩)]⟩),(15,⟨[],[(5,⟨[],[(10,⟨[],[(16,⟨[17,18,19,20,21],[(22,⟨[23,24],[(25,⟨[],[]⟩)]⟩)]⟩)]⟩)]⟩),(10,⟨[],[(5,⟨[],[(16,⟨[17,18,19,20,21],[(22,⟨[23,24],[(25,⟨[],[]⟩)]⟩)]⟩)]⟩)]⟩)]⟩)]⟩ [] (fun w=>Y w) (h:=?_))
 all_goals repeat' (first|(refine ag (hc:=hwon) ?_)|refine gd ?_|refine aA ?_ (h':=?_)|exact aB|(refine aC (vs:=[h.ks.v,h.ki.v]) (hv:=rfl) ?_)|(refine fu (bldC { h with cl:=c } sa sk st.prev (st.gen:Nat)) (h:=?_))|fail)
 all_goals exact aN (aF rfl) ⟨_,aj _,rfl,rfl⟩
namespace Sy
section
variable {P:Program} {N:Nat} {av bor:List Nat} {w0:World} {st:St} {t:TypeId} {ty:TypeId} {x:Operand}
theorem gc {e size m i c j:Nat} [h:Xw P t] {A:Option Addr} {xs:List (List Value)} {cs:List Value} {u:Value} (hx:ev st.env x=some (elP A (i*size+j))) (hm:orow e size (.slice A m c) m xs.flatten∈st.loc) (hn:m=xs.length) (hs:∀ r∈xs,r.length=size) (hi:xs[i]?=some cs) (hj:cs[j]?=some u) :
  Yields P N av bor w0 st (.load t x) ty u:=Sy.Yields.mk fun B w ok d pos af g=>by
 have hr:=bm (ok.gam.here _ hm).now hn hs
 obtain ⟨h1,hp,hc⟩:=Xf.row hr i cs hi
 obtain ⟨a,rfl⟩:=QO.1 hp
 simp [execOp,ok.eval hx,elP,Instr.loadAt,Instr.sureAddr,loadVar,(bO h.out w).1,(hc j u hj).2 a rfl]
theorem fo [h:Xw P t] {bl j:Nat} {v:Value} (hx:ev st.env x=some (.pointer (some ⟨bl,j,none⟩))) (hF:∀ w,st.ext w→w.cell? ⟨bl,j,none⟩=some v):Yields P N av bor w0 st (.load t x) ty v:=Sy.Yields.mk fun B w ok d pos af g=>by
 simp [execOp,ok.eval hx,Instr.loadAt,Instr.sureAddr,loadVar,(bO h.out w).1,hF w ok.gam.keep.now]
end
end Sy
def CelD (b:Nat) (cs:List Value) (w:World):Prop:=∀ j v,cs[j]?=some v→w.cell? ⟨b,j,none⟩=some v
theorem fd {b T:Nat} {cs:List Value} {w:World} (h:(cel b T cs).F w):CelD b cs w:=fun j v hj=>by
 have h1:w.heap[b]?=some (.cells cs.toArray T (0,0)):=h
 simp [World.cell?,h1,hj]
theorem BJ (b b1:Nat) (h:BldH) (sa sk:Xl) (st:Eb) (pl:List (ByteArray×Value)) (hp:PlOk pl st.acts) (d:ByteArray) :
  Pu prog 118 #[.string d,.pointer (some ⟨b1,0,none⟩)] (fun w=>CelD b1 [.pointer (some ⟨b,0,none⟩)] w∧CelD b (bldC h sa sk st.prev (st.gen:Nat)) w∧MapAt w h.q2 pl) (idxP (idxV st.acts d)):=by
 refine aw func118 ntmps118 fun av bor w0=>?_
 have hlk:=hp d
 cases hj:idxV st.acts d with
 | none =>
  rw [hj] at hlk
  repeat' (first|refine gs ?_|(refine ak (fo rfl (fun w h=>h.1 0 _ rfl)) rfl rfl rfl ?_)|(refine ak (fo rfl (fun w h=>h.2.1 9 _ rfl)) rfl rfl rfl ?_)|(refine bZ (κ:=ByteArray) (kk:=d) (b:=false) (v:=.int .i64 0) (hl:=lj fun w h=>h.2.2) (ho:=hlk) ?_)|fail)
  exact ab (fU rfl rfl rfl) rfl
 | some j =>
  rw [hj] at hlk
  repeat' (first|refine gs ?_|(refine ak (fo rfl (fun w h=>h.1 0 _ rfl)) rfl rfl rfl ?_)|(refine ak (fo rfl (fun w h=>h.2.1 9 _ rfl)) rfl rfl rfl ?_)|(refine bZ (κ:=ByteArray) (kk:=d) (b:=true) (v:=.int .i64 (j:Nat)) (hl:=lj fun w h=>h.2.2) (ho:=hlk) ?_)|fail)
  exact ab (fU rfl rfl rfl) rfl
end Go.Proofs.YtaolfiikahlmkaaGreatDoor
namespace Go.Proofs.YtaolfiikahlmkaaGreatDoor
open Go Go.Proofs Sy Tryz
structure Ef where
 rank:Int
 dg:ByteArray
 a:Xa
def Ef.cells (f:Ef):List Value:=.int .i64 f.rank::.string f.dg::f.a.cells
def fndR (s:Xl) (P:List Ef):Xm:=orow 243 22 (.slice s.p s.n s.c) s.n (P.map Ef.cells).flatten
theorem DK (P:List Ef):∀ r∈P.map Ef.cells,r.length=22:=fun r hr=>by
 obtain ⟨c,_,rfl⟩:=QJ.1 hr
 rfl
def cmpA:Value:=.func (.func 184) #[] #[]
def PermA (s:Xl) (P:List Ef) (u:Value) (R:List Xm) (X:World→Prop):Prop:=u=.tuple #[]∧∃ Q:List Ef,Q.Perm P∧R=[fndR s Q]
def SortA (n:Nat):Prop:=∀ (s:Xl) (P:List Ef),s.n=P.length→P.length≤n→Ct prog 183 #[s.v,cmpA] [fndR s P] (fun _=>True) (PermA s P)
theorem cT {P:Program} {fn:Func} {N t u u2 ty n:Nat} {s:St} {b T:Nat} {cs:List Value} {x y:Value} [hI:Xv P ty n] (hr:fn.results=#[.cell t ty,.tmp u,.tmp u2]) (h:Sy.look s.env t=some (.pointer (some ⟨b,0,none⟩))) (h':Sy.look s.env u=some x) (h2':Sy.look s.env u2=some y) (hm:cel b T cs∈s.loc) (hn:cs.length=n) :
  Res1 P fn N s (.tuple #[.agg cs.toArray,x,y]):=fun av bor w0 a w ok=>by
 obtain ⟨D,h1,h2,h3⟩:=dk hI.out
 have ht:=ok.env t _ h
 have hu:=ok.env u _ h'
 have hu2:=ok.env u2 _ h2'
 have:(loadVar ty ⟨b,0,none⟩).run P w=.ok (.agg cs.toArray) w:=by
  cases D<;>simp at h2
  · exact run_loadVar_row w b T ty cs.toArray (0,0) _ (fK ok hm) h1 rfl (by rw [h3];simp [hn])
  · exact run_loadVar_row w b T ty cs.toArray (0,0) _ (fK ok hm) h1 rfl (by rw [h3];simp [hn])
 simp [results,hr,ht,hu,hu2,asAddr,this]
def wantA (au:ByteArray) (it:Xe):Bool:=decide (it.kind=0)&&seqB it.act.author au
theorem yF (bW:Nat) (au:ByteArray) (it:Xe):Pu prog 110 #[it.v,.pointer (some ⟨bW,0,none⟩)] (CelD bW [.string au]) (.tuple #[it.act.v,.int .i64 it.act.seq,.bool (wantA au it)]):=by
 refine aw func110 ntmps110 fun av bor w0=>?_
 repeat' (first|refine gs ?_|refine gs1 fun _=>?_|fail)
 rename_i b2 b3
 by_cases h0:it.kind=0
 · (refine aq ⟨[0,1,2,3,4,5,6,7,8,9,10,11,12,13,14],[(15,⟨[16,17],[]⟩)]⟩ [cel b2 60 it.cells] (CelD bW [.string au]) (h:=?_))
   all_goals repeat' (first|refine ax (hsub:=by exact aI) (hy:=by (apply fG true;rfl;rfl;exact Zd h0)) ?_|refine gdz ?_|refine ax (hsub:=by exact aI) (hy:=by first|(apply cg (vs:=it.act.cells);rfl;exact .head _;rfl;rfl)|(apply fo;rfl;exact (fun w h=>h 0 _ rfl))) ?_|refine aA ?_ (h':=?_)|exact aB|fail)
   all_goals
    repeat' (first|refine gs ?_|fail)
    exact ab (cT rfl rfl rfl rfl (.head _) rfl) (by rw [wantA,Zd h0];rfl)
 · (refine aq ⟨[0,1,2,3,4,5,6,7,8,9,10,11,12,13,14],[(15,⟨[16,17],[]⟩)]⟩ [cel b2 60 it.cells] (CelD bW [.string au]) (h:=?_))
   all_goals repeat' (first|refine ax (hsub:=by exact aI) (hy:=by (apply fG false;rfl;rfl;exact Zc h0)) ?_|refine gdz ?_|refine ax (hsub:=by exact aI) (hy:=by (apply cg (vs:=it.act.cells);rfl;exact .head _;rfl;rfl)) ?_|refine aA ?_ (h':=?_)|exact aB|fail)
   all_goals
    repeat' (first|refine gs ?_|fail)
    exact ab (cT rfl rfl rfl rfl (.head _) rfl) (by rw [wantA,Zc h0];rfl)
def fndOf (dI:Xe→ByteArray) (it:Xe):Ef:=⟨it.act.seq,dI it,it.act⟩
def selB (au:ByteArray) (rI:Xe→Bool) (it:Xe):Bool:=wantA au it&&rI it
def selF (au:ByteArray) (rI:Xe→Bool) (dI:Xe→ByteArray) (I:List Xe):List Ef:=(I.filter (selB au rI)).map (fndOf dI)
def selA (au:ByteArray) (rI:Xe→Bool) (I:List Xe):List Xa:=(I.filter (selB au rI)).map Xe.act
theorem Fm (au:ByteArray) (rI:Xe→Bool) (dI:Xe→ByteArray) (I:List Xe):(selF au rI dI I).map Ef.a=selA au rI I:=by rw [selF,selA,Z0];rfl
structure PikI (I:List Xe) (au:ByteArray) (rI:Xe→Bool) (dI:Xe→ByteArray) where
 k:Nat
 hk:k≤I.length
 A:Option Addr
 c:Nat
 n:Nat
 hn:n=(selF au rI dI (I.take k)).length
 xs:List Value
 hxs:xs=((selF au rI dI (I.take k)).map Ef.cells).flatten
structure ValI (Q:List Ef) where
 k:Nat
 hk:k≤Q.length
 A:Option Addr
 c:Nat
 xs:List Value
 hxs:xs=((Q.take k).map fun f=>f.a.cells).flatten
def wantV (bW:Nat):Value:=.func (.func 110) #[] #[.pointer (some ⟨bW,0,none⟩)]
theorem Ax (ks ki:Xl) (I:List Xe) (bW:Nat) (au:ByteArray) (rI:Xe→Bool) (dI:Xe→ByteArray)
  (hR:∀ it∈I,Pu prog 73 #[it.v] (fun w=>it.at_ w) (.bool (rI it)))
  (hD:∀ it∈I,Pu prog 18 #[it.v] (fun w=>it.at_ w∧Xi w) (.string (dI it)))
  (hI:I.length≤1000) (hsort:SortA I.length) :
  Mk prog 109 #[.agg #[ks.v,ki.v],wantV bW] (fun w=>(Items w ki I∧CelD bW [.string au] w)∧Xi w)
   (fun u X'=>∃ (s:Xl) (L:List Xa),u=s.v∧L.Perm (selA au rI I)∧∀ w,X' w→Acts w s L):=by
 refine dE func109 ntmps109 fun av bor w0=>?_
 refine aR (p:=ki.n=I.length∧ki.n≤maxLen∧(0<I.length→ki.p.isSome=true)) (fun w h=>⟨h.1.1.len_,h.1.1.max_,h.1.1.some_⟩) fun ⟨hkn,hkm,hkp⟩=>?_
 simp only [maxLen] at hkm
 repeat' (first|refine gs ?_|refine gs1 fun _=>?_|fail)
 rename_i b2
 refine cD 243 22 ?_
 refine ao (ι:=PikI I au rI dI) (fun i=>⟨[(1,wantV bW),(5,.slice i.A i.n i.c),(15,ki.v),(16,.int .i64 (ki.n:Nat)),(17,.int .i64 (i.k:Nat))],[orow 243 22 (.slice i.A i.n i.c) i.n i.xs],fun w=>(Items w ki I∧CelD bW [.string au] w)∧Xi w⟩) (fun i=>I.length-i.k) ⟨0,Z4 _,none,0,0,rfl,[],rfl⟩ (ai al (.cons_cons _ (Zu _)) fun _ h=>h) fun i=>?_
 obtain ⟨k,hk,A,c,n,hn,xs,hxs⟩:=i
 simp only
 repeat' (first|refine gs ?_|(refine gp ?_ ?_<;>intro hx_ this)|fail)
 · have hlt:k<I.length:=by omega
   have hkp':=hkp aa
   obtain ⟨it,hit⟩:∃ it,I[k]?=some it:=⟨_,Zb hlt⟩
   have him:=Z6 hit
   have hnl:n≤1000:=by
    rw [hn,selF,ZF]
    exact ZY (Qa _ _) (by rw [Qi];omega)
   repeat' (first|refine gs ?_|refine gs1 fun _=>?_|(refine aD (q:=k*49) ?_)|(refine aM (cs:=it.cells) (hF:=fun w h=>h.1.1.get hit) ?_)|fail)
   rename_i b7
   have hri:=hR it him
   have hdi:=hD it him
   have hwa:=yF bW au it
   have htk:selF au rI dI (I.take (k+1))=selF au rI dI (I.take k)++(bif selB au rI it then [fndOf dI it] else []):=by
    rw [selF,selF,Qg,hit,Qv,ZW,Qu]
    congr 1
    cases hb:selB au rI it with
    | true=>simp [hb]
    | false=>simp [hb]
   cases hwt:wantA au it with
   | false =>
    rw [hwt] at hwa
    have hno:selF au rI dI (I.take (k+1))=selF au rI dI (I.take k):=by rw [htk,selB,hwt];exact ZJ _
    refine eV (args:=[it.v]) (all:=[it.v,.pointer (some ⟨bW,0,none⟩)]) (first:=#[]) (caps:=#[.pointer (some ⟨bW,0,none⟩)]) (hx:=rfl) (ha:=rfl) (hall:=rfl) (hc:=hwa) (hX:=fun w h=>h.1.2) (h:=?_)
    repeat' (first|refine gs ?_|refine gs1 fun _=>?_|fail)
    exact ⟨(⟨k+1,hlt,A,c,n,by rw [hno];exact hn,xs,by rw [hno];exact hxs⟩:PikI I au rI dI),(by show I.length-(k+1)<I.length-k;omega),ai al (.cons _ (.cons _ (aj _))) fun _ h=>h⟩
   | true =>
    rw [hwt] at hwa
    cases hrt:rI it with
    | false =>
     rw [hrt] at hri
     have hno:selF au rI dI (I.take (k+1))=selF au rI dI (I.take k):=by rw [htk,selB,hwt,hrt];exact ZJ _
     refine eV (args:=[it.v]) (all:=[it.v,.pointer (some ⟨bW,0,none⟩)]) (first:=#[]) (caps:=#[.pointer (some ⟨bW,0,none⟩)]) (hx:=rfl) (ha:=rfl) (hall:=rfl) (hc:=hwa) (hX:=fun w h=>h.1.2) (h:=?_)
     repeat' (first|(refine ag (hc:=hri) (hX:=fun w h=>h.1.1.2 it him) ?_)|refine gs ?_|refine gs1 fun _=>?_|fail)
     exact ⟨(⟨k+1,hlt,A,c,n,by rw [hno];exact hn,xs,by rw [hno];exact hxs⟩:PikI I au rI dI),(by show I.length-(k+1)<I.length-k;omega),ai al (.cons _ (.cons _ (aj _))) fun _ h=>h⟩
    | true =>
     rw [hrt] at hri
     have hyes:selF au rI dI (I.take (k+1))=selF au rI dI (I.take k)++[fndOf dI it]:=by rw [htk,selB,hwt,hrt];rfl
     refine eV (args:=[it.v]) (all:=[it.v,.pointer (some ⟨bW,0,none⟩)]) (first:=#[]) (caps:=#[.pointer (some ⟨bW,0,none⟩)]) (hx:=rfl) (ha:=rfl) (hall:=rfl) (hc:=hwa) (hX:=fun w h=>h.1.2) (h:=?_)
     repeat' (first|(refine ag (hc:=hri) (hX:=fun w h=>h.1.1.2 it him) ?_)|refine gs ?_|refine gs1 fun _=>?_|fail)
     rename_i b8
     (refine aq ⟨[0,1,2,4],[(3,⟨[5],[(6,⟨[],[(7,⟨[8],[]⟩)]⟩)]⟩)]⟩ [cel b8 46 it.act.cells,cel b7 60 it.cells] (fun w=>(Items w ki I∧CelD bW [.string au] w)∧Xi w) (h:=?_))
     all_goals repeat' (first|(refine ag (hc:=hdi) (hX:=fun w h=>⟨h.1.1.2 it him,h.2⟩) ?_)|refine gdz ?_|refine ax (hsub:=by exact aI) (hy:=by (apply dv (cs:=(fndOf dI it).cells);rfl;rfl)) ?_|refine aA ?_ (h':=?_)|exact aB|refine cA (size:=22) (vs:=[.agg (fndOf dI it).cells.toArray]) (css:=(fndOf dI it).cells) (hsz:=by rfl) (hcs:=by rfl) fun _=>?_|(refine iF ?_;refine aJ (size:=22) (news:=(fndOf dI it).cells) (q:=1) rfl rfl rfl rfl (fun _=>At.there _ (At.there _ (At.there _ (At.here _)))) (fun w G=>bA G am rfl rfl 1) aa (by simp only [maxLen];omega) rfl ?_ rfl ?_;(with_reducible rfl);intro A2 c2)|fail)
     all_goals
      repeat' (first|refine gs ?_|fail)
      exact ⟨(⟨k+1,hlt,A2,c2,n+1,by rw [hyes,ZA,←hn];rfl,xs++(fndOf dI it).cells,by rw [hyes,hxs];simp⟩:PikI I au rI dI),(by show I.length-(k+1)<I.length-k;omega),ai al (.cons _ (.cons _ (.cons _ (aj _)))) fun _ h=>h⟩
 have hkE:k=I.length:=by omega
 rw [hkE,Qh] at hn hxs
 obtain ⟨P,hP⟩:∃ P,selF au rI dI I=P:=⟨_,rfl⟩
 rw [hP] at hn hxs
 have hPl:P.length≤I.length:=by rw [←hP,selF,ZF];exact Qa _ _
 subst hxs
 refine bN (pre:=[fndR ⟨A,n,c⟩ P]) (fr:=[]) (first:=#[]) (caps:=#[]) (hc:=hsort ⟨A,n,c⟩ P hn hPl) (hX:=fun _ _=>trivial) (h:=?_)
 rintro v R X' ⟨rfl,Q,hQ,rfl⟩
 have hQl:Q.length=n:=hQ.length_eq.trans hn.symm
 have hnI:n≤1000:=by omega
 refine cH (X':=fun w=>(Items w ki I∧CelD bW [.string au] w)∧Xi w) (fun w h=>h.1) ?_
 repeat' (first|refine gs ?_|(refine iU (c:=n) (hm:=Nat.ble_eq_true_of_le aa) (hm2:=Nat.ble_eq_true_of_le aa) fun bv=>?_)|fail)
 refine bP (r:=fndR ⟨A,n,c⟩ Q) aQ (p:=0<n→A.isSome=true) (fun w h h0=>bF h h0) fun hAp=>?_
 refine ao (ι:=ValI Q) (fun i=>⟨[(11,.slice i.A i.k i.c),(47,.slice A n c),(48,.int .i64 (n:Nat)),(49,.int .i64 (i.k:Nat))],[orow 46 20 (.slice i.A i.k i.c) i.k i.xs,fndR ⟨A,n,c⟩ Q],fun w=>(Items w ki I∧CelD bW [.string au] w)∧Xi w⟩) (fun i=>Q.length-i.k) ⟨0,Z4 _,_,_,[],rfl⟩ (ai al (aj _) fun _ h=>h) fun i=>?_
 obtain ⟨k2,hk2,A2,c2,xs2,hxs2⟩:=i
 simp only
 repeat' (first|refine gs ?_|(refine gp ?_ ?_<;>intro hx_ this)|fail)
 · have hlt:k2<Q.length:=by omega
   have hAp':=hAp aa
   obtain ⟨f,hf⟩:∃ f,Q[k2]?=some f:=⟨_,Zb hlt⟩
   repeat' (first|refine cA (size:=20) (vs:=[f.a.v]) (css:=f.a.cells) (hsz:=by rfl) (hcs:=by rfl) fun _=>?_|refine gs ?_|refine gs1 fun _=>?_|(refine aD (q:=k2*22) ?_)|(refine ak (gb (size:=22) (m:=n) (i:=k2) (xs:=Q.map Ef.cells) (cs:=f.cells) rfl (.tail _ (.head _)) (by rw [ZF];exact hQl.symm) (DK Q) (by simp [hf])) rfl rfl rfl ?_)|(refine aC (vs:=f.a.cells) (hv:=rfl) ?_)|fail)
   refine aJ (size:=20) (news:=f.a.cells) (q:=1) rfl rfl rfl rfl (fun _=>At.there _ (At.there _ (At.here _))) (fun w G=>bA G am rfl rfl 1) aa (by simp only [maxLen];omega) rfl ?_ rfl ?_
   · (with_reducible rfl)
   intro A3 c3
   repeat' (first|refine gs ?_|fail)
   exact ⟨(⟨k2+1,hlt,A3,c3,xs2++f.a.cells,by rw [Qg,hf,hxs2];simp⟩:ValI Q),(by show Q.length-(k2+1)<Q.length-k2;omega),ai al (.cons _ (.cons _ (aj _))) fun _ h=>h⟩
 have hk2E:k2=Q.length:=by omega
 rw [hk2E,Qh] at hxs2
 have hLp:(Q.map Ef.a).Perm (selA au rI I):=by rw [←Fm au rI dI I,hP];exact hQ.map _
 refine ab (ae rfl rfl) ⟨⟨A2,k2,c2⟩,Q.map Ef.a,rfl,hLp,fun w h=>?_⟩
 have hr:=h.2 (orow 46 20 (.slice A2 k2 c2) k2 xs2) (.head _)
 refine ff (l:=Q.map Ef.a) (by rw [Z0];rw [hxs2] at hr;exact hr) (by rw [ZF];exact hk2E) fun a ha=>?_
 have ha2:=hLp.subset ha
 rw [selA] at ha2
 obtain ⟨it,hit,rfl⟩:=QJ.1 ha2
 exact (h.1.1.1.2 it (QN.1 hit).1).1
theorem p7 (ks ki:Xl) (I:List Xe) (au:ByteArray) (rI:Xe→Bool) (dI:Xe→ByteArray)
  (hR:∀ it∈I,Pu prog 73 #[it.v] (fun w=>it.at_ w) (.bool (rI it)))
  (hD:∀ it∈I,Pu prog 18 #[it.v] (fun w=>it.at_ w∧Xi w) (.string (dI it)))
  (hI:I.length≤1000) (hsort:SortA I.length) :
  Mk prog 62 #[.agg #[ks.v,ki.v],.string au] (fun w=>Items w ki I∧Xi w)
   (fun u X'=>∃ (s:Xl) (L:List Xa),u=s.v∧L.Perm (selA au rI I)∧∀ w,X' w→Acts w s L):=by
 refine dE func62 ntmps62 fun av bor w0=>?_
 repeat' (first|refine gs ?_|refine gs1 fun _=>?_|(refine ea ?_)|fail)
 rename_i b2 b3
 refine bI ?_
 refine cd (hc:=Ax ks ki I b3 au rI dI hR hD hI hsort) (hX:=fun w h=>⟨⟨h.1.1,fd h.2⟩,h.1.2⟩) fun v X1 h1=>?_
 obtain ⟨s,L,rfl,hL,hw⟩:=h1
 repeat' (first|refine gs ?_|fail)
 exact ab (ae rfl rfl) ⟨s,L,rfl,hL,fun w h=>hw w h.1.2⟩
structure Xp where
 rank:Int
 dg:ByteArray
 a:Xg
def Xp.cells (f:Xp):List Value:=.int .i64 f.rank::.string f.dg::f.a.cells
theorem Br (P:List Xp):∀ r∈P.map Xp.cells,r.length=11:=fun r hr=>by
 obtain ⟨c,_,rfl⟩:=QJ.1 hr
 rfl
end Go.Proofs.YtaolfiikahlmkaaGreatDoor
namespace Go.Proofs.YtaolfiikahlmkaaGreatDoor
open Go Go.Proofs Sy SrG Tryz
namespace SrC
theorem cellsF (P:List Xp):∀ r∈P.map Xp.cells,r.length=11:=fun r hr=>by
 obtain ⟨c,_,rfl⟩:=QJ.1 hr
 rfl
abbrev postR (s:Xl) (P:List Xp):Xm:=orow 304 11 (.slice s.p s.n s.c) s.n (P.map Xp.cells).flatten
theorem cv:∀ (L:List Xp) (p:Nat) (x:Xp),p<L.length→(L.map Xp.cells).flatten.take (p*11)++x.cells++(L.map Xp.cells).flatten.drop (p*11+11)=((L.set p x).map Xp.cells).flatten
 | [],p,x,h=>absurd h (by simp)
 | c::L,0,x,h=>by
  have h6:c.cells.length=11:=rfl
  rw [List.set_cons_zero,Z1,Z1,Qb,Qb,Nat.zero_mul,ZU,List.take_zero,ZL,List.drop_append,h6,Qw (by omega)]
  rfl
 | c::L,p+1,x,h=>by
  have h6:c.cells.length=11:=rfl
  have ih:=cv L p x (by simpa using h)
  rw [List.set_cons_succ,Z1,Z1,Qb,Qb,←ih,List.take_append,List.drop_append,h6,Qf aa,Qw aa,
   show (p+1)*11-11=p*11 from by omega,show (p+1)*11+11-11=p*11+11 from by omega,ZL,ZC,ZC,ZC]
theorem cL {P:List Xp} {i j:Nat} {x y:Xp} (hi:P[i]?=some x) (hj:P[j]?=some y):((P.set i y).set j x).Perm P:=by
 obtain ⟨h1,rfl⟩:=QL.1 hi
 obtain ⟨h2,rfl⟩:=QL.1 hj
 exact List.set_set_perm h1 h2
section
variable {N:Nat} {av bor:List Nat} {w0:World} {st:St} {ty:TypeId} {x y:Operand} {E:Env} {loc:List Xm} {X:World→Prop} {ops:Array Oper} {kk:St→Prop} {pos:String} {af:Array Edge} {g:Option (Nat×Bool)} {rest:List Oper} {bb want:Bool}
theorem br {A:Option Addr} {m c i:Nat} {P:List Xp} {p:Xp} (hx:ev st.env x=some (elP A (i*11))) (hm:orow 304 11 (.slice A m c) m (P.map Xp.cells).flatten∈st.loc) (hn:m=P.length) (hi:P[i]?=some p) :
  Sy.Yields prog N av bor w0 st (.load 304 x) ty (.agg p.cells.toArray):=gb (xs:=P.map Xp.cells) (cs:=p.cells) hx hm (by simp [hn]) (cellsF P) (by simp [hi])
theorem bV {d:Option Tmp} {loc':List Xm} {A:Option Addr} {m c i:Nat} {P:List Xp} {p:Xp} (hx:ev E x=some (elP A (i*11)):=by rfl) (hy:ev E y=some (.agg p.cells.toArray):=by rfl) (hi:i<m:=by omega) (hn:m=P.length)
  (hA:At (orow 304 11 (.slice A m c) m (P.map Xp.cells).flatten) (orow 304 11 (.slice A m c) m ((P.set i p).map Xp.cells).flatten) loc loc':=by (repeat (first|exact At.here _|apply At.there))) (hg:gdB ops E g=some (bb,want):=by rfl) (hb:bb=want:=by exact ar) (hd:inB N d=true:=by rfl)
  (h:Sw prog N av bor w0 ops rest ⟨putE E d undef,loc',X⟩ kk):Sw prog N av bor w0 ops (⟨d,.store 304 x y,ty,pos,af,g⟩::rest) ⟨E,loc,X⟩ kk :=
 mq (i:=i) (size:=11) (vs:=p.cells) ac hx hy rfl rfl rfl hi (cv P i p aa) hA hg hb hd h
end
def PermAt (s:Xl) (P:List Xp) (u:Value) (R:List Xm) (X:World→Prop):Prop:=u=.tuple #[]∧∃ Q:List Xp,Q.Perm P∧R=[postR s Q]
structure PermI (P:List Xp) (n:Nat) where
 k:Nat
 hk:k≤n
 Q:List Xp
 hQ:Q.Perm P
theorem bL (s:Xl) (P:List Xp) (a b n:Nat) (fv:Value) (hs:s.n=P.length) (hm:s.n≤1000000) (ha:a+n≤s.n) (hb:b+n≤s.n) :
  Ct prog 322 #[s.v,.int .i64 (a:Nat),.int .i64 (b:Nat),.int .i64 (n:Nat),fv] [postR s P] (fun _=>True) (PermAt s P):=by
 refine cF func322 ntmps322 fun av bor w0=>?_
 refine bP (r:=postR s P) am (p:=0<s.n→s.p.isSome=true) (fun w h hn=>bF h hn) fun hp=>?_
 repeat' (first|refine gs ?_|fail)
 refine ao (ι:=PermI P n) (fun i=>⟨[(0,s.v),(1,.int .i64 (a:Nat)),(2,.int .i64 (b:Nat)),(3,.int .i64 (n:Nat)),(10,.int .i64 (i.k:Nat))],[postR s i.Q],fun _=>True⟩) (fun i=>n-i.k) ⟨0,Z4 _,P,Qn _⟩ (ai al (aj _) fun _ h=>h) fun i=>?_
 obtain ⟨k,hk,Q,hQ⟩:=i
 simp only
 have hl:=hQ.length_eq
 repeat' (first|refine gs ?_|(refine gp ?_ ?_<;>intro hx_ this)|fail)
 · have hlt:k<n:=by omega
   have hp':=hp aa
   obtain ⟨x,hx⟩:∃ x,Q[a+k]?=some x:=⟨_,Zb aa⟩
   obtain ⟨y,hy⟩:∃ y,Q[b+k]?=some y:=⟨_,Zb aa⟩
   (refine aq ⟨[0,1,2,3,4,5,6,7,8,9,10,11,12,14,15,16,17,18],[(13,⟨[],[(19,⟨[20],[(21,⟨[22],[(23,⟨[],[]⟩)]⟩)]⟩)]⟩),(19,⟨[],[(13,⟨[20],[(21,⟨[22],[(23,⟨[],[]⟩)]⟩)]⟩)]⟩)]⟩ [] (fun _=>True) (h:=?_))
   all_goals repeat' (first|refine gd ?_|refine ax (hy:=by first|(apply ay (q:=(a+k)*11);rfl;rfl;omega;omega;assumption;(rfl))|(apply ay (q:=(b+k)*11);rfl;rfl;omega;omega;assumption;(rfl))) ?_|refine aA ?_ (h':=?_)|exact aB|(refine ak (br (i:=a+k) (P:=Q) rfl am aa hx) rfl rfl rfl ?_)|(refine ak (br (i:=b+k) (P:=Q) rfl am aa hy) rfl rfl rfl ?_)|((refine bV (i:=a+k) (p:=y) rfl rfl aa (by first|omega|(simp only [Z9];omega)) (At.here _) rfl ar rfl ?_))|((refine bV (i:=b+k) (p:=x) rfl rfl aa (by (simp only [Z9];omega)) (At.here _) rfl ar rfl ?_))|fail)
   all_goals
    repeat' (first|refine gs ?_|fail)
    exact ⟨(⟨k+1,hlt,(Q.set (a+k) y).set (b+k) x,(cL hx hy).trans hQ⟩:PermI P n),(by show n-(k+1)<n-k;omega),ai al (aj _) fun _ h=>h⟩
 · exact aN (aF rfl) ⟨rfl,Q,hQ,rfl⟩
section
variable {N:Nat} {av bor:List Nat} {w0:World} {ops:Array Oper} {rest:List Oper} {k:St→Prop} {E:Env} {X:World→Prop} {d:Option Tmp} {ty:TypeId} {pos:String} {af:Array Edge} {g:Option (Nat×Bool)} {bb want:Bool}
theorem bS {x:Operand} {xs:List Operand} {ats:Array TypeId} {f:FuncId} {args:List Value} {s:Xl} {Q:List Xp}
  (hx:ev E x=some (.func (.func f) #[] #[]):=by rfl) (ha:evs E xs=some args:=by rfl) (hg:gdB ops E g=some (bb,want):=by rfl) (hb:bb=want:=by exact ar) (hd:inB N d=true:=by rfl) (hf:Xc prog f:=by infer_instance)
  (hc:Ct prog f args.toArray [postR s Q] (fun _=>True) (PermAt s Q))
  (h:∀ Q':List Xp,Q'.Perm Q→Sw prog N av bor w0 ops rest ⟨putE E d (.tuple #[]),[postR s Q'],X⟩ k) :
  Sw prog N av bor w0 ops (⟨d,.call ⟨.value x,xs.toArray,ats⟩,ty,pos,af,g⟩::rest) ⟨E,[postR s Q],X⟩ k :=
 bN (pre:=[postR s Q]) (fr:=[]) (first:=#[]) (caps:=#[]) (Post:=PermAt s Q) hx ha rfl hg hb hd hf (by simpa using hc) (fun _ _=>trivial) fun u R X' ⟨h1,Q',h2,h3⟩=>by
  subst h1
  subst h3
  refine iq (fun a w ok=>?_) (h Q' h2)
  exact ok.via fun M G=>G.imp fun _ h=>h.1
end
structure RotI (P:List Xp) (p q:Nat) where
 i:Nat
 j:Nat
 h1:1≤i
 h2:i≤p
 h3:1≤j
 h4:j≤q
 Q:List Xp
 hQ:Q.Perm P
theorem eJ (s:Xl) (P:List Xp) (a m b:Nat) (fv:Value) (hs:s.n=P.length) (hm:s.n≤1000000) (ha:a<m) (hb:m<b) (hbs:b≤s.n) :
  Ct prog 319 #[s.v,.int .i64 (a:Nat),.int .i64 (m:Nat),.int .i64 (b:Nat),fv] [postR s P] (fun _=>True) (PermAt s P):=by
 refine cF func319 ntmps319 fun av bor w0=>?_
 repeat' (first|refine aX (hq:=by omega) ?_|refine gs ?_|fail)
 refine ao (ι:=RotI P (m-a) (b-m)) (fun r=>⟨[(0,s.v),(2,.int .i64 (m:Nat)),(4,fv),(10,.int .i64 (r.i:Nat)),(11,.int .i64 (r.j:Nat))],[postR s r.Q],fun _=>True⟩) (fun r=>r.i+r.j) ⟨m-a,b-m,by omega,by omega,by omega,by omega,P,Qn _⟩ (ai al (aj _) fun _ h=>h) fun r=>?_
 obtain ⟨i,j,h1,h2,h3,h4,Q,hQ⟩:=r
 simp only
 have hl:=hQ.length_eq
 by_cases hij:i=j
 · repeat' (first|refine eX ?_|refine aX (hq:=by omega) ?_|refine gs ?_|(refine bS (hc:=bL s Q (m-i) m i fv aa hm aa aa) (h:=fun Q2 hQ2=>?_))|fail)
   exact aN (aF rfl) ⟨rfl,Q2,hQ2.trans hQ,rfl⟩
 · repeat' (first|refine aX (hq:=by omega) ?_|refine aL (hq:=by omega) ?_|refine gs ?_|(refine bS (hc:=bL s Q (m-i) m j fv aa hm aa aa) (h:=fun Q2 hQ2=>?_))|(refine bS (hc:=bL s Q (m-i) (m+j-i) i fv aa hm aa aa) (h:=fun Q2 hQ2=>?_))|(refine gp ?_ ?_<;>intro hx_ this)|fail)
   · exact ⟨(⟨i-j,j,by omega,by omega,h3,h4,Q2,hQ2.trans hQ⟩:RotI P (m-a) (b-m)),(by show i-j+j<i+j;omega),ai al (aj _) fun _ h=>h⟩
   · exact ⟨(⟨i,j-i,h1,h2,by omega,by omega,Q2,hQ2.trans hQ⟩:RotI P (m-a) (b-m)),(by show i+(j-i)<i+j;omega),ai al (aj _) fun _ h=>h⟩
   · have h9:(i:Int)=(j:Int):=by simpa using hx_
     exact absurd (show i=j by omega) hij
def cmpX (x y:Xp):Int:=cmp2 x.rank y.rank x.dg y.dg
theorem dj (x y:Xp):Pu prog 285 #[.agg x.cells.toArray,.agg y.cells.toArray] (fun _=>True) (.int .i64 (cmpX x y)):=by
 refine aw func285 ntmps285 fun av bor w0=>?_
 have h1:=gV x.rank y.rank
 have h2:=gD x.dg y.dg
 rw [cmpX,cmp2]
 generalize cmpI x.rank y.rank=k at *
 generalize SrG.cmpB_g x.dg y.dg=l at *
 have h3:=fun s=>tR s k l
 repeat' (first|refine gs ?_|refine gs1 fun _=>?_|fail)
 rename_i b2 b3
 (refine aq ⟨[0,1,2,3,5,6,7,8],[(4,⟨[],[(9,⟨[],[(10,⟨[],[(11,⟨[12],[]⟩)]⟩)]⟩)]⟩)]⟩ [cel b3 304 y.cells,cel b2 304 x.cells] (fun _=>True) (h:=?_))
 all_goals repeat' (first|(refine ag (hc:=h1) ?_)|(refine ag (hc:=h2) ?_)|(refine ag (hc:=h3 ⟨some ⟨bs,0,none⟩,2,2⟩) (hX:=fun w h=>aV (xs:=[[.int .i64 k],[.int .i64 l]]) h.2 rfl (by decide) (by simp)) ?_)|refine gdz ?_|refine aA ?_ (h':=?_)|exact aB|((refine eD (len:=2) (vs:=[.int .i64 k,.int .i64 l]) fun bs=>?_;refine bI ?_))|fail)
 all_goals
  repeat' (first|refine gs ?_|fail)
  exact ab (ae rfl rfl) rfl
def cmpF:Value:=.func (.func 285) #[] #[]
def Srt (P:List Xp):Prop:=∀ (i j:Nat) (x y:Xp),i<j→P[i]?=some x→P[j]?=some y→¬ cmpX y x<0
def Rel (P Q:List Xp):Prop:=Q.Perm P∧(Srt P→Q=P)
theorem Rel.refl (P:List Xp):Rel P P:=⟨Qn _,fun _=>rfl⟩
theorem Rel.trans {P Q R:List Xp} (h:Rel P Q) (k:Rel Q R):Rel P R:=⟨k.1.trans h.1,fun hs=>by rw [k.2 (h.2 hs▸hs),h.2 hs]⟩
theorem Rel.swap {P Q:List Xp} (h:Rel P Q) {i j:Nat} {x y:Xp} (hi:Q[i]?=some x) (hj:Q[j]?=some y) (hno:Srt P→False):Rel P ((Q.set i y).set j x):=⟨(cL hi hj).trans h.1,fun hs=>(hno hs).elim⟩
theorem Rel.srt {P Q:List Xp} (h:Rel P Q) (hs:Srt P):Srt Q:=by rw [h.2 hs];exact hs
theorem Rel.perm {P Q Q':List Xp} (h:Rel P Q) (k:Q'.Perm Q) (hno:Srt P→False):Rel P Q':=⟨k.trans h.1,fun hs=>(hno hs).elim⟩
def RelAt (s:Xl) (P:List Xp) (u:Value) (R:List Xm) (X:World→Prop):Prop:=u=.tuple #[]∧∃ Q:List Xp,Rel P Q∧R=[postR s Q]
end SrC
namespace SrC
structure InsI (P:List Xp) (a b:Nat) where
 k:Nat
 h1:a+1≤k
 h2:k≤b∨k=a+1
 Q:List Xp
 hQ:Rel P Q
structure InsJ (P:List Xp) (a k:Nat) where
 j:Nat
 h1:a≤j
 h2:j≤k
 Q:List Xp
 hQ:Rel P Q
theorem cu (s:Xl) (P:List Xp) (a b:Nat) (hs:s.n=P.length) (hm:s.n≤1000000) (ha:a≤s.n) (hb:b≤s.n) :
  Ct prog 312 #[s.v,.int .i64 (a:Nat),.int .i64 (b:Nat),cmpF] [postR s P] (fun _=>True) (RelAt s P):=by
 refine cF func312 ntmps312 fun av bor w0=>?_
 refine bP (r:=postR s P) am (p:=0<s.n→s.p.isSome=true) (fun w h hn=>bF h hn) fun hp=>?_
 repeat' (first|refine aL (q:=1) (hq:=by omega) ?_|refine gs ?_|fail)
 refine ao (ι:=InsI P a b) (fun i=>⟨[(0,s.v),(1,.int .i64 (a:Nat)),(2,.int .i64 (b:Nat)),(3,cmpF),(8,.int .i64 (i.k:Nat))],[postR s i.Q],fun _=>True⟩) (fun i=>b-i.k) ⟨a+1,ZX _,.inr rfl,P,Rel.refl _⟩ (ai al (aj _) fun _ h=>h) fun i=>?_
 obtain ⟨k,h1,h2,Q,hQ⟩:=i
 simp only
 have hl:=hQ.1.length_eq
 repeat' (first|refine gs ?_|(refine gp ?_ ?_<;>intro hx_ this)|fail)
 · have hkb:k<b:=by omega
   refine ao (ι:=InsJ P a k) (fun i=>⟨[(0,s.v),(1,.int .i64 (a:Nat)),(2,.int .i64 (b:Nat)),(3,cmpF),(8,.int .i64 (k:Nat)),(9,.int .i64 (i.j:Nat))],[postR s i.Q],fun _=>True⟩) (fun i=>i.j) ⟨k,by omega,ZX _,Q,hQ⟩ (ai al (aj _) fun _ h=>h) fun i=>?_
   obtain ⟨j,h3,h4,Q2,hQ2⟩:=i
   simp only
   have hl2:=hQ2.1.length_eq
   have hp':=hp aa
   by_cases hja:a<j
   · obtain ⟨x,hx⟩:∃ x,Q2[j]?=some x:=⟨_,Zb aa⟩
     obtain ⟨y,hy⟩:∃ y,Q2[j-1]?=some y:=⟨_,Zb aa⟩
     have hcm:=dj x y
     have hsx:Srt P→¬ cmpX x y<0:=fun hs=>hQ2.srt hs (j-1) j y x aa hy hx
     generalize cmpX x y=z at *
     apply QS
     apply QS
     unfold cmpF
     (refine aq ⟨[0,1,2,3,4,5,6,7,9,10,11,12],[(8,⟨[],[(13,⟨[],[(14,⟨[15,16],[]⟩)]⟩)]⟩),(13,⟨[],[(8,⟨[],[(14,⟨[15,16],[]⟩)]⟩)]⟩)]⟩ [] (fun _=>True) (h:=?_))
     all_goals repeat' (first|refine ax (hy:=by (apply y_gtrT_g;rfl;rfl;omega)) ?_|(refine ag (hc:=hcm) ?_)|refine gd ?_|refine ax (hy:=by first|(apply ay (q:=j*11);rfl;rfl;omega;omega;assumption;(rfl))|(apply ay (q:=(j-1)*11);rfl;rfl;omega;omega;assumption;(omega))) ?_|refine aA ?_ (h':=?_)|exact aB|(refine ak (br (i:=j) (P:=Q2) rfl am aa hx) rfl rfl rfl ?_)|(refine ak (br (i:=j-1) (P:=Q2) rfl am aa hy) rfl rfl rfl ?_)|fail)
     all_goals
      repeat' (first|refine gs ?_|(refine gp ?_ ?_<;>intro hx_ this)|fail)
      · (refine aq ⟨[0,1,2,3,4,5,6,7,8,10,11,12],[(9,⟨[],[(13,⟨[14],[(15,⟨[16],[(17,⟨[],[]⟩)]⟩)]⟩)]⟩),(13,⟨[],[(9,⟨[14],[(15,⟨[16],[(17,⟨[],[]⟩)]⟩)]⟩)]⟩)]⟩ [] (fun _=>True) (h:=?_))
        all_goals repeat' (first|refine gd ?_|refine ax (hy:=by first|(apply ay (q:=j*11);rfl;rfl;omega;omega;assumption;(rfl))|(apply ay (q:=(j-1)*11);rfl;rfl;omega;omega;assumption;(omega))) ?_|refine aA ?_ (h':=?_)|exact aB|(refine ak (br (i:=j) (P:=Q2) rfl am aa hx) rfl rfl rfl ?_)|(refine ak (br (i:=j-1) (P:=Q2) rfl am aa hy) rfl rfl rfl ?_)|((refine bV (i:=j) (p:=y) rfl rfl aa (by first|omega|(simp only [Z9];omega)) (At.here _) rfl ar rfl ?_))|((refine bV (i:=j-1) (p:=x) rfl rfl aa (by (simp only [Z9];omega)) (At.here _) rfl ar rfl ?_))|fail)
        all_goals
         repeat' (first|refine aX (q:=1) (hq:=by omega) ?_|refine gs ?_|fail)
         exact ⟨(⟨j-1,by omega,by omega,(Q2.set j y).set (j-1) x,hQ2.swap hx hy (fun hs=>hsx hs (by assumption))⟩:InsJ P a k),(by show j-1<j;omega),ai al (aj _) fun _ h=>h⟩
      · repeat' (first|refine aL (q:=1) (hq:=by omega) ?_|fail)
        exact ⟨(⟨k+1,by omega,by omega,Q2,hQ2⟩:InsI P a b),(by show b-(k+1)<b-k;omega),ai al (aj _) fun _ h=>h⟩
   · apply QS
     apply QS
     unfold cmpF
     (refine aq ⟨[0,1,2,3,4,5,6,7,9,10,11,12],[(8,⟨[],[(13,⟨[],[(14,⟨[15,16],[]⟩)]⟩)]⟩),(13,⟨[],[(8,⟨[],[(14,⟨[15,16],[]⟩)]⟩)]⟩)]⟩ [] (fun _=>True) (h:=?_))
     all_goals repeat' (first|refine ax (hy:=by (apply y_gtrF_g;rfl;rfl;omega)) ?_|refine gd ?_|refine aA ?_ (h':=?_)|exact aB|fail)
     all_goals
      repeat' (first|refine aL (q:=1) (hq:=by omega) ?_|refine gs ?_|fail)
      exact ⟨(⟨k+1,by omega,by omega,Q2,hQ2⟩:InsI P a b),(by show b-(k+1)<b-k;omega),ai al (aj _) fun _ h=>h⟩
 · exact aN (aF rfl) ⟨rfl,Q,hQ,rfl⟩
section
variable {N:Nat} {av bor:List Nat} {w0:World} {ops:Array Oper} {rest:List Oper} {k:St→Prop} {E:Env} {X:World→Prop} {d:Option Tmp} {ty:TypeId} {pos:String} {af:Array Edge} {g:Option (Nat×Bool)} {bb want:Bool}
theorem gI {x:Operand} {xs:List Operand} {ats:Array TypeId} {f:FuncId} {args:List Value} {s:Xl} {Q:List Xp}
  (hx:ev E x=some (.func (.func f) #[] #[]):=by rfl) (ha:evs E xs=some args:=by rfl) (hg:gdB ops E g=some (bb,want):=by rfl) (hb:bb=want:=by exact ar) (hd:inB N d=true:=by rfl) (hf:Xc prog f:=by infer_instance)
  (hc:Ct prog f args.toArray [postR s Q] (fun _=>True) (RelAt s Q))
  (h:∀ Q':List Xp,Rel Q Q'→Sw prog N av bor w0 ops rest ⟨putE E d (.tuple #[]),[postR s Q'],X⟩ k) :
  Sw prog N av bor w0 ops (⟨d,.call ⟨.value x,xs.toArray,ats⟩,ty,pos,af,g⟩::rest) ⟨E,[postR s Q],X⟩ k :=
 bN (pre:=[postR s Q]) (fr:=[]) (first:=#[]) (caps:=#[]) (Post:=RelAt s Q) hx ha rfl hg hb hd hf (by simpa using hc) (fun _ _=>trivial) fun u R X' ⟨h1,Q',h2,h3⟩=>by
  subst h1
  subst h3
  refine iq (fun a w ok=>?_) (h Q' h2)
  exact ok.via fun M G=>G.imp fun _ h=>h.1
theorem cq {x:Operand} {xs:List Operand} {ats:Array TypeId} {f:FuncId} {args:List Value} {s:Xl} {P Q:List Xp} (hQ:Rel P Q)
  (hx:ev E x=some (.func (.func f) #[] #[]):=by rfl) (ha:evs E xs=some args:=by rfl) (hg:gdB ops E g=some (bb,want):=by rfl) (hb:bb=want:=by exact ar) (hd:inB N d=true:=by rfl) (hf:Xc prog f:=by infer_instance)
  (hc:∀ Q:List Xp,Rel P Q→Ct prog f args.toArray [postR s Q] (fun _=>True) (RelAt s Q))
  (h:∀ Q':List Xp,Rel P Q'→Sw prog N av bor w0 ops rest ⟨putE E d (.tuple #[]),[postR s Q'],X⟩ k) :
  Sw prog N av bor w0 ops (⟨d,.call ⟨.value x,xs.toArray,ats⟩,ty,pos,af,g⟩::rest) ⟨E,[postR s Q],X⟩ k:=gI hx ha hg hb hd hf (hc Q hQ) fun Q' h1=>h Q' (hQ.trans h1)
theorem iS {x:Operand} {xs:List Operand} {ats:Array TypeId} {f:FuncId} {args:List Value} {s:Xl} {P Q:List Xp} (hQ:Rel P Q) (hno:Srt P→False)
  (hx:ev E x=some (.func (.func f) #[] #[]):=by rfl) (ha:evs E xs=some args:=by rfl) (hg:gdB ops E g=some (bb,want):=by rfl) (hb:bb=want:=by exact ar) (hd:inB N d=true:=by rfl) (hf:Xc prog f:=by infer_instance)
  (hc:∀ Q:List Xp,Rel P Q→Ct prog f args.toArray [postR s Q] (fun _=>True) (PermAt s Q))
  (h:∀ Q':List Xp,Rel P Q'→Sw prog N av bor w0 ops rest ⟨putE E d (.tuple #[]),[postR s Q'],X⟩ k) :
  Sw prog N av bor w0 ops (⟨d,.call ⟨.value x,xs.toArray,ats⟩,ty,pos,af,g⟩::rest) ⟨E,[postR s Q],X⟩ k:=bS hx ha hg hb hd hf (hc Q hQ) fun Q' h1=>h Q' (hQ.perm h1 hno)
end
structure BinL (P:List Xp) (lo hi:Nat) extends BinI_g lo hi where
 hs:Srt P→i=lo
structure BinR (P:List Xp) (lo hi:Nat) extends BinI_g lo hi where
 hs:Srt P→j=hi
structure MerO (P:List Xp) (a m b mid:Nat) extends MerI_g a m b mid where
 hs:Srt P→j=(if mid<m then mid else m)
structure UpI (P:List Xp) (a:Nat) where
 k:Nat
 h1:a≤k
 Q:List Xp
 hQ:Rel P Q
structure DownI (P:List Xp) (i m:Nat) where
 k:Nat
 h1:i≤k
 h2:k≤m
 Q:List Xp
 hQ:Rel P Q
set_option maxRecDepth 20000 in
theorem bU:∀ (d:Nat) (s:Xl) (P:List Xp) (a m b:Nat),b-a≤d→s.n=P.length→s.n≤1000000→a<m→m<b→b≤s.n →
  Ct prog 313 #[s.v,.int .i64 (a:Nat),.int .i64 (m:Nat),.int .i64 (b:Nat),cmpF] [postR s P] (fun _=>True) (RelAt s P)
 | 0,s,P,a,m,b,hd,hs,hm,ha,hb,hbs=>absurd hd aa
 | d+1,s,P,a,m,b,hd,hs,hm,ha,hb,hbs=>by
  have ih:=bU d
  have hP:Rel P P:=Rel.refl P
  refine cF func313 ntmps313 fun av bor w0=>?_
  refine bP (r:=postR s P) am (p:=0<s.n→s.p.isSome=true) (fun w h hn=>bF h hn) fun hp=>?_
  have hp':=hp aa
  by_cases hA:m-a=1
  · repeat' (first|refine aX (hq:=by omega) ?_|refine aE ?_|refine gs ?_|fail)
    refine ao (ι:=BinL P m b) (fun r=>⟨[(0,s.v),(1,.int .i64 (a:Nat)),(4,cmpF),(10,.int .i64 (r.i:Nat)),(11,.int .i64 (r.j:Nat))],[postR s P],fun _=>True⟩) (fun r=>r.j-r.i) ⟨⟨m,b,by omega,by omega,by omega⟩,fun _=>rfl⟩ (ai al (aj _) fun _ h=>h) fun r=>?_
    obtain ⟨⟨i,j,h1,h2,h3⟩,hso⟩:=r
    simp only at hso
    simp only
    repeat' (first|refine aL (hq:=by omega) ?_|refine sy_toU_g (hq:=by omega) ?_|refine cR ?_|refine sy_toI_g (hq:=by omega) ?_|refine gs ?_|(refine gp ?_ ?_<;>intro hx_ this)|fail)
    · have hlt:i<j:=by omega
      obtain ⟨x,hx⟩:∃ x,P[(i+j)/2]?=some x:=⟨_,Zb aa⟩
      obtain ⟨y,hy⟩:∃ y,P[a]?=some y:=⟨_,Zb aa⟩
      have hcm:=dj x y
      have hsx:Srt P→¬ cmpX x y<0:=fun hs=>hs a ((i+j)/2) y x aa hy hx
      generalize cmpX x y=z at *
      unfold cmpF
      (refine aq ⟨[0,1,2,3,5,6,7],[(4,⟨[],[(8,⟨[],[(9,⟨[10],[]⟩)]⟩)]⟩),(8,⟨[],[(4,⟨[],[(9,⟨[10],[]⟩)]⟩)]⟩)]⟩ [] (fun _=>True) (h:=?_))
      all_goals repeat' (first|(refine ag (hc:=hcm) ?_)|refine gd ?_|refine ax (hy:=by first|(apply ay (q:=((i+j)/2)*11);rfl;rfl;omega;omega;assumption;(rfl))|(apply ay (q:=(a)*11);rfl;rfl;omega;omega;assumption;(rfl))) ?_|refine aA ?_ (h':=?_)|exact aB|(refine ak (br (i:=(i+j)/2) (P:=P) rfl am aa hx) rfl rfl rfl ?_)|(refine ak (br (i:=a) (P:=P) rfl am aa hy) rfl rfl rfl ?_)|fail)
      all_goals
       repeat' (first|refine aL (q:=1) (hq:=by omega) ?_|refine gs ?_|(refine gp ?_ ?_<;>intro hx_ this)|fail)
       · exact ⟨(⟨⟨(i+j)/2+1,j,by omega,by omega,h3⟩,fun hs=>absurd (show z<0 by assumption) (hsx hs)⟩:BinL P m b),(by show j-((i+j)/2+1)<j-i;omega),ai al (aj _) fun _ h=>h⟩
       · exact ⟨(⟨⟨i,(i+j)/2,h1,by omega,by omega⟩,hso⟩:BinL P m b),(by show (i+j)/2-i<j-i;omega),ai al (aj _) fun _ h=>h⟩
    · refine ao (ι:=UpI P a) (fun r=>⟨[(0,s.v),(10,.int .i64 (i:Nat)),(13,.int .i64 (r.k:Nat))],[postR s r.Q],fun _=>True⟩) (fun r=>i-r.k) ⟨a,ZX _,P,hP⟩ (ai al (aj _) fun _ h=>h) fun r=>?_
      obtain ⟨k,h4,Q,hQ⟩:=r
      simp only
      have hl:=hQ.1.length_eq
      repeat' (first|refine aX (q:=1) (hq:=by omega) ?_|refine gs ?_|(refine gp ?_ ?_<;>intro hx_ this)|fail)
      · have hlt:k+1<i:=by omega
        obtain ⟨x,hx⟩:∃ x,Q[k]?=some x:=⟨_,Zb aa⟩
        obtain ⟨y,hy⟩:∃ y,Q[k+1]?=some y:=⟨_,Zb aa⟩
        (refine aq ⟨[0,1,2,3,4,5,6,7,8,10,11,12],[(9,⟨[],[(13,⟨[14],[(15,⟨[16],[(17,⟨[],[]⟩)]⟩)]⟩)]⟩),(13,⟨[],[(9,⟨[14],[(15,⟨[16],[(17,⟨[],[]⟩)]⟩)]⟩)]⟩)]⟩ [] (fun _=>True) (h:=?_))
        all_goals repeat' (first|refine gd ?_|refine ax (hy:=by first|(apply ay (q:=(k)*11);rfl;rfl;omega;omega;assumption;(rfl))|(apply ay (q:=(k+1)*11);rfl;rfl;omega;omega;assumption;(rfl))) ?_|refine aA ?_ (h':=?_)|exact aB|(refine ak (br (i:=k) (P:=Q) rfl am aa hx) rfl rfl rfl ?_)|(refine ak (br (i:=k+1) (P:=Q) rfl am aa hy) rfl rfl rfl ?_)|((refine bV (i:=k) (p:=y) rfl rfl aa (by first|omega|(simp only [Z9];omega)) (At.here _) rfl ar rfl ?_))|((refine bV (i:=k+1) (p:=x) rfl rfl aa (by (simp only [Z9];omega)) (At.here _) rfl ar rfl ?_))|fail)
        all_goals
         repeat' (first|refine aL (q:=1) (hq:=by omega) ?_|refine gs ?_|fail)
         exact ⟨(⟨k+1,by omega,(Q.set k y).set (k+1) x,hQ.swap hx hy (fun hs=>by have:=hso hs;omega)⟩:UpI P a),(by show i-(k+1)<i-k;omega),ai al (aj _) fun _ h=>h⟩
      · exact ab (aF rfl) ⟨rfl,Q,hQ,rfl⟩
  · by_cases hB:b-m=1
    · repeat' (first|refine aX (hq:=by omega) ?_|refine aE ?_|refine aG ?_|refine gs ?_|fail)
      refine ao (ι:=BinR P a m) (fun r=>⟨[(0,s.v),(2,.int .i64 (m:Nat)),(4,cmpF),(14,.int .i64 (r.i:Nat)),(15,.int .i64 (r.j:Nat))],[postR s P],fun _=>True⟩) (fun r=>r.j-r.i) ⟨⟨a,m,by omega,by omega,by omega⟩,fun _=>rfl⟩ (ai al (aj _) fun _ h=>h) fun r=>?_
      obtain ⟨⟨i,j,h1,h2,h3⟩,hso⟩:=r
      simp only at hso
      simp only
      repeat' (first|refine aL (hq:=by omega) ?_|refine sy_toU_g (hq:=by omega) ?_|refine cR ?_|refine sy_toI_g (hq:=by omega) ?_|refine gs ?_|(refine gp ?_ ?_<;>intro hx_ this)|fail)
      · have hlt:i<j:=by omega
        obtain ⟨x,hx⟩:∃ x,P[m]?=some x:=⟨_,Zb aa⟩
        obtain ⟨y,hy⟩:∃ y,P[(i+j)/2]?=some y:=⟨_,Zb aa⟩
        have hcm:=dj x y
        have hsx:Srt P→¬ cmpX x y<0:=fun hs=>hs ((i+j)/2) m y x aa hy hx
        generalize cmpX x y=z at *
        unfold cmpF
        (refine aq ⟨[0,1,2,3,5,6,7],[(4,⟨[],[(8,⟨[],[(9,⟨[10,11],[]⟩)]⟩)]⟩),(8,⟨[],[(4,⟨[],[(9,⟨[10,11],[]⟩)]⟩)]⟩)]⟩ [] (fun _=>True) (h:=?_))
        all_goals repeat' (first|(refine ag (hc:=hcm) ?_)|refine gd ?_|refine ax (hy:=by first|(apply ay (q:=(m)*11);rfl;rfl;omega;omega;assumption;(rfl))|(apply ay (q:=((i+j)/2)*11);rfl;rfl;omega;omega;assumption;(rfl))) ?_|refine aA ?_ (h':=?_)|exact aB|(refine ak (br (i:=m) (P:=P) rfl am aa hx) rfl rfl rfl ?_)|(refine ak (br (i:=(i+j)/2) (P:=P) rfl am aa hy) rfl rfl rfl ?_)|fail)
        all_goals
         repeat' (first|refine aL (q:=1) (hq:=by omega) ?_|refine gs ?_|(refine gp ?_ ?_<;>intro hx_ this)|fail)
         · exact ⟨(⟨⟨(i+j)/2+1,j,by omega,by omega,h3⟩,hso⟩:BinR P a m),(by show j-((i+j)/2+1)<j-i;omega),ai al (aj _) fun _ h=>h⟩
         · exact ⟨(⟨⟨i,(i+j)/2,h1,by omega,by omega⟩,fun hs=>absurd (show z<0 by (simp_all;done)) (hsx hs)⟩:BinR P a m),(by show (i+j)/2-i<j-i;omega),ai al (aj _) fun _ h=>h⟩
      · refine ao (ι:=DownI P i m) (fun r=>⟨[(0,s.v),(14,.int .i64 (i:Nat)),(17,.int .i64 (r.k:Nat))],[postR s r.Q],fun _=>True⟩) (fun r=>r.k) ⟨m,by omega,ZX _,P,hP⟩ (ai al (aj _) fun _ h=>h) fun r=>?_
        obtain ⟨k,h4,h5,Q,hQ⟩:=r
        simp only
        have hl:=hQ.1.length_eq
        repeat' (first|refine gs ?_|(refine gp ?_ ?_<;>intro hx_ this)|fail)
        · have hlt:i<k:=by omega
          obtain ⟨x,hx⟩:∃ x,Q[k]?=some x:=⟨_,Zb aa⟩
          obtain ⟨y,hy⟩:∃ y,Q[k-1]?=some y:=⟨_,Zb aa⟩
          (refine aq ⟨[0,1,2,3,4,5,6,7,8,10,11,12],[(9,⟨[],[(13,⟨[14],[(15,⟨[16],[(17,⟨[],[]⟩)]⟩)]⟩)]⟩),(13,⟨[],[(9,⟨[14],[(15,⟨[16],[(17,⟨[],[]⟩)]⟩)]⟩)]⟩)]⟩ [] (fun _=>True) (h:=?_))
          all_goals repeat' (first|refine gd ?_|refine ax (hy:=by first|(apply ay (q:=(k)*11);rfl;rfl;omega;omega;assumption;(rfl))|(apply ay (q:=(k-1)*11);rfl;rfl;omega;omega;assumption;(omega))) ?_|refine aA ?_ (h':=?_)|exact aB|(refine ak (br (i:=k) (P:=Q) rfl am aa hx) rfl rfl rfl ?_)|(refine ak (br (i:=k-1) (P:=Q) rfl am aa hy) rfl rfl rfl ?_)|((refine bV (i:=k) (p:=y) rfl rfl aa (by first|omega|(simp only [Z9];omega)) (At.here _) rfl ar rfl ?_))|((refine bV (i:=k-1) (p:=x) rfl rfl aa (by (simp only [Z9];omega)) (At.here _) rfl ar rfl ?_))|fail)
          all_goals
           repeat' (first|refine aX (q:=1) (hq:=by omega) ?_|refine gs ?_|fail)
           exact ⟨(⟨k-1,by omega,by omega,(Q.set k y).set (k-1) x,hQ.swap hx hy (fun hs=>by have:=hso hs;omega)⟩:DownI P i m),(by show k-1<k;omega),ai al (aj _) fun _ h=>h⟩
        · exact ab (aF rfl) ⟨rfl,Q,hQ,rfl⟩
    · obtain ⟨mid,hmid⟩:∃ mid,mid=(a+b)/2:=⟨_,rfl⟩
      have hm1:a<mid:=by omega
      have hm2:mid<b:=by omega
      have hm3:2*mid≤a+b:=by omega
      have hm4:a+b≤2*mid+1:=by omega
      by_cases hmm:mid<m
      all_goals
       repeat' (first|refine aG ?_|refine dN ?_|refine eB ?_|refine aX (q:=1) (hq:=by omega) ?_|refine aX (hq:=by omega) ?_|refine aL (hq:=by omega) ?_|refine sy_toU_g (hq:=by omega) ?_|refine cR ?_|refine sy_toI_g (hq:=by omega) ?_|refine gs ?_|fail)
       rw [←hmid]
       first
        | refine ao (ι:=MerO P a m b mid) (fun r=>⟨[(0,s.v),(1,.int .i64 (a:Nat)),(2,.int .i64 (m:Nat)),(3,.int .i64 (b:Nat)),(4,cmpF),(18,.int .i64 (mid:Nat)),(19,.int .i64 ((mid+m:Nat):Int)),(20,.int .i64 (r.i:Nat)),(21,.int .i64 (r.j:Nat)),(22,.int .i64 ((mid+m-1:Nat):Int))],[postR s P],fun _=>True⟩) (fun r=>r.j-r.i) ⟨⟨mid+m-b,mid,by omega,by omega,by omega⟩,fun _=>by rw [ZO (by assumption)]⟩ (ai al (aj _) fun _ h=>h) fun r=>?_
        | refine ao (ι:=MerO P a m b mid) (fun r=>⟨[(0,s.v),(1,.int .i64 (a:Nat)),(2,.int .i64 (m:Nat)),(3,.int .i64 (b:Nat)),(4,cmpF),(18,.int .i64 (mid:Nat)),(19,.int .i64 ((mid+m:Nat):Int)),(20,.int .i64 (r.i:Nat)),(21,.int .i64 (r.j:Nat)),(22,.int .i64 ((mid+m-1:Nat):Int))],[postR s P],fun _=>True⟩) (fun r=>r.j-r.i) ⟨⟨a,m,by omega,by omega,by omega⟩,fun _=>by rw [ZP (by assumption)]⟩ (ai al (aj _) fun _ h=>h) fun r=>?_
       obtain ⟨⟨i,j,h1,h2,h3⟩,hso⟩:=r
       simp only at hso
       simp only
       have hk1:a≤i:=by omega
       have hk2:j≤m:=by omega
       have hk3:i≤mid+m:=by omega
       by_cases hij:i<j
       · have hk4:(i+j)/2<j:=by omega
         have hk5:i≤(i+j)/2:=by omega
         have hk6:(i+j)/2≤mid+m-1:=by omega
         have hk7:mid+m-1-(i+j)/2<b:=by omega
         repeat' (first|refine sy_lssT_g ?_|refine aL (hq:=by omega) ?_|refine sy_toU_g (hq:=by omega) ?_|refine cR ?_|refine sy_toI_g (hq:=by omega) ?_|refine gs ?_|fail)
         obtain ⟨x,hx⟩:∃ x,P[mid+m-1-(i+j)/2]?=some x:=⟨_,Zb aa⟩
         obtain ⟨y,hy⟩:∃ y,P[(i+j)/2]?=some y:=⟨_,Zb aa⟩
         have hcm:=dj x y
         have hsx:Srt P→¬ cmpX x y<0:=fun hs=>hs ((i+j)/2) (mid+m-1-(i+j)/2) y x aa hy hx
         generalize cmpX x y=z at *
         unfold cmpF
         (refine aq ⟨[0,1,2,3,4,5,7,8,9],[(6,⟨[],[(10,⟨[],[(11,⟨[12,13],[]⟩)]⟩)]⟩),(10,⟨[],[(6,⟨[],[(11,⟨[12,13],[]⟩)]⟩)]⟩)]⟩ [] (fun _=>True) (h:=?_))
         all_goals repeat' (first|(refine ag (hc:=hcm) ?_)|refine gd ?_|refine ax (hy:=by first|(apply ay (q:=(mid+m-1-(i+j)/2)*11);rfl;rfl;omega;omega;assumption;(omega))|(apply ay (q:=((i+j)/2)*11);rfl;rfl;omega;omega;assumption;(rfl))) ?_|refine aA ?_ (h':=?_)|exact aB|(refine ak (br (i:=mid+m-1-(i+j)/2) (P:=P) rfl am aa hx) rfl rfl rfl ?_)|(refine ak (br (i:=(i+j)/2) (P:=P) rfl am aa hy) rfl rfl rfl ?_)|fail)
         all_goals
          repeat' (first|refine aL (q:=1) (hq:=by omega) ?_|refine gs ?_|(refine gp ?_ ?_<;>intro hx_ this)|fail)
          · exact ⟨(⟨⟨(i+j)/2+1,j,by omega,by omega,by omega⟩,hso⟩:MerO P a m b mid),(by show j-((i+j)/2+1)<j-i;omega),ai al (aj _) fun _ h=>h⟩
          · exact ⟨(⟨⟨i,(i+j)/2,by omega,by omega,by omega⟩,fun hs=>absurd (show z<0 by (simp_all;done)) (hsx hs)⟩:MerO P a m b mid),(by show (i+j)/2-i<j-i;omega),ai al (aj _) fun _ h=>h⟩
       · have hk8:mid+m-i≤b:=by omega
         have hnl:¬ (i:Int)<(j:Int):=by omega
         repeat' (first|refine sy_lssF_g (hab:=by first|exact hnl|omega) ?_|refine sy_lssT_g ?_|refine aX (hq:=by omega) ?_|refine gs ?_|(refine iS (P:=P) (hQ:=by assumption) (hno:=fun hs=>by have:=hso hs;split at this<;>omega) (hc:=fun Q hQ=>eJ s Q i m (mid+m-i) cmpF (hs.trans hQ.1.length_eq.symm) hm aa aa aa) (h:=fun Q2 hQ2=>?_))|(refine cq (P:=P) (hQ:=by assumption) (hc:=fun Q hQ=>ih s Q a i mid aa (hs.trans hQ.1.length_eq.symm) hm aa aa aa) (h:=fun Q2 hQ2=>?_))|(refine cq (P:=P) (hQ:=by assumption) (hc:=fun Q hQ=>ih s Q mid (mid+m-i) b aa (hs.trans hQ.1.length_eq.symm) hm aa aa aa) (h:=fun Q2 hQ2=>?_))|(refine gp ?_ ?_<;>intro hx_ this)|fail)
         all_goals
          refine aN (aF rfl) ⟨rfl,_,?_,rfl⟩
          assumption
end SrC
namespace SrC
structure StaI (P:List Xp) (n w:Nat) where
 a:Nat
 b:Nat
 h1:a≤n
 h2:b=a+w
 Q:List Xp
 hQ:Rel P Q
structure StaO (P:List Xp) (n:Nat) where
 z:Nat
 h1:1≤z
 h2:z≤2*n+20
 Q:List Xp
 hQ:Rel P Q
set_option maxRecDepth 20000 in
theorem eI (s:Xl) (P:List Xp) (hs:s.n=P.length) (hm:s.n≤1000000):Ct prog 296 #[s.v,.int .i64 (s.n:Nat),cmpF] [postR s P] (fun _=>True) (RelAt s P):=by
 have hP:Rel P P:=Rel.refl P
 refine cF func296 ntmps296 fun av bor w0=>?_
 repeat' (first|refine gs ?_|fail)
 refine ao (ι:=StaI P s.n 20) (fun r=>⟨[(0,s.v),(1,.int .i64 (s.n:Nat)),(2,cmpF),(6,.int .i64 20),(7,.int .i64 (r.a:Nat)),(8,.int .i64 (r.b:Nat))],[postR s r.Q],fun _=>True⟩) (fun r=>s.n-r.a) ⟨0,20,Z4 _,rfl,P,hP⟩ (ai al (aj _) fun _ h=>h) fun r=>?_
 obtain ⟨a,b,h1,h2,Q,hQ⟩:=r
 simp only
 repeat' (first|refine aL (q:=20) (hq:=by omega) ?_|refine gs ?_|(refine cq (P:=P) (hQ:=by assumption) (hc:=fun Q hQ=>cu s Q a b (hs.trans hQ.1.length_eq.symm) hm aa aa) (h:=fun Q2 hQ2=>?_))|(refine cq (P:=P) (hQ:=by assumption) (hc:=fun Q hQ=>cu s Q a s.n (hs.trans hQ.1.length_eq.symm) hm aa aa) (h:=fun Q2 hQ2=>?_))|(refine gp ?_ ?_<;>intro hx_ this)|fail)
 · exact ⟨(⟨b,b+20,by omega,rfl,Q2,hQ2⟩:StaI P s.n 20),(by show s.n-b<s.n-a;omega),ai al (aj _) fun _ h=>h⟩
 · refine ao (ι:=StaO P s.n) (fun r=>⟨[(0,s.v),(1,.int .i64 (s.n:Nat)),(2,cmpF),(6,.int .i64 (r.z:Nat))],[postR s r.Q],fun _=>True⟩) (fun r=>s.n-r.z) ⟨20,by omega,by omega,Q2,hQ2⟩ (ai al (aj _) fun _ h=>h) fun r=>?_
   clear h1 h2 hQ hQ2
   obtain ⟨z,h1,h2,Q,hQ⟩:=r
   simp only
   repeat' (first|refine dM (p:=2) (hq:=by omega) ?_|refine gs ?_|(refine gp ?_ ?_<;>intro hx_ this)|fail)
   · have hzn:z<s.n:=by omega
     refine ao (ι:=StaI P s.n (2*z)) (fun r=>⟨[(0,s.v),(1,.int .i64 (s.n:Nat)),(2,cmpF),(6,.int .i64 (z:Nat)),(7,.int .i64 (r.a:Nat)),(8,.int .i64 (r.b:Nat))],[postR s r.Q],fun _=>True⟩) (fun r=>s.n-r.a) ⟨0,2*z,Z4 _,(ZU _).symm,Q,hQ⟩ (ai al (aj _) fun _ h=>h) fun r=>?_
     obtain ⟨a,b,h3,h4,Q3,hQ3⟩:=r
     simp only
     repeat' (first|refine aL (hq:=by omega) ?_|refine dM (p:=2) (hq:=by omega) ?_|refine dM (q:=2) (hq:=by omega) ?_|refine gs ?_|(refine cq (P:=P) (hQ:=by assumption) (hc:=fun Q hQ=>bU (b-a) s Q a (a+z) b (ZX _) (hs.trans hQ.1.length_eq.symm) hm aa aa aa) (h:=fun Q2 hQ2=>?_))|(refine cq (P:=P) (hQ:=by assumption) (hc:=fun Q hQ=>bU (s.n-a) s Q a (a+z) s.n (ZX _) (hs.trans hQ.1.length_eq.symm) hm aa aa aa) (h:=fun Q2 hQ2=>?_))|(refine gp ?_ ?_<;>intro hx_ this)|fail)
     · exact ⟨(⟨b,b+2*z,by omega,rfl,Q2,hQ2⟩:StaI P s.n (2*z)),(by show s.n-b<s.n-a;omega),ai al (aj _) fun _ h=>h⟩
     all_goals
      refine ⟨(⟨z*2,by omega,by omega,_,?_⟩:StaO P s.n),(by show s.n-z*2<s.n-z;omega),ai al (aj _) fun _ h=>h⟩
      assumption
   · exact aN (aF rfl) ⟨rfl,Q,hQ,rfl⟩
theorem sortStable_ct (s:Xl) (P:List Xp) (hs:s.n=P.length) (hm:s.n≤1000000):Ct prog 284 #[s.v,cmpF] [postR s P] (fun _=>True) (RelAt s P):=by
 have hP:Rel P P:=Rel.refl P
 refine cF func284 ntmps284 fun av bor w0=>?_
 repeat' (first|refine gs ?_|(refine cq (P:=P) (hQ:=by assumption) (hc:=fun Q hQ=>eI s Q (hs.trans hQ.1.length_eq.symm) hm) (h:=fun Q2 hQ2=>?_))|fail)
 exact aN (aF rfl) ⟨rfl,Q2,hQ2,rfl⟩
end SrC
end Go.Proofs.YtaolfiikahlmkaaGreatDoor
namespace Go.Proofs.YtaolfiikahlmkaaGreatDoor
open Go Go.Proofs Sy Tryz
def Claims (w:World) (s:Xl) (l:List Xg):Prop:=Xf w 9 s (l.map Xg.cells)
theorem sJ (l:List Xg):∀ r∈l.map Xg.cells,r.length=9:=fun r hr=>by
 obtain ⟨c,_,rfl⟩:=QJ.1 hr
 rfl
def wantC (au:ByteArray) (it:Xe):Bool:=decide (it.kind=1)&&seqB it.claim.actor au
theorem yD (bW:Nat) (au:ByteArray) (it:Xe):Pu prog 253 #[it.v,.pointer (some ⟨bW,0,none⟩)] (CelD bW [.string au]) (.tuple #[it.claim.v,.int .i64 0,.bool (wantC au it)]):=by
 refine aw func253 ntmps253 fun av bor w0=>?_
 repeat' (first|refine gs ?_|refine gs1 fun _=>?_|fail)
 rename_i b2 b3
 by_cases h0:it.kind=1
 · (refine aq ⟨[0,1,2,3,4,5,6,7,8,9,10,11],[(12,⟨[13,14],[]⟩)]⟩ [cel b2 60 it.cells] (CelD bW [.string au]) (h:=?_))
   all_goals repeat' (first|refine ax (hsub:=by exact aI) (hy:=by (apply fG true;rfl;rfl;exact Zd h0)) ?_|refine gdz ?_|refine ax (hsub:=by exact aI) (hy:=by first|(apply cg (vs:=it.claim.cells);rfl;exact .head _;rfl;rfl)|(apply fo;rfl;exact (fun w h=>h 0 _ rfl))) ?_|refine aA ?_ (h':=?_)|exact aB|fail)
   all_goals
    repeat' (first|refine gs ?_|fail)
    exact ab (cT rfl rfl rfl rfl (.head _) rfl) (by rw [wantC,Zd h0];rfl)
 · (refine aq ⟨[0,1,2,3,4,5,6,7,8,9,10,11],[(12,⟨[13,14],[]⟩)]⟩ [cel b2 60 it.cells] (CelD bW [.string au]) (h:=?_))
   all_goals repeat' (first|refine ax (hsub:=by exact aI) (hy:=by (apply fG false;rfl;rfl;exact Zc h0)) ?_|refine gdz ?_|refine ax (hsub:=by exact aI) (hy:=by (apply cg (vs:=it.claim.cells);rfl;exact .head _;rfl;rfl)) ?_|refine aA ?_ (h':=?_)|exact aB|fail)
   all_goals
    repeat' (first|refine gs ?_|fail)
    exact ab (cT rfl rfl rfl rfl (.head _) rfl) (by rw [wantC,Zc h0];rfl)
def fndOfC (dI:Xe→ByteArray) (it:Xe):Xp:=⟨0,dI it,it.claim⟩
def selBC (au:ByteArray) (rI:Xe→Bool) (it:Xe):Bool:=wantC au it&&rI it
def selFC (au:ByteArray) (rI:Xe→Bool) (dI:Xe→ByteArray) (I:List Xe):List Xp:=(I.filter (selBC au rI)).map (fndOfC dI)
def selC (au:ByteArray) (rI:Xe→Bool) (I:List Xe):List Xg:=(I.filter (selBC au rI)).map Xe.claim
theorem CX (au:ByteArray) (rI:Xe→Bool) (dI:Xe→ByteArray) (I:List Xe):(selFC au rI dI I).map Xp.a=selC au rI I:=by rw [selFC,selC,Z0];rfl
structure PikIC (I:List Xe) (au:ByteArray) (rI:Xe→Bool) (dI:Xe→ByteArray) where
 k:Nat
 hk:k≤I.length
 A:Option Addr
 c:Nat
 n:Nat
 hn:n=(selFC au rI dI (I.take k)).length
 xs:List Value
 hxs:xs=((selFC au rI dI (I.take k)).map Xp.cells).flatten
structure ValIC (Q:List Xp) where
 k:Nat
 hk:k≤Q.length
 A:Option Addr
 c:Nat
 xs:List Value
 hxs:xs=((Q.take k).map fun f=>f.a.cells).flatten
def wantVC (bW:Nat):Value:=.func (.func 253) #[] #[.pointer (some ⟨bW,0,none⟩)]
theorem xt (ks ki:Xl) (I:List Xe) (bW:Nat) (au:ByteArray) (rI:Xe→Bool) (dI:Xe→ByteArray)
  (hR:∀ it∈I,Pu prog 73 #[it.v] (fun w=>it.at_ w) (.bool (rI it)))
  (hD:∀ it∈I,Pu prog 18 #[it.v] (fun w=>it.at_ w∧Xi w) (.string (dI it)))
  (hI:I.length≤1000) (hasc:SrC.Srt (selFC au rI dI I)) :
  Mk prog 252 #[.agg #[ks.v,ki.v],wantVC bW] (fun w=>(Items w ki I∧CelD bW [.string au] w)∧Xi w)
   (fun u X'=>∃ s:Xl,u=s.v∧∀ w,X' w→Claims w s (selC au rI I)):=by
 refine dE func252 ntmps252 fun av bor w0=>?_
 refine aR (p:=ki.n=I.length∧ki.n≤maxLen∧(0<I.length→ki.p.isSome=true)) (fun w h=>⟨h.1.1.len_,h.1.1.max_,h.1.1.some_⟩) fun ⟨hkn,hkm,hkp⟩=>?_
 simp only [maxLen] at hkm
 repeat' (first|refine gs ?_|refine gs1 fun _=>?_|fail)
 rename_i b2
 refine cD 304 11 ?_
 refine ao (ι:=PikIC I au rI dI) (fun i=>⟨[(1,wantVC bW),(5,.slice i.A i.n i.c),(15,ki.v),(16,.int .i64 (ki.n:Nat)),(17,.int .i64 (i.k:Nat))],[orow 304 11 (.slice i.A i.n i.c) i.n i.xs],fun w=>(Items w ki I∧CelD bW [.string au] w)∧Xi w⟩) (fun i=>I.length-i.k) ⟨0,Z4 _,none,0,0,rfl,[],rfl⟩ (ai al (.cons_cons _ (Zu _)) fun _ h=>h) fun i=>?_
 obtain ⟨k,hk,A,c,n,hn,xs,hxs⟩:=i
 simp only
 repeat' (first|refine gs ?_|(refine gp ?_ ?_<;>intro hx_ this)|fail)
 · have hlt:k<I.length:=by omega
   have hkp':=hkp aa
   obtain ⟨it,hit⟩:∃ it,I[k]?=some it:=⟨_,Zb hlt⟩
   have him:=Z6 hit
   have hnl:n≤1000:=by
    rw [hn,selFC,ZF]
    exact ZY (Qa _ _) (by rw [Qi];omega)
   repeat' (first|refine gs ?_|refine gs1 fun _=>?_|(refine aD (q:=k*49) ?_)|(refine aM (cs:=it.cells) (hF:=fun w h=>h.1.1.get hit) ?_)|fail)
   rename_i b7
   have hri:=hR it him
   have hdi:=hD it him
   have hwa:=yD bW au it
   have htk:selFC au rI dI (I.take (k+1))=selFC au rI dI (I.take k)++(bif selBC au rI it then [fndOfC dI it] else []):=by
    rw [selFC,selFC,Qg,hit,Qv,ZW,Qu]
    congr 1
    cases hb:selBC au rI it with
    | true=>simp [hb]
    | false=>simp [hb]
   cases hwt:wantC au it with
   | false =>
    rw [hwt] at hwa
    have hno:selFC au rI dI (I.take (k+1))=selFC au rI dI (I.take k):=by rw [htk,selBC,hwt];exact ZJ _
    refine eV (args:=[it.v]) (all:=[it.v,.pointer (some ⟨bW,0,none⟩)]) (first:=#[]) (caps:=#[.pointer (some ⟨bW,0,none⟩)]) (hx:=rfl) (ha:=rfl) (hall:=rfl) (hc:=hwa) (hX:=fun w h=>h.1.2) (h:=?_)
    repeat' (first|refine gs ?_|refine gs1 fun _=>?_|fail)
    exact ⟨(⟨k+1,hlt,A,c,n,by rw [hno];exact hn,xs,by rw [hno];exact hxs⟩:PikIC I au rI dI),(by show I.length-(k+1)<I.length-k;omega),ai al (.cons _ (.cons _ (aj _))) fun _ h=>h⟩
   | true =>
    rw [hwt] at hwa
    cases hrt:rI it with
    | false =>
     rw [hrt] at hri
     have hno:selFC au rI dI (I.take (k+1))=selFC au rI dI (I.take k):=by rw [htk,selBC,hwt,hrt];exact ZJ _
     refine eV (args:=[it.v]) (all:=[it.v,.pointer (some ⟨bW,0,none⟩)]) (first:=#[]) (caps:=#[.pointer (some ⟨bW,0,none⟩)]) (hx:=rfl) (ha:=rfl) (hall:=rfl) (hc:=hwa) (hX:=fun w h=>h.1.2) (h:=?_)
     repeat' (first|(refine ag (hc:=hri) (hX:=fun w h=>h.1.1.2 it him) ?_)|refine gs ?_|refine gs1 fun _=>?_|fail)
     exact ⟨(⟨k+1,hlt,A,c,n,by rw [hno];exact hn,xs,by rw [hno];exact hxs⟩:PikIC I au rI dI),(by show I.length-(k+1)<I.length-k;omega),ai al (.cons _ (.cons _ (aj _))) fun _ h=>h⟩
    | true =>
     rw [hrt] at hri
     have hyes:selFC au rI dI (I.take (k+1))=selFC au rI dI (I.take k)++[fndOfC dI it]:=by rw [htk,selBC,hwt,hrt];rfl
     refine eV (args:=[it.v]) (all:=[it.v,.pointer (some ⟨bW,0,none⟩)]) (first:=#[]) (caps:=#[.pointer (some ⟨bW,0,none⟩)]) (hx:=rfl) (ha:=rfl) (hall:=rfl) (hc:=hwa) (hX:=fun w h=>h.1.2) (h:=?_)
     repeat' (first|(refine ag (hc:=hri) (hX:=fun w h=>h.1.1.2 it him) ?_)|refine gs ?_|refine gs1 fun _=>?_|fail)
     rename_i b8
     (refine aq ⟨[0,1,2,4],[(3,⟨[5],[(6,⟨[],[(7,⟨[8],[]⟩)]⟩)]⟩)]⟩ [cel b8 54 it.claim.cells,cel b7 60 it.cells] (fun w=>(Items w ki I∧CelD bW [.string au] w)∧Xi w) (h:=?_))
     all_goals repeat' (first|(refine ag (hc:=hdi) (hX:=fun w h=>⟨h.1.1.2 it him,h.2⟩) ?_)|refine gdz ?_|refine ax (hsub:=by exact aI) (hy:=by (apply dv (cs:=(fndOfC dI it).cells);rfl;rfl)) ?_|refine aA ?_ (h':=?_)|exact aB|refine cA (size:=11) (vs:=[.agg (fndOfC dI it).cells.toArray]) (css:=(fndOfC dI it).cells) (hsz:=by rfl) (hcs:=by rfl) fun _=>?_|(refine iF ?_;refine aJ (size:=11) (news:=(fndOfC dI it).cells) (q:=1) rfl rfl rfl rfl (fun _=>At.there _ (At.there _ (At.there _ (At.here _)))) (fun w G=>bA G am rfl rfl 1) aa (by simp only [maxLen];omega) rfl ?_ rfl ?_;(with_reducible rfl);intro A2 c2)|fail)
     all_goals
      repeat' (first|refine gs ?_|fail)
      exact ⟨(⟨k+1,hlt,A2,c2,n+1,by rw [hyes,ZA,←hn];rfl,xs++(fndOfC dI it).cells,by rw [hyes,hxs];simp⟩:PikIC I au rI dI),(by show I.length-(k+1)<I.length-k;omega),ai al (.cons _ (.cons _ (.cons _ (aj _)))) fun _ h=>h⟩
 have hkE:k=I.length:=by omega
 rw [hkE,Qh] at hn hxs
 obtain ⟨P,hP⟩:∃ P,selFC au rI dI I=P:=⟨_,rfl⟩
 rw [hP] at hn hxs
 have hPl:P.length≤I.length:=by rw [←hP,selFC,ZF];exact Qa _ _
 subst hxs
 refine bN (pre:=[SrC.postR ⟨A,n,c⟩ P]) (fr:=[]) (first:=#[]) (caps:=#[]) (hc:=SrC.sortStable_ct ⟨A,n,c⟩ P hn (by show n≤1000000;omega)) (hX:=fun _ _=>trivial) (h:=?_)
 rintro v R X' ⟨rfl,Q,hQ,rfl⟩
 have hQP:Q=P:=hQ.2 (by rw [←hP];exact hasc)
 subst hQP
 have hQl:Q.length=n:=hn.symm
 have hnI:n≤1000:=by omega
 refine cH (X':=fun w=>(Items w ki I∧CelD bW [.string au] w)∧Xi w) (fun w h=>h.1) ?_
 repeat' (first|refine gs ?_|(refine iU (c:=n) (hm:=Nat.ble_eq_true_of_le aa) (hm2:=Nat.ble_eq_true_of_le aa) fun bv=>?_)|fail)
 refine bP (r:=SrC.postR ⟨A,n,c⟩ Q) aQ (p:=0<n→A.isSome=true) (fun w h h0=>bF h h0) fun hAp=>?_
 refine ao (ι:=ValIC Q) (fun i=>⟨[(11,.slice i.A i.k i.c),(47,.slice A n c),(48,.int .i64 (n:Nat)),(49,.int .i64 (i.k:Nat))],[orow 54 9 (.slice i.A i.k i.c) i.k i.xs,SrC.postR ⟨A,n,c⟩ Q],fun w=>(Items w ki I∧CelD bW [.string au] w)∧Xi w⟩) (fun i=>Q.length-i.k) ⟨0,Z4 _,_,_,[],rfl⟩ (ai al (aj _) fun _ h=>h) fun i=>?_
 obtain ⟨k2,hk2,A2,c2,xs2,hxs2⟩:=i
 simp only
 repeat' (first|refine gs ?_|(refine gp ?_ ?_<;>intro hx_ this)|fail)
 · have hlt:k2<Q.length:=by omega
   have hAp':=hAp aa
   obtain ⟨f,hf⟩:∃ f,Q[k2]?=some f:=⟨_,Zb hlt⟩
   repeat' (first|refine cA (size:=9) (vs:=[f.a.v]) (css:=f.a.cells) (hsz:=by rfl) (hcs:=by rfl) fun _=>?_|refine gs ?_|refine gs1 fun _=>?_|(refine aD (q:=k2*11) ?_)|(refine ak (gb (size:=11) (m:=n) (i:=k2) (xs:=Q.map Xp.cells) (cs:=f.cells) rfl (.tail _ (.head _)) (by rw [ZF];exact hQl.symm) (Br Q) (by simp [hf])) rfl rfl rfl ?_)|(refine aC (vs:=f.a.cells) (hv:=rfl) ?_)|fail)
   refine aJ (size:=9) (news:=f.a.cells) (q:=1) rfl rfl rfl rfl (fun _=>At.there _ (At.there _ (At.here _))) (fun w G=>bA G am rfl rfl 1) aa (by simp only [maxLen];omega) rfl ?_ rfl ?_
   · (with_reducible rfl)
   intro A3 c3
   repeat' (first|refine gs ?_|fail)
   exact ⟨(⟨k2+1,hlt,A3,c3,xs2++f.a.cells,by rw [Qg,hf,hxs2];simp⟩:ValIC Q),(by show Q.length-(k2+1)<Q.length-k2;omega),ai al (.cons _ (.cons _ (aj _))) fun _ h=>h⟩
 have hk2E:k2=Q.length:=by omega
 rw [hk2E,Qh] at hxs2
 have hLp:Q.map Xp.a=selC au rI I:=by rw [←CX au rI dI I,hP]
 refine ab (ae rfl rfl) ⟨⟨A2,k2,c2⟩,rfl,fun w h=>?_⟩
 rw [←hLp]
 have hr:=h.2 (orow 54 9 (.slice A2 k2 c2) k2 xs2) (.head _)
 exact bm (xs:=(Q.map Xp.a).map Xg.cells) (by rw [Z0];rw [hxs2] at hr;exact hr) (by rw [ZF,ZF];exact hk2E) (sJ _)
theorem kY (ks ki:Xl) (I:List Xe) (au:ByteArray) (rI:Xe→Bool) (dI:Xe→ByteArray)
  (hR:∀ it∈I,Pu prog 73 #[it.v] (fun w=>it.at_ w) (.bool (rI it)))
  (hD:∀ it∈I,Pu prog 18 #[it.v] (fun w=>it.at_ w∧Xi w) (.string (dI it)))
  (hI:I.length≤1000) (hasc:SrC.Srt (selFC au rI dI I)) :
  Mk prog 190 #[.agg #[ks.v,ki.v],.string au] (fun w=>Items w ki I∧Xi w)
   (fun u X'=>∃ s:Xl,u=s.v∧∀ w,X' w→Claims w s (selC au rI I)):=by
 refine dE func190 ntmps190 fun av bor w0=>?_
 repeat' (first|refine gs ?_|refine gs1 fun _=>?_|(refine ea ?_)|fail)
 rename_i b2 b3
 refine bI ?_
 refine cd (hc:=xt ks ki I b3 au rI dI hR hD hI hasc) (hX:=fun w h=>⟨⟨h.1.1,fd h.2⟩,h.1.2⟩) fun v X1 h1=>?_
 obtain ⟨s,rfl,hw⟩:=h1
 repeat' (first|refine gs ?_|fail)
 exact ab (ae rfl rfl) ⟨s,rfl,fun w h=>hw w h.1.2⟩
structure Xs where
 rank:Int
 dg:ByteArray
 a:Xh
def Xs.cells (f:Xs):List Value:=.int .i64 f.rank::.string f.dg::f.a.cells
def Ballots (w:World) (s:Xl) (l:List Xh):Prop:=Xf w 7 s (l.map Xh.cells)
theorem qm (l:List Xh):∀ r∈l.map Xh.cells,r.length=7:=fun r hr=>by
 obtain ⟨c,_,rfl⟩:=QJ.1 hr
 rfl
def wantB (au:ByteArray) (gn:Int) (it:Xe):Bool:=decide (it.kind=2)&&(seqB it.ballot.actor au&&decide (it.ballot.gen=gn))
theorem yE (bW bG:Nat) (au:ByteArray) (gn:Int) (it:Xe):Pu prog 298 #[it.v,.pointer (some ⟨bW,0,none⟩),.pointer (some ⟨bG,0,none⟩)] (fun w=>CelD bW [.string au] w∧CelD bG [.int .i64 gn] w) (.tuple #[it.ballot.v,.int .i64 0,.bool (wantB au gn it)]):=by
 refine aw func298 ntmps298 fun av bor w0=>?_
 repeat' (first|refine gs ?_|refine gs1 fun _=>?_|(refine aC (vs:=it.ballot.cells) (hv:=rfl) ?_)|fail)
 rename_i b3 b4 b7
 cases h0:decide (it.kind=2) with
 | false =>
  (refine aq ⟨[0,1,2,3,4,5,6,7,8,9,10,11,12,13,14,15],[(16,⟨[17,18],[]⟩)]⟩ [cel b7 56 it.ballot.cells,cel b3 60 it.cells] (fun w=>CelD bW [.string au] w∧CelD bG [.int .i64 gn] w) (h:=?_))
  all_goals repeat' (first|refine ax (hsub:=by exact aI) (hy:=by (apply fG false;rfl;rfl;exact h0)) ?_|refine gdz ?_|refine aA ?_ (h':=?_)|exact aB|fail)
  all_goals
   repeat' (first|refine gs ?_|fail)
   exact ab (cT rfl rfl rfl rfl (.tail _ (.head _)) rfl) (by rw [wantB,h0];rfl)
 | true =>
  cases h1:seqB it.ballot.actor au with
  | false =>
   (refine aq ⟨[0,1,2,3,4,5,6,7,8,9,10,11,12,13,14,15],[(16,⟨[17,18],[]⟩)]⟩ [cel b7 56 it.ballot.cells,cel b3 60 it.cells] (fun w=>CelD bW [.string au] w∧CelD bG [.int .i64 gn] w) (h:=?_))
   all_goals repeat' (first|refine ax (hsub:=by exact aI) (hy:=by first|(apply fG true;rfl;rfl;exact h0)|(apply eL false;rfl;rfl;exact h1)) ?_|refine gdz ?_|refine ax (hsub:=by exact aI) (hy:=by (apply fo;rfl;exact (fun w h=>h.1 0 _ rfl))) ?_|refine aA ?_ (h':=?_)|exact aB|fail)
   all_goals
    repeat' (first|refine gs ?_|fail)
    exact ab (cT rfl rfl rfl rfl (.tail _ (.head _)) rfl) (by rw [wantB,h0,h1];rfl)
  | true =>
   cases h2:decide (it.ballot.gen=gn) with
   | false =>
    (refine aq ⟨[0,1,2,3,4,5,6,7,8,9,10,11,12,13,14,15],[(16,⟨[17,18],[]⟩)]⟩ [cel b7 56 it.ballot.cells,cel b3 60 it.cells] (fun w=>CelD bW [.string au] w∧CelD bG [.int .i64 gn] w) (h:=?_))
    all_goals repeat' (first|refine ax (hsub:=by exact aI) (hy:=by first|(apply fG true;rfl;rfl;exact h0)|(apply eL true;rfl;rfl;exact h1)|(apply fG false;rfl;rfl;exact h2)) ?_|refine gdz ?_|refine ax (hsub:=by exact aI) (hy:=by first|(apply fo;rfl;exact (fun w h=>h.1 0 _ rfl))|(apply fo;rfl;exact (fun w h=>h.2 0 _ rfl))) ?_|refine aA ?_ (h':=?_)|exact aB|fail)
    all_goals
     repeat' (first|refine gs ?_|fail)
     exact ab (cT rfl rfl rfl rfl (.tail _ (.head _)) rfl) (by rw [wantB,h0,h1,h2];rfl)
   | true =>
    (refine aq ⟨[0,1,2,3,4,5,6,7,8,9,10,11,12,13,14,15],[(16,⟨[17,18],[]⟩)]⟩ [cel b7 56 it.ballot.cells,cel b3 60 it.cells] (fun w=>CelD bW [.string au] w∧CelD bG [.int .i64 gn] w) (h:=?_))
    all_goals repeat' (first|refine ax (hsub:=by exact aI) (hy:=by first|(apply fG true;rfl;rfl;first|exact h0|exact h2)|(apply eL true;rfl;rfl;exact h1)) ?_|refine gdz ?_|refine ax (hsub:=by exact aI) (hy:=by first|(apply fo;rfl;exact (fun w h=>h.1 0 _ rfl))|(apply fo;rfl;exact (fun w h=>h.2 0 _ rfl))) ?_|refine aA ?_ (h':=?_)|exact aB|fail)
    all_goals
     repeat' (first|refine gs ?_|fail)
     exact ab (cT rfl rfl rfl rfl (.tail _ (.head _)) rfl) (by rw [wantB,h0,h1,h2];rfl)
end Go.Proofs.YtaolfiikahlmkaaGreatDoor
namespace Go.Proofs.YtaolfiikahlmkaaGreatDoor
open Go Go.Proofs Sy SrG Tryz
namespace SrB
theorem cellsF (P:List Xs):∀ r∈P.map Xs.cells,r.length=9:=fun r hr=>by
 obtain ⟨c,_,rfl⟩:=QJ.1 hr
 rfl
abbrev postR (s:Xl) (P:List Xs):Xm:=orow 329 9 (.slice s.p s.n s.c) s.n (P.map Xs.cells).flatten
theorem cv:∀ (L:List Xs) (p:Nat) (x:Xs),p<L.length→(L.map Xs.cells).flatten.take (p*9)++x.cells++(L.map Xs.cells).flatten.drop (p*9+9)=((L.set p x).map Xs.cells).flatten
 | [],p,x,h=>absurd h (by simp)
 | c::L,0,x,h=>by
  have h6:c.cells.length=9:=rfl
  rw [List.set_cons_zero,Z1,Z1,Qb,Qb,Nat.zero_mul,ZU,List.take_zero,ZL,List.drop_append,h6,Qw (by omega)]
  rfl
 | c::L,p+1,x,h=>by
  have h6:c.cells.length=9:=rfl
  have ih:=cv L p x (by simpa using h)
  rw [List.set_cons_succ,Z1,Z1,Qb,Qb,←ih,List.take_append,List.drop_append,h6,Qf aa,Qw aa,
   show (p+1)*9-9=p*9 from by omega,show (p+1)*9+9-9=p*9+9 from by omega,ZL,ZC,ZC,ZC]
theorem cL {P:List Xs} {i j:Nat} {x y:Xs} (hi:P[i]?=some x) (hj:P[j]?=some y):((P.set i y).set j x).Perm P:=by
 obtain ⟨h1,rfl⟩:=QL.1 hi
 obtain ⟨h2,rfl⟩:=QL.1 hj
 exact List.set_set_perm h1 h2
section
variable {N:Nat} {av bor:List Nat} {w0:World} {st:St} {ty:TypeId} {x y:Operand} {E:Env} {loc:List Xm} {X:World→Prop} {ops:Array Oper} {kk:St→Prop} {pos:String} {af:Array Edge} {g:Option (Nat×Bool)} {rest:List Oper} {bb want:Bool}
theorem br {A:Option Addr} {m c i:Nat} {P:List Xs} {p:Xs} (hx:ev st.env x=some (elP A (i*9))) (hm:orow 329 9 (.slice A m c) m (P.map Xs.cells).flatten∈st.loc) (hn:m=P.length) (hi:P[i]?=some p) :
  Sy.Yields prog N av bor w0 st (.load 329 x) ty (.agg p.cells.toArray):=gb (xs:=P.map Xs.cells) (cs:=p.cells) hx hm (by simp [hn]) (cellsF P) (by simp [hi])
theorem bV {d:Option Tmp} {loc':List Xm} {A:Option Addr} {m c i:Nat} {P:List Xs} {p:Xs} (hx:ev E x=some (elP A (i*9)):=by rfl) (hy:ev E y=some (.agg p.cells.toArray):=by rfl) (hi:i<m:=by omega) (hn:m=P.length)
  (hA:At (orow 329 9 (.slice A m c) m (P.map Xs.cells).flatten) (orow 329 9 (.slice A m c) m ((P.set i p).map Xs.cells).flatten) loc loc':=by (repeat (first|exact At.here _|apply At.there))) (hg:gdB ops E g=some (bb,want):=by rfl) (hb:bb=want:=by exact ar) (hd:inB N d=true:=by rfl)
  (h:Sw prog N av bor w0 ops rest ⟨putE E d undef,loc',X⟩ kk):Sw prog N av bor w0 ops (⟨d,.store 329 x y,ty,pos,af,g⟩::rest) ⟨E,loc,X⟩ kk :=
 mq (i:=i) (size:=9) (vs:=p.cells) ac hx hy rfl rfl rfl hi (cv P i p aa) hA hg hb hd h
end
def PermAt (s:Xl) (P:List Xs) (u:Value) (R:List Xm) (X:World→Prop):Prop:=u=.tuple #[]∧∃ Q:List Xs,Q.Perm P∧R=[postR s Q]
structure PermI (P:List Xs) (n:Nat) where
 k:Nat
 hk:k≤n
 Q:List Xs
 hQ:Q.Perm P
theorem bL (s:Xl) (P:List Xs) (a b n:Nat) (fv:Value) (hs:s.n=P.length) (hm:s.n≤1000000) (ha:a+n≤s.n) (hb:b+n≤s.n) :
  Ct prog 326 #[s.v,.int .i64 (a:Nat),.int .i64 (b:Nat),.int .i64 (n:Nat),fv] [postR s P] (fun _=>True) (PermAt s P):=by
 refine cF func326 ntmps326 fun av bor w0=>?_
 refine bP (r:=postR s P) am (p:=0<s.n→s.p.isSome=true) (fun w h hn=>bF h hn) fun hp=>?_
 repeat' (first|refine gs ?_|fail)
 refine ao (ι:=PermI P n) (fun i=>⟨[(0,s.v),(1,.int .i64 (a:Nat)),(2,.int .i64 (b:Nat)),(3,.int .i64 (n:Nat)),(10,.int .i64 (i.k:Nat))],[postR s i.Q],fun _=>True⟩) (fun i=>n-i.k) ⟨0,Z4 _,P,Qn _⟩ (ai al (aj _) fun _ h=>h) fun i=>?_
 obtain ⟨k,hk,Q,hQ⟩:=i
 simp only
 have hl:=hQ.length_eq
 repeat' (first|refine gs ?_|(refine gp ?_ ?_<;>intro hx_ this)|fail)
 · have hlt:k<n:=by omega
   have hp':=hp aa
   obtain ⟨x,hx⟩:∃ x,Q[a+k]?=some x:=⟨_,Zb aa⟩
   obtain ⟨y,hy⟩:∃ y,Q[b+k]?=some y:=⟨_,Zb aa⟩
   (refine aq ⟨[0,1,2,3,4,5,6,7,8,9,10,11,12,14,15,16,17,18],[(13,⟨[],[(19,⟨[20],[(21,⟨[22],[(23,⟨[],[]⟩)]⟩)]⟩)]⟩),(19,⟨[],[(13,⟨[20],[(21,⟨[22],[(23,⟨[],[]⟩)]⟩)]⟩)]⟩)]⟩ [] (fun _=>True) (h:=?_))
   all_goals repeat' (first|refine gd ?_|refine ax (hy:=by first|(apply ay (q:=(a+k)*9);rfl;rfl;omega;omega;assumption;(rfl))|(apply ay (q:=(b+k)*9);rfl;rfl;omega;omega;assumption;(rfl))) ?_|refine aA ?_ (h':=?_)|exact aB|(refine ak (br (i:=a+k) (P:=Q) rfl am aa hx) rfl rfl rfl ?_)|(refine ak (br (i:=b+k) (P:=Q) rfl am aa hy) rfl rfl rfl ?_)|((refine bV (i:=a+k) (p:=y) rfl rfl aa (by first|omega|(simp only [Z9];omega)) (At.here _) rfl ar rfl ?_))|((refine bV (i:=b+k) (p:=x) rfl rfl aa (by (simp only [Z9];omega)) (At.here _) rfl ar rfl ?_))|fail)
   all_goals
    repeat' (first|refine gs ?_|fail)
    exact ⟨(⟨k+1,hlt,(Q.set (a+k) y).set (b+k) x,(cL hx hy).trans hQ⟩:PermI P n),(by show n-(k+1)<n-k;omega),ai al (aj _) fun _ h=>h⟩
 · exact aN (aF rfl) ⟨rfl,Q,hQ,rfl⟩
section
variable {N:Nat} {av bor:List Nat} {w0:World} {ops:Array Oper} {rest:List Oper} {k:St→Prop} {E:Env} {X:World→Prop} {d:Option Tmp} {ty:TypeId} {pos:String} {af:Array Edge} {g:Option (Nat×Bool)} {bb want:Bool}
theorem bS {x:Operand} {xs:List Operand} {ats:Array TypeId} {f:FuncId} {args:List Value} {s:Xl} {Q:List Xs}
  (hx:ev E x=some (.func (.func f) #[] #[]):=by rfl) (ha:evs E xs=some args:=by rfl) (hg:gdB ops E g=some (bb,want):=by rfl) (hb:bb=want:=by exact ar) (hd:inB N d=true:=by rfl) (hf:Xc prog f:=by infer_instance)
  (hc:Ct prog f args.toArray [postR s Q] (fun _=>True) (PermAt s Q))
  (h:∀ Q':List Xs,Q'.Perm Q→Sw prog N av bor w0 ops rest ⟨putE E d (.tuple #[]),[postR s Q'],X⟩ k) :
  Sw prog N av bor w0 ops (⟨d,.call ⟨.value x,xs.toArray,ats⟩,ty,pos,af,g⟩::rest) ⟨E,[postR s Q],X⟩ k :=
 bN (pre:=[postR s Q]) (fr:=[]) (first:=#[]) (caps:=#[]) (Post:=PermAt s Q) hx ha rfl hg hb hd hf (by simpa using hc) (fun _ _=>trivial) fun u R X' ⟨h1,Q',h2,h3⟩=>by
  subst h1
  subst h3
  refine iq (fun a w ok=>?_) (h Q' h2)
  exact ok.via fun M G=>G.imp fun _ h=>h.1
end
structure RotI (P:List Xs) (p q:Nat) where
 i:Nat
 j:Nat
 h1:1≤i
 h2:i≤p
 h3:1≤j
 h4:j≤q
 Q:List Xs
 hQ:Q.Perm P
theorem eJ (s:Xl) (P:List Xs) (a m b:Nat) (fv:Value) (hs:s.n=P.length) (hm:s.n≤1000000) (ha:a<m) (hb:m<b) (hbs:b≤s.n) :
  Ct prog 325 #[s.v,.int .i64 (a:Nat),.int .i64 (m:Nat),.int .i64 (b:Nat),fv] [postR s P] (fun _=>True) (PermAt s P):=by
 refine cF func325 ntmps325 fun av bor w0=>?_
 repeat' (first|refine aX (hq:=by omega) ?_|refine gs ?_|fail)
 refine ao (ι:=RotI P (m-a) (b-m)) (fun r=>⟨[(0,s.v),(2,.int .i64 (m:Nat)),(4,fv),(10,.int .i64 (r.i:Nat)),(11,.int .i64 (r.j:Nat))],[postR s r.Q],fun _=>True⟩) (fun r=>r.i+r.j) ⟨m-a,b-m,by omega,by omega,by omega,by omega,P,Qn _⟩ (ai al (aj _) fun _ h=>h) fun r=>?_
 obtain ⟨i,j,h1,h2,h3,h4,Q,hQ⟩:=r
 simp only
 have hl:=hQ.length_eq
 by_cases hij:i=j
 · repeat' (first|refine eX ?_|refine aX (hq:=by omega) ?_|refine gs ?_|(refine bS (hc:=bL s Q (m-i) m i fv aa hm aa aa) (h:=fun Q2 hQ2=>?_))|fail)
   exact aN (aF rfl) ⟨rfl,Q2,hQ2.trans hQ,rfl⟩
 · repeat' (first|refine aX (hq:=by omega) ?_|refine aL (hq:=by omega) ?_|refine gs ?_|(refine bS (hc:=bL s Q (m-i) m j fv aa hm aa aa) (h:=fun Q2 hQ2=>?_))|(refine bS (hc:=bL s Q (m-i) (m+j-i) i fv aa hm aa aa) (h:=fun Q2 hQ2=>?_))|(refine gp ?_ ?_<;>intro hx_ this)|fail)
   · exact ⟨(⟨i-j,j,by omega,by omega,h3,h4,Q2,hQ2.trans hQ⟩:RotI P (m-a) (b-m)),(by show i-j+j<i+j;omega),ai al (aj _) fun _ h=>h⟩
   · exact ⟨(⟨i,j-i,h1,h2,by omega,by omega,Q2,hQ2.trans hQ⟩:RotI P (m-a) (b-m)),(by show i+(j-i)<i+j;omega),ai al (aj _) fun _ h=>h⟩
   · have h9:(i:Int)=(j:Int):=by simpa using hx_
     exact absurd (show i=j by omega) hij
def cmpX (x y:Xs):Int:=cmp2 x.rank y.rank x.dg y.dg
theorem dj (x y:Xs):Pu prog 315 #[.agg x.cells.toArray,.agg y.cells.toArray] (fun _=>True) (.int .i64 (cmpX x y)):=by
 refine aw func315 ntmps315 fun av bor w0=>?_
 have h1:=gV x.rank y.rank
 have h2:=gD x.dg y.dg
 rw [cmpX,cmp2]
 generalize cmpI x.rank y.rank=k at *
 generalize SrG.cmpB_g x.dg y.dg=l at *
 have h3:=fun s=>tR s k l
 repeat' (first|refine gs ?_|refine gs1 fun _=>?_|fail)
 rename_i b2 b3
 (refine aq ⟨[0,1,2,3,5,6,7,8],[(4,⟨[],[(9,⟨[],[(10,⟨[],[(11,⟨[12],[]⟩)]⟩)]⟩)]⟩)]⟩ [cel b3 329 y.cells,cel b2 329 x.cells] (fun _=>True) (h:=?_))
 all_goals repeat' (first|(refine ag (hc:=h1) ?_)|(refine ag (hc:=h2) ?_)|(refine ag (hc:=h3 ⟨some ⟨bs,0,none⟩,2,2⟩) (hX:=fun w h=>aV (xs:=[[.int .i64 k],[.int .i64 l]]) h.2 rfl (by decide) (by simp)) ?_)|refine gdz ?_|refine aA ?_ (h':=?_)|exact aB|((refine eD (len:=2) (vs:=[.int .i64 k,.int .i64 l]) fun bs=>?_;refine bI ?_))|fail)
 all_goals
  repeat' (first|refine gs ?_|fail)
  exact ab (ae rfl rfl) rfl
def cmpF:Value:=.func (.func 315) #[] #[]
def Srt (P:List Xs):Prop:=∀ (i j:Nat) (x y:Xs),i<j→P[i]?=some x→P[j]?=some y→¬ cmpX y x<0
def Rel (P Q:List Xs):Prop:=Q.Perm P∧(Srt P→Q=P)
theorem Rel.refl (P:List Xs):Rel P P:=⟨Qn _,fun _=>rfl⟩
theorem Rel.trans {P Q R:List Xs} (h:Rel P Q) (k:Rel Q R):Rel P R:=⟨k.1.trans h.1,fun hs=>by rw [k.2 (h.2 hs▸hs),h.2 hs]⟩
theorem Rel.swap {P Q:List Xs} (h:Rel P Q) {i j:Nat} {x y:Xs} (hi:Q[i]?=some x) (hj:Q[j]?=some y) (hno:Srt P→False):Rel P ((Q.set i y).set j x):=⟨(cL hi hj).trans h.1,fun hs=>(hno hs).elim⟩
theorem Rel.srt {P Q:List Xs} (h:Rel P Q) (hs:Srt P):Srt Q:=by rw [h.2 hs];exact hs
theorem Rel.perm {P Q Q':List Xs} (h:Rel P Q) (k:Q'.Perm Q) (hno:Srt P→False):Rel P Q':=⟨k.trans h.1,fun hs=>(hno hs).elim⟩
def RelAt (s:Xl) (P:List Xs) (u:Value) (R:List Xm) (X:World→Prop):Prop:=u=.tuple #[]∧∃ Q:List Xs,Rel P Q∧R=[postR s Q]
end SrB
end Go.Proofs.YtaolfiikahlmkaaGreatDoor
