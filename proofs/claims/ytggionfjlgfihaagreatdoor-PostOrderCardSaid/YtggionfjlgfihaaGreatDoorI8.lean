/- Joined. -/
import Derived.Test.YtggionfjlgfihaaGreatDoorI1
import Derived.Laws.Cover3
import Derived.Lib.LazyBuf
import Derived.Sort.Walk0
import Derived.Test.YtggionfjlgfihaaGreatDoorI0
import Derived.Shelf.SlIter.Nil
import Derived.Shelf.SlIterI.Nil
import Derived.Shelf.SortM.Plain
import Derived.Shelf.SortM.SortNone
import Derived.Shelf.Slices.CompactS
import Derived.Test.YtggionfjlgfihaaGreatDoorProg
import Derived.RangeFuncSeq
import Derived.OrdersIn
import Derived.Shelf.Slices.CompactI
set_option linter.unusedVariables false
set_option linter.unusedSimpArgs false
set_option maxHeartbeats 16000000
namespace Go.Proofs.YtggionfjlgfihaaGreatDoor.Sy
open Go Go.RowKit
section
variable {P:Program} {N:Nat} {av bor:List Nat} {w0:World} {ops:Array Oper} {rest:List Oper} {k:St→Prop} {E:Env} {loc loc':List Xk} {X:World→Prop}
variable {d:Option Tmp} {ty:TypeId} {pos:String} {af:Array Edge} {g:Option (Nat×Bool)} {bb want:Bool} {K:Exit→St→Prop}
theorem yo {st:St} {x y:Operand} {t t2 e n b':Nat} {p:Option Addr} {m c:Nat} [hI:Ea P t e n b'] (hx:ev st.env x=some (.slice p m c)) (hy:ev st.env y=some (.slice none 0 0)):Sy.Yields P N av bor w0 st (.binOp .eql t x y t2) ty (.bool p.isNone):=Sy.Yields.mk fun A w ok d pos af g=>by
 have:=Lib.run_eql_slice_nil (P:=P) w t e p m c 0 0 (cf hI.out).1
 simp [execOp,ok.eval hx,ok.eval hy,eqGuard,this]
theorem ir {nn:Nat} {x y:Operand} {t t2 e n b':Nat} {p:Option Addr} {m c:Nat} [hI:Ea P t e n b'] (h:Sw P N av bor w0 ops rest ⟨(nn,.bool p.isNone)::E,loc,X⟩ k) (hx:ev E x=some (.slice p m c):=by rfl) (hy:ev E y=some (.slice none 0 0):=by rfl) (hg:gdB ops E g=some (bb,want):=by rfl) (hbb:bb=want:=by exact aq) (hd:Nat.blt nn N=true:=by rfl):Sw P N av bor w0 ops (⟨some nn,.binOp .eql t x y t2,ty,pos,af,g⟩::rest) ⟨E,loc,X⟩ k:=ak (yo hx hy) hg hbb hd h
theorem bp {n:Nat} {x y:Operand} {t t2:TypeId} {kk:IntKind} {a b:Int} (h:Sw P N av bor w0 ops rest ⟨(n,.bool true)::E,loc,X⟩ k) (hx:ev E x=some (.int kk a):=by rfl) (hy:ev E y=some (.int kk b):=by rfl) (hab:a=b:=by first|omega|decide) (hg:gdB ops E g=some (bb,want):=by rfl) (hbb:bb=want:=by exact aq) (hd:Nat.blt n N=true:=by rfl) :
  Sw P N av bor w0 ops (⟨some n,.binOp .eql t x y t2,ty,pos,af,g⟩::rest) ⟨E,loc,X⟩ k:=ak (by have:=ky (P:=P) (N:=N) (av:=av) (bor:=bor) (w0:=w0) (st:=⟨E,loc,X⟩) (ty:=ty) (t:=t) (t2:=t2) hx hy;rwa [decide_eq_true hab] at this) hg hbb hd h
theorem bo {n:Nat} {x y:Operand} {t t2:TypeId} {kk:IntKind} {a b:Int} (h:Sw P N av bor w0 ops rest ⟨(n,.bool false)::E,loc,X⟩ k) (hx:ev E x=some (.int kk a):=by rfl) (hy:ev E y=some (.int kk b):=by rfl) (hab:¬ a=b:=by first|omega|decide) (hg:gdB ops E g=some (bb,want):=by rfl) (hbb:bb=want:=by exact aq) (hd:Nat.blt n N=true:=by rfl) :
  Sw P N av bor w0 ops (⟨some n,.binOp .eql t x y t2,ty,pos,af,g⟩::rest) ⟨E,loc,X⟩ k:=ak (by have:=ky (P:=P) (N:=N) (av:=av) (bor:=bor) (w0:=w0) (st:=⟨E,loc,X⟩) (ty:=ty) (t:=t) (t2:=t2) hx hy;rwa [decide_eq_false hab] at this) hg hbb hd h
theorem di {m:Nat} {t:TypeId} {x y:Operand} {b off T:Nat} {cs vs:List Value} (cs':List Value) {arr:Array Value} [ht:Xs P t m] (hx:ev E x=some (.pointer (some ⟨b,off,none⟩)):=by rfl) (hy:ev E y=some (.agg arr):=by rfl) (hv:arr.toList=vs:=by (first|exact List.toList_toArray|rfl))
  (hA:At (cel b T cs) (cel b T cs') loc loc':=by (repeat (first|exact At.here _|apply At.there))) (hm:vs.length=m:=by rfl) (hl:Nat.ble (off+m) cs.length=true:=by rfl) (h1:vs.all (·.oneCell')=true:=by rfl) (hc2:cs.take off++vs++cs.drop (off+m)=cs':=by rfl) (hg:gdB ops E g=some (bb,want):=by rfl) (hb:bb=want:=by exact aq) (hd:inB N d=true:=by rfl)
  (h:Sw P N av bor w0 ops rest ⟨putE E d undef,loc',X⟩ k):Sw P N av bor w0 ops (⟨d,.store t x y,ty,pos,af,g⟩::rest) ⟨E,loc,X⟩ k:=by
 obtain ⟨_,_,_,h3⟩:=ck (Xs.out (P:=P) (t:=t))
 exact kG (vs:=vs) (cs:=cs) (cs':=cs') (by rw [h3,hm]) hx hy (by simpa [Value.cells] using hv) h1 (by have:=Nat.le_of_ble_eq_true hl;omega) (by rw [hm];exact hc2) hA hg hb hd h
theorem ka {n:Nat} {t e size b':Nat} [hs:Ea P t e size b'] (h:∀ b,Sw P N av bor w0 ops rest ⟨(n,.slice (some ⟨b,0,none⟩) 0 0)::E,orow e size (.slice (some ⟨b,0,none⟩) 0 0) 0 []::loc,X⟩ k) (hg:gdB ops E g=some (bb,want):=by rfl) (hb:bb=want:=by exact aq) (hd:Nat.blt n N=true:=by rfl):Sw P N av bor w0 ops (⟨some n,.buildSlice t 0 #[],ty,pos,af,g⟩::rest) ⟨E,loc,X⟩ k:=Sw.mk fun a w ok=>by
 have hd':inB N (some n)=true:=by have h1:n<N:=Nat.le_of_ble_eq_true hd;simpa [inB] using h1
 obtain ⟨ht,inf,hi,hi1,hi2⟩:=cf hs.out
 have hsz:(sizeOf e).run P w=.ok size w:=by simp [sizeOf,typeInfo,hi,hi1]
 simp only [wpList]
 rw [aX ok (o:=⟨some n,.buildSlice t 0 #[],ty,pos,af,g⟩) hg]
 subst hb
 simp only [beq_self_eq_true,if_true]
 left
 unfold Oper.wp
 have hr:(execOp a.eval ⟨some n,.buildSlice t 0 #[],ty,pos,af,g⟩).run P w=.ok (.value (.slice (some ⟨w.heap.size,0,none⟩) 0 0)) (w.alloc (.cells #[] e)):=by
  have hr0:∀ f:Nat→Value,Array.map f (Array.range 0)=#[]:=fun f=>Array.eq_empty_of_size_eq_zero (by simp)
  simp [execOp,Instr.buildSlice,run_underlying ht,hsz,Instr.fill,hr0,dM]
 rw [hr]
 have ok':Ok N av bor w0 ⟨E,orow e size (.slice (some ⟨w.heap.size,0,none⟩) 0 0) 0 []::loc,X⟩ a (w.alloc (.cells #[] e)):=(ok.via fun M G=>G.new (.cells #[] e) (fun w2=>ORow w2 e size (.slice (some ⟨w.heap.size,0,none⟩) 0 0) 0 []) (fun w2 h=>⟨by simp,.inr ⟨w.heap.size,0,_,(0,0),rfl,h,Nat.le_refl _,Nat.zero_le _,by simp,by simp,.inl rfl⟩⟩))
 exact (h _).run _ _ (cu (some n) _▸ok'.put hd' _)
end
theorem jP {size:Nat}:∀ (xs:List (List Value)) (i:Nat) (cs:List Value),(∀ r∈xs,r.length=size)→xs[i]?=some cs→∀ j u,cs[j]?=some u→xs.flatten[i*size+j]?=some u
 | [],i,cs,_,h,j,u,_=>by simp at h
 | r::xs,0,cs,hl,h,j,u,hj=>by
  simp at h
  subst h
  have h1:=(List.getElem?_eq_some_iff.1 hj).1
  rw [List.flatten_cons,Nat.zero_mul,Nat.zero_add,List.getElem?_append_left h1,hj]
 | r::xs,i+1,cs,hl,h,j,u,hj=>by
  have h1:r.length=size:=hl r ap
  rw [List.flatten_cons,List.getElem?_append_right (by rw [h1,Nat.add_mul];omega),h1,show (i+1)*size+j-size=i*size+j from by rw [Nat.add_mul];omega]
  exact jP xs i cs (fun q hq=>hl q (List.mem_cons_of_mem _ hq)) (by simpa using h) j u hj
theorem pT {size:Nat} (xs:List (List Value)) (h:∀ r∈xs,r.length=size):xs.flatten.length=xs.length*size:=by
 rw [List.length_flatten]
 have:∀ x∈xs.map List.length,x=size:=by
  intro x hx
  obtain ⟨cs,hcs,rfl⟩:=List.mem_map.1 hx
  exact h cs hcs
 rw [List.eq_replicate_of_mem this]
 simp
theorem aV {w:World} {e size n c:Nat} {A:Option Addr} {xs:List (List Value)} (h:ORow w e size (.slice A n c) n xs.flatten) (hn:n=xs.length) (hs:∀ r∈xs,r.length=size):Xe w size ⟨A,n,c⟩ xs:=by
 rcases h.2 with ⟨h1,h2⟩|⟨g,cap,cur,fz,h1,hg,hnc,hcm,hcs,htake,hfz⟩
 · have hx:xs=[]:=List.eq_nil_of_length_eq_zero aa
   subst hx
   simp only [Value.slice.injEq] at h1
   obtain ⟨rfl,rfl,rfl⟩:=h1
   exact ⟨rfl,Nat.le_refl _,Nat.zero_le _,fun i cs hi=>by simp at hi⟩
 · simp only [Value.slice.injEq] at h1
   obtain ⟨rfl,_,rfl⟩:=h1
   refine ⟨hn,hnc,hcm,fun i cs hi=>⟨hs cs (List.mem_of_getElem? hi),rfl,fun j u hj=>⟨rfl,fun a ha=>?_⟩⟩⟩
   cases ha
   have hf:=jP xs i cs hs hi j u hj
   have hadd:(⟨g,0,none⟩:Addr).add (i*size+j)=⟨g,i*size+j,none⟩:=by unfold Addr.add;split<;>simp_all
   rw [hadd,cell_of_row w g _ cur e fz hg]
   rw [←htake,List.getElem?_take] at hf
   split at hf
   · simpa using hf
   · cases hf
theorem pq {w:World} {b e size n:Nat} {cs:List Value} (h:w.heap[b]?=some (.cells cs.toArray e (0,0))) (hl:cs.length=n*size) (hm:n≤maxLen):ORow w e size (.slice (some ⟨b,0,none⟩) n n) n cs :=
 ⟨hl,.inr ⟨b,n,_,(0,0),rfl,h,Nat.le_refl _,hm,by simpa using hl,by simp [←hl],.inl rfl⟩⟩
theorem aR {w:World} {b e size n:Nat} {xs:List (List Value)} (h:w.heap[b]?=some (.cells xs.flatten.toArray e (0,0))) (hn:n=xs.length) (hm:n≤maxLen) (hs:∀ r∈xs,r.length=size):Xe w size ⟨some ⟨b,0,none⟩,n,n⟩ xs :=
 aV (pq h (by rw [pT xs hs,hn]) hm) hn hs
theorem Xe.none_nil {w:World} {size:Nat} {s:Xj} {xs:List (List Value)} (h:Xe w size s xs) (hp:s.p.isNone=true):xs=[]:=by
 cases xs with
 | nil=>rfl
 | cons cs r =>
  have:=(h.row 0 cs rfl).2.1
  cases hq:s.p<;>simp_all
theorem aJ (w:World) (size:Nat):Xe w size ⟨none,0,0⟩ []:=⟨rfl,Nat.le_refl _,Nat.zero_le _,fun i cs hi=>by simp at hi⟩
def CloneAt (size:Nat) (xs:List (List Value)) (u:Value) (X:World→Prop):Prop:=∃ s:Xj,u=s.v∧s.n=xs.length∧∀ w,X w→Xe w size s xs
end Go.Proofs.YtggionfjlgfihaaGreatDoor.Sy
namespace Go.Proofs.YtggionfjlgfihaaGreatDoor.Sy
open Go Go.RowKit Go.MapKept
def mdel {κ β:Type} [Xm κ]:List (κ×β)→κ→List (κ×β)
 | [],_=>[]
 | (k',v')::r,k=>bif Xm.eqb k k' then r else (k',v')::mdel r k
theorem iK {κ β:Type} [Xm κ]:∀ (l:List (κ×β)) (k:κ),mget l k=none→mdel l k=l
 | [],_,_=>rfl
 | (k',v')::r,k,h=>by
  simp only [mget] at h
  simp only [mdel]
  cases hb:Xm.eqb k k' with
  | true=>rw [hb] at h;simp at h
  | false=>rw [hb] at h;rw [cond_false,iK r k (by simpa using h)]
theorem li {κ β:Type} [Xm κ]:∀ (l:List (κ×β)) (k:κ) (j:Nat) (v:β),l[j]?=some (k,v)→(l.map (·.1)).Nodup→mdel l k=l.eraseIdx j
 | [],_,j,v,h,_=>by simp at h
 | (k',v')::r,k,0,v,h,hn=>by
  simp at h
  obtain ⟨rfl,rfl⟩:=h
  have:Xm.eqb k' k'=true:=(Xm.eqb_iff k' k').2 rfl
  simp [mdel,this]
 | (k',v')::r,k,j+1,v,h,hn=>by
  have hne:Xm.eqb k k'=false:=by
   cases hb:Xm.eqb k k' with
   | false=>rfl
   | true =>
    have e:=(Xm.eqb_iff k k').1 hb
    subst e
    simp only [List.map_cons,List.nodup_cons] at hn
    exact absurd (List.mem_map.2 ⟨(k,v),List.mem_of_getElem? (by simpa using h),rfl⟩) hn.1
  simp only [mdel,hne,cond_false,List.eraseIdx_cons_succ]
  rw [li r k j v (by simpa using h) (by simp only [List.map_cons,List.nodup_cons] at hn;exact hn.2)]
theorem zC {κ:Type} [Xm κ] {a b:κ} (h:Xm.enc a=Xm.enc b):a=b:=by
 have h1:=Xm.same a a
 have h2:=Xm.same a b
 rw [←h] at h2
 rw [h1] at h2
 have h3:Xm.eqb a a=true:=(Xm.eqb_iff a a).2 rfl
 rw [h3] at h2
 exact (Xm.eqb_iff a b).1 (Option.some.inj h2).symm
theorem jk {α β:Type} (f:α→β):∀ (l:List α) (j:Nat),(l.eraseIdx j).map f=(l.map f).eraseIdx j
 | [],j=>by simp
 | a::l,0=>rfl
 | a::l,j+1=>by simp [jk f l j]
theorem lX {κ:Type} [Xm κ] {P:Program} {w:World} {t et kt ty:TypeId} (ht:mapOf P t=some (et,keyD κ)) {g:Nat} {l:List (κ×Value)} (h:MapAt w g l) (k:κ) :
  ∃ o,(Builtin.delete_ #[t,kt] ty #[.map (some g),Xm.enc k]).run P w=.ok (.tuple #[]) { w with heap:=w.heap.setIfInBounds g o }∧∀ w':World,w'.heap[g]?=some o→MapAt w' g (mdel l k):=by
 obtain ⟨kt',h1,h2⟩:=ig ht
 obtain ⟨es,clock,hb,hs,hl⟩:=h
 have hk:=Xm.ok k
 have hnd:(l.map (·.1)).Nodup:=by
  have h3:=hs.2.2
  have h4:es.toList.map (·.key)=l.map fun p=>Xm.enc p.1:=by
   have:=congrArg (List.map Prod.fst) hl
   simpa [List.map_map,Function.comp_def] using this
  rw [h4] at h3
  unfold List.Nodup at h3 ⊢
  rw [List.pairwise_map] at h3 ⊢
  exact h3.imp fun hab e=>hab (by rw [e])
 rcases iP k es.toList l 0 hl with ⟨g1,g2,g3,g4⟩|⟨j,e,v0,g1,g2,g3,g4,g5⟩
 · refine ⟨.map es clock,?_,fun w' hw=>⟨es,clock,hw,hs,?_⟩⟩
   · simp [Builtin.delete_,run_underlying h1,MapKept.run_getObj_map hb,MapKept.run_checkKey h2 hk,MapKept.run_findKey h2 g1,MapKept.run_setObj_map _ hb,Result.andThen]
   · rw [iK l k g2]
     exact hl
 · have hj:es[j]?=some e:=by simpa using g2
   have hlj:l[j]?=some (k,v0):=by
    have h3:=congrArg (fun q=>q[j]?) hl
    simp only [List.getElem?_map,Array.getElem?_toList,hj,Option.map_some] at h3
    cases hq:l[j]? with
    | none=>rw [hq] at h3;simp at h3
    | some p =>
     rw [hq] at h3
     simp only [Option.map_some,Option.some.injEq,Prod.mk.injEq] at h3
     have e1:p.1=k:=zC (h3.1.symm.trans g3)
     have e2:mget l k=some p.2:=by
      have key:∀ (l:List (κ×Value)) (j:Nat) (p:κ×Value),l[j]?=some p→(l.map (·.1)).Nodup→mget l p.1=some p.2:=by
       intro l
       induction l with
       | nil=>intro j p h;simp at h
       | cons a r ih =>
        intro j p h hn
        cases j with
        | zero =>
         simp at h
         subst h
         have:Xm.eqb a.1 a.1=true:=(Xm.eqb_iff _ _).2 rfl
         simp [mget,this]
        | succ j =>
         simp only [List.map_cons,List.nodup_cons] at hn
         have hne:Xm.eqb p.1 a.1=false:=by
          cases hb:Xm.eqb p.1 a.1 with
          | false=>rfl
          | true =>
           have e:=(Xm.eqb_iff _ _).1 hb
           exact absurd (List.mem_map.2 ⟨p,List.mem_of_getElem? (by simpa using h),e⟩) hn.1
         simp only [mget,hne,cond_false]
         exact ih j p (by simpa using h) hn.2
      have:=key l j p hq hnd
      rwa [e1] at this
     rw [g4] at e2
     obtain ⟨p1,p2⟩:=p
     simp only at e1 e2
     rw [e1,Option.some.inj e2]
   refine ⟨.map (es.eraseIdxIfInBounds j) clock,?_,fun w' hw=>⟨_,_,hw,stamped_erase hs j,?_⟩⟩
   · simp [Builtin.delete_,run_underlying h1,MapKept.run_getObj_map hb,MapKept.run_checkKey h2 hk,MapKept.run_findKey h2 g1,MapKept.run_setObj_map _ hb,Result.andThen]
   · rw [li l k j v0 hlj hnd]
     have hlt:j<es.size:=(Array.getElem?_eq_some_iff.1 hj).1
     have e1:(es.eraseIdxIfInBounds j).toList=es.toList.eraseIdx j:=by simp [Array.eraseIdxIfInBounds,hlt]
     rw [e1,jk,hl,←jk]
section
variable {P:Program} {N:Nat} {av bor:List Nat} {w0:World} {ops:Array Oper} {rest:List Oper} {k:St→Prop} {E:Env} {loc loc':List Xk} {X:World→Prop}
variable {d:Option Tmp} {ty:TypeId} {pos:String} {af:Array Edge} {g:Option (Nat×Bool)} {bb want:Bool} {K:Exit→St→Prop}
theorem tL {κ:Type} [Xm κ] {t et kt:Nat} [ht:TyMap P t et (keyD κ)] {m x:Operand} {q:Nat} {l:List (κ×Value)} {kk:κ} (h:Sw P N av bor w0 ops rest ⟨putE E d (.tuple #[]),loc',X⟩ k) (hm:ev E m=some (.map (some q)):=by rfl) (hx:ev E x=some (Xm.enc kk):=by rfl) (hA:At (mapr q l) (mapr q (mdel l kk)) loc loc':=by (repeat (first|exact At.here _|apply At.there))) (hg:gdB ops E g=some (bb,want):=by rfl) (hb:bb=want:=by exact aq) (hd:inB N d=true:=by rfl):Sw P N av bor w0 ops (⟨d,.call ⟨.builtin .delete,#[m,x],#[t,kt]⟩,ty,pos,af,g⟩::rest) ⟨E,loc,X⟩ k:=Sw.mk fun a w ok=>by
 simp only [wpList]
 rw [aX ok (o:=⟨d,.call ⟨.builtin .delete,#[m,x],#[t,kt]⟩,ty,pos,af,g⟩) hg]
 subst hb
 simp only [beq_self_eq_true,if_true]
 left
 unfold Oper.wp
 have hmm:MapAt w q l:=(ok.gam.here _ hA.mem).now
 obtain ⟨o,hr,ho⟩:=lX (P:=P) (kt:=kt) (ty:=ty) ht.out hmm kk
 obtain ⟨es,c,hb',_⟩:=hmm
 have hs:=heap_set (o':=o) hb'
 have ok':Ok N av bor w0 ⟨E,loc',X⟩ a { w with heap:=w.heap.setIfInBounds q o }:=(ok.via fun M G=>G.turn (hA.app M) rfl rfl rfl (by simp) (fun i hi=>hs.2 i hi) fun w2 h2=>ho w2 (h2.trans hs.1))
 have hr':(execOp a.eval ⟨d,.call ⟨.builtin .delete,#[m,x],#[t,kt]⟩,ty,pos,af,g⟩).run P w=.ok (.value (.tuple #[])) { w with heap:=w.heap.setIfInBounds q o }:=by
  simp only [execOp,resolve,invoke,builtin,Sem.run_bind,Sem.run_pure,Result.andThen_ok,List.map_toArray,List.map_cons,List.map_nil,ok.eval (st:=⟨E,loc,X⟩) hm,ok.eval (st:=⟨E,loc,X⟩) hx,hr]
 rw [hr']
 exact h.run _ _ (cu d _▸ok'.put hd _)
theorem vt {st:St} {x y:Operand} {t e size b':Nat} [hI:Ea P t e size b'] {p:Option Addr} {m c:Nat} {kk:IntKind} {i:Int} (hx:ev st.env x=some (.slice p m c)) (hy:ev st.env y=some (.int kk i)) (h0:0≤i) (h1:i≤(c:Int)) :
  Sy.Yields P N av bor w0 st (.slice t x none (some y) none) ty (.slice p i.toNat c):=Sy.Yields.mk fun A w ok d pos af g=>by
 obtain ⟨hu,inf,hi,hs,hb⟩:=cf hI.out
 have hz:=run_sizeOf (P:=P) (w:=w) (t:=e) (n:=size) (by simp [hi,hs])
 have hadd:∀ a:Addr,a.add 0=a:=fun a=>by simp [Addr.add]
 have hmap:p.map (fun a=>a.add 0)=p:=by cases p<;>simp [hadd]
 simp [execOp,ok.eval hx,ok.eval hy,Instr.sliceAt,run_underlying hu,Instr.slice,Instr.sliceBounds,run_sliceBound,h0,h1,hz,hmap]
theorem yC {n:Nat} {x y:Operand} {t e size b':Nat} [hI:Ea P t e size b'] {p:Option Addr} {m c:Nat} {kk:IntKind} {i:Int} (h:Sw P N av bor w0 ops rest ⟨(n,.slice p i.toNat c)::E,loc,X⟩ k) (hx:ev E x=some (.slice p m c):=by rfl) (hy:ev E y=some (.int kk i):=by rfl) (h0:0≤i:=by omega) (h1:i≤(c:Int)) (hg:gdB ops E g=some (bb,want):=by rfl) (hbb:bb=want:=by exact aq) (hd:Nat.blt n N=true:=by rfl):Sw P N av bor w0 ops (⟨some n,.slice t x none (some y) none,ty,pos,af,g⟩::rest) ⟨E,loc,X⟩ k:=ak (vt hx hy h0 h1) hg hbb hd h
def nullR:Xk:=⟨[],fun _=>True⟩
theorem Xq.null {w:World} (G:Xq av bor w0 loc X w):Xq av bor w0 (nullR::loc) X w:=by
 have e1:fps (nullR::loc)=fps loc:=by simp [fps,nullR]
 refine ⟨G.fr,G.avb,by rw [e1];exact G.nodup,by rw [e1];exact G.own,fun x hx=>?_,by rw [e1];exact G.keep⟩
 rcases List.mem_cons.1 hx with rfl|hx
 · exact fun _ _=>trivial
 · exact G.here x hx
theorem ec {x:Operand} {xs:List Operand} {ats:Array TypeId} {f:FuncId} {first caps:Array Value} {args all:List Value} {X1:World→Prop} {Post:Value→List Xk→(World→Prop)→Prop} {r:Xk} (h:∀ v R X',Post v R X'→Sw P N av bor w0 ops rest ⟨putE E d v,R++loc',fun w=>X w∧X' w⟩ k) (hx:ev E x=some (.func (.func f) first caps):=by rfl) (ha:evs E xs=some args:=by rfl) (hall:first.toList++args++caps.toList=all:=by rfl) (hg:gdB ops E g=some (bb,want):=by rfl) (hb:bb=want:=by exact aq) (hd:inB N d=true:=by rfl) (hf:Xv P f:=by first|infer_instance|exact ⟨ac⟩) (hc:Ct P f all.toArray [r] X1 Post) (hA:At r nullR loc loc':=by (repeat (first|exact At.here _|apply At.there))) (hX:∀ w,X w→X1 w:=by (first|exact fun _ _=>trivial|exact fun _ h=>h|exact fun _ h=>h.1|exact fun _ h=>h.2)) :
  Sw P N av bor w0 ops (⟨d,.call ⟨.value x,xs.toArray,ats⟩,ty,pos,af,g⟩::rest) ⟨E,loc,X⟩ k:=by
 obtain ⟨f',h1,h2⟩:=hA.perm
 refine bX h1 ?_
 refine aZ (pre:=[r]) (fr:=f') (Post:=Post) hx ha hall hg hb hd hf hc hX fun u R X' hp=>?_
 refine ix (fun a w ok=>?_) (h u R X' hp)
 refine ok.via fun M G=>?_
 have G1:=(G.null).perm ((List.perm_middle (l₁:=R) (a:=nullR) (l₂:=f')).symm.append_right M)
 exact G1.perm (((List.Perm.refl R).append h2.symm).append_right M)
theorem yW {E':Env} {l':List Xk} {X':World→Prop} (he:sub E E') (hl:loc.Perm l') (hx:∀ w,X w→X' w):∀ a w,Ok N av bor w0 ⟨E,loc,X⟩ a w→Ok N av bor w0 ⟨E',l',X'⟩ a w:=fun a w ok =>
 ae he (aj _) hx a w (ok.via fun M G=>G.perm (hl.append_right M))
theorem zF {c:Code} {l:List Xk} (hs:l.Sublist loc) (h:Cw P N av bor w0 c ⟨E,l,X⟩ K):Cw P N av bor w0 c ⟨E,loc,X⟩ K:=Cw.mk fun a w ok=>h.run a w (ok.via fun M G=>G.drop (hs.append_right M))
end
theorem cX {P:Program} {f:FuncId} {fn:Func} {c:Code} {args:List Value} {pre:List Xk} {X:World→Prop} {Post:Value→List Xk→Prop} (N:Nat)
  (hf:P.funcs[f]?=some fn) (hb:fn.body=some c) (hN:fn.ntmps=N) (hn:Nat.ble args.length N=true)
  (h:∀ av bor w0,Cw P N av bor w0 c ⟨params 0 args,pre,X⟩ (ends P fn N fun u R _=>∃ R',R'.Sublist R∧Post u R')):Ct P f args.toArray pre X fun u R _=>Post u R:=Ct.mk fun w av G=>by
 have h1:=(ft (P:=P) (Post:=fun u R _=>∃ R',R'.Sublist R∧Post u R') N hf hb hN hn h).run w av G
 refine h1.mono fun e w' ⟨u,R,X',he,⟨R',hs,hp⟩,G'⟩=>⟨u,R',X',he,hp,G'.drop hs⟩
end Go.Proofs.YtggionfjlgfihaaGreatDoor.Sy
namespace Go.Proofs.YtggionfjlgfihaaGreatDoor.Sy
open Go Go.Proofs
theorem gK (a:ByteArray):a.toList=bl a:=by simp [bl,ByteArray.toList_eq]
theorem x6 {a b:ByteArray} (h:bl a=bl b):a=b:=by rw [←zU a,←zU b,h]
theorem seqB_iff {a b:ByteArray}:seqB a b=true↔a=b:=by
 unfold seqB
 rw [gK,gK,beq_iff_eq]
 exact ⟨x6,fun h=>by rw [h]⟩
theorem be (a:ByteArray):seqB a a=true:=seqB_iff.2 rfl
theorem seqB_ne {a b:ByteArray}:seqB a b=false↔a≠b:=by
 rw [←Bool.not_eq_true,seqB_iff]
theorem mo (a b:ByteArray):seqB a b=seqB b a:=by
 cases h:seqB b a with
 | true=>rw [seqB_iff.1 h];exact be _
 | false=>exact seqB_ne.2 fun e=>seqB_ne.1 h e.symm
def ltB (a b:ByteArray):Bool:=Op.bytesLess a.toList b.toList
theorem kf {a b:ByteArray}:ltB a b=true↔bl a<bl b:=by
 unfold ltB
 rw [gK,gK,Go.Proofs.bytesLess_eq,decide_eq_true_eq]
theorem fN (a:ByteArray):ltB a a=false:=by
 rw [←Bool.not_eq_true,kf]
 exact List.lt_irrefl _
theorem fj {a b c:ByteArray} (h:ltB a b=true) (k:ltB b c=true):ltB a c=true:=by
 rw [kf] at *
 exact List.lt_trans h k
theorem uz {a b:ByteArray} (h:ltB a b=true):ltB b a=false:=by
 rw [←Bool.not_eq_true]
 intro k
 have:=fj h k
 rw [fN] at this
 cases this
theorem gT {a b:ByteArray} (h:ltB a b=false) (k:ltB b a=false):a=b:=by
 rw [←Bool.not_eq_true,kf] at *
 exact x6 (List.le_antisymm (List.not_lt.1 k) (List.not_lt.1 h))
def Asc (l:List ByteArray):Prop:=l.Pairwise fun a b=>ltB a b=true
theorem Asc.getD {l:List ByteArray} (h:Asc l) {i j:Nat} (hij:i<j) (hj:j<l.length):ltB (l.getD i .empty) (l.getD j .empty)=true:=by
 rw [List.getD_eq_getElem?_getD,List.getD_eq_getElem?_getD,List.getElem?_eq_getElem hj,List.getElem?_eq_getElem (by omega)]
 exact List.pairwise_iff_getElem.1 h i j aa hj hij
theorem AQ (l:List (List UInt8)):(l.mergeSort leB).Pairwise fun a b=>a≤b:=by
 have h:=List.pairwise_mergeSort (le:=leB) (fun a b c h1 h2=>by
  simp only [leB,decide_eq_true_eq] at *
  exact List.le_trans h1 h2) (fun a b=>by
  simp only [leB,Bool.or_eq_true,decide_eq_true_eq]
  exact List.le_total a b) l
 exact h.imp fun h=>by simpa [leB] using h
theorem rE {zs:List (List UInt8)} (h:zs.Pairwise fun a b=>a≤b):(Lib.compact zs).Pairwise fun a b=>a<b:=by
 unfold Lib.compact Lib.compactUpTo
 rw [List.pairwise_map,List.pairwise_filter]
 refine (List.Pairwise.and_mem.1 (List.pairwise_lt_range (n:=zs.length))).imp ?_
 rintro i j ⟨_,hj,hij⟩ _ hk
 have hj':=List.mem_range.1 hj
 have hne:zs.toArray[j]! ≠ zs.toArray[j-1]! := by
  simp only [Lib.keeps,decide_eq_true_eq] at hk
  exact hk.resolve_left aa
 have hpw:=List.pairwise_iff_getElem.1 h
 rw [getElem!_pos zs.toArray j (by simpa using hj'),getElem!_pos zs.toArray (j-1) (by simp;omega)] at hne
 rw [getElem!_pos zs.toArray j (by simpa using hj'),getElem!_pos zs.toArray i (by simp;omega)]
 simp only [List.getElem_toArray] at *
 have h1:zs[j-1]≤zs[j]:=hpw (j-1) j aa hj' aa
 have h2:zs[i]≤zs[j-1]:=by
  by_cases e:i=j-1
  · subst e;exact List.le_refl _
  · exact hpw i (j-1) aa aa aa
 have h3:zs[j-1]<zs[j]:=by
  rcases Decidable.em (zs[j-1]<zs[j]) with h|h
  · exact h
  · exact absurd (List.le_antisymm (List.not_lt.1 h) h1) hne
 exact List.not_le.1 fun h4=>absurd (List.lt_of_le_of_lt h2 h3) (List.not_lt.2 h4)
theorem uy (l:List (List UInt8)):(l.map lb).map bl=l:=by
 rw [List.map_map]
 have e:(bl ∘ lb)=id:=by funext a;exact tj a
 rw [e,List.map_id]
theorem j5 (l:List ByteArray):Asc (compB (sortB l)):=by
 unfold Asc compB sortB
 rw [uy,List.pairwise_map]
 refine (rE (AQ _)).imp fun h=>?_
 rw [kf,tj,tj]
 exact h
end Go.Proofs.YtggionfjlgfihaaGreatDoor.Sy
namespace Go.Proofs.YtggionfjlgfihaaGreatDoor.Sy
open Go Go.RowKit
theorem CellAt.shift {w:World} {p:Option Addr} {k q:Nat} {u:Value}:CellAt w (p.map (·.add k)) q u↔CellAt w p (k+q) u:=by
 cases p with
 | none=>simp [CellAt]
 | some a=>simp [CellAt,eF]
theorem Xe.take {w:World} {size:Nat} {s:Xj} {xs:List (List Value)} (h:Xe w size s xs) {n:Nat} (hn:n≤xs.length):Xe w size ⟨s.p,n,s.c⟩ (xs.take n):=by
 refine ⟨by rw [List.length_take];show n=_;omega,by have:=h.cap;have:=h.len;show n≤s.c;omega,h.max,fun i cs hi=>h.row i cs ?_⟩
 rw [List.getElem?_take] at hi
 split at hi
 · exact hi
 · cases hi
def Xj.from (s:Xj) (size n:Nat):Xj:=⟨if s.c=n then s.p else s.p.map (·.add (n*size)),s.n-n,s.c-n⟩
theorem Xe.drop {w:World} {size:Nat} {s:Xj} {xs:List (List Value)} (h:Xe w size s xs) {n:Nat} (hn:n≤xs.length):Xe w size (s.from size n) (xs.drop n):=by
 have h1:=h.len
 have h2:=h.cap
 have h3:=h.max
 refine ⟨by rw [List.length_drop];show s.n-n=_;omega,by show s.n-n≤s.c-n;omega,by show s.c-n≤maxLen;omega,fun i cs hi=>?_⟩
 rw [List.getElem?_drop] at hi
 have hlt:=(List.getElem?_eq_some_iff.1 hi).1
 have hr:=h.row (n+i) cs hi
 have e:(s.from size n).p=s.p.map (·.add (n*size)):=by unfold Xj.from;rw [if_neg (by omega)]
 refine ⟨hr.1,by rw [e];simpa using hr.2.1,fun j u hj=>?_⟩
 rw [e,CellAt.shift,←Nat.add_assoc,←Nat.add_mul]
 exact hr.2.2 j u hj
section
variable {P:Program} {N:Nat} {av bor:List Nat} {w0:World} {ops:Array Oper} {rest:List Oper} {k:St→Prop} {E:Env} {loc loc':List Xk} {X:World→Prop}
variable {d:Option Tmp} {ty:TypeId} {pos:String} {af:Array Edge} {g:Option (Nat×Bool)} {bb want:Bool} {K:Exit→St→Prop}
theorem Ab {st:St} {x y:Operand} {t e size b':Nat} [hI:Ea P t e size b'] {s:Xj} {kk:IntKind} {i:Int} (hx:ev st.env x=some s.v) (hy:ev st.env y=some (.int kk i)) (h0:0≤i) (h1:i≤(s.n:Int)) :
  Sy.Yields P N av bor w0 st (.slice t x (some y) none none) ty (s.from size i.toNat).v:=Sy.Yields.mk fun A w ok d pos af g=>by
 obtain ⟨p,m,c⟩:=s
 obtain ⟨hu,inf,hi,hs,hb⟩:=cf hI.out
 have hz:=run_sizeOf (P:=P) (w:=w) (t:=e) (n:=size) (by simp [hi,hs])
 have hx':ev st.env x=some (.slice p m c):=hx
 have h1':i≤(m:Int):=h1
 simp [execOp,ok.eval hx',ok.eval hy,Instr.sliceAt,run_underlying hu,Instr.slice,Instr.sliceBounds,run_sliceBound,h0,h1',hz,Xj.v,Xj.from]
theorem mP (size:Nat):∀ (vs:List Value) (k:Nat) (pre z:List Value),(∀ v∈vs,v.cells.size=size)→pre.length=k*size→z.length=vs.length*size →
  Instr.fill (fun i=>some (i*size,size)) (pre++z).toArray ((vs.zipIdx k).map fun p=>(p.2,p.1))=some (pre++vs.flatMap fun v=>v.cells.toList).toArray
 | [],k,pre,z,_,_,hz=>by
  have:z=[]:=List.eq_nil_of_length_eq_zero (by simpa using hz)
  subst this
  simp [Instr.fill]
 | v::vs,k,pre,z,h1,hp,hz=>by
  have hv:=h1 v ap
  have hvl:v.cells.toList.length=size:=by simpa using hv
  simp only [List.length_cons,Nat.add_mul,Nat.one_mul] at hz
  have ih:=mP size vs (k+1) (pre++v.cells.toList) (z.drop size) (fun u hu=>h1 u (List.mem_cons_of_mem _ hu)) (by rw [List.length_append,hp,hvl,Nat.add_mul,Nat.one_mul]) (by rw [List.length_drop];omega)
  have h3:=ly pre.length v.cells.toList 0 (pre++z).toArray (by simp;omega)
  have h4:(v.cells.zipIdx.foldl (fun cs (p:Value×Nat)=>cs.setIfInBounds (k*size+p.2) p.1) (pre++z).toArray)=(pre++v.cells.toList++z.drop size).toArray:=by
   rw [←Array.foldl_toList,Array.toList_zipIdx,←hp,h3]
   simp [hv]
  simp only [List.zipIdx_cons,List.map_cons,Instr.fill]
  have hc:¬ ((decide (v.cells.size≠size)||decide (k*size+v.cells.size>(pre++z).toArray.size))=true):=by
   simp [hv];omega
  rw [if_neg hc,h4,ih]
  simp [List.flatMap_cons]
theorem bL {n len:Nat} {t e size b':Nat} [hs:Ea P t e size b'] {z:Value} [hz:Xo P e z] {parts:List (Nat×Operand)} {vs css:List Value} (h:∀ b,Sw P N av bor w0 ops rest ⟨(n,.slice (some ⟨b,0,none⟩) len len)::E,cel b e css::loc,X⟩ k) (hzs:z.cells.size=size:=by rfl) (hp:partsOf E 0 parts=some vs:=by rfl) (hl:vs.length=len:=by rfl) (hsz:(vs.all fun v=>v.cells.size==size)=true) (hcs:(vs.flatMap fun v=>v.cells.toList)=css) (hpos:Nat.ble (len*size) 1000000=true:=by rfl) (h0:Nat.blt 0 (len*size)=true:=by rfl) (hg:gdB ops E g=some (bb,want):=by rfl) (hb:bb=want:=by exact aq) (hd:Nat.blt n N=true:=by rfl):Sw P N av bor w0 ops (⟨some n,.buildSlice t len parts.toArray,ty,pos,af,g⟩::rest) ⟨E,loc,X⟩ k:=Sw.mk fun a w ok=>by
 have hd':inB N (some n)=true:=by have h1:n<N:=Nat.le_of_ble_eq_true hd;simpa [inB] using h1
 have hle:len*size≤1000000:=Nat.le_of_ble_eq_true hpos
 have hlt:0<len*size:=Nat.le_of_ble_eq_true h0
 obtain ⟨ht,inf,hi,hi1,hi2⟩:=cf hs.out
 have hsz1:(sizeOf e).run P w=.ok size w:=by simp [sizeOf,typeInfo,hi,hi1]
 have hzr:(zeroValue e).run P w=.ok z w:=dj hz.out w
 simp only [wpList]
 rw [aX ok (o:=⟨some n,.buildSlice t len parts.toArray,ty,pos,af,g⟩) hg]
 subst hb
 simp only [beq_self_eq_true,if_true]
 left
 unfold Oper.wp
 have hfill:∀ Z:Array Value,Z.size=len*size→Instr.fill (fun i=>some (i*size,size)) Z (parts.map fun p=>(p.1,a.eval p.2))=some css.toArray:=fun Z hZ=>by
  rw [eB ok parts 0 vs hp,←hcs]
  have:=mP size vs 0 [] Z.toList (fun v hv=>by simpa using List.all_eq_true.1 hsz v hv) (by simp) (by simp [hZ,hl])
  simpa using this
 have hr:(execOp a.eval ⟨some n,.buildSlice t len parts.toArray,ty,pos,af,g⟩).run P w=.ok (.value (.slice (some ⟨w.heap.size,0,none⟩) len len)) (w.alloc (.cells css.toArray e)):=by
  have hn:¬ (16777216<len*size):=by omega
  have hne:¬ (len*size=0):=by omega
  have hne2:¬ (len=0∨size=0):=fun h=>hne (by rcases h with h|h<;>simp [h])
  have hf:=hfill ((Array.range (len*size)).map (fun x=>z.cells[x%z.cells.size]!)) (by simp)
  simp [execOp,Instr.buildSlice,run_underlying ht,hsz1,hzr,hne,hne2,hn,hf,dM]
 rw [hr]
 have ok':Ok N av bor w0 ⟨E,cel w.heap.size e css::loc,X⟩ a (w.alloc (.cells css.toArray e)):=(ok.via fun M G=>G.new _ _ fun _ h=>h)
 exact (h _).run _ _ (cu (some n) _▸ok'.put hd' _)
theorem gW {ι:Type} (M:ι→St) {x y:Code} {st:St} (h1:Cw P N av bor w0 x st (thn (fun s=>∃ i,∀ a w,Ok N av bor w0 s a w→Ok N av bor w0 (M i) a w) K)) (h2:∀ i,Cw P N av bor w0 y (M i) K) :
  Cw P N av bor w0 x st (thn (fun s=>Cw P N av bor w0 y s K) K):=ta (fun e s h=>by
 cases e with
 | normal =>
  obtain ⟨i,hi⟩:=h
  exact sZ hi (h2 i)
 | _=>exact h) h1
end
end Go.Proofs.YtggionfjlgfihaaGreatDoor.Sy
namespace Go.Proofs.YtggionfjlgfihaaGreatDoor
open Go Go.Proofs Sy
section
variable {P:Program} {N:Nat} {av bor:List Nat} {w0:World} {ty:TypeId}
end
section
variable {P:Program} {N:Nat} {av bor:List Nat} {w0:World} {st:St} {ty:TypeId} {x y z:Operand} {t t2:TypeId}
end
section
variable {P:Program} {N:Nat} {av bor:List Nat} {w0:World} {st:St} {ty:TypeId} {x:Operand} {t:TypeId}
end
section
variable {P:Program} {N:Nat} {av bor:List Nat} {w0:World} {ops:Array Oper} {rest:List Oper} {kk:St→Prop} {E:Env} {loc:List Xk} {X:World→Prop} {x y:Operand} {t t2:TypeId}
variable {n:Nat} {ty:TypeId} {pos:String} {af:Array Edge} {g:Option (Nat×Bool)} {bb want:Bool}
end
end Go.Proofs.YtggionfjlgfihaaGreatDoor
namespace Go.Proofs.YtggionfjlgfihaaGreatDoor.Sy
open Go Go.RowKit
section
variable {P:Program} {N:Nat} {av bor:List Nat} {w0:World}
variable {loc0:List Xk} {X0:World→Prop} {ops:Array Oper} {fuel:Nat} {listed:Array Bool} {E:Env} {loc:List Xk} {X:World→Prop} {k:St→Prop} {K:Exit→St→Prop}
variable {n:Nat} {o:Op} {ty:TypeId} {pos:String} {af:Array Edge} {g:Option (Nat×Bool)} {v:Value} {bb want:Bool}
end
end Go.Proofs.YtggionfjlgfihaaGreatDoor.Sy
namespace Go.Proofs
open Go.Shelf
def Tryz.len64_ren:Go.Shelf.Ren:=⟨fun|129=>130|n=>n,fun|53=>187|3=>3|4=>4|46=>121|5=>5|9=>9|n=>n,fun|n=>n⟩
theorem Tryz.len64:Go.Proofs.Lays.n129 Tryz.prog Tryz.len64_ren:={
 mixed:=by kernel_rfl
 f129:=Tryz.func130.trans (congrArg some (by kernel_rfl))
 t3:=Tryz.underlying3
 a3:=Tryz.isAgg3
 z3:=Tryz.sizeOf3
 v3:=Tryz.zeroValue3
 t4:=Tryz.underlying4
 a4:=Tryz.isAgg4
 z4:=Tryz.sizeOf4
 v4:=Tryz.zeroValue4
 t5:=Tryz.underlying5
 a5:=Tryz.isAgg5
 z5:=Tryz.sizeOf5
 v5:=Tryz.zeroValue5
 t9:=Tryz.underlying9
 a9:=Tryz.isAgg9
 z9:=Tryz.sizeOf9
 v9:=Tryz.zeroValue9
 t46:=Tryz.underlying121
 a46:=Tryz.isAgg121
 z46:=Tryz.sizeOf121
 v46:=Tryz.zeroValue121
 t53:=Tryz.underlying187
 a53:=Tryz.isAgg187
 z53:=Tryz.sizeOf187
 v53:=Tryz.zeroValue187 }
def Tryz.mul64_ren:Go.Shelf.Ren:=⟨fun|264=>215|n=>n,fun|53=>187|46=>121|n=>n,fun|n=>n⟩
theorem Tryz.mul64:Go.Proofs.Lays.n264 Tryz.prog Tryz.mul64_ren:={
 mixed:=by kernel_rfl
 f264:=Tryz.func215.trans (congrArg some (by kernel_rfl))
 t46:=Tryz.underlying121
 a46:=Tryz.isAgg121
 z46:=Tryz.sizeOf121
 v46:=Tryz.zeroValue121
 t53:=Tryz.underlying187
 a53:=Tryz.isAgg187
 z53:=Tryz.sizeOf187
 v53:=Tryz.zeroValue187 }
def Tryz.join_ren:Go.Shelf.Ren:=⟨fun|156=>85|165=>141|166=>142|169=>143|240=>195|241=>196|276=>217|277=>218|n=>n,fun|31=>30|9=>9|3=>3|4=>4|0=>0|20=>20|72=>210|76=>214|70=>208|37=>120|75=>213|127=>250|164=>271|5=>5|80=>216|n=>n,fun|n=>n⟩
theorem Tryz.join:Go.Proofs.Lays.n156 Tryz.prog Tryz.join_ren:={
 mixed:=by kernel_rfl
 f156:=Tryz.func85.trans (congrArg some (by kernel_rfl))
 f165:=Tryz.func141.trans (congrArg some (by kernel_rfl))
 f166:=Tryz.func142.trans (congrArg some (by kernel_rfl))
 f169:=Tryz.func143.trans (congrArg some (by kernel_rfl))
 f240:=Tryz.func195.trans (congrArg some (by kernel_rfl))
 f241:=Tryz.func196.trans (congrArg some (by kernel_rfl))
 f276:=Tryz.func217.trans (congrArg some (by kernel_rfl))
 f277:=Tryz.func218.trans (congrArg some (by kernel_rfl))
 t0:=Tryz.underlying0
 a0:=Tryz.isAgg0
 z0:=Tryz.sizeOf0
 v0:=Tryz.zeroValue0
 t3:=Tryz.underlying3
 a3:=Tryz.isAgg3
 z3:=Tryz.sizeOf3
 v3:=Tryz.zeroValue3
 t4:=Tryz.underlying4
 a4:=Tryz.isAgg4
 z4:=Tryz.sizeOf4
 v4:=Tryz.zeroValue4
 t9:=Tryz.underlying9
 a9:=Tryz.isAgg9
 z9:=Tryz.sizeOf9
 v9:=Tryz.zeroValue9
 t20:=Tryz.underlying20
 a20:=Tryz.isAgg20
 z20:=Tryz.sizeOf20
 v20:=Tryz.zeroValue20
 t31:=Tryz.underlying30
 a31:=Tryz.isAgg30
 z31:=Tryz.sizeOf30
 v31:=Tryz.zeroValue30
 t37:=Tryz.underlying120
 a37:=Tryz.isAgg120
 z37:=Tryz.sizeOf120
 v37:=Tryz.zeroValue120
 t70:=Tryz.underlying208
 a70:=Tryz.isAgg208
 z70:=Tryz.sizeOf208
 v70:=Tryz.zeroValue208
 t72:=Tryz.underlying210
 a72:=Tryz.isAgg210
 z72:=Tryz.sizeOf210
 v72:=Tryz.zeroValue210
 t75:=Tryz.underlying213
 a75:=Tryz.isAgg213
 z75:=Tryz.sizeOf213
 v75:=Tryz.zeroValue213
 t76:=Tryz.underlying214
 a76:=Tryz.isAgg214
 z76:=Tryz.sizeOf214
 v76:=Tryz.zeroValue214
 t127:=Tryz.underlying250
 a127:=Tryz.isAgg250
 z127:=Tryz.sizeOf250
 v127:=Tryz.zeroValue250
 t164:=Tryz.underlying271
 a164:=Tryz.isAgg271
 z164:=Tryz.sizeOf271
 v164:=Tryz.zeroValue271 }
end Go.Proofs
namespace Go.Proofs.YtggionfjlgfihaaGreatDoor
open Go Go.Proofs Sy
namespace Sy
section
variable {P:Program} {N:Nat} {av bor:List Nat} {w0:World} {loc0:List Xk} {X0:World→Prop} {ops:Array Oper} {fuel:Nat} {listed:Array Bool} {E:Env} {loc:List Xk} {X:World→Prop} {k:St→Prop}
end
end Sy
end Go.Proofs.YtggionfjlgfihaaGreatDoor
namespace Go.Proofs.YtggionfjlgfihaaGreatDoor.Sy
open Go Go.RowKit
def fen (ρ:Option Nat):Fence:={ Fence.wide with round:=ρ }
def isDefer:Op→Bool
 | .defer _=>true
 | _=>false
section
variable {P:Program} {N:Nat} {av bor:List Nat} {w0:World} {ops:Array Oper} {st:St}
theorem yN {ρ:Option Nat} {n:Nat} {row:String} {args:Array Value} {w:World} {R:Value→World→Prop} (h:Rows P row args w R):RowsIn (fen ρ) n P row args w R:=fun c cs _=>by
 obtain ⟨v,w',r,s⟩:=h c cs
 exact ⟨v,w',r,stepsIn_wide.2 s⟩
theorem xZ {ρ:Option Nat} {n:Nat} {f:FuncId} {args:Array Value} {w:World} {R:Ending→World→Prop} (h:Calls P f args w R):CallsIn (fen ρ) n P f args w R:=(callsIn_wide (n:=n)).2 h
theorem yw {ρ:Option Nat} {n:Nat} {o:Oper} {a:Act} {w:World} {K K':Act→World→Prop} {k k':St→Prop} (hd:isDefer o.op=false) (hK:∀ a w,K a w→K' a w)
  (h:o.wp P a w K (post N av bor w0 (only k'))):o.wpIn (fen ρ) n P a w K' (post N av bor w0 (only k)):=by
 refine ⟨fun _ _=>trivial,?_⟩
 rw [Oper.semAt_plain _ _ _ (fun c e=>by rw [e] at hd;cases hd)]
 unfold Oper.wp at h
 generalize (execOp a.eval o).run P w=r at *
 cases r with
 | ok nx w' =>
  cases nx<;>simp only [Oper.upon] at h<;>simp only [Oper.uponIn]
  case value u=>exact hK _ _ h
  case skip=>exact hK _ _ h
  case defer d=>exact hK _ _ h
  case enter f args =>
   refine ⟨(fun hh=>by cases hh),?_⟩
   refine xZ (Calls.mono h ?_)
   intro e w'' he
   cases e with
   | returned v=>exact hK _ _ he
   | panicked c=>exact (he:False).elim
   | outgrown=>obtain ⟨_,_,h⟩:=he;exact (h:False).elim
  case row row args =>
   refine ⟨(fun hh=>by cases hh),?_⟩
   exact yN (Rows.mono h fun u w'' he=>hK _ _ he)
 | halt x w'=>cases x<;>simp only [Oper.upon] at h<;>exact (h:False).elim
theorem iL {ρ:Option Nat} {n:Nat} {k k':St→Prop} {rest:List Oper} (hr:∀ a w,post N av bor w0 (only k') .normal a w→wpListIn (fen ρ) n P ops (post N av bor w0 (only k)) rest a w):∀ (todo:List Oper) (a:Act) (w:World),todo.all (fun o=>!isDefer o.op)=true →
  wpList P ops (post N av bor w0 (only k')) todo a w→wpListIn (fen ρ) n P ops (post N av bor w0 (only k)) (todo++rest) a w
 | [],a,w,_,h=>hr a w h
 | o::l,a,w,hd,h=>by
  simp only [List.all_cons,Bool.and_eq_true,Bool.not_eq_true'] at hd
  simp only [wpList] at h
  simp only [List.cons_append,wpListIn]
  split
  · rename_i hw
    simp only [hw,if_true] at h
    rcases h with h|⟨_,_,_,h⟩
    · exact yw hd.1 (fun a w h=>iL hr l a w hd.2 h) h
    · exact (h:False).elim
  · rename_i hw
    simp only [hw] at h
    exact ⟨fun _ _=>trivial,iL hr l _ _ hd.2 h⟩
theorem sE {ρ:Option Nat} {n:Nat} {k:St→Prop} (todo:List Oper) (a:Act) (w:World) (hd:todo.all (fun o=>!isDefer o.op)=true)
  (h:wpList P ops (post N av bor w0 (only k)) todo a w):wpListIn (fen ρ) n P ops (post N av bor w0 (only k)) todo a w:=by
 have:=iL (ρ:=ρ) (n:=n) (k:=k) (rest:=[]) (fun a w h=>h) todo a w hd h
 rwa [List.append_nil] at this
end
def Cr (P:Program) (N:Nat) (av bor:List Nat) (w0:World) (l:Nat) (c:Code) (st:St) (K:Exit→St→Prop):Prop :=
 ∀ n a w,Ok N av bor w0 st a w→c.wpIn (fen (some l)) n P (post N av bor w0 K) a w
theorem Cr.mk {P:Program} {N:Nat} {av bor:List Nat} {w0:World} {l:Nat} {c:Code} {st:St} {K:Exit→St→Prop} (h:∀ n a w,Ok N av bor w0 st a w→c.wpIn (fen (some l)) n P (post N av bor w0 K) a w):Cr P N av bor w0 l c st K:=h
theorem Cr.run {P:Program} {N:Nat} {av bor:List Nat} {w0:World} {l:Nat} {c:Code} {st:St} {K:Exit→St→Prop} (h:Cr P N av bor w0 l c st K):∀ n a w,Ok N av bor w0 st a w→c.wpIn (fen (some l)) n P (post N av bor w0 K) a w:=h
namespace Rd
section
variable {P:Program} {N:Nat} {av bor:List Nat} {w0:World} {l:Nat} {st:St} {K:Exit→St→Prop} {E:Env} {loc:List Xk} {X:World→Prop}
theorem cw_skip (h:K .normal st):Cr P N av bor w0 l .skip st K:=fun n a w ok=>wpIn_skip ⟨st,h,ok⟩
theorem cw_seq {x y:Code} (h:Cr P N av bor w0 l x st (thn (fun s=>Cr P N av bor w0 l y s K) K)):Cr P N av bor w0 l (.seq x y) st K:=fun n a w ok =>
 wpIn_seq (wpIn_mono (h n a w ok) (fun e a w q=>by
  cases e with
  | panic _=>exact q
  | outgrown=>exact q
  | normal=>obtain ⟨s,h1,h2⟩:=q;exact h1 n a w h2
  | exit _=>exact q
  | goto _=>exact q
  | ret=>exact q))
theorem cw_cond {c:Operand} {x y:Code} {b:Bool} (hc:ev st.env c=some (.bool b):=by rfl) (ht:b=true→Cr P N av bor w0 l x st K) (hf:b=false→Cr P N av bor w0 l y st K) :
  Cr P N av bor w0 l (.cond c x y) st K:=fun n a w ok=>wpIn_cond_split (ok.eval hc) (fun h=>ht h n a w ok) (fun h=>hf h n a w ok)
theorem cw_cond_t {c:Operand} {x y:Code} {b:Bool} (hc:ev st.env c=some (.bool b):=by rfl) (hb:b=true:=by exact aq) (ht:Cr P N av bor w0 l x st K) :
  Cr P N av bor w0 l (.cond c x y) st K:=cw_cond hc (fun _=>ht) (fun h=>by rw [hb] at h;cases h)
theorem cw_cond_f {c:Operand} {x y:Code} {b:Bool} (hc:ev st.env c=some (.bool b):=by rfl) (hb:b=false:=by exact aq) (hf:Cr P N av bor w0 l y st K) :
  Cr P N av bor w0 l (.cond c x y) st K:=cw_cond hc (fun h=>by rw [hb] at h;cases h) (fun _=>hf)
theorem cw_block {id:Nat} {c:Code} (h:Cr P N av bor w0 l c st (blk id K)):Cr P N av bor w0 l (.block id c) st K:=fun n a w ok =>
 wpIn_block (wpIn_mono (h n a w ok) (fun e a w q=>by
  cases e with
  | panic _=>exact q
  | outgrown=>exact q
  | normal=>exact q
  | exit id' =>
   obtain ⟨s,h1,h2⟩:=q
   by_cases hi:id'=id
   · simp only [blk,hi,if_true] at h1
     simp only [Exit.inBlock,hi,if_true]
     exact ⟨s,h1,h2⟩
   · simp only [blk,hi,if_false] at h1
     simp only [Exit.inBlock,hi,if_false]
     exact ⟨s,h1,h2⟩
  | goto _=>exact q
  | ret=>exact q))
theorem reg_post {k:St→Prop} {e:Exit} {a:Act} {w:World} (hk:∀ s,k s→K .normal s) (h:post N av bor w0 (only k) e a w):post N av bor w0 K e a w:=by
 cases e with
 | panic _=>exact h
 | outgrown=>exact h
 | normal=>obtain ⟨s,h1,h2⟩:=h;exact ⟨s,hk s h1,h2⟩
 | exit _=>obtain ⟨s,h1,h2⟩:=h;exact h1.elim
 | goto _=>obtain ⟨s,h1,h2⟩:=h;exact h1.elim
 | ret=>obtain ⟨s,h1,h2⟩:=h;exact h1.elim
theorem cw_reg {id:Nat} {ol:List Oper} (hno:ol.all (fun o=>!isDefer o.op)=true:=by rfl) (h:Sw P N av bor w0 ol.toArray ol st (K .normal)):Cr P N av bor w0 l (.region id ol.toArray false) st K:=fun n a w ok =>
 wpIn_mono (wpIn_region_lit (sE ol a w hno (h.run a w ok))) fun e a w q=>reg_post (fun _ h=>h) q
end
end Rd
def YCt (P:Program) (l:Nat) (args:List Value) (pre:List Xk) (X:World→Prop) (Post:Value→List Xk→(World→Prop)→Prop):Prop :=
 ∀ (n:Nat) (w:World) (av:List Nat),Xq av (fps pre) w pre X w→YieldAt Fence.wide n P l args.toArray w fun e w'=>∃ v R X',e=.returned v∧Post v R X'∧Xq av (fps pre) w R X' w'
def Sv (P:Program) (N:Nat) (av bor:List Nat) (w0:World) (ops:Array Oper) (todo:List Oper) (st:St) (k:St→Prop):Prop :=
 ∀ n a w,Ok N av bor w0 st a w→wpListIn Fence.wide n P ops (post N av bor w0 (only k)) todo a w
section
variable {P:Program} {N:Nat} {av bor:List Nat} {w0:World} {ops:Array Oper} {rest:List Oper} {k:St→Prop} {E:Env} {loc:List Xk} {X:World→Prop} {K:Exit→St→Prop}
variable {d:Option Tmp} {ty:TypeId} {pos:String} {af:Array Edge} {g:Option (Nat×Bool)} {bb want:Bool}
theorem wb (hno:rest.all (fun o=>!isDefer o.op)=true) (h:Sw P N av bor w0 ops rest ⟨E,loc,X⟩ k):Sv P N av bor w0 ops rest ⟨E,loc,X⟩ k:=fun n a w ok=>sE (ρ:=none) rest a w hno (h.run a w ok)
theorem zD {id:Nat} {ol:List Oper} {st:St} (h:Sv P N av bor w0 ol.toArray ol st (K .normal)):Cw P N av bor w0 (.region id ol.toArray false) st K:=Cw.mk fun a w ok =>
 (wpIn_wide (n:=0)).1 (wpIn_mono (wpIn_region_lit (h 0 a w ok)) fun e a w q=>Rd.reg_post (fun _ h=>h) q)
theorem AB (pre:List Oper) {st:St} (hno:pre.all (fun o=>!isDefer o.op)=true) (h:Sw P N av bor w0 ops pre st (fun s=>Sv P N av bor w0 ops rest s k)):Sv P N av bor w0 ops (pre++rest) st k:=fun n a w ok =>
 iL (ρ:=none) (fun a w ⟨s,h1,h2⟩=>h1 n a w h2) pre a w hno (h.run a w ok)
theorem yI {x:Operand} {xs:List Operand} {ats:Array TypeId} {l:Nat} {args:List Value} {pre fr:List Xk} {X1:World→Prop} {Post:Value→List Xk→(World→Prop)→Prop}
  (hx:ev E x=some (.func (.yield l) #[] #[])) (ha:evs E xs=some args) (hg:gdB ops E g=some (bb,want)) (hb:bb=want) (hd:inB N d=true) (hc:YCt P l args pre X1 Post) (hX:∀ w,X w→X1 w)
  (h:∀ v R X',Post v R X'→Sv P N av bor w0 ops rest ⟨putE E d v,R++fr,fun w=>X w∧X' w⟩ k) :
  Sv P N av bor w0 ops (⟨d,.call ⟨.value x,xs.toArray,ats⟩,ty,pos,af,g⟩::rest) ⟨E,pre++fr,X⟩ k:=fun m a w ok=>by
 simp only [wpListIn]
 rw [aX ok (o:=⟨d,.call ⟨.value x,xs.toArray,ats⟩,ty,pos,af,g⟩) hg]
 subst hb
 simp only [beq_self_eq_true,if_true]
 refine ⟨fun _ _=>trivial,?_⟩
 obtain ⟨av',G0,hback⟩:=ok.call
 obtain ⟨fn,tmps,assign,body,hy,hR⟩:=hc (m-1) w av' (G0.imp hX)
 have e1:xs.toArray.map a.eval=args.toArray:=by rw [List.map_toArray,fo ok xs args ha]
 have hr:(execOp a.eval ⟨d,.call ⟨.value x,xs.toArray,ats⟩,ty,pos,af,g⟩).run P w=.ok (.round l fn tmps assign body) w:=by
  simp only [execOp,resolve,ok.eval (st:=⟨E,pre++fr,X⟩) hx,Deferred.ofValue,invoke,e1]
  simp only [Sem.run_bind,Sem.run_pure,Result.andThen_ok]
  simpa using hy
 rw [Fence.wide_round,Oper.semAt_none,hr]
 simp only [Oper.uponIn]
 refine ⟨(fun hh=>by cases hh),?_⟩
 refine hR.mono ?_
 rintro e w' ⟨v,R,X',he,hp,G'⟩
 subst he
 have ok':=hback R X' w' G'
 exact h v R X' hp m _ _ (cu d v▸ok'.put hd v)
end
def It {α:Type} (P:Program) (g:FuncId) (lb:List Value) (X1:World→Prop) (enc:α→List Value) (xs:List α):Prop :=
 ∀ (l:Nat) (X:World→Prop) (Rs:List α→List Xk→Prop),(∀ w,X w→X1 w) →
  (∀ pre x suf R,xs=pre++x::suf→Rs pre R→YCt P l (enc x) R X fun v R' _=>v=.bool true∧Rs (pre++[x]) R') →
  ∀ R0,Rs [] R0→Ct P g (.func (.yield l) #[] #[]::lb).toArray R0 X fun _ R' _=>Rs xs R'
def putEs (E:Env):List Tmp→List Value→Env
 | p::ps,v::vs=>putEs ((p,v)::E) ps vs
 | _,_=>E
theorem pZ {N:Nat}:∀ (ps:List Tmp) (vs:List Value) (E:Env) (t:Array Value),ps.all (fun p=>Nat.blt p N)=true→t.size=N→(∀ n v,look E n=some v→t[n]?=some v) →
  ((ps.zip vs).foldl (fun t (p:Tmp×Value)=>t.setIfInBounds p.1 p.2) t).size=N∧∀ n v,look (putEs E ps vs) n=some v→((ps.zip vs).foldl (fun t (p:Tmp×Value)=>t.setIfInBounds p.1 p.2) t)[n]?=some v
 | [],vs,E,t,_,hs,h=>⟨by simpa using hs,fun n v hn=>by simpa [putEs] using h n v (by simpa [putEs] using hn)⟩
 | p::ps,[],E,t,_,hs,h=>⟨by simpa using hs,fun n v hn=>by simpa [putEs] using h n v (by simpa [putEs] using hn)⟩
 | p::ps,v::vs,E,t,hp,hs,h=>by
  simp only [List.all_cons,Bool.and_eq_true] at hp
  simp only [List.zip_cons_cons,List.foldl_cons,putEs]
  refine pZ ps vs ((p,v)::E) _ hp.2 (by simpa using hs) fun n u hn=>?_
  have hlt:p<t.size:=by rw [hs];exact Nat.le_of_ble_eq_true hp.1
  simp only [look] at hn
  by_cases e:n=p
  · subst e
    have hb:Nat.beq n n=true:=by simp
    rw [hb] at hn
    simp only [cond_true,Option.some.injEq] at hn
    subst hn
    simp [hlt]
  · rw [oq e] at hn
    simp only [cond_false] at hn
    rw [Array.getElem?_setIfInBounds_ne (Ne.symm e)]
    exact h n u hn
theorem ow {r r':Xk}:∀ (L:List Xk),At r r' (L++[r]) (L++[r'])
 | []=>.here []
 | x::L=>.there x (ow L)
section
variable {P:Program} {N:Nat} {av bor:List Nat} {w0:World} {E:Env} {loc:List Xk} {X:World→Prop} {K:Exit→St→Prop}
def lres (l:Nat) (r:Loop):Xk:=⟨[l],fun w=>w.heap[l]?=some (.loop r)⟩
theorem xV {α:Type} {g:Operand} {ps:List Tmp} {assign body:Code} {gf:Nat} {lb:List Value} {enc:α→List Value} {xs:List α} {X1:World→Prop}
  (hg:ev E g=some (.func (.func gf) #[] lb.toArray):=by rfl) (hf:Xv P gf:=by first|infer_instance|exact ⟨ac⟩) (hit:It P gf lb X1 enc xs) (hX:∀ w,X w→X1 w:=by (first|exact fun _ _=>trivial|exact fun _ h=>h|exact fun _ h=>h.1|exact fun _ h=>h.2)) (hps:∀ x,(enc x).length=ps.length) (hpn:ps.all (fun p=>Nat.blt p N)=true:=by rfl)
  (Inv:List α→List Xk→Prop) (h0:Inv [] loc)
  (hround:∀ l pre x suf loc1,xs=pre++x::suf→Inv pre loc1→∀ av bor w0,Cr P N av bor w0 l assign ⟨putEs E ps (enc x),loc1,X⟩ (only fun st1=>∀ av bor w0,Cr P N av bor w0 l body st1 (only fun st2=>∃ loc2,loc2.Sublist st2.loc∧Inv (pre++[x]) loc2)))
  (hdone:∀ loc1,Inv xs loc1→K .normal ⟨E,loc1,X⟩):Cw P N av bor w0 (.rangeFunc g ps.toArray assign body) ⟨E,loc,X⟩ K:=Cw.mk fun a w ok=>by
 refine (wpIn_wide (n:=0)).1 (wpIn_rangeFunc fun fn _=>?_)
 obtain ⟨rec,hrec⟩:∃ rec:LoopState→Option Code→Loop,rec=fun st pe=>{ state:=st,pending:=pe,fn,tmps:=a.tmps,params:=ps.toArray,assign,body,defers:=w.heap.size }:=⟨_,rfl⟩
 have G0:Xq av bor w0 (loc++mres a.defers) X w:=ok.gamM
 have G1:=(G0.new (.deferred (some [])) (fun w2=>w2.heap[w.heap.size]?=some (.deferred (some []))) fun _ h=>h).new (.loop (rec .ready none)) (fun w2=>w2.heap[(w.alloc (.deferred (some []))).heap.size]?=some (.loop (rec .ready none))) fun _ h=>h
 rw [World.size_alloc] at G1
 obtain ⟨W1,hW1⟩:∃ W1,(w.alloc (.deferred (some []))).alloc (.loop (rec .ready none))=W1:=⟨_,rfl⟩
 rw [hW1] at G1
 obtain ⟨l,hl⟩:∃ l,w.heap.size+1=l:=⟨_,rfl⟩
 obtain ⟨mk,hmk⟩:∃ mk:Deferred,mk={ target:=.collected w.heap.size,args:=#[] }:=⟨_,rfl⟩
 have hM:mres (mk::a.defers)=⟨[w.heap.size],fun w2=>w2.heap[w.heap.size]?=some (.deferred (some []))⟩::mres a.defers:=by subst hmk;rfl
 have G2:Xq av bor w0 ((lres l (rec .ready none)::loc)++mres (mk::a.defers)) X W1:=by
  rw [hM]
  refine G1.perm ?_
  subst hl
  exact List.Perm.cons _ List.perm_middle.symm
 refine ⟨l,[mk],W1,{ target:=.fn (.func gf) lb.toArray,args:=#[.func (.yield l) #[] #[]] },W1,gf,#[.func (.yield l) #[] #[]]++lb.toArray,W1,?_,?_,fun _ _=>trivial,?_,(fun h=>by cases h),?_⟩
 · rw [←hW1,hrec,←hl,hmk,Fence.wide_round]
   exact run_enterLoop_outer _ _ _ _ _
 · simp only [resolve,ok.eval (st:=⟨E,loc,X⟩) hg]
   simp [go_sem]
 · have eg:∀ args w,(callFunc gf args).run P w=.ok (.enter gf args) w:=fun args w=>jf args w
   simp [invoke,go_sem,eg]
 · -- the function that is ranged over
   have hct:=hit l X (fun pre R=>∃ loc1,Inv pre loc1∧R=lres l (rec .ready none)::loc1) hX ?_ (lres l (rec .ready none)::loc) ⟨loc,h0,rfl⟩
   · have e2:(.func (.yield l) #[] #[]::lb:List Value).toArray=#[.func (.yield l) #[] #[]]++lb.toArray:=by simp
     rw [e2] at hct
     refine (callsIn_wide (n:=0)).2 ((hct.run W1 _ G2.start).mono fun e w' ⟨v,R',X',he,⟨loc1,hI,hR⟩,G'⟩=>?_)
     subst he
     subst hR
     have G3:=G2.frame G'
     have hl3:w'.heap[l]?=some (.loop (rec .ready none)):=(G3.here (lres l (rec .ready none)) (by simp)).now
     refine ⟨none,_,by have:=run_endLoop (P:=P) hl3 (by rw [hrec];simp);rw [hrec] at this;exact this,?_⟩
     refine ⟨⟨E,loc1,X⟩,hdone loc1 hI,ok.size,ok.env,?_⟩
     have G4:=G3.turn (w':=w'.putObj l (.loop { rec .ready none with state:=.exhausted })) (loc':=⟨[l],fun _=>True⟩::(loc1++mres (mk::a.defers))) (At.here _) rfl rfl rfl (by simp [World.putObj]) (fun i hi=>World.putObj_heap_other hi) (fun _ _=>trivial)
     have G5:=(G4.drop (List.sublist_cons_self _ _)).imp fun w h=>h.1
     rw [hrec] at G5
     exact G5
   · -- one round
     rintro pre x suf R hxs ⟨loc1,hI,rfl⟩ n W av' G
     have hlW:W.heap[l]?=some (.loop (rec .ready none)):=(G.here (lres l (rec .ready none)) (by simp)).now
     have hy:=run_yield (P:=P) (args:=(enc x).toArray) hlW (by rw [hrec];simpa using hps x)
     have hrp:∀ s q,(rec s q).params=ps.toArray∧(rec s q).tmps=a.tmps∧(rec s q).assign=assign∧(rec s q).body=body∧(rec s q).state=s:=fun s q=>by subst hrec;exact ⟨rfl,rfl,rfl,rfl,rfl⟩
     refine ⟨_,_,_,_,hy,roundIn_of_wpIn trivial ?_⟩
     rw [(hrp _ _).1,(hrp _ _).2.1,(hrp _ _).2.2.1,(hrp _ _).2.2.2.1]
     have Ga:Xq av' (fps (lres l (rec .ready none)::loc1)) W (loc1++[lres l (rec .ready none)]) X W:=G.perm (List.perm_append_singleton _ _).symm
     have hE:=pZ (N:=N) ps (enc x) E a.tmps hpn ok.size ok.env
     have hz:(Array.foldl (fun (tmps:Array Value) (x:Tmp×Value)=>tmps.setIfInBounds x.1 x.2) a.tmps (ps.toArray.zip (enc x).toArray))=(ps.zip (enc x)).foldl (fun t (p:Tmp×Value)=>t.setIfInBounds p.1 p.2) a.tmps:=by simp
     have ok0:Ok N (av'++fps [lres l (rec .ready none)]) (fps loc1) W ⟨putEs E ps (enc x),loc1,X⟩ { tmps:=(ps.zip (enc x)).foldl (fun t (p:Tmp×Value)=>t.setIfInBounds p.1 p.2) a.tmps,defers:=[] } W:=⟨hE.1,hE.2,by simpa [mres] using Ga.start⟩
     refine wpIn_mono (F:=fen (some l)) (Q:=post N (av'++fps [lres l (rec .ready none)]) (fps loc1) W (only fun st1=>∀ av bor w0,Cr P N av bor w0 l body st1 (only fun st2=>∃ loc2,loc2.Sublist st2.loc∧Inv (pre++[x]) loc2))) ?_ ?_
     · have:=(hround l pre x suf loc1 hxs hI (av'++fps [lres l (rec .ready none)]) (fps loc1) W).run n _ _ ok0
       simpa using this
     · intro e a1 w1 q
       cases e with
       | panic _=>exact q
       | outgrown=>exact q
       | exit _=>obtain ⟨_,h,_⟩:=q;exact h.elim
       | goto _=>obtain ⟨_,h,_⟩:=q;exact h.elim
       | ret=>obtain ⟨_,h,_⟩:=q;exact h.elim
       | normal =>
        obtain ⟨st1,h1,ok1⟩:=q
        have Gb:=Ga.frame ok1.gamM
        have hl1:w1.heap[l]?=some (.loop (rec .ready none)):=(Gb.here (lres l (rec .ready none)) (by simp)).now
        refine ⟨_,run_beginRound hl1 (hrp _ _).2.2.2.2,?_⟩
        have hb:{ rec .ready none with state:=.busy }=rec .busy none:=by rw [hrec]
        rw [hb]
        have Gc:=Gb.turn (w':=w1.putObj l (.loop (rec .busy none))) (loc':=(st1.loc++mres a1.defers)++[lres l (rec .busy none)]) (ow _) rfl rfl rfl (by simp [World.putObj]) (fun i hi=>World.putObj_heap_other hi)
         (fun w2 h2=>by rw [h2];exact World.putObj_heap_same (Array.getElem?_eq_some_iff.1 hl1).1)
        have ok1':=(h1 (av'++fps [lres l (rec .busy none)]) (fps (st1.loc++mres a1.defers)) (w1.putObj l (.loop (rec .busy none)))).run n a1 _ ⟨ok1.size,ok1.env,Gc.start.imp fun _ h=>h.2⟩
        refine wpIn_mono ok1' ?_
        intro e a2 w3 q
        cases e with
        | panic _=>exact q
        | outgrown=>exact q
        | exit _=>obtain ⟨_,h,_⟩:=q;exact h.elim
        | goto _=>obtain ⟨_,h,_⟩:=q;exact h.elim
        | ret=>obtain ⟨_,h,_⟩:=q;exact h.elim
        | normal =>
         obtain ⟨st2,⟨loc2,hs2,h2⟩,ok2⟩:=q
         have Gd:=Gc.frame ok2.gamM
         have hl3:w3.heap[l]?=some (.loop (rec .busy none)):=(Gd.here (lres l (rec .busy none)) (by simp)).now
         have he:{ rec .busy none with state:=if (none:Option Code).isNone then .ready else .done,pending:=none }=rec .ready none:=by rw [hrec];rfl
         have hr:=run_endRound (P:=P) none hl3
         rw [he] at hr
         have Ge:=Gd.turn (w':=w3.putObj l (.loop (rec .ready none))) (loc':=(st2.loc++mres a2.defers)++[lres l (rec .ready none)]) (ow _) rfl rfl rfl (by simp [World.putObj]) (fun i hi=>World.putObj_heap_other hi)
          (fun w2 h2=>by rw [h2];exact World.putObj_heap_same (Array.getElem?_eq_some_iff.1 hl3).1)
         have Gf:=(Ge.drop (loc':=loc2++[lres l (rec .ready none)]) ((hs2.trans (List.sublist_append_left _ _)).append_right _)).perm (List.perm_append_singleton _ _)
         exact ⟨_,_,hr,.bool true,lres l (rec .ready none)::loc2,_,rfl,⟨rfl,loc2,h2,rfl⟩,Gf⟩
end
end Go.Proofs.YtggionfjlgfihaaGreatDoor.Sy
namespace Go.Proofs.YtggionfjlgfihaaGreatDoor.Sy
open Go Go.RowKit Go.MapKept
class KeyS (P:Program) (kt:TypeId) (κ:Type) [DecidableEq κ] where
 enc:κ→Value
 inj:∀ a b,enc a=enc b→a=b
 check:∀ (w:World) e a,(Instr.checkKey e 10000 kt (enc a)).run P w=.ok () w
 eq:∀ (w:World) a b,(Op.equal kt (enc a) (enc b)).run P w=.ok (decide (a=b)) w
 ask:∀ d a b,P.underlying kt=some d→Instr.sameNow d (enc a) (enc b)=none
 stay:∀ (w:World) a,(Instr.keyThatStays (enc a) (enc a)).run P w=.ok (enc a) w
section
variable {κ:Type} [DecidableEq κ] {β:Type}
def dget:List (κ×β)→κ→Option β
 | [],_=>none
 | (k',v')::r,k=>bif decide (k=k') then some v' else dget r k
def dput:List (κ×β)→κ→β→List (κ×β)
 | [],k,v=>[(k,v)]
 | (k',v')::r,k,v=>bif decide (k=k') then (k,v)::r else (k',v')::dput r k v
theorem js:∀ (b:List (κ×β)) (k a:κ) (v:β),dget (dput b k v) a=bif decide (a=k) then some v else dget b a
 | [],k,a,v=>rfl
 | (k',v')::r,k,a,v=>by
  have ih:=js r k a v
  simp only [dput]
  by_cases hk:k=k'
  · subst hk
    simp only [decide_true,cond_true,dget]
    cases decide (a=k)<;>rfl
  · simp only [hk,decide_false,cond_false,dget,ih]
    by_cases ha:a=k'
    · subst ha
      have:¬ a=k:=fun e=>hk e.symm
      simp [this]
    · simp [ha]
theorem p8:∀ {b:List (κ×β)} {k:κ} {v:β},dget b k=some v→(k,v)∈b
 | (k',v')::r,k,v,h=>by
  simp only [dget] at h
  by_cases hk:k=k'
  · simp only [hk,decide_true,cond_true,Option.some.injEq] at h
    rw [hk,h]
    exact ap
  · simp only [hk,decide_false,cond_false] at h
    exact List.mem_cons_of_mem _ (p8 h)
end
section
variable {P:Program} {kt:TypeId} {κ:Type} [DecidableEq κ] [K:KeyS P kt κ]
def SMapAt (P:Program) (kt:TypeId) {κ:Type} [DecidableEq κ] [K:KeyS P kt κ] (w:World) (g:Nat) (l:List (κ×Value)):Prop :=
 ∃ es clock,w.heap[g]?=some (.map es clock)∧Stamped es clock∧es.toList.map (fun e=>(e.key,e.val))=l.map fun p=>(K.enc p.1,p.2)
def smapr (P:Program) (kt:TypeId) {κ:Type} [DecidableEq κ] [K:KeyS P kt κ] (g:Nat) (l:List (κ×Value)):Xk:=⟨[g],fun w=>SMapAt P kt w g l⟩
theorem jo (w:World) (k:κ):∀ (es:List MapEntry) (l:List (κ×Value)) (i:Nat),es.map (fun e=>(e.key,e.val))=l.map (fun p=>(K.enc p.1,p.2)) →
  ((Instr.findAsking kt (K.enc k) es i).run P w=.ok none w∧dget l k=none∧(∀ v,dput l k v=l++[(k,v)])∧∀ x∈es,x.key≠K.enc k) ∨
  ∃ j e v0,(Instr.findAsking kt (K.enc k) es i).run P w=.ok (some (i+j,v0)) w∧es[j]?=some e∧e.key=K.enc k∧dget l k=some v0∧∀ v,dput l k v=l.set j (k,v)
 | [],l,i,h=>by
  have:l=[]:=by cases l<;>simp_all
  subst this
  exact .inl ⟨rfl,rfl,fun _=>rfl,by simp⟩
 | e::es,[],i,h=>by simp at h
 | e::es,(k',v')::l,i,h=>by
  simp only [List.map_cons,List.cons.injEq,Prod.mk.injEq] at h
  obtain ⟨⟨h1,h2⟩,h3⟩:=h
  have hs:(Op.equal kt (K.enc k) e.key).run P w=.ok (decide (k=k')) w:=by rw [h1];exact K.eq w k k'
  by_cases hb:k=k'
  · subst hb
    exact .inr ⟨0,e,v',by simp [Instr.findAsking,hs,h2,Result.andThen],rfl,h1,by simp [dget],fun v=>by simp [dput]⟩
  · have hne:e.key≠K.enc k:=fun q=>hb (K.inj _ _ (q.symm.trans h1))
    rcases jo w k es l (i+1) h3 with ⟨g1,g2,g3,g4⟩|⟨j,e',v0,g1,g2,g3,g4,g5⟩
    · exact .inl ⟨by simp [Instr.findAsking,hs,hb,g1,Result.andThen],by simp [dget,hb,g2],fun v=>by simp [dput,hb,g3],fun x hx=>by
       cases hx with
       | head=>exact hne
       | tail _ hx=>exact g4 x hx⟩
    · exact .inr ⟨j+1,e',v0,by simp [Instr.findAsking,hs,hb,g1,Result.andThen];omega,by simpa using g2,g3,by simp [dget,hb,g4],fun v=>by simp [dput,hb,g5]⟩
theorem iC {w:World} {d:TypeDesc} (hd:P.underlying kt=some d) (k:κ) {es:List MapEntry} {l:List (κ×Value)} (h:es.map (fun e=>(e.key,e.val))=l.map (fun p=>(K.enc p.1,p.2))) :
  (Instr.findKey kt (K.enc k) es).run P w=(Instr.findAsking kt (K.enc k) es 0).run P w:=by
 cases es with
 | nil=>simp [Instr.findKey,run_underlying hd,Result.andThen,Instr.findNow,Instr.findAsking]
 | cons e es =>
  cases l with
  | nil=>simp at h
  | cons p l =>
   simp only [List.map_cons,List.cons.injEq,Prod.mk.injEq] at h
   have hs:Instr.sameNow d (K.enc k) e.key=none:=by rw [h.1.1];exact K.ask d k p.1 hd
   simp [Instr.findKey,run_underlying hd,Result.andThen,Instr.findNow,hs]
def smapOf (P:Program) (t:TypeId):Option (TypeId×TypeId) :=
 match P.underlying t with
 | some (.map kt et)=>(P.underlying kt).map fun _=>(kt,et)
 | _=>none
class TySMap (P:Program) (t:TypeId) (kt et:outParam Nat):Prop where out:smapOf P t=some (kt,et)
theorem jC {t kt et:TypeId} (h:smapOf P t=some (kt,et)):P.underlying t=some (.map kt et)∧∃ d,P.underlying kt=some d:=by
 unfold smapOf at h
 split at h
 · rename_i kt et' he
   cases hk:P.underlying kt with
   | none=>simp [hk] at h
   | some d' =>
    simp [hk] at h
    obtain ⟨rfl,rfl⟩:=h
    exact ⟨he,_,hk⟩
 · cases h
theorem oT {w:World} {t et:TypeId} {z:Value} (ht:smapOf P t=some (kt,et)) (hz:zeroOf P et=some z) {g:Nat} {l:List (κ×Value)} (h:SMapAt P kt w g l) (k:κ) :
  (Instr.lookup t (.map (some g)) (K.enc k) false).run P w=.ok ((dget l k).getD z) w:=by
 obtain ⟨h1,d,h2⟩:=jC ht
 obtain ⟨es,clock,hb,hs,hl⟩:=h
 have hzr:(zeroValue et).run P w=.ok z w:=dj hz w
 have hf:=iC (w:=w) h2 k hl
 have hc:=K.check w es.isEmpty k
 rcases jo w k es.toList l 0 hl with ⟨g1,g2,g3,g4⟩|⟨j,e,v0,g1,g2,g3,g4,g5⟩
 · rw [g1] at hf
   simp [Instr.lookup,run_underlying h1,MapKept.run_getObj_map hb,hc,hf,hzr,g2,Result.andThen]
 · rw [g1] at hf
   simp [Instr.lookup,run_underlying h1,MapKept.run_getObj_map hb,hc,hf,g4,Result.andThen]
end
section
variable {P:Program} {N:Nat} {av bor:List Nat} {w0:World} {ops:Array Oper} {rest:List Oper} {k:St→Prop} {E:Env} {loc loc':List Xk} {X:World→Prop}
variable {d:Option Tmp} {ty:TypeId} {pos:String} {af:Array Edge} {g:Option (Nat×Bool)} {bb want:Bool}
theorem oI (κ:Type) (kt:TypeId) [DecidableEq κ] [KS:KeyS P kt κ] {n:Nat} {t:TypeId} (hg:gdB ops E g=some (bb,want):=by rfl) (hb:bb=want:=by exact aq) (hd:Nat.blt n N=true:=by rfl)
  (h:∀ q,Sw P N av bor w0 ops rest ⟨(n,.map (some q))::E,smapr P kt q ([]:List (κ×Value))::loc,X⟩ k):Sw P N av bor w0 ops (⟨some n,.makeMap t none,ty,pos,af,g⟩::rest) ⟨E,loc,X⟩ k:=Sw.mk fun a w ok=>by
 have hd':inB N (some n)=true:=by have h1:n<N:=Nat.le_of_ble_eq_true hd;simpa [inB] using h1
 simp only [wpList]
 rw [aX ok (o:=⟨some n,.makeMap t none,ty,pos,af,g⟩) hg]
 subst hb
 simp only [beq_self_eq_true,if_true]
 left
 unfold Oper.wp
 have hr:(execOp a.eval ⟨some n,.makeMap t none,ty,pos,af,g⟩).run P w=.ok (.value (.map (some w.heap.size))) (w.alloc (.map #[] 0)):=by
  have:(newObj (.map #[] 0)).run P w=.ok w.heap.size (w.alloc (.map #[] 0)):=rfl
  simp [execOp,Instr.makeMap,this]
 rw [hr]
 have ok':Ok N av bor w0 ⟨E,smapr P kt w.heap.size ([]:List (κ×Value))::loc,X⟩ a (w.alloc (.map #[] 0)):=(ok.via fun M G=>G.new (.map #[] 0) (fun w2=>SMapAt P kt w2 w.heap.size ([]:List (κ×Value))) fun w2 h=>⟨#[],0,h,stamped_empty 0,rfl⟩)
 exact (h _).run _ _ (cu (some n) _▸ok'.put hd' _)
theorem me {κ:Type} {kt:TypeId} [DecidableEq κ] [KS:KeyS P kt κ] {st:St} {t et:Nat} [ht:TySMap P t kt et] {z:Value} [hz:Xo P et z] {m x:Operand} {q:Nat} {l:List (κ×Value)} {kk:κ} {o:Option Value} {v:Value} (hm:ev st.env m=some (.map (some q))) (hx:ev st.env x=some (KS.enc kk))
  (hl:∀ w,Xq av bor w0 st.loc st.ext w→SMapAt P kt w q l) (ho:dget l kk=o) (hv:o.getD z=v):Sy.Yields P N av bor w0 st (.lookup t m x false) ty v:=Sy.Yields.mk fun A w ok d pos af g=>by
 have:=oT (P:=P) (t:=t) ht.out hz.out (hl w ok.gam) kk
 subst ho
 subst hv
 simp [execOp,ok.eval hm,ok.eval hx,this]
theorem oN {κ:Type} {kt:TypeId} [DecidableEq κ] [KS:KeyS P kt κ] {q:Nat} {l:List (κ×Value)} (hm:∀ w,X w→SMapAt P kt w q l):∀ w,Xq av bor w0 loc X w→SMapAt P kt w q l:=fun w G=>hm w G.keep.now
end
section
variable {κ:Type} [DecidableEq κ] {β:Type}
theorem jq:∀ (l:List (κ×β)) (k:κ) (u v:β),dput (dput l k u) k v=dput l k v
 | [],k,u,v=>by simp [dput]
 | (k',v')::r,k,u,v=>by
  by_cases h:k=k'
  · subst h;simp [dput]
  · simp [dput,h,jq r k u v]
theorem jr:∀ (l:List (κ×β)) (k:κ) (v:β),dget l k=some v→dput l k v=l
 | [],k,v,h=>by cases h
 | (k',v')::r,k,v,h=>by
  by_cases e:k=k'
  · subst e
    simp only [dget,decide_true,cond_true,Option.some.injEq] at h
    simp [dput,h]
  · simp only [dget,e,decide_false,cond_false] at h
    simp [dput,e,jr r k v h]
end
section
variable {P:Program} {kt:TypeId} {κ:Type} [DecidableEq κ] [K:KeyS P kt κ]
def SMapE (P:Program) (kt:TypeId) {κ:Type} [DecidableEq κ] [K:KeyS P kt κ] (w:World) (g:Nat) (l:List (κ×Value)) (k:κ) (b:Nat):Prop :=
 ∃ es clock j e,w.heap[g]?=some (.map es clock)∧Stamped es clock∧es.toList.map (fun e=>(e.key,e.val))=l.map (fun p=>(K.enc p.1,p.2))∧es[j]?=some e∧e.key=K.enc k∧e.born=b∧∀ v,dput l k v=l.set j (k,v)
def smape (P:Program) (kt:TypeId) {κ:Type} [DecidableEq κ] [K:KeyS P kt κ] (g:Nat) (l:List (κ×Value)) (k:κ) (b:Nat):Xk:=⟨[g],fun w=>SMapE P kt w g l k b⟩
theorem lV {w:World} {t et:TypeId} {z:Value} (ht:smapOf P t=some (kt,et)) (hz:zeroOf P et=some z) {g:Nat} {l:List (κ×Value)} (h:SMapAt P kt w g l) (k:κ) :
  ∃ o b,(Instr.mapEntry t (.map (some g)) (K.enc k)).run P w=.ok (.tuple #[(dget l k).getD z,.int .i64 (b:Nat)]) { w with heap:=w.heap.setIfInBounds g o }∧∀ w':World,w'.heap[g]?=some o→SMapE P kt w' g (dput l k ((dget l k).getD z)) k b:=by
 obtain ⟨h1,d,h2⟩:=jC ht
 obtain ⟨es,clock,hb,hs,hl⟩:=h
 have hf:=iC (w:=w) h2 k hl
 have hc:=K.check w false k
 have hzr:(zeroValue et).run P w=.ok z w:=dj hz w
 have hlen:es.size=l.length:=by simpa using congrArg List.length hl
 rcases jo w k es.toList l 0 hl with ⟨g1,g2,g3,g4⟩|⟨j,e,v0,g1,g2,g3,g4,g5⟩
 · rw [g1] at hf
   refine ⟨.map (es.push { key:=K.enc k,val:=z,born:=clock }) (clock+1),clock,?_,fun w' hw=>⟨_,_,es.size,{ key:=K.enc k,val:=z,born:=clock },hw,stamped_push hs g4,?_,by simp,rfl,rfl,fun v=>?_⟩⟩
   · simp [Instr.mapEntry,run_underlying h1,MapKept.run_getObj_map hb,hc,hf,hzr,g2,MapKept.run_setObj_map _ hb,Result.andThen,goInt]
   · rw [g2,Option.getD_none,g3]
     simp [hl]
   · rw [g2,Option.getD_none,jq,g3,g3,hlen]
     simp
 · have hj:es[j]?=some e:=by simpa using g2
   have hst:=K.stay w k
   rw [g1] at hf
   refine ⟨.map (es.modify j fun e=>{ e with key:=K.enc k }) clock,e.born,?_,fun w' hw=>⟨_,_,j,{ e with key:=K.enc k },hw,stamped_modify hs _ _ (fun _ _=>rfl) (fun e' _ he'=>by rw [hj] at he';cases he';exact g3.symm),?_,by simp [Array.getElem?_modify,hj],rfl,rfl,fun v=>?_⟩⟩
   · simp [Instr.mapEntry,run_underlying h1,MapKept.run_getObj_map hb,hc,hf,hj,g3,g4,hst,MapKept.run_setObj_map _ hb,Result.andThen,goInt]
   · rw [g4,Option.getD_some,jr l k v0 g4,←hl]
     apply List.ext_getElem?
     intro q
     simp only [List.getElem?_map,Array.getElem?_toList,Array.getElem?_modify]
     by_cases e1:j=q
     · subst e1
       simp [hj,g3]
     · simp [e1]
   · rw [g4,Option.getD_some,jr l k v0 g4]
     exact g5 v
theorem j1 {w:World} {t:TypeId} {g:Nat} {l:List (κ×Value)} {k:κ} {b:Nat} (h:SMapE P kt w g l k b) (v:Value) :
  ∃ o,(Instr.entryStore t (.map (some g)) (.int .i64 (b:Nat)) v).run P w=.ok () { w with heap:=w.heap.setIfInBounds g o }∧∀ w':World,w'.heap[g]?=some o→SMapAt P kt w' g (dput l k v):=by
 obtain ⟨es,clock,j,e,hb,hs,hl,hj,hk,hbn,hset⟩:=h
 have hjl:j<es.size:=(Array.getElem?_eq_some_iff.1 hj).1
 have hje:es[j]=e:=(Array.getElem?_eq_some_iff.1 hj).2
 have hlen:es.size=l.length:=by simpa using congrArg List.length hl
 have hfi:es.findIdx? (fun e=>(e.born:Int)==(b:Int))=some j:=by
  rw [Array.findIdx?_eq_some_iff_getElem]
  refine ⟨hjl,by rw [hje,hbn];simp,fun q hq hp=>?_⟩
  have hnd:=((stamped_iff es clock).1 hs).2.1
  have hq':es[q].born=e.born:=by rw [hbn];have:=beq_iff_eq.1 hp;omega
  have h1:(es.toList.map (·.born))[q]?=some e.born:=by simp [List.getElem?_map,Array.getElem?_toList,Array.getElem?_eq_getElem (show q<es.size by omega),hq']
  have h2:(es.toList.map (·.born))[j]?=some e.born:=by simp [List.getElem?_map,Array.getElem?_toList,hj]
  have:=(List.getElem?_inj (by simp;omega) hnd).1 (h1.trans h2.symm)
  omega
 refine ⟨.map (es.modify j fun e=>{ e with val:=v }) clock,?_,fun w' hw=>⟨_,_,hw,stamped_modify hs _ _ (fun _ _=>rfl) (fun e' _ he'=>rfl),?_⟩⟩
 · have ha:(asIntOf (Value.int IntKind.i64 (b:Nat))).run P w=.ok (.i64,((b:Nat):Int)) w:=rfl
   simp [Instr.entryStore,MapKept.run_getObj_map hb,asInt,ha,hfi,MapKept.run_setObj_map _ hb,Result.andThen]
 · rw [hset]
   apply List.ext_getElem?
   intro q
   have hq:=congrArg (fun l=>l[q]?) hl
   simp only [List.getElem?_map,Array.getElem?_toList] at hq
   simp only [List.getElem?_map,Array.getElem?_toList,Array.getElem?_modify,List.getElem?_set]
   by_cases e1:j=q
   · subst e1
     simp [hj,show j<l.length by omega,hk]
   · simp [e1,hq]
end
section
variable {P:Program} {N:Nat} {av bor:List Nat} {w0:World} {ops:Array Oper} {rest:List Oper} {k:St→Prop} {E:Env} {loc loc':List Xk} {X:World→Prop}
variable {d:Option Tmp} {ty:TypeId} {pos:String} {af:Array Edge} {g:Option (Nat×Bool)} {bb want:Bool}
theorem iA {lo:Nat→List Xk} {κ:Type} {kt:TypeId} [DecidableEq κ] [KS:KeyS P kt κ] {n:Nat} {t et:Nat} [ht:TySMap P t kt et] {z:Value} [hz:Xo P et z] {m x:Operand} {q:Nat} {l:List (κ×Value)} {kk:κ} {o:Option Value} {u:Value} (hm:ev E m=some (.map (some q)):=by rfl) (hx:ev E x=some (KS.enc kk):=by rfl) (ho:dget l kk=o) (hu:o.getD z=u:=by rfl)
  (hA:∀ b,At (smapr P kt q l) (smape P kt q (dput l kk u) kk b) loc (lo b)) (hg:gdB ops E g=some (bb,want):=by rfl) (hb:bb=want:=by exact aq) (hd:Nat.blt n N=true:=by rfl)
  (h:∀ b:Nat,Sw P N av bor w0 ops rest ⟨(n,.tuple #[u,.int .i64 (b:Nat)])::E,lo b,X⟩ k):Sw P N av bor w0 ops (⟨some n,.mapEntry t m x,ty,pos,af,g⟩::rest) ⟨E,loc,X⟩ k:=Sw.mk fun a w ok=>by
 have hd':inB N (some n)=true:=by have h1:n<N:=Nat.le_of_ble_eq_true hd;simpa [inB] using h1
 subst ho
 subst hu
 simp only [wpList]
 rw [aX ok (o:=⟨some n,.mapEntry t m x,ty,pos,af,g⟩) hg]
 subst hb
 simp only [beq_self_eq_true,if_true]
 left
 unfold Oper.wp
 have hmp:SMapAt P kt w q l:=(ok.gam.here _ (hA 0).mem).now
 obtain ⟨o,b,hr,ho⟩:=lV ht.out hz.out hmp kk
 obtain ⟨es,c,hbk,_⟩:=hmp
 have hs:=heap_set (o':=o) hbk
 have ok':Ok N av bor w0 ⟨E,lo b,X⟩ a { w with heap:=w.heap.setIfInBounds q o }:=ok.via fun M G=>G.turn ((hA b).app M) rfl rfl rfl (by simp) (fun i hi=>hs.2 i hi) fun w2 h2=>ho w2 (h2.trans hs.1)
 have hr':(execOp a.eval ⟨some n,.mapEntry t m x,ty,pos,af,g⟩).run P w=.ok (.value (.tuple #[(dget l kk).getD z,.int .i64 (b:Nat)])) { w with heap:=w.heap.setIfInBounds q o }:=by
  simp [execOp,ok.eval (st:=⟨E,loc,X⟩) hm,ok.eval (st:=⟨E,loc,X⟩) hx,hr]
 rw [hr']
 exact (h b).run _ _ (cu (some n) _▸ok'.put hd' _)
theorem kK {κ:Type} {kt:TypeId} [DecidableEq κ] [KS:KeyS P kt κ] {t:Nat} {m x y:Operand} {q:Nat} {l:List (κ×Value)} {kk:κ} {b:Nat} {v:Value} (hm:ev E m=some (.map (some q)):=by rfl) (hx:ev E x=some (.int .i64 (b:Nat)):=by rfl) (hy:ev E y=some v:=by rfl)
  (hA:At (smape P kt q l kk b) (smapr P kt q (dput l kk v)) loc loc':=by (repeat (first|exact At.here _|apply At.there))) (hg:gdB ops E g=some (bb,want):=by rfl) (hb:bb=want:=by exact aq) (hd:inB N d=true:=by rfl)
  (h:Sw P N av bor w0 ops rest ⟨putE E d undef,loc',X⟩ k):Sw P N av bor w0 ops (⟨d,.entryStore t m x y,ty,pos,af,g⟩::rest) ⟨E,loc,X⟩ k:=Sw.mk fun a w ok=>by
 simp only [wpList]
 rw [aX ok (o:=⟨d,.entryStore t m x y,ty,pos,af,g⟩) hg]
 subst hb
 simp only [beq_self_eq_true,if_true]
 left
 unfold Oper.wp
 have hmp:SMapE P kt w q l kk b:=(ok.gam.here _ hA.mem).now
 obtain ⟨o,hr,ho⟩:=j1 (t:=t) hmp v
 obtain ⟨es,c,j,e,hbk,_⟩:=hmp
 have hs:=heap_set (o':=o) hbk
 have ok':Ok N av bor w0 ⟨E,loc',X⟩ a { w with heap:=w.heap.setIfInBounds q o }:=ok.via fun M G=>G.turn (hA.app M) rfl rfl rfl (by simp) (fun i hi=>hs.2 i hi) fun w2 h2=>ho w2 (h2.trans hs.1)
 have hr':(execOp a.eval ⟨d,.entryStore t m x y,ty,pos,af,g⟩).run P w=.ok .skip { w with heap:=w.heap.setIfInBounds q o }:=by
  simp [execOp,ok.eval (st:=⟨E,loc,X⟩) hm,ok.eval (st:=⟨E,loc,X⟩) hx,ok.eval (st:=⟨E,loc,X⟩) hy,hr]
 rw [hr']
 exact h.run _ _ (cu d _▸ok'.put hd _)
end
end Go.Proofs.YtggionfjlgfihaaGreatDoor.Sy
namespace Go.Proofs
open Go.Shelf
def Tryz.compI_ren:Go.Shelf.Ren:=⟨fun|20=>213|n=>n,fun|22=>24|3=>3|4=>4|0=>0|n=>n,fun|n=>n⟩
theorem Tryz.compI:Go.Proofs.Lays2.n20 Tryz.prog Tryz.compI_ren:={
 mixed:=by kernel_rfl
 f20:=Tryz.func213.trans (congrArg some (by kernel_rfl))
 t0:=Tryz.underlying0
 a0:=Tryz.isAgg0
 z0:=Tryz.sizeOf0
 v0:=Tryz.zeroValue0
 t3:=Tryz.underlying3
 a3:=Tryz.isAgg3
 z3:=Tryz.sizeOf3
 v3:=Tryz.zeroValue3
 t4:=Tryz.underlying4
 a4:=Tryz.isAgg4
 z4:=Tryz.sizeOf4
 v4:=Tryz.zeroValue4
 t22:=Tryz.underlying24
 a22:=Tryz.isAgg24
 z22:=Tryz.sizeOf24
 v22:=Tryz.zeroValue24
 i3:=by kernel_rfl }
end Go.Proofs
