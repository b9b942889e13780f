/- Joined by program out of: Ap Mp So Ke Sf Ty D I. -/
import Derived.Test.YtcdilibijnboeaaGreatDoorU0
import Derived.MapKept
import Derived.Sort.OwnSorted
import Derived.Lib.SlKeysI
import Derived.Lib.SlicesCompact
import Derived.Shelf.SlIter.Nil
import Derived.Shelf.SlIterI.Nil
import Derived.Shelf.SortM.Plain
import Derived.Shelf.SortM.SortNone
import Derived.Shelf.Slices.CompactS
import Derived.Test.YtcdilibijnboeaaGreatDoorProg
import Derived.Test.YtcdilibijnboeaaGreatDoorChecked
set_option linter.unusedVariables false
set_option linter.unusedSimpArgs false
namespace Go.Proofs.YtcdilibijnboeaaGreatDoor.Sy
open Go Go.RowKit
def ORow (w:World) (e size:Nat) (v:Value) (n:Nat) (xs:List Value):Prop :=
 xs.length=n*size∧((v=.slice none 0 0∧n=0) ∨
  ∃ g cap cur fz,v=.slice (some ⟨g,0,none⟩) n cap∧w.heap[g]?=some (.cells cur e fz)∧n≤cap∧cap≤maxLen∧cur.size=cap*size∧cur.toList.take (n*size)=xs∧(fz.1=fz.2∨cur.size≤fz.1))
def orow (e size:Nat) (v:Value) (n:Nat) (xs:List Value):Res:=⟨v.ownBlock.toList,fun w=>ORow w e size v n xs⟩
theorem ej {e size n:Nat} {v:Value} {xs:List Value} {w:World} (h:ORow w e size v n xs):Holds (orow e size v n xs) w:=by
 intro w2 h2
 refine ⟨h.1,?_⟩
 rcases h.2 with h0|⟨g,cap,cur,fz,hv,hg,hr⟩
 · exact .inl h0
 · exact .inr ⟨g,cap,cur,fz,hv,(h2 g (by rw [hv];simp [orow,Value.ownBlock])).trans hg,hr⟩
section
variable {P:Program} {N:Nat} {av bor:List Nat} {w0:World} {ops:Array Oper} {rest:List Oper} {k:St→Prop} {E:Env} {loc loc':List Res} {X:World→Prop}
variable {d:Option Tmp} {ty:TypeId} {pos:String} {af:Array Edge} {g:Option (Nat×Bool)} {bb want:Bool} {K:Exit→St→Prop}
theorem Gam.swap {w w':World} {r r':Res} (G:Gam av bor w0 loc X w) (hA:At r r' loc loc') (ho:w'.os=w.os) (ht:w'.tape=w.tape) (hp:w'.output=w.output) (hz:w.heap.size≤w'.heap.size)
  (hb:∀ i,i<w.heap.size→i∉r.fp→w'.heap[i]?=w.heap[i]?) (hn:r'.fp.Nodup) (hf:∀ i∈r'.fp,i<w'.heap.size∧(i∈r.fp∨w.heap.size≤i)) (hr:Holds r' w'):Gam av bor w0 loc' X w':=by
 obtain ⟨f,h1,h2⟩:=hA.perm
 have G1:Gam av bor w0 ([r]++f) X w:=G.perm h1
 have G2:Gam (av++fps f) (fps [r]) w [r'] (fun _=>True) w':=by
  have hs:=G1.start
  have e1:fps [r]=r.fp:=by simp [fps]
  have e2:fps [r']=r'.fp:=by simp [fps]
  refine ⟨⟨ho,ht,hp,hz,fun i hi hne=>hb i hi (by rwa [e1] at hne)⟩,hs.avb,by rw [e2];exact hn,?_,?_,Keeps.all fun _=>trivial⟩
  · intro i hi
    rw [e2] at hi
    have:=hf i hi
    rw [e1]
    exact ⟨this.1,this.2.symm⟩
  · intro x hx
    rw [List.mem_singleton] at hx
    subst hx
    exact hr
 exact (((G1.frame G2).imp fun _ h=>h.1:Gam av bor w0 ([r']++f) X w')).perm h2.symm
theorem eG (P:Program) (g o:Nat) (t:TypeId) (fz:Nat×Nat):∀ (vs:List Value) (i:Nat) (cur:Array Value) (w:World),w.heap[g]?=some (.cells cur t fz)→(fz.1=fz.2∨cur.size≤fz.1)→o+i+vs.length≤cur.size→(∀ v∈vs,v.oneCell'=true) →
  (storeCells ⟨g,o,none⟩ vs i).run P w=.ok () (w.setRow g (cur.toList.take (o+i)++vs++cur.toList.drop (o+i+vs.length)).toArray)
 | [],i,cur,w,hg,_,_,_=>by
  simp only [storeCells,Z9,Qi,Qk,List.take_append_drop,Array.toArray_toList]
  rw [setRow_self w g cur t fz hg]
  rfl
 | v::rest,i,cur,w,hg,hz,hl,h1=>by
  have hi:o+i<cur.size:=by simp at hl;omega
  have hadd:(⟨g,o,none⟩:Addr).add i=⟨g,o+i,none⟩:=by unfold Addr.add;split<;>simp_all
  have hcell:w.cell? ⟨g,o+i,none⟩=some cur[o+i]:=by simp [World.cell?,hg,hi]
  have hfro:w.frozen? ⟨g,o+i,none⟩=false:=by
   obtain ⟨lo,hi'⟩:=fz
   simp only [World.frozen?,hg]
   simp only at hz
   have:¬ (lo≤o+i∧o+i<hi'):=by omega
   simpa using this
  have hst:(store ((⟨g,o,none⟩:Addr).add i) v).run P w=.ok () (w.setRow g (cur.setIfInBounds (o+i) v)):=by
   rw [hadd,run_store P w _ v _ (h1 v (by simp)),hcell]
   simp [hfro,setCell_eq_setRow w g (o+i) cur t fz v hg]
  have ih:=eG P g o t fz rest (i+1) (cur.setIfInBounds (o+i) v) (w.setRow g (cur.setIfInBounds (o+i) v)) (Go.setRow_heap w g cur _ t _ hg) (by simpa using hz) (by simp at hl ⊢;omega) (fun x hx=>h1 x (by simp [hx]))
  simp only [storeCells,Sem.run_bind,hst,Result.andThen_ok,ih,setRow_setRow]
  congr 3
  have e:=list_seg_step cur.toList (o+i) v rest (by simp at hl ⊢;omega)
  simpa [Array.toList_setIfInBounds,Z7] using e
def strOrSl (P:Program) (u:TypeId):Bool :=
 match P.underlying u with
 | some .string|some (.slice _)=>true
 | _=>false
class TySrc (P:Program) (u:TypeId):Prop where out:strOrSl P u=true
instance {u:TypeId} [h:TyStr P u]:TySrc P u:=⟨by simp [strOrSl,h.out]⟩
instance {u e n b:TypeId} [h:TySl P u e n b]:TySrc P u:=⟨by simp [strOrSl,(cO h.out).1]⟩
theorem fS {u:TypeId} (h:strOrSl P u=true):P.underlying u=some .string∨∃ e,P.underlying u=some (.slice e):=by
 unfold strOrSl at h
 split at h
 · exact .inl (by assumption)
 · exact .inr ⟨_,by assumption⟩
 · cases h
structure Src (P:Program) (w:World) (size:Nat) (x:Value) (m:Nat) (news:List Value):Prop where
 len:∀ w',(Builtin.lenOf x).run P w'=.ok m w'
 cells:∀ w':World,w'.heap=w.heap→(Builtin.firstCells size m x).run P w'=.ok news.toArray w'
 size:news.length=m*size
 one:∀ u∈news,u.oneCell'=true
theorem er (e:TypeId) (cs:Array Value) (w:World):(newRow e cs).run P w=.ok ⟨w.heap.size,0,none⟩ (w.alloc (.cells cs e)):=rfl
theorem nF {w:World} {t u ty e size bytes:Nat} {z:Value} (hs:slOf P t=some (e,size,bytes)) (hz:zeroOf P e=some z) (hzs:z.cells.size=size) (hsz:0<size) (hu:strOrSl P u=true)
  {v x:Value} {n m:Nat} {xs news:List Value} (ho:ORow w e size v n xs) (hx:Src P w size x m news) (h63:n+m≤maxLen) (hby:(n+m)*bytes≤140737488355328) :
  ∃ v' w',(Builtin.append_ #[t,u] ty #[v,x]).run P w=.ok v' w'∧ORow w' e size v' (n+m) (xs++news)∧w'.os=w.os∧w'.tape=w.tape∧w'.output=w.output∧w.heap.size≤w'.heap.size ∧
   (∀ i,i<w.heap.size→i∉v.ownBlock.toList→w'.heap[i]?=w.heap[i]?)∧(∀ i∈v'.ownBlock.toList,i<w'.heap.size∧(i∈v.ownBlock.toList∨w.heap.size≤i)):=by
 obtain ⟨ht,inf,hi,hi1,hi2⟩:=cO hs
 have hzr:(zeroValue e).run P w.drew=.ok z w.drew:=dV hz _
 have hsm:n+m≤9223372036854775807:=by simp only [maxLen] at h63;omega
 have hlen:(xs++news).length=(n+m)*size:=by rw [ZX,ho.1,hx.size,Nat.add_mul]
 have h63':¬ (9223372036854775807<(n:Int)+(m:Int)):=by omega
 have grow:∀ (A:Option Addr) (cap:Nat),v=.slice A n cap→cap<n+m→(∀ w':World,w'.heap=w.heap→(Builtin.firstCells size n v).run P w'=.ok xs.toArray w') →
   (Builtin.append_ #[t,u] ty #[v,x]).run P w=.ok (.slice (some ⟨w.heap.size,0,none⟩) (n+m) (grownCap w (n+m) cap e))
    (w.drew.alloc (.cells (xs.toArray++news.toArray++Builtin.zeroCells z.cells (grownCap w (n+m) cap e-(n+m))) e)):=by
  intro A cap hv hlt hf
  subst hv
  have h1:=hf w.drew rfl
  have h2:=hx.cells w.drew rfl
  have hnc:¬ (n+m≤cap):=by omega
  have hfit:¬ (281474976710656<Builtin.nextslicecap (n+m) cap*bytes):=by have:=growslice_fits hlt hby;omega
  have hsw:(sizeOf e).run P w=.ok size w:=by simp [sizeOf,typeInfo,hi,hi1]
  rcases fS hu with hD|⟨e',hD⟩<;>simp [Builtin.append_,run_underlying ht,run_underlying hD,hsw,typeInfo,hi,hi1,hi2,hx.len,hnc,hfit,h1,h2,hzr,grownCap,Question.forced,h63',er]<;>(rw [←Array.append_assoc];simp)
 have fin:∀ (A:Option Addr) (cap:Nat),v=.slice A n cap→cap<n+m→(∀ w':World,w'.heap=w.heap→(Builtin.firstCells size n v).run P w'=.ok xs.toArray w')→_ :=
  fun A cap hv hlt hf=>by
   have hge:=grownCap_ge w (n+m) cap e
   have hcm:grownCap w (n+m) cap e≤maxLen:=grownCap_le_maxLen w (n+m) cap e h63
   exact (⟨_,_,grow A cap hv hlt hf,⟨hlen,.inr ⟨w.heap.size,_,_,(0,0),rfl,heap_alloc_new w.drew _,hge,hcm,by
     simp only [Array.size_append,List.size_toArray,size_zeroCells,hzs,ho.1,hx.size,←Nat.add_mul]
     congr 1
     omega,by
     simp only [Array.toList_append,ZZ]
     rw [←ZZ,←hlen]
     exact List.take_left,.inl rfl⟩⟩,rfl,rfl,rfl,by simp,fun i hi _=>Below.heap_alloc w.drew _ i hi,fun i hi=>by
     simp only [Value.ownBlock,Option.toList_some,List.mem_singleton] at hi
     subst hi
     exact ⟨by simp,.inr (Qp _)⟩⟩ :
    ∃ v' w',(Builtin.append_ #[t,u] ty #[v,x]).run P w=.ok v' w'∧ORow w' e size v' (n+m) (xs++news)∧w'.os=w.os∧w'.tape=w.tape∧w'.output=w.output∧w.heap.size≤w'.heap.size ∧
     (∀ i,i<w.heap.size→i∉v.ownBlock.toList→w'.heap[i]?=w.heap[i]?)∧(∀ i∈v'.ownBlock.toList,i<w'.heap.size∧(i∈v.ownBlock.toList∨w.heap.size≤i)))
 have hsw:(sizeOf e).run P w=.ok size w:=by simp [sizeOf,typeInfo,hi,hi1]
 rcases ho.2 with ⟨rfl,rfl⟩|⟨g,cap,cur,fz,rfl,hg,hnc,hcm,hcs,htake,hfz⟩
 · have hxs:xs=[]:=List.eq_nil_of_length_eq_zero (by simpa using ho.1)
   subst hxs
   by_cases hm:m=0
   · subst hm
     have hn:news=[]:=List.eq_nil_of_length_eq_zero (by simpa using hx.size)
     subst hn
     refine ⟨.slice none 0 0,w,?_,⟨by simp,.inl ⟨rfl,rfl⟩⟩,rfl,rfl,rfl,Qp _,fun _ _ _=>rfl,fun i hi=>by simp [Value.ownBlock] at hi⟩
     have h2:=hx.cells w rfl
     rcases fS hu with hD|⟨e',hD⟩<;>simp [Builtin.append_,run_underlying ht,run_underlying hD,hsw,hx.len,h2]
   · refine fin none 0 rfl ae fun w' _=>?_
     simp [Builtin.firstCells]
 · have hglt:g<w.heap.size:=(Array.getElem?_eq_some_iff.1 hg).1
   by_cases hroom:n+m≤cap
   · have h2:=hx.cells w rfl
     have hfit:n*size+news.length≤cur.size:=by
      rw [hcs,hx.size,←Nat.add_mul]
      exact Nat.mul_le_mul_right _ hroom
     have hst:=eG P g (n*size) e fz news 0 cur w hg hfz (by simpa using hfit) hx.one
     simp only [Qk] at hst
     have hadd:(⟨g,0,none⟩:Addr).add (n*size)=⟨g,n*size,none⟩:=by unfold Addr.add;split<;>simp_all
     refine ⟨.slice (some ⟨g,0,none⟩) (n+m) cap,w.setRow g (cur.toList.take (n*size)++news++cur.toList.drop (n*size+news.length)).toArray,?_,⟨hlen,.inr ⟨g,cap,_,fz,rfl,Go.setRow_heap w g cur _ e fz hg,hroom,hcm,?_,?_,?_⟩⟩,rfl,rfl,rfl,by rw [setRow_size];exact Qp _,?_,?_⟩
     · rcases fS hu with hD|⟨e',hD⟩<;>simp [Builtin.append_,run_underlying ht,run_underlying hD,hsw,hx.len,h2,hroom,hadd,hst]
     · simp only [List.size_toArray,ZX,List.length_take,List.length_drop,Array.length_toList]
       omega
     · rw [htake,←hlen]
       exact List.take_left
     · simp only [List.size_toArray,ZX,List.length_take,List.length_drop,Array.length_toList]
       omega
     · intro i _ hi
       exact setRow_heap _ _ _ _ (fun e=>hi (by simp [Value.ownBlock,e]))
     · intro i hi
       simp only [Value.ownBlock,Option.toList_some,List.mem_singleton] at hi
       subst hi
       exact ⟨by rw [setRow_size];exact hglt,.inl (by simp [Value.ownBlock])⟩
   · refine fin (some ⟨g,0,none⟩) cap rfl ae fun w' hw'=>?_
     have hl:=run_loadCells_list (P:=P) w' ⟨g,0,none⟩ xs (fun j u hj=>by
      have hadd:(⟨g,0,none⟩:Addr).add j=⟨g,j,none⟩:=by unfold Addr.add;split<;>simp_all
      rw [hadd,cell_of_row w' g j cur e fz (by rw [hw'];exact hg)]
      rw [←htake,List.getElem?_take] at hj
      split at hj
      · simpa using hj
      · cases hj)
     rw [ho.1] at hl
     simp [Builtin.firstCells,hl]
theorem aV {n:Nat} {s x:Operand} {t u e size bytes:Nat} [hs:TySl P t e size bytes] {z:Value} [hz:TyZero P e z] {v vx:Value} {m q:Nat} {xs news:List Value} {L:Value→List Res}
  [hu:TySrc P u] (hzs:z.cells.size=size:=by rfl) (hsz:Nat.blt 0 size=true:=by rfl)
  (hv:ev E s=some v:=by rfl) (hx:ev E x=some vx:=by rfl) (hA:∀ v',At (orow e size v m xs) (orow e size v' (m+q) (xs++news)) loc (L v')) (hsrc:∀ w,Gam av bor w0 loc X w→Src P w size vx q news)
  (h63:(m+q)*bytes≤140737488355328) (h1:m+q≤maxLen) (hg:gdB ops E g=some (bb,want):=by rfl) (hb:bb=want:=by exact aB) (hd:Nat.blt n N=true:=by rfl)
  (h:∀ A c,Sw P N av bor w0 ops rest ⟨(n,.slice A (m+q) c)::E,L (.slice A (m+q) c),X⟩ k):Sw P N av bor w0 ops (⟨some n,.call ⟨.builtin .append,#[s,x],#[t,u]⟩,ty,pos,af,g⟩::rest) ⟨E,loc,X⟩ k:=Sw.mk fun a w ok=>by
 have hd':inB N (some n)=true:=by have h1:n<N:=ZU hd;simpa [inB] using h1
 have ho:ORow w e size v m xs:=(ok.gam.here _ (hA v).mem).now
 obtain ⟨v',w',hr,ho',k1,k2,k3,k4,k5,k6⟩:=nF (P:=P) (ty:=ty) hs.out hz.out hzs (ZU hsz) hu.out ho (hsrc w ok.gam) h1 h63
 have hv':∃ A c,v'=.slice A (m+q) c:=by
  rcases ho'.2 with ⟨rfl,h0⟩|⟨g',cap,_,_,rfl,_⟩
  · exact ⟨none,0,by rw [h0]⟩
  · exact ⟨_,_,rfl⟩
 obtain ⟨A,c,rfl⟩:=hv'
 simp only [wpList]
 rw [bZ ok (o:=⟨some n,.call ⟨.builtin .append,#[s,x],#[t,u]⟩,ty,pos,af,g⟩) hg]
 subst hb
 simp only [ZW,Qd]
 left
 unfold Oper.wp
 have hr':(execOp a.eval ⟨some n,.call ⟨.builtin .append,#[s,x],#[t,u]⟩,ty,pos,af,g⟩).run P w=.ok (.value (.slice A (m+q) c)) w':=by
  simp only [execOp,resolve,invoke,builtin,Sem.run_bind,Sem.run_pure,Result.andThen_ok,List.map_toArray,Qt,List.map_nil,ok.eval (st:=⟨E,loc,X⟩) hv,ok.eval (st:=⟨E,loc,X⟩) hx,hr]
 rw [hr']
 have hn:(orow e size (.slice A (m+q) c) (m+q) (xs++news)).fp.Nodup:=by cases A<;>simp [orow,Value.ownBlock]
 have ok':Ok N av bor w0 ⟨E,L (.slice A (m+q) c),X⟩ a w':=(ok.via fun M G=>G.swap ((hA _).app M) k1 k2 k3 k4 k5 hn k6 (ej ho'))
 exact (h A c).run _ _ (dv (some n) _▸ok'.put hd' _)
theorem Gam.nilRow {w:World} (G:Gam av bor w0 loc X w) (e size:Nat):Gam av bor w0 (orow e size (.slice none 0 0) 0 []::loc) X w:=by
 have e1:fps (orow e size (.slice none 0 0) 0 []::loc)=fps loc:=by simp [fps,orow,Value.ownBlock]
 refine ⟨G.fr,G.avb,by rw [e1];exact G.nodup,by rw [e1];exact G.own,fun r hr=>?_,by rw [e1];exact G.keep⟩
 rcases List.mem_cons.1 hr with rfl|hr
 · exact ej ⟨by simp,.inl ⟨rfl,rfl⟩⟩
 · exact G.here r hr
theorem iR (e size:Nat) (h:Sw P N av bor w0 ops rest ⟨E,orow e size (.slice none 0 0) 0 []::loc,X⟩ k):Sw P N av bor w0 ops rest ⟨E,loc,X⟩ k:=Sw.mk fun a w ok=>h.run a w (ok.via fun M G=>G.nilRow e size)
theorem cU {c:Code} (e size:Nat) (h:Cw P N av bor w0 c ⟨E,orow e size (.slice none 0 0) 0 []::loc,X⟩ K):Cw P N av bor w0 c ⟨E,loc,X⟩ K:=Cw.mk fun a w ok=>h.run a w (ok.via fun M G=>G.nilRow e size)
theorem qC {w:World} {s:ByteArray} (hs:s.size≤9223372036854775807):Src P w 1 (.string s) s.size (s.data.toList.map fun b=>.int .u8 b.toNat):=by
 refine ⟨fun w'=>by simp [Builtin.lenOf],fun w' _=>?_,by simp,fun u hu=>?_⟩
 · have e:s.extract 0 s.size=s:=by simp
   simp only [Builtin.firstCells,e,Sem.run_pure]
   congr 1
   apply Array.ext'
   simp
 · simp only [List.mem_map] at hu
   obtain ⟨b,_,rfl⟩:=hu
   rfl
theorem bo {w:World} {b T n size:Nat} {cs:List Value} (G:Gam av bor w0 loc X w) (hm:cel b T cs∈loc) (hl:cs.length=n*size) (h1:cs.all (·.oneCell')=true) (c:Nat):Src P w size (.slice (some ⟨b,0,none⟩) n c) n cs:=by
 have hw:w.heap[b]?=some (.cells cs.toArray T (0,0)):=(G.here _ hm).now
 refine ⟨fun w'=>by simp [Builtin.lenOf],fun w' e=>?_,hl,by simpa using h1⟩
 have:=run_loadCells_list (P:=P) w' ⟨b,0,none⟩ cs (fun j v hv=>by
  have hadd:(⟨b,0,none⟩:Addr).add j=⟨b,j,none⟩:=by unfold Addr.add;split<;>simp_all
  rw [hadd,cell_of_row w' b j _ _ _ (by rw [e];exact hw)]
  simpa using hv)
 rw [hl] at this
 simp [Builtin.firstCells,this]
theorem kX {w:World} {size:Nat} {s:SlV} {xs:List (List Value)} (h:RowsD w size s xs) (h1:∀ cs∈xs,cs.all (·.oneCell')=true):Src P w size s.v s.n xs.flatten:=by
 have hlen:xs.flatten.length=s.n*size:=by
  rw [List.length_flatten,h.len]
  have:∀ x∈xs.map List.length,x=size:=by
   intro x hx
   obtain ⟨cs,hcs,rfl⟩:=List.mem_map.1 hx
   obtain ⟨i,hi⟩:=List.mem_iff_getElem?.1 hcs
   exact (h.row i cs hi).1
  rw [List.eq_replicate_of_mem this]
  simp
 refine ⟨fun w'=>by simp [Builtin.lenOf,SlV.v],fun w' e=>?_,hlen,fun u hu=>?_⟩
 · obtain ⟨p,n,c⟩:=s
   cases p with
   | none =>
    have:xs=[]:=by
     cases xs with
     | nil=>rfl
     | cons cs r=>have:=(h.row 0 cs rfl).2.1;simp at this
    subst this
    simp [Builtin.firstCells,SlV.v]
   | some a =>
    have:=run_loadCells_list (P:=P) w' a xs.flatten (fun j v hv=>by
     have key:∀ (l:List (List Value)) (i0:Nat),(∀ i cs,l[i]?=some cs→cs.length=size∧∀ j u,cs[j]?=some u→CellAt w (some a) ((i0+i)*size+j) u)→∀ j v,l.flatten[j]?=some v→w.cell? (a.add (i0*size+j))=some v:=by
      intro l
      induction l with
      | nil=>intro _ _ j v hv;simp at hv
      | cons cs r ih =>
       intro i0 hl j v hv
       have h0:=hl 0 cs rfl
       rw [List.flatten_cons] at hv
       rcases Nat.lt_or_ge j cs.length with hj|hj
       · rw [Z4 hj] at hv
         have:=(h0.2 j v hv).2 a rfl
         simpa using this
       · rw [Qm hj] at hv
         have:=ih (i0+1) (fun i cs' hi=>by
          have:=hl (i+1) cs' (by simpa using hi)
          rw [show i0+1+i=i0+(i+1) from by omega]
          exact this) (j-cs.length) v hv
         rw [h0.1] at this hj
         rw [show i0*size+j=(i0+1)*size+(j-size) from by rw [Nat.add_mul];omega]
         exact this
     have:=key xs 0 (fun i cs hi=>⟨(h.row i cs hi).1,fun j u hj=>by simpa using (h.row i cs hi).2.2 j u hj⟩) j v hv
     have hc:w'.cell? (a.add j)=w.cell? (a.add j):=by simp [World.cell?,e]
     rw [hc]
     simpa using this)
    rw [hlen] at this
    simp [Builtin.firstCells,SlV.v,this]
 · simp only [List.mem_flatten] at hu
   obtain ⟨cs,hcs,hu⟩:=hu
   have:=h1 cs hcs
   simp only [List.all_eq_true] at this
   exact this u hu
def ofInts (ns:List Int):ByteArray:=ns.foldl (fun r n=>r.push (UInt8.ofNat n.toNat)) ByteArray.empty
def u8s (ns:List Int):List Value:=ns.map (Value.int .u8)
def bytesI (s:ByteArray):List Int:=s.data.toList.map fun b=>(b.toNat:Int)
theorem cr (a b:List Int):u8s (a++b)=u8s a++u8s b:=by simp [u8s]
theorem ea {w:World} {s:ByteArray} (hs:s.size≤9223372036854775807):Src P w 1 (.string s) s.size (u8s (bytesI s)):=by
 have:=qC (P:=P) (w:=w) hs
 simpa [u8s,bytesI,Qs,Function.comp_def] using this
theorem Co {st:St} {x:Operand} {t t2 e b':TypeId} [hs:TySl P t e 1 b'] [he:TyInt P e .u8] [h2:TyStr P t2] {v:Value} {n:Nat} {ns:List Int} (hx:ev st.env x=some v) (hm:orow e 1 v n (u8s ns)∈st.loc) :
  Sy.Yields P N av bor w0 st (.convert t t2 x) ty (.string (ofInts ns)):=Sy.Yields.mk fun A w ok d pos af g=>by
 have ho:ORow w e 1 v n (u8s ns):=(ok.gam.here _ hm).now
 have hl:(u8s ns).length=n:=by have:=ho.1;omega
 rcases ho.2 with ⟨rfl,rfl⟩|⟨g,cap,cur,fz,rfl,hg,hnc,hcm,hcs,htake,hfz⟩
 · have:ns=[]:=by simpa [u8s] using hl
   subst this
   have:=run_convert_bytes_string (P:=P) w t t2 e none 0 0 (cO hs.out).1 he.out h2.out
   simp [execOp,ok.eval hx,this,Conv.bytesToString,ofInts]
 · have hlc:=run_loadCells_list (P:=P) w ⟨g,0,none⟩ (u8s ns) (fun j u hj=>by
    have hadd:(⟨g,0,none⟩:Addr).add j=⟨g,j,none⟩:=by unfold Addr.add;split<;>simp_all
    rw [hadd,cell_of_row w g j cur e fz hg]
    rw [←htake,List.getElem?_take] at hj
    split at hj
    · simpa using hj
    · cases hj)
   rw [hl] at hlc
   have h3:=run_bytesToString (P:=P) w ⟨g,0,none⟩ n cap ns hlc
   have h4:=run_convert_bytes_string (P:=P) w t t2 e (some ⟨g,0,none⟩) n cap (cO hs.out).1 he.out h2.out
   rw [h3] at h4
   simp [execOp,ok.eval hx,h4,ofInts]
theorem eN {nn:Nat} {x:Operand} {t t2 e b':TypeId} [hs:TySl P t e 1 b'] [he:TyInt P e .u8] [h2:TyStr P t2] {v:Value} {n:Nat} {ns:List Int} (h:Sw P N av bor w0 ops rest ⟨(nn,.string (ofInts ns))::E,loc,X⟩ k) (hx:ev E x=some v:=by rfl) (hm:orow e 1 v n (u8s ns)∈loc:=by exact bX) (hg:gdB ops E g=some (bb,want):=by rfl) (hb:bb=want:=by exact aB) (hd:Nat.blt nn N=true:=by rfl):Sw P N av bor w0 ops (⟨some nn,.convert t t2 x,ty,pos,af,g⟩::rest) ⟨E,loc,X⟩ k :=
 am (Co hx hm) hg hb hd h
theorem rk (w:World) (C:Array Value) (e:TypeId):(w.alloc (.cells C e)).freeze ⟨w.heap.size,C.size,none⟩ 1=w.alloc (.cells C e (C.size,C.size+1)):=by
 simp only [World.freeze,World.alloc]
 rw [Qg (by omega)]
 congr 1
 apply Array.ext_getElem?
 intro i
 rw [Array.getElem?_modify]
 by_cases h:w.heap.size=i
 · subst h
   simp
 · have h':¬ i=w.heap.size:=fun e=>h e.symm
   simp [h,h',Array.getElem?_push]
theorem zy {w:World} {e:TypeId} {s:ByteArray}:(Conv.stringToBytes e s).run P w=.ok (.slice (some ⟨w.heap.size,0,none⟩) s.size (grownCap w s.size 0 e))
  (w.drew.alloc (.cells ((s.data.map fun b=>Value.int .u8 b.toNat)++Array.replicate (grownCap w s.size 0 e-s.size) (.int .u8 0)) e
   ((((s.data.map fun b=>Value.int .u8 b.toNat)++Array.replicate (grownCap w s.size 0 e-s.size) (.int .u8 0)):Array Value).size,(((s.data.map fun b=>Value.int .u8 b.toNat)++Array.replicate (grownCap w s.size 0 e-s.size) (.int .u8 0)):Array Value).size+1))):=by
 have h1:(choose (.appendCap s.size 0 e)).run P w=.ok (grownCap w s.size 0 e) w.drew:=rfl
 unfold Conv.stringToBytes
 simp only [Sem.run_bind,h1,Result.andThen_ok,er]
 generalize ((s.data.map fun b=>Value.int .u8 b.toNat)++Array.replicate (grownCap w s.size 0 e-s.size) (.int .u8 0):Array Value)=C
 have h2:(markStringish ⟨w.drew.heap.size,0,none⟩).run P (w.drew.alloc (.cells C e))=.ok () (w.drew.alloc (.cells C e (C.size,C.size+1))):=by
  have hs:(w.drew.alloc (.cells C e)).shape? w.heap.size=some (e,C.size):=by
   have:=heap_alloc_new w.drew (.cells C e)
   unfold World.shape?
   rw [show w.heap.size=w.drew.heap.size from rfl,this]
  have:=rk w.drew C e
  simp [markStringish,hs]
  exact this
 rw [h2]
 simp
theorem qA {n:Nat} {x:Operand} {t t2 e b':TypeId} [hs:TySl P t2 e 1 b'] [he:TyInt P e .u8] [h2:TyStr P t] {s:ByteArray} (h:∀ A c,Sw P N av bor w0 ops rest ⟨(n,.slice A s.size c)::E,orow e 1 (.slice A s.size c) s.size (u8s (bytesI s))::loc,X⟩ k) (hx:ev E x=some (.string s):=by rfl) (hsz:s.size≤4611686018427387904:=by omega) (hg:gdB ops E g=some (bb,want):=by rfl) (hb:bb=want:=by exact aB) (hd:Nat.blt n N=true:=by rfl):Sw P N av bor w0 ops (⟨some n,.convert t t2 x,ty,pos,af,g⟩::rest) ⟨E,loc,X⟩ k:=Sw.mk fun a w ok=>by
 have hd':inB N (some n)=true:=by have h1:n<N:=ZU hd;simpa [inB] using h1
 have hge:s.size≤grownCap w s.size 0 e:=grownCap_ge w s.size 0 e
 have hcm:grownCap w s.size 0 e≤maxLen:=grownCap_le_maxLen w s.size 0 e (by simp only [maxLen];omega)
 have hr0:=zy (P:=P) (w:=w) (e:=e) (s:=s)
 generalize grownCap w s.size 0 e=c at hge hcm hr0
 generalize hC:((s.data.map fun b=>Value.int .u8 b.toNat)++Array.replicate (c-s.size) (.int .u8 0):Array Value)=C at hr0
 have hCs:C.size=c:=by rw [←hC];simp;omega
 have hCt:C.toList.take s.size=u8s (bytesI s):=by
  rw [←hC]
  simp only [Array.toList_append,Array.toList_map]
  rw [List.take_append_of_le_length (by simp)]
  rw [List.take_of_length_le (by simp)]
  simp [u8s,bytesI]
 simp only [wpList]
 rw [bZ ok (o:=⟨some n,.convert t t2 x,ty,pos,af,g⟩) hg]
 subst hb
 simp only [ZW,Qd]
 left
 unfold Oper.wp
 have hr:(execOp a.eval ⟨some n,.convert t t2 x,ty,pos,af,g⟩).run P w=.ok (.value (.slice (some ⟨w.heap.size,0,none⟩) s.size c)) (w.drew.alloc (.cells C e (C.size,C.size+1))):=by
  simp [execOp,ok.eval (st:=⟨E,loc,X⟩) hx,convert,run_underlying h2.out,run_underlying (cO hs.out).1,run_underlying he.out,hr0]
 rw [hr]
 have ok':Ok N av bor w0 ⟨E,orow e 1 (.slice (some ⟨w.heap.size,0,none⟩) s.size c) s.size (u8s (bytesI s))::loc,X⟩ a (w.drew.alloc (.cells C e (C.size,C.size+1))):=(ok.via fun M G=>(G.drew).new (.cells C e (C.size,C.size+1)) (fun w2=>ORow w2 e 1 (.slice (some ⟨w.heap.size,0,none⟩) s.size c) s.size (u8s (bytesI s))) (fun w2 h=>⟨by simp [u8s,bytesI],.inr ⟨w.heap.size,c,C,_,rfl,h,hge,hcm,by omega,by simpa using hCt,.inr (Qp _)⟩⟩))
 exact (h _ _).run _ _ (dv (some n) _▸ok'.put hd' _)
end
end Go.Proofs.YtcdilibijnboeaaGreatDoor.Sy
namespace Go.Proofs.YtcdilibijnboeaaGreatDoor.Sy
open Go Go.RowKit Go.MapKept
class KeyT (κ:Type) where
 d:TypeDesc
 enc:κ→Value
 eqb:κ→κ→Bool
 ok:∀ a,IsKey d (enc a)
 same:∀ a b,Instr.sameNow d (enc a) (enc b)=some (eqb a b)
 eqb_iff:∀ a b,eqb a b=true↔a=b
instance:KeyT Int:=⟨.int .i64,.int .i64,fun a b=>decide (a=b),fun a=>rfl,fun a b=>by simp [Instr.sameNow];rfl,fun a b=>by simp⟩
instance:KeyT ByteArray:=⟨.string,.string,fun a b=>a==b,fun a=>trivial,fun a b=>rfl,bytes_beq⟩
def keyD (κ:Type) [KeyT κ]:TypeDesc:=KeyT.d κ
section
variable {κ:Type} [KeyT κ] {β:Type}
def mget:List (κ×β)→κ→Option β
 | [],_=>none
 | (k',v')::r,k=>bif KeyT.eqb k k' then some v' else mget r k
def mput:List (κ×β)→κ→β→List (κ×β)
 | [],k,v=>[(k,v)]
 | (k',v')::r,k,v=>bif KeyT.eqb k k' then (k,v)::r else (k',v')::mput r k v
def MapAt (w:World) (g:Nat) (l:List (κ×Value)):Prop :=
 ∃ es clock,w.heap[g]?=some (.map es clock)∧Stamped es clock∧es.toList.map (fun e=>(e.key,e.val))=l.map fun p=>(KeyT.enc p.1,p.2)
def mapr (g:Nat) (l:List (κ×Value)):Res:=⟨[g],fun w=>MapAt w g l⟩
theorem lI (k:κ):∀ (es:List MapEntry) (l:List (κ×Value)) (i:Nat),es.map (fun e=>(e.key,e.val))=l.map (fun p=>(KeyT.enc p.1,p.2)) →
  (Instr.findNow (keyD κ) (KeyT.enc k) es i=some none∧mget l k=none∧(∀ v,mput l k v=l++[(k,v)])∧∀ x∈es,x.key≠KeyT.enc k) ∨
  ∃ j e v0,Instr.findNow (keyD κ) (KeyT.enc k) es i=some (some (i+j,v0))∧es[j]?=some e∧e.key=KeyT.enc k∧mget l k=some v0∧∀ v,mput l k v=l.set j (k,v)
 | [],l,i,h=>by
  have:l=[]:=by cases l<;>simp_all
  subst this
  exact .inl ⟨rfl,rfl,fun _=>rfl,by simp⟩
 | e::es,[],i,h=>by simp at h
 | e::es,(k',v')::l,i,h=>by
  simp only [Qt,List.cons.injEq,Prod.mk.injEq] at h
  obtain ⟨⟨h1,h2⟩,h3⟩:=h
  have hs:Instr.sameNow (keyD κ) (KeyT.enc k) e.key=some (KeyT.eqb k k'):=by rw [h1];exact KeyT.same k k'
  cases hb:KeyT.eqb k k' with
  | true =>
   have hk:=(KeyT.eqb_iff k k').1 hb
   exact .inr ⟨0,e,v',by simp [Instr.findNow,hs,hb,h2],rfl,by rw [h1,hk],by simp [mget,hb],fun v=>by simp [mput,hb]⟩
  | false =>
   have hne:e.key≠KeyT.enc k:=fun q=>by
    have h5:=KeyT.same k k
    have h6:KeyT.eqb k k=true:=(KeyT.eqb_iff k k).2 rfl
    have h7:Instr.sameNow (keyD κ) (KeyT.enc k) (KeyT.enc k)=some true:=by rw [←h6];exact h5
    rw [q,h7,hb] at hs
    simp at hs
   rcases lI k es l (i+1) h3 with ⟨g1,g2,g3,g4⟩|⟨j,e',v0,g1,g2,g3,g4,g5⟩
   · exact .inl ⟨by simp [Instr.findNow,hs,hb,g1],by simp [mget,hb,g2],fun v=>by simp [mput,hb,g3],fun x hx=>by
      cases hx with
      | head=>exact hne
      | tail _ hx=>exact g4 x hx⟩
   · exact .inr ⟨j+1,e',v0,by simp [Instr.findNow,hs,hb,g1];omega,by simpa using g2,g3,by simp [mget,hb,g4],fun v=>by simp [mput,hb,g5]⟩
def mapOf (P:Program) (t:TypeId):Option (TypeId×TypeDesc) :=
 match P.underlying t with
 | some (.map kt et)=>(P.underlying kt).map fun d=>(et,d)
 | _=>none
class TyMap (P:Program) (t:TypeId) (et:outParam Nat) (d:outParam TypeDesc):Prop where out:mapOf P t=some (et,d)
theorem lv {P:Program} {t et:TypeId} {d:TypeDesc} (h:mapOf P t=some (et,d)):∃ kt,P.underlying t=some (.map kt et)∧P.underlying kt=some d:=by
 unfold mapOf at h
 split at h
 · rename_i kt et' he
   cases hk:P.underlying kt with
   | none=>simp [hk] at h
   | some d' =>
    simp [hk] at h
    obtain ⟨rfl,rfl⟩:=h
    exact ⟨kt,he,hk⟩
 · cases h
theorem iT {P:Program} {w:World} {t et:TypeId} (ht:mapOf P t=some (et,keyD κ)) {g:Nat} {l:List (κ×Value)} (h:MapAt w g l) (k:κ) (v:Value) :
  ∃ o,(Instr.mapUpdate t (.map (some g)) (KeyT.enc k) v).run P w=.ok () { w with heap:=w.heap.setIfInBounds g o }∧∀ w':World,w'.heap[g]?=some o→MapAt w' g (mput l k v):=by
 obtain ⟨kt,h1,h2⟩:=lv ht
 obtain ⟨es,clock,hb,hs,hl⟩:=h
 have hk:=KeyT.ok k
 rcases lI k es.toList l 0 hl with ⟨g1,g2,g3,g4⟩|⟨j,e,v0,g1,g2,g3,g4,g5⟩
 · refine ⟨.map (es.push { key:=KeyT.enc k,val:=v,born:=clock }) (clock+1),?_,fun w' hw=>⟨_,_,hw,stamped_push hs g4,?_⟩⟩
   · simp [Instr.mapUpdate,run_underlying h1,MapKept.run_getObj_map hb,MapKept.run_checkKey h2 hk,MapKept.run_findKey h2 g1,MapKept.run_setObj_map _ hb,Result.andThen]
   · rw [g3]
     simp [hl]
 · have hj:es[j]?=some e:=by simpa using g2
   refine ⟨.map (es.modify j fun e=>{ e with key:=KeyT.enc k,val:=v }) clock,?_,fun w' hw=>⟨_,_,hw,stamped_modify hs _ _ (fun _ _=>rfl) (fun e' _ he'=>by rw [hj] at he';cases he';exact g3.symm),?_⟩⟩
   · simp [Instr.mapUpdate,run_underlying h1,MapKept.run_getObj_map hb,MapKept.run_checkKey h2 hk,MapKept.run_findKey h2 g1,hj,g3,MapKept.run_keyThatStays hk,MapKept.run_setObj_map _ hb,Result.andThen]
   · rw [g5]
     apply List.ext_getElem?
     intro q
     have hq:=congrArg (fun l=>l[q]?) hl
     simp only [List.getElem?_map,Array.getElem?_toList] at hq
     simp only [List.getElem?_map,Array.getElem?_toList,Array.getElem?_modify,List.getElem?_set]
     by_cases e1:j=q
     · subst e1
       have hlt:j<l.length:=by
        rcases Nat.lt_or_ge j l.length with h|h
        · exact h
        · rw [hj,List.getElem?_eq_none h] at hq;simp at hq
       simp [hj,hlt]
     · simp [e1,hq]
theorem lZ {P:Program} {w:World} {t et:TypeId} {z:Value} (ht:mapOf P t=some (et,keyD κ)) (hz:zeroOf P et=some z) {g:Nat} {l:List (κ×Value)} (h:MapAt w g l) (k:κ) (c:Bool) :
  (Instr.lookup t (.map (some g)) (KeyT.enc k) c).run P w=.ok (if c then .tuple #[(mget l k).getD z,.bool (mget l k).isSome] else (mget l k).getD z) w:=by
 obtain ⟨kt,h1,h2⟩:=lv ht
 obtain ⟨es,clock,hb,hs,hl⟩:=h
 have hk:=KeyT.ok k
 have hzr:(zeroValue et).run P w=.ok z w:=dV hz w
 rcases lI k es.toList l 0 hl with ⟨g1,g2,g3,g4⟩|⟨j,e,v0,g1,g2,g3,g4,g5⟩
 · cases c<;>simp [Instr.lookup,run_underlying h1,MapKept.run_getObj_map hb,MapKept.run_checkKey h2 hk,MapKept.run_findKey h2 g1,hzr,g2,Result.andThen]
 · cases c<;>simp [Instr.lookup,run_underlying h1,MapKept.run_getObj_map hb,MapKept.run_checkKey h2 hk,MapKept.run_findKey h2 g1,g4,Result.andThen]
end
theorem Gam.give {av bor:List Nat} {w0 w:World} {r:Res} {loc:List Res} {X:World→Prop} (G:Gam av bor w0 (r::loc) X w):Gam av bor w0 loc (fun w=>X w∧r.F w) w:=by
 have hn:=G.nodup
 rw [dE] at hn
 have hn2:=List.nodup_append.1 hn
 refine ⟨G.fr,G.avb,hn2.2.1,fun k hk=>G.own k (by rw [dE];exact List.mem_append.2 (.inr hk)),fun q hq=>G.here q (ZS _ hq),?_⟩
 refine Keeps.and (G.keep.anti fun k hk=>?_) ⟨fun k=>k∈r.fp,fun k hk=>?_,fun w' e=>G.here r aI w' e⟩
 · rw [dE]
   rcases List.mem_append.1 hk with h|h
   · exact List.mem_append.2 (.inl h)
   · exact List.mem_append.2 (.inr (List.mem_append.2 (.inr h)))
 · have h1:=G.own k (by rw [dE];exact List.mem_append.2 (.inl hk))
   refine ⟨h1.1,fun h=>?_⟩
   rcases List.mem_append.1 h with h|h
   · have h2:=G.avb k h
     rcases h1.2 with h3|h3
     · omega
     · exact h2.2 h3
   · exact hn2.2.2 k hk k h rfl
section
variable {P:Program} {N:Nat} {av bor:List Nat} {w0:World} {ops:Array Oper} {rest:List Oper} {k:St→Prop} {E:Env} {loc loc':List Res} {X:World→Prop}
variable {d:Option Tmp} {ty:TypeId} {pos:String} {af:Array Edge} {g:Option (Nat×Bool)} {bb want:Bool} {K:Exit→St→Prop}
theorem cq {r:Res} (h:Sw P N av bor w0 ops rest ⟨E,loc,fun w=>X w∧r.F w⟩ k):Sw P N av bor w0 ops rest ⟨E,r::loc,X⟩ k:=Sw.mk fun a w ok=>h.run a w (ok.via fun M G=>G.give)
theorem kV (κ:Type) [KeyT κ] {n:Nat} {t:TypeId} (hg:gdB ops E g=some (bb,want):=by rfl) (hb:bb=want:=by exact aB) (hd:Nat.blt n N=true:=by rfl)
  (h:∀ q,Sw P N av bor w0 ops rest ⟨(n,.map (some q))::E,mapr q ([]:List (κ×Value))::loc,X⟩ k):Sw P N av bor w0 ops (⟨some n,.makeMap t none,ty,pos,af,g⟩::rest) ⟨E,loc,X⟩ k:=Sw.mk fun a w ok=>by
 have hd':inB N (some n)=true:=by have h1:n<N:=ZU hd;simpa [inB] using h1
 simp only [wpList]
 rw [bZ ok (o:=⟨some n,.makeMap t none,ty,pos,af,g⟩) hg]
 subst hb
 simp only [ZW,Qd]
 left
 unfold Oper.wp
 have hr:(execOp a.eval ⟨some n,.makeMap t none,ty,pos,af,g⟩).run P w=.ok (.value (.map (some w.heap.size))) (w.alloc (.map #[] 0)):=by
  have:(newObj (.map #[] 0)).run P w=.ok w.heap.size (w.alloc (.map #[] 0)):=rfl
  simp [execOp,Instr.makeMap,this]
 rw [hr]
 have ok':Ok N av bor w0 ⟨E,mapr w.heap.size ([]:List (κ×Value))::loc,X⟩ a (w.alloc (.map #[] 0)):=(ok.via fun M G=>G.new (.map #[] 0) (fun w2=>MapAt w2 w.heap.size ([]:List (κ×Value))) fun w2 h=>⟨#[],0,h,stamped_empty 0,rfl⟩)
 exact (h _).run _ _ (dv (some n) _▸ok'.put hd' _)
theorem MapAt.same {κ:Type} [KeyT κ] {w w':World} {q:Nat} {l:List (κ×Value)} (h:MapAt w q l) (e:w'.heap[q]?=w.heap[q]?):MapAt w' q l:=by
 obtain ⟨es,c,h1,h2⟩:=h
 exact ⟨es,c,e.trans h1,h2⟩
theorem mI {κ:Type} [KeyT κ] {a:Act} {w:World} (ok:Ok N av bor w0 ⟨E,loc,X⟩ a w) {t et:TypeId} (ht:mapOf P t=some (et,keyD κ)) {q:Nat} {l:List (κ×Value)} {kk:κ} {v:Value} (hA:At (mapr q l) (mapr q (mput l kk v)) loc loc') :
  ∃ w',(Instr.mapUpdate t (.map (some q)) (KeyT.enc kk) v).run P w=.ok () w'∧Ok N av bor w0 ⟨E,loc',X⟩ a w':=by
 have hm:MapAt w q l:=(ok.gam.here _ hA.mem).now
 obtain ⟨o,hr,ho⟩:=iT ht hm kk v
 obtain ⟨es,c,hb,_⟩:=hm
 have hs:=heap_set (o':=o) hb
 refine ⟨_,hr,ok.via fun M G=>G.turn (hA.app M) rfl rfl rfl (by simp) (fun i hi=>hs.2 i hi) fun w2 h2=>ho w2 (h2.trans hs.1)⟩
theorem ug {κ:Type} [KeyT κ] {t et:Nat} [ht:TyMap P t et (keyD κ)] {m x y:Operand} {q:Nat} {l:List (κ×Value)} {kk:κ} {v:Value} (h:Sw P N av bor w0 ops rest ⟨putE E d undef,loc',X⟩ k) (hm:ev E m=some (.map (some q)):=by rfl) (hx:ev E x=some (KeyT.enc kk):=by rfl) (hy:ev E y=some v:=by rfl) (hA:At (mapr q l) (mapr q (mput l kk v)) loc loc':=by (repeat (first|exact At.here _|apply At.there))) (hg:gdB ops E g=some (bb,want):=by rfl) (hb:bb=want:=by exact aB) (hd:inB N d=true:=by rfl):Sw P N av bor w0 ops (⟨d,.insert t m x y,ty,pos,af,g⟩::rest) ⟨E,loc,X⟩ k:=Sw.mk fun a w ok=>by
 simp only [wpList]
 rw [bZ ok (o:=⟨d,.insert t m x y,ty,pos,af,g⟩) hg]
 subst hb
 simp only [ZW,Qd]
 left
 unfold Oper.wp
 obtain ⟨w',hr,ok'⟩:=mI (P:=P) ok ht.out hA
 have hr':(execOp a.eval ⟨d,.insert t m x y,ty,pos,af,g⟩).run P w=.ok .skip w':=by
  simp [execOp,ok.eval (st:=⟨E,loc,X⟩) hm,ok.eval (st:=⟨E,loc,X⟩) hx,ok.eval (st:=⟨E,loc,X⟩) hy,hr]
 rw [hr']
 exact h.run _ _ (dv d _▸ok'.put hd _)
theorem uf {κ:Type} [KeyT κ] {t et:Nat} [ht:TyMap P t et (keyD κ)] {m x y:Operand} {q:Nat} {l:List (κ×Value)} {kk:κ} {v:Value} (h:Sw P N av bor w0 ops rest ⟨putE E d undef,loc',X⟩ k) (hm:ev E m=some (.map (some q)):=by rfl) (hx:ev E x=some (KeyT.enc kk):=by rfl) (hy:ev E y=some v:=by rfl) (hA:At (mapr q l) (mapr q (mput l kk v)) loc loc':=by (repeat (first|exact At.here _|apply At.there))) (hg:gdB ops E g=some (bb,want):=by rfl) (hb:bb=want:=by exact aB) (hd:inB N d=true:=by rfl):Sw P N av bor w0 ops (⟨d,.mapUpdate t m x y,ty,pos,af,g⟩::rest) ⟨E,loc,X⟩ k:=Sw.mk fun a w ok=>by
 simp only [wpList]
 rw [bZ ok (o:=⟨d,.mapUpdate t m x y,ty,pos,af,g⟩) hg]
 subst hb
 simp only [ZW,Qd]
 left
 unfold Oper.wp
 obtain ⟨w',hr,ok'⟩:=mI (P:=P) ok ht.out hA
 have hr':(execOp a.eval ⟨d,.mapUpdate t m x y,ty,pos,af,g⟩).run P w=.ok .skip w':=by
  simp [execOp,ok.eval (st:=⟨E,loc,X⟩) hm,ok.eval (st:=⟨E,loc,X⟩) hx,ok.eval (st:=⟨E,loc,X⟩) hy,hr]
 rw [hr']
 exact h.run _ _ (dv d _▸ok'.put hd _)
theorem vw {κ:Type} [KeyT κ] {st:St} {t et:Nat} [ht:TyMap P t et (keyD κ)] {z:Value} [hz:TyZero P et z] {m x:Operand} {c:Bool} {q:Nat} {l:List (κ×Value)} {kk:κ} (hm:ev st.env m=some (.map (some q))) (hx:ev st.env x=some (KeyT.enc kk))
  (hl:∀ w,Gam av bor w0 st.loc st.ext w→MapAt w q l):Sy.Yields P N av bor w0 st (.lookup t m x c) ty (if c then .tuple #[(mget l kk).getD z,.bool (mget l kk).isSome] else (mget l kk).getD z):=Sy.Yields.mk fun A w ok d pos af g=>by
 have:=lZ (P:=P) (t:=t) ht.out hz.out (hl w ok.gam) kk c
 simp [execOp,ok.eval hm,ok.eval hx,this]
theorem sI {κ:Type} [KeyT κ] {q:Nat} {l:List (κ×Value)} (hm:mapr q l∈loc):∀ w,Gam av bor w0 loc X w→MapAt w q l:=fun w G=>(G.here _ hm).now
theorem fm {κ:Type} [KeyT κ] {q:Nat} {l:List (κ×Value)} (hm:∀ w,X w→MapAt w q l):∀ w,Gam av bor w0 loc X w→MapAt w q l:=fun w G=>hm w G.keep.now
theorem ud {κ:Type} [KeyT κ] {n:Nat} {t et:Nat} [ht:TyMap P t et (keyD κ)] {z:Value} [hz:TyZero P et z] {m x:Operand} {c:Bool} {q:Nat} {l:List (κ×Value)} {kk:κ} (hm:ev E m=some (.map (some q)):=by rfl) (hx:ev E x=some (KeyT.enc kk):=by rfl)
  (hl:∀ w,Gam av bor w0 loc X w→MapAt w q l) (hg:gdB ops E g=some (bb,want):=by rfl) (hb:bb=want:=by exact aB) (hd:Nat.blt n N=true:=by rfl)
  (h:Sw P N av bor w0 ops rest ⟨(n,if c then .tuple #[(mget l kk).getD z,.bool (mget l kk).isSome] else (mget l kk).getD z)::E,loc,X⟩ k):Sw P N av bor w0 ops (⟨some n,.lookup t m x c,ty,pos,af,g⟩::rest) ⟨E,loc,X⟩ k:=am (vw hm hx hl) hg hb hd h
theorem dt {κ:Type} [KeyT κ] {n:Nat} {t et:Nat} [ht:TyMap P t et (keyD κ)] {z:Value} [hz:TyZero P et z] {m x:Operand} {q:Nat} {l:List (κ×Value)} {kk:κ} {o:Option Value} {v:Value} {b:Bool} (h:Sw P N av bor w0 ops rest ⟨(n,.tuple #[v,.bool b])::E,loc,X⟩ k) (hm:ev E m=some (.map (some q)):=by rfl) (hx:ev E x=some (KeyT.enc kk):=by rfl) (hl:∀ w,Gam av bor w0 loc X w→MapAt w q l) (ho:mget l kk=o) (hv:o.getD z=v:=by rfl) (hbo:o.isSome=b:=by rfl) (hg:gdB ops E g=some (bb,want):=by rfl) (hb:bb=want:=by exact aB) (hd:Nat.blt n N=true:=by rfl):Sw P N av bor w0 ops (⟨some n,.lookup t m x true,ty,pos,af,g⟩::rest) ⟨E,loc,X⟩ k:=by
 subst ho;subst hv;subst hbo
 exact ud hm hx hl hg hb hd h
end
theorem Gam.giveAll {av bor:List Nat} {w0 w:World}:∀ {loc:List Res} {X:World→Prop},Gam av bor w0 loc X w→Gam av bor w0 [] (fun w=>X w∧∀ r∈loc,r.F w) w
  | [],X,G=>G.imp fun _ h=>⟨h,by simp⟩
  | r :: loc,X,G=>(Gam.giveAll G.give).imp fun w h=>⟨h.1.1,fun q hq=>by
      rcases List.mem_cons.1 hq with rfl|hq
      · exact h.1.2
      · exact h.2 q hq⟩
theorem cA {P:Program} {f:FuncId} {fn:Func} {c:Code} {args:List Value} {X:World→Prop} {Φ:Value→(World→Prop)→Prop} (N:Nat)
  (hf:P.funcs[f]?=some fn) (hb:fn.body=some c) (hN:fn.ntmps=N) (hn:Nat.ble args.length N=true)
  (h:∀ av bor w0,Cw P N av bor w0 c ⟨params 0 args,[],X⟩ (ends P fn N fun u R X'=>Φ u fun w=>X' w∧∀ r∈R,r.F w)):Mk P f args.toArray X Φ:=by
 unfold Mk
 exact Ct.mk fun w av G=>by
  have h1:=(cf (P:=P) (Post:=fun u R X'=>Φ u fun w=>X' w∧∀ r∈R,r.F w) N hf hb hN hn h).run w av G
  refine h1.mono fun e w' ⟨u,R,X',he,hu,G'⟩=>⟨u,[],_,he,⟨hu,rfl⟩,G'.giveAll⟩
end Go.Proofs.YtcdilibijnboeaaGreatDoor.Sy
namespace Go.Proofs.YtcdilibijnboeaaGreatDoor.Sy
open Go Go.RowKit Go.Sort Go.Proofs
def bl (s:ByteArray):List UInt8:=s.data.toList
def lb (l:List UInt8):ByteArray:=⟨l.toArray⟩
theorem Bi (s:ByteArray):lb (bl s)=s:=by simp [lb,bl]
theorem CA (l:List UInt8):bl (lb l)=l:=by simp [lb,bl]
def encB (s:ByteArray):Value:=.string s
theorem mT (s:ByteArray):encStr (bl s)=encB s:=by simp [encStr,bl,encB]
theorem gV (l:List (List UInt8)):l.map encStr=(l.map lb).map encB:=by
 rw [Qs]
 apply List.map_congr_left
 intro a _
 show encStr a=encB (lb a)
 rw [←mT,CA]
theorem pL (l:List ByteArray):l.map encB=(l.map bl).map encStr:=by
 rw [Qs]
 apply List.map_congr_left
 intro a _
 exact (mT a).symm
def sortB (l:List ByteArray):List ByteArray:=((l.map bl).mergeSort leB).map lb
def compB (l:List ByteArray):List ByteArray:=(Lib.compact (l.map bl)).map lb
theorem ul (l:List ByteArray):(sortB l).length=l.length:=by simp [sortB]
theorem lD {α:Type} [Inhabited α] {enc:α→Value} {w:World} {e g n:Nat} {cur:Array Value} {fz:Nat×Nat} {ss:List α} (hb:w.heap[g]?=some (.cells cur e fz)) (hl:ss.length=n) (ht:cur.toList.take (n*1)=ss.map enc)
  (hz:fz.1=fz.2∨cur.size≤fz.1):Go.Sort.Holds enc w g 0 ss.toArray:=by
 intro j hj
 have hj':j<ss.length:=by simpa using hj
 have h1:(cur.toList.take (n*1))[j]?=(ss.map enc)[j]?:=by rw [ht]
 rw [List.getElem?_take_of_lt (by omega)] at h1
 have hjc:j<cur.size:=by
  rcases Nat.lt_or_ge j cur.size with h|h
  · exact h
  · rw [List.getElem?_eq_none (by simpa using h),List.getElem?_map,Zm hj'] at h1
    simp at h1
 refine ⟨?_,?_⟩
 · simp only [World.cell?,hb,Ql]
   simp only [Option.isSome_none,Bool.false_eq_true,Qe]
   rw [←Array.getElem?_toList,h1]
   simp [hj']
 · obtain ⟨lo,hi⟩:=fz
   simp only [World.frozen?,hb]
   simp only at hz
   have:¬ (lo≤0+j∧0+j<hi):=by omega
   simpa using this
theorem xY {α:Type} [Inhabited α] {enc:α→Value} {w:World} {g n:Nat} {os:Array Obj} {cur:Array Value} {e:Nat} {fr:Nat×Nat} (d:Array α) (hb:w.heap[g]?=some (.cells cur e fr)) :
  (grow (putRow enc (Sort.ahead w n) g 0 d) os).heap[g]?=some (.cells (putCells enc 0 d cur) e fr):=by
 have hg:g<w.heap.size:=(Array.getElem?_eq_some_iff.1 hb).1
 rw [heap_grow_old _ _ (by simpa using hg)]
 simp [putRow,mapBlock,Sort.ahead,Array.getElem?_modify,hb,onCells]
theorem ri {α:Type} [Inhabited α] {enc:α→Value} {w:World} {g n:Nat} {os:Array Obj} (d:Array α) (k:Nat) (hk:k<w.heap.size) (hne:k≠g) :
  (grow (putRow enc (Sort.ahead w n) g 0 d) os).heap[k]?=w.heap[k]?:=by
 rw [heap_grow_old _ _ (by simpa using hk)]
 have:g≠k:=fun e=>hne e.symm
 simp [putRow,mapBlock,Sort.ahead,Array.getElem?_modify,this]
theorem wL {α:Type} [Inhabited α] {enc:α→Value} (cur:Array Value) (ts us:List α) (h:(ts++us).length≤cur.size):(putCells enc 0 (ts++us).toArray cur).toList.take ts.length=ts.map enc:=by
 apply List.ext_getElem?
 intro j
 by_cases hj:j<ts.length
 · rw [List.getElem?_take_of_lt hj,Array.getElem?_toList]
   have h2:ts.length+us.length≤cur.size:=by simpa using h
   simp [putCells,hj,show j<cur.size by omega,show j<ts.length+us.length by omega]
 · rw [List.getElem?_take_eq_none ae,List.getElem?_eq_none (by simp;omega)]
theorem Gam.putRow {α:Type} [Inhabited α] {enc:α→Value} {av bor:List Nat} {w0 w:World} {loc loc':List Res} {X:World→Prop} {e g cap n n' q:Nat} {xs:List Value} {cur:Array Value} {fz:Nat×Nat} {os:Array Obj} {ts us:List α}
  (G:Gam av bor w0 loc X w) (hb:w.heap[g]?=some (.cells cur e fz)) (hcm:cap≤maxLen) (hcs:cur.size=cap) (hz:fz.1=fz.2∨cur.size≤fz.1) (hle:n'≤cap) (htl:ts.length=n') (hus:(ts++us).length≤cap)
  (hA:At (orow e 1 (.slice (some ⟨g,0,none⟩) n cap) n xs) (orow e 1 (.slice (some ⟨g,0,none⟩) n' cap) n' (ts.map enc)) loc loc') :
  Gam av bor w0 loc' X (grow (Go.Sort.putRow enc (Sort.ahead w q) g 0 (ts++us).toArray) os):=by
 have hg:g<w.heap.size:=(Array.getElem?_eq_some_iff.1 hb).1
 refine G.swap hA rfl rfl rfl (by simp) (fun i hi hne=>ri _ i hi ?_) (by simp [orow,Value.ownBlock]) (fun i hi=>?_) (ej ?_)
 · simpa [orow,Value.ownBlock] using hne
 · simp only [orow,Value.ownBlock,Option.toList_some,List.mem_singleton] at hi ⊢
   subst hi
   exact ⟨by simp;omega,.inl rfl⟩
 · refine ⟨by simp [htl],.inr ⟨g,cap,_,fz,rfl,xY _ hb,hle,hcm,by simp [putCells,hcs],?_,by simpa [putCells] using hz⟩⟩
   rw [Nat.mul_one,←htl]
   exact wL cur ts us ae
section
variable {P:Program} {f:FuncId}
structure SortC {α:Type} [Inhabited α] (P:Program) (f:FuncId) (enc:α→Value) (srt:List α→List α):Prop where
 some_:∀ (blk off cap:Nat) (ss:List α) (w:World),Go.Sort.Holds enc w blk off ss.toArray→blk<w.heap.size→ss.length<4611686018427387904 →
  Calls P f #[.slice (some ⟨blk,off,none⟩) ss.length cap] w fun e w'=>e=.returned (.tuple #[])∧∃ n os,w'=grow (Go.Sort.putRow enc (Sort.ahead w n) blk off (srt ss).toArray) os
 none_:∀ (p:Option Addr) (cap:Nat) (w:World),Calls P f #[.slice p 0 cap] w fun e w'=>e=.returned (.tuple #[])∧w'=w
 len:∀ ss,(srt ss).length=ss.length
theorem SortC.ct {α:Type} [Inhabited α] {enc:α→Value} {srt:List α→List α} (h:SortC P f enc srt) {e n:Nat} {v:Value} {ss:List α} (hn:n≤1000000000) :
  Ct P f #[v] [orow e 1 v n (ss.map enc)] (fun _=>True) fun u R _=>u=.tuple #[]∧R=[orow e 1 v n ((srt ss).map enc)]:=Ct.mk fun w av G=>by
 have ho:ORow w e 1 v n (ss.map enc):=(G.here _ aI).now
 have hl:ss.length=n:=by simpa using ho.1
 rcases ho.2 with ⟨rfl,rfl⟩|⟨g,cap,cur,fz,rfl,hg,hnc,hcm,hcs,htake,hfz⟩
 · have hss:ss=[]:=List.eq_nil_of_length_eq_zero hl
   have hss':srt ss=[]:=List.eq_nil_of_length_eq_zero (by rw [h.len,hl])
   refine (h.none_ none 0 w).mono fun e w' ⟨h1,h2⟩=>⟨_,_,fun _=>True,h1,⟨rfl,rfl⟩,?_⟩
   subst h2
   rw [hss']
   rw [hss] at G
   exact G
 · have hgl:g<w.heap.size:=(Array.getElem?_eq_some_iff.1 hg).1
   subst hl
   have h62:ss.length<4611686018427387904:=by omega
   refine (h.some_ g 0 cap ss w (lD hg rfl htake hfz) hgl h62).mono fun e w' ⟨h1,n,os,h2⟩=>⟨_,_,fun _=>True,h1,⟨rfl,rfl⟩,?_⟩
   subst h2
   have:=G.putRow (us:=[]) (ts:=srt ss) (q:=n) (os:=os) (enc:=enc) hg hcm ae hfz hnc (h.len ss) (by simp [h.len];omega) (At.here [])
   rw [Z9] at this
   exact this
structure CompC {α:Type} [Inhabited α] (P:Program) (f:FuncId) (enc:α→Value) (z:α) (cmp:List α→List α):Prop where
 some_:∀ (blk off cap:Nat) (ss:List α) (w:World),Go.Sort.Holds enc w blk off ss.toArray→ss.length≤9223372036854775807→ss.length≤cap →
  Calls P f #[.slice (some ⟨blk,off,none⟩) ss.length cap] w fun e w'=>e=.returned (.slice (some ⟨blk,off,none⟩) (cmp ss).length cap)∧∃ q,w'=Go.Sort.putRow enc (Sort.ahead w q) blk off (cmp ss++List.replicate (ss.length-(cmp ss).length) z).toArray
 none_:∀ (a:Option Addr) (cap:Nat) (w:World),Calls P f #[.slice a 0 cap] w fun e w'=>e=.returned (.slice a 0 cap)∧w'=w
 len:∀ ss,(cmp ss).length≤ss.length
theorem CompC.ct {α:Type} [Inhabited α] {enc:α→Value} {z:α} {cmp:List α→List α} (h:CompC P f enc z cmp) {e n:Nat} {v:Value} {ss:List α} :
  Ct P f #[v] [orow e 1 v n (ss.map enc)] (fun _=>True) fun u R _=>∃ A c,u=.slice A (cmp ss).length c∧R=[orow e 1 u (cmp ss).length ((cmp ss).map enc)]:=Ct.mk fun w av G=>by
 have ho:ORow w e 1 v n (ss.map enc):=(G.here _ aI).now
 have hl:ss.length=n:=by simpa using ho.1
 rcases ho.2 with ⟨rfl,rfl⟩|⟨g,cap,cur,fz,rfl,hg,hnc,hcm,hcs,htake,hfz⟩
 · have hss:ss=[]:=List.eq_nil_of_length_eq_zero hl
   have hss':cmp ss=[]:=List.eq_nil_of_length_eq_zero (by have:=h.len ss;omega)
   refine (h.none_ none 0 w).mono fun e w' ⟨h1,h2⟩=>⟨_,_,fun _=>True,h1,⟨none,0,by rw [hss'];rfl,rfl⟩,?_⟩
   subst h2
   rw [hss']
   rw [hss] at G
   exact G
 · subst hl
   have h62:ss.length≤9223372036854775807:=by simp only [maxLen] at hcm;omega
   have hlen:=h.len ss
   refine (h.some_ g 0 cap ss w (lD hg rfl htake hfz) h62 hnc).mono fun e w' ⟨h1,q,h2⟩=>⟨_,_,fun _=>True,h1,⟨_,_,rfl,rfl⟩,?_⟩
   subst h2
   have:=G.putRow (us:=List.replicate (ss.length-(cmp ss).length) z) (ts:=cmp ss) (n':=(cmp ss).length) (q:=q) (os:=#[]) (enc:=enc) hg hcm ae hfz ae rfl (by simp;omega) (At.here [])
   rw [grow_empty] at this
   exact this
end
end Go.Proofs.YtcdilibijnboeaaGreatDoor.Sy
namespace Go.Proofs.YtcdilibijnboeaaGreatDoor.Sy
open Go Go.RowKit Go.Sort Go.Proofs Go.MapKept Go.Maps Go.Shelf
theorem Gam.more {av bor:List Nat} {w0 w w':World} {loc:List Res} {X:World→Prop} {r:Res} (G:Gam av bor w0 loc X w) (hB:Below w.heap.size w w') (hr:Holds r w') (hn:r.fp.Nodup) (hf:∀ i∈r.fp,w.heap.size≤i∧i<w'.heap.size) :
  Gam av bor w0 (r::loc) X w':=by
 have G0:Gam av bor w0 (⟨[],fun _=>True⟩::loc) X w:=by
  have e1:fps ((⟨[],fun _=>True⟩:Res)::loc)=fps loc:=by simp [fps]
  refine ⟨G.fr,G.avb,by rw [e1];exact G.nodup,by rw [e1];exact G.own,fun x hx=>?_,by rw [e1];exact G.keep⟩
  rcases List.mem_cons.1 hx with rfl|hx
  · exact fun _ _=>trivial
  · exact G.here x hx
 refine G0.swap (At.here loc) hB.os hB.tape hB.output hB.size (fun i hi _=>hB.block i hi) hn (fun i hi=>⟨(hf i hi).2,.inr (hf i hi).1⟩) hr
theorem iv {w:World} {base e size n:Nat} {v:Value} {xs:List Value} (h:w.ownsRow base e size v n xs):ORow w e size v n xs:=by
 refine ⟨h.1,?_⟩
 rcases h.2 with h0|⟨g,cap,cur,hv,_,hg,h1,h2,h3,h4⟩
 · exact .inl h0
 · exact .inr ⟨g,cap,cur,(0,0),hv,hg,h1,h2,h3,h4,.inl rfl⟩
theorem sF {w:World} {base e size n:Nat} {v:Value} {xs:List Value} (h:w.ownsRow base e size v n xs):(orow e size v n xs).fp.Nodup∧(∀ i∈(orow e size v n xs).fp,base≤i∧i<w.heap.size)∧∃ A c,v=.slice A n c:=by
 rcases h.2 with ⟨rfl,rfl⟩|⟨g,cap,cur,rfl,hb,hg,h1,h2,h3,h4⟩
 · exact ⟨by simp [orow,Value.ownBlock],fun i hi=>by simp [orow,Value.ownBlock] at hi,none,0,rfl⟩
 · refine ⟨by simp [orow,Value.ownBlock],fun i hi=>?_,_,_,rfl⟩
   simp only [orow,Value.ownBlock,Option.toList_some,List.mem_singleton] at hi
   subst hi
   exact ⟨hb,(Array.getElem?_eq_some_iff.1 hg).1⟩
def rTriv:Value→Option (DataW Unit×List MemPlace):=fun _=>some (.nil,[])
theorem sJ {κ:Type} [KeyT κ] {w:World} {q:Nat} {l:List (κ×Value)} {es:Array MapEntry} (hl:es.toList.map (fun e=>(e.key,e.val))=l.map fun p=>(KeyT.enc p.1,p.2)):es.size=l.length:=by
 have:=congrArg List.length hl
 simpa using this
theorem nO {P:Program} {K:Nat} (hk:P.underlying K=some .string) {w:World} {q:Nat} {l:List (ByteArray×Value)} (h:MapAt w q l) (hs:∀ p∈l,p.1.size≤maxLen) (hlen:l.length≤maxLen) :
  ∃ D0:DataW Unit,w.ownsMap P K rTriv q l.length D0∧(strKeys D0).Perm (l.map fun p=>bl p.1)∧Maps.size D0=l.length:=by
 obtain ⟨es,clock,hb,hst,hl⟩:=h
 have hz:=sJ (w:=w) (q:=q) hl
 have hkey:∀ x∈es.toList,∃ s:ByteArray,x.key=.string s∧s.size≤maxLen:=by
  intro x hx
  have h1:(x.key,x.val)∈l.map fun p=>(KeyT.enc p.1,p.2):=by rw [←hl];exact List.mem_map.2 ⟨x,hx,rfl⟩
  obtain ⟨p,hp,he⟩:=List.mem_map.1 h1
  refine ⟨p.1,?_,hs p hp⟩
  have:=congrArg Prod.fst he
  exact this.symm
 have hrd:∀ x∈es.toList,∃ s:ByteArray,x.key=.string s∧WideElems.rd P K rTriv x=some (.string (bl s),.nil):=by
  intro x hx
  obtain ⟨s,h1,h2⟩:=hkey x hx
  refine ⟨s,h1,?_⟩
  have h3:keyOf P K x.key=some (.string (bl s)):=by rw [h1];simp [keyOf,hk,mapKey,h2,bl]
  simp [WideElems.rd,h3,rTriv]
 refine ⟨_,⟨es,clock,hb,⟨by omega,hst,fun x hx=>?_⟩,by omega,rfl⟩,?_,?_⟩
 · obtain ⟨s,_,h2⟩:=hrd x hx
   exact ⟨_,h2⟩
 · have h1:=(WideShapes.sorted_perm (es.toList.map (WideElems.rg P K rTriv))).map fun p=>strOf p.1
   refine h1.trans ?_
   have h2:(es.toList.map (WideElems.rg P K rTriv)).map (fun p=>strOf p.1)=es.toList.map fun x=>match x.key with|.string s=>bl s|_=>[]:=by
    rw [Qs]
    refine List.map_congr_left fun x hx=>?_
    obtain ⟨s,h3,h4⟩:=hrd x hx
    simp [WideElems.rg,h4,h3,strOf]
   have h5:(es.toList.map fun x=>match x.key with|.string s=>bl s|_=>[])=l.map fun p=>bl p.1:=by
    have h6:=congrArg (List.map fun (p:Value×Value)=>match p.1 with|.string s=>bl s|_=>[]) hl
    rw [Qs,Qs] at h6
    exact h6
   rw [h2,h5]
 · show ((es.toList.map (WideElems.rg P K rTriv)).foldr DataW.insert []).length=l.length
   rw [length_sorted]
   simp [hz]
theorem nP {P:Program} {K:Nat} (hk:P.underlying K=some (.int .i64)) {w:World} {q:Nat} {l:List (Int×Value)} (h:MapAt w q l) (hs:∀ p∈l,(Lit.int .i64 p.1).wf=true) (hlen:l.length≤maxLen) :
  ∃ D0:DataW Unit,w.ownsMap P K rTriv q l.length D0∧(intKeys D0).Perm (l.map fun p=>p.1)∧Maps.size D0=l.length:=by
 obtain ⟨es,clock,hb,hst,hl⟩:=h
 have hz:=sJ (w:=w) (q:=q) hl
 have hkey:∀ x∈es.toList,∃ s:Int,x.key=.int .i64 s∧(Lit.int .i64 s).wf=true:=by
  intro x hx
  have h1:(x.key,x.val)∈l.map fun p=>(KeyT.enc p.1,p.2):=by rw [←hl];exact List.mem_map.2 ⟨x,hx,rfl⟩
  obtain ⟨p,hp,he⟩:=List.mem_map.1 h1
  refine ⟨p.1,?_,hs p hp⟩
  have:=congrArg Prod.fst he
  exact this.symm
 have hrd:∀ x∈es.toList,∃ s:Int,x.key=.int .i64 s∧WideElems.rd P K rTriv x=some (.int .i64 s,.nil):=by
  intro x hx
  obtain ⟨s,h1,h2⟩:=hkey x hx
  refine ⟨s,h1,?_⟩
  have h3:keyOf P K x.key=some (.int .i64 s):=by rw [h1];simp [keyOf,hk,mapKey,h2]
  simp [WideElems.rd,h3,rTriv]
 refine ⟨_,⟨es,clock,hb,⟨by omega,hst,fun x hx=>?_⟩,by omega,rfl⟩,?_,?_⟩
 · obtain ⟨s,_,h2⟩:=hrd x hx
   exact ⟨_,h2⟩
 · have h1:=(WideShapes.sorted_perm (es.toList.map (WideElems.rg P K rTriv))).map fun p=>Go.intOf p.1
   refine h1.trans ?_
   have h2:(es.toList.map (WideElems.rg P K rTriv)).map (fun p=>Go.intOf p.1)=es.toList.map fun x=>match x.key with|.int _ s=>s|_=>0:=by
    rw [Qs]
    refine List.map_congr_left fun x hx=>?_
    obtain ⟨s,h3,h4⟩:=hrd x hx
    simp [WideElems.rg,h4,h3,Go.intOf]
   have h5:(es.toList.map fun x=>match x.key with|.int _ s=>s|_=>0)=l.map fun p=>p.1:=by
    have h6:=congrArg (List.map fun (p:Value×Value)=>match p.1 with|.int _ s=>s|_=>0) hl
    rw [Qs,Qs] at h6
    exact h6
   rw [h2,h5]
 · show ((es.toList.map (WideElems.rg P K rTriv)).foldr DataW.insert []).length=l.length
   rw [length_sorted]
   simp [hz]
section
variable {P:Program}
structure KeysC (P:Program) (fk g M:Nat):Prop where
 keys:∀ (mb:Option Nat) (W:World),Calls P fk #[.map mb] W fun e w'=>e=.returned (.func (.func g) #[] #[.pointer (some ⟨W.heap.size,0,none⟩)])∧w'=W.alloc (.cells #[.map mb] M)
structure SortedSC (P:Program) (fs g K:Nat):Prop where
 key:P.underlying K=some .string
 sorted:∀ (w:World) (Bm q nn:Nat) (D0:DataW Unit),Bm<w.heap.size→w.cell? ⟨Bm,0,none⟩=some (.map (some q))→w.ownsMap P K rTriv q nn D0→Maps.size D0≤maxLen→Maps.size D0*16≤140737488355328 →
  Calls P fs #[.func (.func g) #[] #[.pointer (some ⟨Bm,0,none⟩)]] w fun e w'=>∃ (v:Value) (ss:List (List UInt8)),e=.returned v∧ss.Perm (strKeys D0) ∧
   w'.ownsRow w.heap.size K 1 v ss.length ((ss.mergeSort (fun x y=>decide (x≤y))).map encStr)∧(v=.slice none 0 0↔ss=[])∧Below w.heap.size w w'
structure SortedIC (P:Program) (fs g K:Nat):Prop where
 key:P.underlying K=some (.int .i64)
 sorted:∀ (w:World) (Bm q nn:Nat) (D0:DataW Unit),Bm<w.heap.size→w.cell? ⟨Bm,0,none⟩=some (.map (some q))→w.ownsMap P K rTriv q nn D0→Maps.size D0≤maxLen→Maps.size D0*8≤140737488355328 →
  Calls P fs #[.func (.func g) #[] #[.pointer (some ⟨Bm,0,none⟩)]] w fun e w'=>∃ (v:Value) (ss:List Int),e=.returned v∧ss.Perm (intKeys D0) ∧
   w'.ownsRow w.heap.size K 1 v ss.length ((ss.mergeSort (fun x y=>decide (x≤y))).map encZ)∧(v=.slice none 0 0↔ss=[])∧Below w.heap.size w w'
theorem KeysC.ct {fk g M:Nat} (h:KeysC P fk g M) (mb:Option Nat):Ct P fk #[.map mb] [] (fun _=>True) fun u R _=>∃ b,u=.func (.func g) #[] #[.pointer (some ⟨b,0,none⟩)]∧R=[cel b M [.map mb]]:=Ct.mk fun w av G=>by
 refine (h.keys mb w).mono fun e w' ⟨h1,h2⟩=>⟨_,_,fun _=>True,h1,⟨_,rfl,rfl⟩,?_⟩
 subst h2
 exact G.new _ _ fun _ h=>h
def sortI (l:List Int):List Int:=l.mergeSort leI
theorem SortedSC.ct {fs g M K:Nat} (h:SortedSC P fs g K) (b q:Nat) (l:List (ByteArray×Value)) (hs:∀ p∈l,p.1.size≤maxLen) (hl:l.length≤1000000) :
  Ct P fs #[.func (.func g) #[] #[.pointer (some ⟨b,0,none⟩)]] [cel b M [.map (some q)],mapr q l] (fun _=>True)
   fun u R _=>∃ A c,u=.slice A l.length c∧R=[orow K 1 u l.length ((sortB (l.map (·.1))).map encB),cel b M [.map (some q)],mapr q l]:=Ct.mk fun w av G=>by
 have hb:w.heap[b]?=some (.cells #[.map (some q)] M (0,0)):=(G.here (cel b M [.map (some q)]) aI).now
 have hm:MapAt w q l:=(G.here (mapr q l) (ZS _ aI)).now
 obtain ⟨D0,hown,hperm,hsz⟩:=nO h.key hm hs (by simp only [maxLen];omega)
 have hbl:b<w.heap.size:=(Array.getElem?_eq_some_iff.1 hb).1
 have hc:w.cell? ⟨b,0,none⟩=some (.map (some q)):=by simp [World.cell?,hb]
 refine (h.sorted w b q l.length D0 hbl hc hown (by rw [hsz];simp only [maxLen];omega) (by rw [hsz];omega)).mono fun e w' ⟨v,ss,he,hS,hrow,hnil,hB⟩=>?_
 have hlen:ss.length=l.length:=by rw [(hS.trans hperm).length_eq];simp
 have hsort:(ss.mergeSort fun x y=>decide (x≤y)).map encStr=(sortB (l.map (·.1))).map encB:=by
  have:=mergeSort_of_perm (hS.trans hperm)
  rw [show (ss.mergeSort fun x y=>decide (x≤y))=ss.mergeSort leB from rfl,this,gV,sortB]
  simp only [Qs]
  rfl
 rw [hsort,hlen] at hrow
 obtain ⟨f1,f2,A,c,rfl⟩:=sF hrow
 exact ⟨_,_,fun _=>True,he,⟨A,c,rfl,rfl⟩,(G.more hB (ej (iv hrow)) f1 f2).imp fun _ _=>trivial⟩
theorem SortedIC.ct {fs g M K:Nat} (h:SortedIC P fs g K) (b q:Nat) (l:List (Int×Value)) (hs:∀ p∈l,(Lit.int .i64 p.1).wf=true) (hl:l.length≤1000000) :
  Ct P fs #[.func (.func g) #[] #[.pointer (some ⟨b,0,none⟩)]] [cel b M [.map (some q)],mapr q l] (fun _=>True)
   fun u R _=>∃ A c,u=.slice A l.length c∧R=[orow K 1 u l.length ((sortI (l.map (·.1))).map encZ),cel b M [.map (some q)],mapr q l]:=Ct.mk fun w av G=>by
 have hb:w.heap[b]?=some (.cells #[.map (some q)] M (0,0)):=(G.here (cel b M [.map (some q)]) aI).now
 have hm:MapAt w q l:=(G.here (mapr q l) (ZS _ aI)).now
 obtain ⟨D0,hown,hperm,hsz⟩:=nP h.key hm hs (by simp only [maxLen];omega)
 have hbl:b<w.heap.size:=(Array.getElem?_eq_some_iff.1 hb).1
 have hc:w.cell? ⟨b,0,none⟩=some (.map (some q)):=by simp [World.cell?,hb]
 refine (h.sorted w b q l.length D0 hbl hc hown (by rw [hsz];simp only [maxLen];omega) (by rw [hsz];omega)).mono fun e w' ⟨v,ss,he,hS,hrow,hnil,hB⟩=>?_
 have hlen:ss.length=l.length:=by rw [(hS.trans hperm).length_eq];simp
 have hsort:(ss.mergeSort fun x y=>decide (x≤y)).map encZ=(sortI (l.map (·.1))).map encZ:=by
  have:=mergeSort_of_perm_i (hS.trans hperm)
  rw [show (ss.mergeSort fun x y=>decide (x≤y))=ss.mergeSort leI from rfl,this,sortI]
 rw [hsort,hlen] at hrow
 obtain ⟨f1,f2,A,c,rfl⟩:=sF hrow
 exact ⟨_,_,fun _=>True,he,⟨A,c,rfl,rfl⟩,(G.more hB (ej (iv hrow)) f1 f2).imp fun _ _=>trivial⟩
end
end Go.Proofs.YtcdilibijnboeaaGreatDoor.Sy
namespace Go.Proofs
open Go.Shelf
def Tryz.sortS_ren:Go.Shelf.Ren:=⟨fun|6=>46|8=>80|9=>79|19=>132|20=>133|21=>123|22=>124|23=>125|24=>126|25=>127|26=>128|27=>129|28=>130|29=>131|36=>186|31=>187|32=>188|37=>189|38=>190|39=>163|41=>220|n=>n,fun|27=>39|29=>9|3=>3|32=>132|26=>39|0=>0|44=>128|46=>171|4=>4|36=>176|35=>175|41=>47|5=>5|9=>9|53=>206|57=>210|63=>238|64=>239|n=>n,fun|n=>n⟩
theorem Tryz.sortS:Go.Proofs.SlLaysM.n6 Tryz.prog Tryz.sortS_ren:={
 mixed:=by kernel_rfl
 f6:=⟨Tryz.f46.name,by decide,Tryz.func46.trans (congrArg some (by kernel_rfl))⟩
 f8:=Tryz.func80.trans (congrArg some (by kernel_rfl))
 f9:=⟨Tryz.f79.name,by decide,Tryz.func79.trans (congrArg some (by kernel_rfl))⟩
 f19:=Tryz.func132.trans (congrArg some (by kernel_rfl))
 f20:=Tryz.func133.trans (congrArg some (by kernel_rfl))
 f21:=⟨Tryz.f123.name,by decide,Tryz.func123.trans (congrArg some (by kernel_rfl))⟩
 f22:=⟨Tryz.f124.name,by decide,Tryz.func124.trans (congrArg some (by kernel_rfl))⟩
 f23:=⟨Tryz.f125.name,by decide,Tryz.func125.trans (congrArg some (by kernel_rfl))⟩
 f24:=⟨Tryz.f126.name,by decide,Tryz.func126.trans (congrArg some (by kernel_rfl))⟩
 f25:=⟨Tryz.f127.name,by decide,Tryz.func127.trans (congrArg some (by kernel_rfl))⟩
 f26:=⟨Tryz.f128.name,by decide,Tryz.func128.trans (congrArg some (by kernel_rfl))⟩
 f27:=⟨Tryz.f129.name,by decide,Tryz.func129.trans (congrArg some (by kernel_rfl))⟩
 f28:=⟨Tryz.f130.name,by decide,Tryz.func130.trans (congrArg some (by kernel_rfl))⟩
 f29:=⟨Tryz.f131.name,by decide,Tryz.func131.trans (congrArg some (by kernel_rfl))⟩
 f31:=Tryz.func187.trans (congrArg some (by kernel_rfl))
 f32:=Tryz.func188.trans (congrArg some (by kernel_rfl))
 f36:=⟨Tryz.f186.name,by decide,Tryz.func186.trans (congrArg some (by kernel_rfl))⟩
 f37:=⟨Tryz.f189.name,by decide,Tryz.func189.trans (congrArg some (by kernel_rfl))⟩
 f38:=⟨Tryz.f190.name,by decide,Tryz.func190.trans (congrArg some (by kernel_rfl))⟩
 f39:=⟨Tryz.f163.name,by decide,Tryz.func163.trans (congrArg some (by kernel_rfl))⟩
 f41:=⟨Tryz.f220.name,by decide,Tryz.func220.trans (congrArg some (by kernel_rfl))⟩
 t0:=Tryz.underlying0
 a0:=Tryz.isAgg0
 z0:=Tryz.sizeOf0
 v0:=Tryz.zeroValue0
 t3:=Tryz.underlying3
 a3:=Tryz.isAgg3
 z3:=Tryz.sizeOf3
 v3:=Tryz.zeroValue3
 t4:=Tryz.underlying4
 a4:=Tryz.isAgg4
 z4:=Tryz.sizeOf4
 v4:=Tryz.zeroValue4
 t5:=Tryz.underlying5
 a5:=Tryz.isAgg5
 z5:=Tryz.sizeOf5
 v5:=Tryz.zeroValue5
 t9:=Tryz.underlying9
 a9:=Tryz.isAgg9
 z9:=Tryz.sizeOf9
 v9:=Tryz.zeroValue9
 t26:=Tryz.underlying39
 a26:=Tryz.isAgg39
 z26:=Tryz.sizeOf39
 v26:=Tryz.zeroValue39
 t27:=Tryz.underlying39
 a27:=Tryz.isAgg39
 z27:=Tryz.sizeOf39
 v27:=Tryz.zeroValue39
 t29:=Tryz.underlying9
 a29:=Tryz.isAgg9
 z29:=Tryz.sizeOf9
 v29:=Tryz.zeroValue9
 t32:=Tryz.underlying132
 a32:=Tryz.isAgg132
 z32:=Tryz.sizeOf132
 v32:=Tryz.zeroValue132
 t35:=Tryz.underlying175
 a35:=Tryz.isAgg175
 z35:=Tryz.sizeOf175
 v35:=Tryz.zeroValue175
 t36:=Tryz.underlying176
 a36:=Tryz.isAgg176
 z36:=Tryz.sizeOf176
 v36:=Tryz.zeroValue176
 t41:=Tryz.underlying47
 a41:=Tryz.isAgg47
 z41:=Tryz.sizeOf47
 v41:=Tryz.zeroValue47
 t44:=Tryz.underlying128
 a44:=Tryz.isAgg128
 z44:=Tryz.sizeOf128
 v44:=Tryz.zeroValue128
 t46:=Tryz.underlying171
 a46:=Tryz.isAgg171
 z46:=Tryz.sizeOf171
 v46:=Tryz.zeroValue171
 t53:=Tryz.underlying206
 a53:=Tryz.isAgg206
 z53:=Tryz.sizeOf206
 v53:=Tryz.zeroValue206
 t57:=Tryz.underlying210
 a57:=Tryz.isAgg210
 z57:=Tryz.sizeOf210
 v57:=Tryz.zeroValue210
 t63:=Tryz.underlying238
 a63:=Tryz.isAgg238
 z63:=Tryz.sizeOf238
 v63:=Tryz.zeroValue238
 t64:=Tryz.underlying239
 a64:=Tryz.isAgg239
 z64:=Tryz.sizeOf239
 v64:=Tryz.zeroValue239 }
def Tryz.sortI_ren:Go.Shelf.Ren:=⟨fun|5=>137|8=>80|7=>195|19=>132|20=>133|10=>224|11=>225|12=>226|13=>227|14=>228|15=>229|16=>230|17=>231|18=>232|30=>253|31=>187|32=>188|33=>254|34=>255|35=>162|40=>264|n=>n,fun|23=>22|25=>3|3=>3|32=>132|22=>22|0=>0|44=>128|46=>171|4=>4|36=>176|35=>175|41=>47|5=>5|9=>9|53=>206|57=>210|63=>238|64=>239|n=>n,fun|n=>n⟩
theorem Tryz.sortI:Go.Proofs.SlLaysM.n5 Tryz.prog Tryz.sortI_ren:={
 mixed:=by kernel_rfl
 f5:=⟨Tryz.f137.name,by decide,Tryz.func137.trans (congrArg some (by kernel_rfl))⟩
 f7:=⟨Tryz.f195.name,by decide,Tryz.func195.trans (congrArg some (by kernel_rfl))⟩
 f8:=Tryz.func80.trans (congrArg some (by kernel_rfl))
 f10:=⟨Tryz.f224.name,by decide,Tryz.func224.trans (congrArg some (by kernel_rfl))⟩
 f11:=⟨Tryz.f225.name,by decide,Tryz.func225.trans (congrArg some (by kernel_rfl))⟩
 f12:=⟨Tryz.f226.name,by decide,Tryz.func226.trans (congrArg some (by kernel_rfl))⟩
 f13:=⟨Tryz.f227.name,by decide,Tryz.func227.trans (congrArg some (by kernel_rfl))⟩
 f14:=⟨Tryz.f228.name,by decide,Tryz.func228.trans (congrArg some (by kernel_rfl))⟩
 f15:=⟨Tryz.f229.name,by decide,Tryz.func229.trans (congrArg some (by kernel_rfl))⟩
 f16:=⟨Tryz.f230.name,by decide,Tryz.func230.trans (congrArg some (by kernel_rfl))⟩
 f17:=⟨Tryz.f231.name,by decide,Tryz.func231.trans (congrArg some (by kernel_rfl))⟩
 f18:=⟨Tryz.f232.name,by decide,Tryz.func232.trans (congrArg some (by kernel_rfl))⟩
 f19:=Tryz.func132.trans (congrArg some (by kernel_rfl))
 f20:=Tryz.func133.trans (congrArg some (by kernel_rfl))
 f30:=⟨Tryz.f253.name,by decide,Tryz.func253.trans (congrArg some (by kernel_rfl))⟩
 f31:=Tryz.func187.trans (congrArg some (by kernel_rfl))
 f32:=Tryz.func188.trans (congrArg some (by kernel_rfl))
 f33:=⟨Tryz.f254.name,by decide,Tryz.func254.trans (congrArg some (by kernel_rfl))⟩
 f34:=⟨Tryz.f255.name,by decide,Tryz.func255.trans (congrArg some (by kernel_rfl))⟩
 f35:=⟨Tryz.f162.name,by decide,Tryz.func162.trans (congrArg some (by kernel_rfl))⟩
 f40:=⟨Tryz.f264.name,by decide,Tryz.func264.trans (congrArg some (by kernel_rfl))⟩
 t0:=Tryz.underlying0
 a0:=Tryz.isAgg0
 z0:=Tryz.sizeOf0
 v0:=Tryz.zeroValue0
 t3:=Tryz.underlying3
 a3:=Tryz.isAgg3
 z3:=Tryz.sizeOf3
 v3:=Tryz.zeroValue3
 t4:=Tryz.underlying4
 a4:=Tryz.isAgg4
 z4:=Tryz.sizeOf4
 v4:=Tryz.zeroValue4
 t5:=Tryz.underlying5
 a5:=Tryz.isAgg5
 z5:=Tryz.sizeOf5
 v5:=Tryz.zeroValue5
 t9:=Tryz.underlying9
 a9:=Tryz.isAgg9
 z9:=Tryz.sizeOf9
 v9:=Tryz.zeroValue9
 t22:=Tryz.underlying22
 a22:=Tryz.isAgg22
 z22:=Tryz.sizeOf22
 v22:=Tryz.zeroValue22
 t23:=Tryz.underlying22
 a23:=Tryz.isAgg22
 z23:=Tryz.sizeOf22
 v23:=Tryz.zeroValue22
 t25:=Tryz.underlying3
 a25:=Tryz.isAgg3
 z25:=Tryz.sizeOf3
 v25:=Tryz.zeroValue3
 t32:=Tryz.underlying132
 a32:=Tryz.isAgg132
 z32:=Tryz.sizeOf132
 v32:=Tryz.zeroValue132
 t35:=Tryz.underlying175
 a35:=Tryz.isAgg175
 z35:=Tryz.sizeOf175
 v35:=Tryz.zeroValue175
 t36:=Tryz.underlying176
 a36:=Tryz.isAgg176
 z36:=Tryz.sizeOf176
 v36:=Tryz.zeroValue176
 t41:=Tryz.underlying47
 a41:=Tryz.isAgg47
 z41:=Tryz.sizeOf47
 v41:=Tryz.zeroValue47
 t44:=Tryz.underlying128
 a44:=Tryz.isAgg128
 z44:=Tryz.sizeOf128
 v44:=Tryz.zeroValue128
 t46:=Tryz.underlying171
 a46:=Tryz.isAgg171
 z46:=Tryz.sizeOf171
 v46:=Tryz.zeroValue171
 t53:=Tryz.underlying206
 a53:=Tryz.isAgg206
 z53:=Tryz.sizeOf206
 v53:=Tryz.zeroValue206
 t57:=Tryz.underlying210
 a57:=Tryz.isAgg210
 z57:=Tryz.sizeOf210
 v57:=Tryz.zeroValue210
 t63:=Tryz.underlying238
 a63:=Tryz.isAgg238
 z63:=Tryz.sizeOf238
 v63:=Tryz.zeroValue238
 t64:=Tryz.underlying239
 a64:=Tryz.isAgg239
 z64:=Tryz.sizeOf239
 v64:=Tryz.zeroValue239 }
def Tryz.compS_ren:Go.Shelf.Ren:=⟨fun|194=>47|n=>n,fun|31=>39|9=>9|3=>3|4=>4|0=>0|n=>n,fun|n=>n⟩
theorem Tryz.compS:Go.Proofs.Lays.n194 Tryz.prog Tryz.compS_ren:={
 mixed:=by kernel_rfl
 f194:=Tryz.func47.trans (congrArg some (by kernel_rfl))
 t0:=Tryz.underlying0
 a0:=Tryz.isAgg0
 z0:=Tryz.sizeOf0
 v0:=Tryz.zeroValue0
 t3:=Tryz.underlying3
 a3:=Tryz.isAgg3
 z3:=Tryz.sizeOf3
 v3:=Tryz.zeroValue3
 t4:=Tryz.underlying4
 a4:=Tryz.isAgg4
 z4:=Tryz.sizeOf4
 v4:=Tryz.zeroValue4
 t9:=Tryz.underlying9
 a9:=Tryz.isAgg9
 z9:=Tryz.sizeOf9
 v9:=Tryz.zeroValue9
 t31:=Tryz.underlying39
 a31:=Tryz.isAgg39
 z31:=Tryz.sizeOf39
 v31:=Tryz.zeroValue39 }
end Go.Proofs
namespace Go.Proofs.YtcdilibijnboeaaGreatDoor.Sy
open Go Go.Proofs
instance:TyOne Tryz.prog 3:=⟨ak⟩
instance:TyInt Tryz.prog 3 .i64:=⟨ak⟩
instance:TyZero Tryz.prog 3 (.int .i64 0):=⟨ak⟩
instance:TyOne Tryz.prog 4:=⟨ak⟩
instance:TyOne Tryz.prog 5:=⟨ak⟩
instance:TyInt Tryz.prog 5 .u8:=⟨ak⟩
instance:TyZero Tryz.prog 5 (.int .u8 0):=⟨ak⟩
instance:TyOne Tryz.prog 9:=⟨ak⟩
instance:TyStr Tryz.prog 9:=⟨ak⟩
instance:TyZero Tryz.prog 9 (.string ⟨#[]⟩):=⟨ak⟩
instance:TyOne Tryz.prog 22:=⟨ak⟩
instance:TySl Tryz.prog 22 3 1 8:=⟨ak⟩
instance:TyZero Tryz.prog 22 (.slice none 0 0):=⟨ak⟩
instance:TyOne Tryz.prog 23:=⟨ak⟩
instance:TySl Tryz.prog 23 57 49 568:=⟨ak⟩
instance:TyAgg Tryz.prog 25 2:=⟨ak⟩
instance:TyFld Tryz.prog 25 0 0:=⟨ak⟩
instance:TyFld Tryz.prog 25 1 1:=⟨ak⟩
instance:TyPl Tryz.prog 25 [(0,1),(1,1)]:=⟨ak⟩
instance:TyZero Tryz.prog 25 (.agg #[(.slice none 0 0),(.slice none 0 0)]):=⟨ak⟩
instance:TyOne Tryz.prog 28:=⟨ak⟩
instance:TySl Tryz.prog 28 46 20 264:=⟨ak⟩
instance:TyZero Tryz.prog 28 (.slice none 0 0):=⟨ak⟩
instance:TyOne Tryz.prog 29:=⟨ak⟩
instance:TySl Tryz.prog 29 35 3 24:=⟨ak⟩
instance:TyAgg Tryz.prog 31 6:=⟨ak⟩
instance:TyFld Tryz.prog 31 0 0:=⟨ak⟩
instance:TyFld Tryz.prog 31 1 1:=⟨ak⟩
instance:TyFld Tryz.prog 31 2 2:=⟨ak⟩
instance:TyFld Tryz.prog 31 3 3:=⟨ak⟩
instance:TyFld Tryz.prog 31 4 4:=⟨ak⟩
instance:TyFld Tryz.prog 31 5 5:=⟨ak⟩
instance:TyPl Tryz.prog 31 [(0,1),(1,1),(2,1),(3,1),(4,1),(5,1)]:=⟨ak⟩
instance:TyZero Tryz.prog 31 (.agg #[(.string ⟨#[]⟩),(.slice none 0 0),(.slice none 0 0),(.string ⟨#[]⟩),(.int .i64 0),(.bool false)]):=⟨ak⟩
instance:TyAgg Tryz.prog 35 3:=⟨ak⟩
instance:TyFld Tryz.prog 35 0 0:=⟨ak⟩
instance:TyFld Tryz.prog 35 1 1:=⟨ak⟩
instance:TyFld Tryz.prog 35 2 2:=⟨ak⟩
instance:TyPl Tryz.prog 35 [(0,1),(1,1),(2,1)]:=⟨ak⟩
instance:TyZero Tryz.prog 35 (.agg #[(.int .i64 0),(.int .i64 0),(.int .i64 0)]):=⟨ak⟩
instance:TyOne Tryz.prog 39:=⟨ak⟩
instance:TySl Tryz.prog 39 9 1 16:=⟨ak⟩
instance:TyAgg Tryz.prog 41 3:=⟨ak⟩
instance:TyFld Tryz.prog 41 0 0:=⟨ak⟩
instance:TyFld Tryz.prog 41 1 1:=⟨ak⟩
instance:TyFld Tryz.prog 41 2 2:=⟨ak⟩
instance:TyZero Tryz.prog 41 (.agg #[(.string ⟨#[]⟩),(.string ⟨#[]⟩),(.string ⟨#[]⟩)]):=⟨ak⟩
instance:TyOne Tryz.prog 42:=⟨ak⟩
instance:TySl Tryz.prog 42 97 5 64:=⟨ak⟩
instance:TyAgg Tryz.prog 44 2:=⟨ak⟩
instance:TyFld Tryz.prog 44 0 0:=⟨ak⟩
instance:TyFld Tryz.prog 44 1 1:=⟨ak⟩
instance:TyAgg Tryz.prog 46 20:=⟨ak⟩
instance:TyFld Tryz.prog 46 0 0:=⟨ak⟩
instance:TyFld Tryz.prog 46 1 1:=⟨ak⟩
instance:TyFld Tryz.prog 46 2 2:=⟨ak⟩
instance:TyFld Tryz.prog 46 3 3:=⟨ak⟩
instance:TyFld Tryz.prog 46 4 4:=⟨ak⟩
instance:TyFld Tryz.prog 46 5 5:=⟨ak⟩
instance:TyFld Tryz.prog 46 6 6:=⟨ak⟩
instance:TyFld Tryz.prog 46 7 7:=⟨ak⟩
instance:TyFld Tryz.prog 46 8 8:=⟨ak⟩
instance:TyFld Tryz.prog 46 9 9:=⟨ak⟩
instance:TyFld Tryz.prog 46 10 10:=⟨ak⟩
instance:TyFld Tryz.prog 46 11 11:=⟨ak⟩
instance:TyFld Tryz.prog 46 12 14:=⟨ak⟩
instance:TyFld Tryz.prog 46 13 15:=⟨ak⟩
instance:TyFld Tryz.prog 46 14 16:=⟨ak⟩
instance:TyFld Tryz.prog 46 15 17:=⟨ak⟩
instance:TyFld Tryz.prog 46 16 18:=⟨ak⟩
instance:TyPl Tryz.prog 46 [(0,1),(1,1),(2,1),(3,1),(4,1),(5,1),(6,1),(7,1),(8,1),(9,1),(10,1),(11,3),(14,1),(15,1),(16,1),(17,1),(18,2)]:=⟨ak⟩
instance:TyZero Tryz.prog 46 (.agg #[(.string ⟨#[]⟩),(.int .i64 0),(.string ⟨#[]⟩),(.int .i64 0),(.int .i64 0),(.string ⟨#[]⟩),(.string ⟨#[]⟩),(.int .i64 0),(.string ⟨#[]⟩),(.slice none 0 0),(.string ⟨#[]⟩),(.string ⟨#[]⟩),(.string ⟨#[]⟩),(.string ⟨#[]⟩),(.int .i64 0),(.slice none 0 0),(.int .i64 0),(.int .i64 0),(.int .i64 0),(.int .i64 0)]):=⟨ak⟩
instance:TyAgg Tryz.prog 51 9:=⟨ak⟩
instance:TyFld Tryz.prog 51 0 0:=⟨ak⟩
instance:TyFld Tryz.prog 51 1 1:=⟨ak⟩
instance:TyFld Tryz.prog 51 2 2:=⟨ak⟩
instance:TyFld Tryz.prog 51 3 3:=⟨ak⟩
instance:TyFld Tryz.prog 51 4 4:=⟨ak⟩
instance:TyFld Tryz.prog 51 5 5:=⟨ak⟩
instance:TyFld Tryz.prog 51 6 6:=⟨ak⟩
instance:TyFld Tryz.prog 51 7 7:=⟨ak⟩
instance:TyPl Tryz.prog 51 [(0,1),(1,1),(2,1),(3,1),(4,1),(5,1),(6,1),(7,2)]:=⟨ak⟩
instance:TyZero Tryz.prog 51 (.agg #[(.string ⟨#[]⟩),(.int .i64 0),(.string ⟨#[]⟩),(.int .i64 0),(.int .i64 0),(.int .i64 0),(.int .i64 0),(.int .i64 0),(.int .i64 0)]):=⟨ak⟩
instance:TyAgg Tryz.prog 53 7:=⟨ak⟩
instance:TyFld Tryz.prog 53 0 0:=⟨ak⟩
instance:TyFld Tryz.prog 53 1 1:=⟨ak⟩
instance:TyFld Tryz.prog 53 2 2:=⟨ak⟩
instance:TyFld Tryz.prog 53 3 3:=⟨ak⟩
instance:TyFld Tryz.prog 53 4 4:=⟨ak⟩
instance:TyFld Tryz.prog 53 5 5:=⟨ak⟩
instance:TyPl Tryz.prog 53 [(0,1),(1,1),(2,1),(3,1),(4,1),(5,2)]:=⟨ak⟩
instance:TyZero Tryz.prog 53 (.agg #[(.int .i64 0),(.string ⟨#[]⟩),(.int .i64 0),(.string ⟨#[]⟩),(.int .i64 0),(.int .i64 0),(.int .i64 0)]):=⟨ak⟩
instance:TyAgg Tryz.prog 55 12:=⟨ak⟩
instance:TyFld Tryz.prog 55 0 0:=⟨ak⟩
instance:TyFld Tryz.prog 55 1 1:=⟨ak⟩
instance:TyFld Tryz.prog 55 2 2:=⟨ak⟩
instance:TyFld Tryz.prog 55 3 3:=⟨ak⟩
instance:TyFld Tryz.prog 55 4 4:=⟨ak⟩
instance:TyFld Tryz.prog 55 5 5:=⟨ak⟩
instance:TyFld Tryz.prog 55 6 6:=⟨ak⟩
instance:TyFld Tryz.prog 55 7 7:=⟨ak⟩
instance:TyFld Tryz.prog 55 8 8:=⟨ak⟩
instance:TyFld Tryz.prog 55 9 9:=⟨ak⟩
instance:TyFld Tryz.prog 55 10 10:=⟨ak⟩
instance:TyPl Tryz.prog 55 [(0,1),(1,1),(2,1),(3,1),(4,1),(5,1),(6,1),(7,1),(8,1),(9,1),(10,2)]:=⟨ak⟩
instance:TyZero Tryz.prog 55 (.agg #[(.int .i64 0),(.int .i64 0),(.int .i64 0),(.string ⟨#[]⟩),(.string ⟨#[]⟩),(.string ⟨#[]⟩),(.slice none 0 0),(.int .i64 0),(.int .i64 0),(.int .i64 0),(.int .i64 0),(.int .i64 0)]):=⟨ak⟩
instance:TyAgg Tryz.prog 57 49:=⟨ak⟩
instance:TyFld Tryz.prog 57 0 0:=⟨ak⟩
instance:TyFld Tryz.prog 57 1 1:=⟨ak⟩
instance:TyFld Tryz.prog 57 2 21:=⟨ak⟩
instance:TyFld Tryz.prog 57 3 30:=⟨ak⟩
instance:TyFld Tryz.prog 57 4 37:=⟨ak⟩
instance:TyPl Tryz.prog 57 [(0,1),(1,20),(21,9),(30,7),(37,12)]:=⟨ak⟩
instance:TyZero Tryz.prog 57 (.agg #[(.int .i64 0),(.string ⟨#[]⟩),(.int .i64 0),(.string ⟨#[]⟩),(.int .i64 0),(.int .i64 0),(.string ⟨#[]⟩),(.string ⟨#[]⟩),(.int .i64 0),(.string ⟨#[]⟩),(.slice none 0 0),(.string ⟨#[]⟩),(.string ⟨#[]⟩),(.string ⟨#[]⟩),(.string ⟨#[]⟩),(.int .i64 0),(.slice none 0 0),(.int .i64 0),(.int .i64 0),(.int .i64 0),(.int .i64 0),(.string ⟨#[]⟩),(.int .i64 0),(.string ⟨#[]⟩),(.int .i64 0),(.int .i64 0),(.int .i64 0),(.int .i64 0),(.int .i64 0),(.int .i64 0),(.int .i64 0),(.string ⟨#[]⟩),(.int .i64 0),(.string ⟨#[]⟩),(.int .i64 0),(.int .i64 0),(.int .i64 0),(.int .i64 0),(.int .i64 0),(.int .i64 0),(.string ⟨#[]⟩),(.string ⟨#[]⟩),(.string ⟨#[]⟩),(.slice none 0 0),(.int .i64 0),(.int .i64 0),(.int .i64 0),(.int .i64 0),(.int .i64 0)]):=⟨ak⟩
instance:TySl Tryz.prog 64 31 6 96:=⟨ak⟩
instance:TyOne Tryz.prog 83:=⟨ak⟩
instance:TyOne Tryz.prog 84:=⟨ak⟩
instance:TyOne Tryz.prog 85:=⟨ak⟩
instance:TyFld Tryz.prog 87 0 0:=⟨ak⟩
instance:TyFld Tryz.prog 87 1 2:=⟨ak⟩
instance:TyFld Tryz.prog 87 2 8:=⟨ak⟩
instance:TyFld Tryz.prog 87 3 9:=⟨ak⟩
instance:TyFld Tryz.prog 87 4 10:=⟨ak⟩
instance:TyFld Tryz.prog 87 5 19:=⟨ak⟩
instance:TyPl Tryz.prog 87 [(0,2),(2,6),(8,1),(9,1),(10,9),(19,1)]:=⟨ak⟩
instance:TyZero Tryz.prog 87 (.agg #[(.slice none 0 0),(.slice none 0 0),(.string ⟨#[]⟩),(.slice none 0 0),(.slice none 0 0),(.string ⟨#[]⟩),(.int .i64 0),(.bool false),(.map none),(.map none),(.string ⟨#[]⟩),(.int .i64 0),(.string ⟨#[]⟩),(.int .i64 0),(.int .i64 0),(.int .i64 0),(.int .i64 0),(.int .i64 0),(.int .i64 0),(.bool false)]):=⟨ak⟩
instance:TyAgg Tryz.prog 89 2:=⟨ak⟩
instance:TyPl Tryz.prog 89 [(0,1),(1,1)]:=⟨ak⟩
instance:TyZero Tryz.prog 89 (.agg #[(.int .i64 0),(.string ⟨#[]⟩)]):=⟨ak⟩
instance:TyAgg Tryz.prog 97 5:=⟨ak⟩
instance:TyFld Tryz.prog 97 0 0:=⟨ak⟩
instance:TyFld Tryz.prog 97 1 1:=⟨ak⟩
instance:TyFld Tryz.prog 97 2 2:=⟨ak⟩
instance:TyZero Tryz.prog 97 (.agg #[(.int .i64 0),(.int .i64 0),(.string ⟨#[]⟩),(.string ⟨#[]⟩),(.string ⟨#[]⟩)]):=⟨ak⟩
instance:TyOne Tryz.prog 106:=⟨ak⟩
instance:TyOne Tryz.prog 119:=⟨ak⟩
instance:TySl Tryz.prog 119 5 1 1:=⟨ak⟩
instance:TyFld Tryz.prog 121 0 0:=⟨ak⟩
instance:TyZero Tryz.prog 121 (.agg #[(.slice none 0 0)]):=⟨ak⟩
instance:TyOne Tryz.prog 123:=⟨ak⟩
instance:TyAgg Tryz.prog 125 4:=⟨ak⟩
instance:TyFld Tryz.prog 125 0 0:=⟨ak⟩
instance:TyFld Tryz.prog 125 1 1:=⟨ak⟩
instance:TyFld Tryz.prog 125 2 2:=⟨ak⟩
instance:TyPl Tryz.prog 125 [(0,1),(1,1),(2,2)]:=⟨ak⟩
instance:TyZero Tryz.prog 125 (.agg #[(.string ⟨#[]⟩),.nilFunc,(.int .i64 0),(.int .i64 0)]):=⟨ak⟩
instance:TyOne Tryz.prog 128:=⟨ak⟩
instance:TyInt Tryz.prog 128 .u32:=⟨ak⟩
instance:TyZero Tryz.prog 128 (.int .u32 0):=⟨ak⟩
instance:TyAgg Tryz.prog 129 8:=⟨ak⟩
instance:TyZero Tryz.prog 129 (.agg #[(.int .u32 0),(.int .u32 0),(.int .u32 0),(.int .u32 0),(.int .u32 0),(.int .u32 0),(.int .u32 0),(.int .u32 0)]):=⟨ak⟩
instance:TyInt Tryz.prog 132 .u64:=⟨ak⟩
instance:TySl Tryz.prog 141 51 9 88:=⟨ak⟩
instance:TyAgg Tryz.prog 147 2:=⟨ak⟩
instance:TyFld Tryz.prog 147 0 0:=⟨ak⟩
instance:TyFld Tryz.prog 147 1 1:=⟨ak⟩
instance:TyPl Tryz.prog 147 [(0,1),(1,1)]:=⟨ak⟩
instance:TyZero Tryz.prog 147 (.agg #[(.int .i64 0),.nilFunc]):=⟨ak⟩
instance:TySl Tryz.prog 156 159 22 288:=⟨ak⟩
instance:TyAgg Tryz.prog 159 22:=⟨ak⟩
instance:TyFld Tryz.prog 159 0 0:=⟨ak⟩
instance:TyFld Tryz.prog 159 1 1:=⟨ak⟩
instance:TyFld Tryz.prog 159 2 2:=⟨ak⟩
instance:TyPl Tryz.prog 159 [(0,1),(1,1),(2,20)]:=⟨ak⟩
instance:TyZero Tryz.prog 159 (.agg #[(.int .i64 0),(.string ⟨#[]⟩),(.string ⟨#[]⟩),(.int .i64 0),(.string ⟨#[]⟩),(.int .i64 0),(.int .i64 0),(.string ⟨#[]⟩),(.string ⟨#[]⟩),(.int .i64 0),(.string ⟨#[]⟩),(.slice none 0 0),(.string ⟨#[]⟩),(.string ⟨#[]⟩),(.string ⟨#[]⟩),(.string ⟨#[]⟩),(.int .i64 0),(.slice none 0 0),(.int .i64 0),(.int .i64 0),(.int .i64 0),(.int .i64 0)]):=⟨ak⟩
instance:TyAgg Tryz.prog 168 64:=⟨ak⟩
instance:TyZero Tryz.prog 168 (.agg #[(.int .u32 0),(.int .u32 0),(.int .u32 0),(.int .u32 0),(.int .u32 0),(.int .u32 0),(.int .u32 0),(.int .u32 0),(.int .u32 0),(.int .u32 0),(.int .u32 0),(.int .u32 0),(.int .u32 0),(.int .u32 0),(.int .u32 0),(.int .u32 0),(.int .u32 0),(.int .u32 0),(.int .u32 0),(.int .u32 0),(.int .u32 0),(.int .u32 0),(.int .u32 0),(.int .u32 0),(.int .u32 0),(.int .u32 0),(.int .u32 0),(.int .u32 0),(.int .u32 0),(.int .u32 0),(.int .u32 0),(.int .u32 0),(.int .u32 0),(.int .u32 0),(.int .u32 0),(.int .u32 0),(.int .u32 0),(.int .u32 0),(.int .u32 0),(.int .u32 0),(.int .u32 0),(.int .u32 0),(.int .u32 0),(.int .u32 0),(.int .u32 0),(.int .u32 0),(.int .u32 0),(.int .u32 0),(.int .u32 0),(.int .u32 0),(.int .u32 0),(.int .u32 0),(.int .u32 0),(.int .u32 0),(.int .u32 0),(.int .u32 0),(.int .u32 0),(.int .u32 0),(.int .u32 0),(.int .u32 0),(.int .u32 0),(.int .u32 0),(.int .u32 0),(.int .u32 0)]):=⟨ak⟩
instance:TyInt Tryz.prog 171 .u64:=⟨ak⟩
instance:TySl Tryz.prog 202 128 1 4:=⟨ak⟩
instance:TySl Tryz.prog 212 215 11 112:=⟨ak⟩
instance:TyAgg Tryz.prog 215 11:=⟨ak⟩
instance:TyFld Tryz.prog 215 0 0:=⟨ak⟩
instance:TyFld Tryz.prog 215 1 1:=⟨ak⟩
instance:TyFld Tryz.prog 215 2 2:=⟨ak⟩
instance:TyPl Tryz.prog 215 [(0,1),(1,1),(2,9)]:=⟨ak⟩
instance:TyZero Tryz.prog 215 (.agg #[(.int .i64 0),(.string ⟨#[]⟩),(.string ⟨#[]⟩),(.int .i64 0),(.string ⟨#[]⟩),(.int .i64 0),(.int .i64 0),(.int .i64 0),(.int .i64 0),(.int .i64 0),(.int .i64 0)]):=⟨ak⟩
instance:TySl Tryz.prog 218 53 7 72:=⟨ak⟩
instance:TySl Tryz.prog 258 261 9 96:=⟨ak⟩
instance:TyAgg Tryz.prog 261 9:=⟨ak⟩
instance:TyFld Tryz.prog 261 0 0:=⟨ak⟩
instance:TyFld Tryz.prog 261 1 1:=⟨ak⟩
instance:TyFld Tryz.prog 261 2 2:=⟨ak⟩
instance:TyPl Tryz.prog 261 [(0,1),(1,1),(2,7)]:=⟨ak⟩
instance:TyZero Tryz.prog 261 (.agg #[(.int .i64 0),(.string ⟨#[]⟩),(.int .i64 0),(.string ⟨#[]⟩),(.int .i64 0),(.string ⟨#[]⟩),(.int .i64 0),(.int .i64 0),(.int .i64 0)]):=⟨ak⟩
instance:FnBody Tryz.prog 7:=⟨ak⟩
instance:FnBody Tryz.prog 8:=⟨ak⟩
instance:FnBody Tryz.prog 9:=⟨ak⟩
instance:FnBody Tryz.prog 10:=⟨ak⟩
instance:FnBody Tryz.prog 11:=⟨ak⟩
instance:FnBody Tryz.prog 12:=⟨ak⟩
instance:FnBody Tryz.prog 13:=⟨ak⟩
instance:FnBody Tryz.prog 14:=⟨ak⟩
instance:FnBody Tryz.prog 15:=⟨ak⟩
instance:FnBody Tryz.prog 16:=⟨ak⟩
instance:FnBody Tryz.prog 17:=⟨ak⟩
instance:FnBody Tryz.prog 19:=⟨ak⟩
instance:FnBody Tryz.prog 21:=⟨ak⟩
instance:FnBody Tryz.prog 22:=⟨ak⟩
instance:FnBody Tryz.prog 23:=⟨ak⟩
instance:FnBody Tryz.prog 24:=⟨ak⟩
instance:FnBody Tryz.prog 25:=⟨ak⟩
instance:FnBody Tryz.prog 26:=⟨ak⟩
instance:FnBody Tryz.prog 27:=⟨ak⟩
instance:FnBody Tryz.prog 30:=⟨ak⟩
instance:FnBody Tryz.prog 31:=⟨ak⟩
instance:FnBody Tryz.prog 32:=⟨ak⟩
instance:FnBody Tryz.prog 33:=⟨ak⟩
instance:FnBody Tryz.prog 34:=⟨ak⟩
instance:FnBody Tryz.prog 35:=⟨ak⟩
instance:FnBody Tryz.prog 36:=⟨ak⟩
instance:FnBody Tryz.prog 37:=⟨ak⟩
instance:FnBody Tryz.prog 38:=⟨ak⟩
instance:FnBody Tryz.prog 39:=⟨ak⟩
instance:FnBody Tryz.prog 40:=⟨ak⟩
instance:FnBody Tryz.prog 41:=⟨ak⟩
instance:FnBody Tryz.prog 42:=⟨ak⟩
instance:FnBody Tryz.prog 43:=⟨ak⟩
instance:FnBody Tryz.prog 44:=⟨ak⟩
instance:FnBody Tryz.prog 46:=⟨ak⟩
instance:FnBody Tryz.prog 47:=⟨ak⟩
instance:FnBody Tryz.prog 48:=⟨ak⟩
instance:FnBody Tryz.prog 49:=⟨ak⟩
instance:FnBody Tryz.prog 50:=⟨ak⟩
instance:FnBody Tryz.prog 51:=⟨ak⟩
instance:FnBody Tryz.prog 52:=⟨ak⟩
instance:FnBody Tryz.prog 53:=⟨ak⟩
instance:FnBody Tryz.prog 54:=⟨ak⟩
instance:FnBody Tryz.prog 55:=⟨ak⟩
instance:FnBody Tryz.prog 56:=⟨ak⟩
instance:FnBody Tryz.prog 57:=⟨ak⟩
instance:FnBody Tryz.prog 58:=⟨ak⟩
instance:FnBody Tryz.prog 59:=⟨ak⟩
instance:FnBody Tryz.prog 62:=⟨ak⟩
instance:FnBody Tryz.prog 63:=⟨ak⟩
instance:FnBody Tryz.prog 64:=⟨ak⟩
instance:FnBody Tryz.prog 65:=⟨ak⟩
instance:FnBody Tryz.prog 66:=⟨ak⟩
instance:FnBody Tryz.prog 67:=⟨ak⟩
instance:FnBody Tryz.prog 68:=⟨ak⟩
instance:FnBody Tryz.prog 69:=⟨ak⟩
instance:FnBody Tryz.prog 70:=⟨ak⟩
instance:FnBody Tryz.prog 71:=⟨ak⟩
instance:FnBody Tryz.prog 72:=⟨ak⟩
instance:FnBody Tryz.prog 73:=⟨ak⟩
instance:FnBody Tryz.prog 74:=⟨ak⟩
instance:FnBody Tryz.prog 75:=⟨ak⟩
instance:FnBody Tryz.prog 76:=⟨ak⟩
instance:FnBody Tryz.prog 77:=⟨ak⟩
instance:FnBody Tryz.prog 78:=⟨ak⟩
instance:FnBody Tryz.prog 81:=⟨ak⟩
instance:FnBody Tryz.prog 82:=⟨ak⟩
instance:FnBody Tryz.prog 83:=⟨ak⟩
instance:FnBody Tryz.prog 84:=⟨ak⟩
instance:FnBody Tryz.prog 85:=⟨ak⟩
instance:FnBody Tryz.prog 86:=⟨ak⟩
instance:FnBody Tryz.prog 87:=⟨ak⟩
instance:FnBody Tryz.prog 88:=⟨ak⟩
instance:FnBody Tryz.prog 89:=⟨ak⟩
instance:FnBody Tryz.prog 90:=⟨ak⟩
instance:FnBody Tryz.prog 91:=⟨ak⟩
instance:FnBody Tryz.prog 92:=⟨ak⟩
instance:FnBody Tryz.prog 93:=⟨ak⟩
instance:FnBody Tryz.prog 94:=⟨ak⟩
instance:FnBody Tryz.prog 95:=⟨ak⟩
instance:FnBody Tryz.prog 96:=⟨ak⟩
instance:FnBody Tryz.prog 97:=⟨ak⟩
instance:FnBody Tryz.prog 98:=⟨ak⟩
instance:FnBody Tryz.prog 99:=⟨ak⟩
instance:FnBody Tryz.prog 101:=⟨ak⟩
instance:FnBody Tryz.prog 104:=⟨ak⟩
instance:FnBody Tryz.prog 105:=⟨ak⟩
instance:FnBody Tryz.prog 106:=⟨ak⟩
instance:FnBody Tryz.prog 107:=⟨ak⟩
instance:FnBody Tryz.prog 108:=⟨ak⟩
instance:FnBody Tryz.prog 109:=⟨ak⟩
instance:FnBody Tryz.prog 110:=⟨ak⟩
instance:FnBody Tryz.prog 111:=⟨ak⟩
instance:FnBody Tryz.prog 112:=⟨ak⟩
instance:FnBody Tryz.prog 113:=⟨ak⟩
instance:FnBody Tryz.prog 114:=⟨ak⟩
instance:FnBody Tryz.prog 115:=⟨ak⟩
instance:FnBody Tryz.prog 116:=⟨ak⟩
instance:FnBody Tryz.prog 117:=⟨ak⟩
instance:FnBody Tryz.prog 118:=⟨ak⟩
instance:FnBody Tryz.prog 119:=⟨ak⟩
instance:FnBody Tryz.prog 120:=⟨ak⟩
instance:FnBody Tryz.prog 121:=⟨ak⟩
instance:FnBody Tryz.prog 122:=⟨ak⟩
instance:FnBody Tryz.prog 133:=⟨ak⟩
instance:FnBody Tryz.prog 134:=⟨ak⟩
instance:FnBody Tryz.prog 135:=⟨ak⟩
instance:FnBody Tryz.prog 136:=⟨ak⟩
instance:FnBody Tryz.prog 137:=⟨ak⟩
instance:FnBody Tryz.prog 138:=⟨ak⟩
instance:FnBody Tryz.prog 139:=⟨ak⟩
instance:FnBody Tryz.prog 140:=⟨ak⟩
instance:FnBody Tryz.prog 141:=⟨ak⟩
instance:FnBody Tryz.prog 142:=⟨ak⟩
instance:FnBody Tryz.prog 143:=⟨ak⟩
instance:FnBody Tryz.prog 144:=⟨ak⟩
instance:FnBody Tryz.prog 145:=⟨ak⟩
instance:FnBody Tryz.prog 146:=⟨ak⟩
instance:FnBody Tryz.prog 147:=⟨ak⟩
instance:FnBody Tryz.prog 148:=⟨ak⟩
instance:FnBody Tryz.prog 149:=⟨ak⟩
instance:FnBody Tryz.prog 150:=⟨ak⟩
instance:FnBody Tryz.prog 151:=⟨ak⟩
instance:FnBody Tryz.prog 152:=⟨ak⟩
instance:FnBody Tryz.prog 153:=⟨ak⟩
instance:FnBody Tryz.prog 154:=⟨ak⟩
instance:FnBody Tryz.prog 155:=⟨ak⟩
instance:FnBody Tryz.prog 156:=⟨ak⟩
instance:FnBody Tryz.prog 157:=⟨ak⟩
instance:FnBody Tryz.prog 158:=⟨ak⟩
instance:FnBody Tryz.prog 159:=⟨ak⟩
instance:FnBody Tryz.prog 160:=⟨ak⟩
instance:FnBody Tryz.prog 161:=⟨ak⟩
instance:FnBody Tryz.prog 162:=⟨ak⟩
instance:FnBody Tryz.prog 163:=⟨ak⟩
instance:FnBody Tryz.prog 164:=⟨ak⟩
instance:FnBody Tryz.prog 165:=⟨ak⟩
instance:FnBody Tryz.prog 167:=⟨ak⟩
instance:FnBody Tryz.prog 168:=⟨ak⟩
instance:FnBody Tryz.prog 169:=⟨ak⟩
instance:FnBody Tryz.prog 170:=⟨ak⟩
instance:FnBody Tryz.prog 171:=⟨ak⟩
instance:FnBody Tryz.prog 172:=⟨ak⟩
instance:FnBody Tryz.prog 173:=⟨ak⟩
instance:FnBody Tryz.prog 174:=⟨ak⟩
instance:FnBody Tryz.prog 175:=⟨ak⟩
instance:FnBody Tryz.prog 176:=⟨ak⟩
instance:FnBody Tryz.prog 177:=⟨ak⟩
instance:FnBody Tryz.prog 178:=⟨ak⟩
instance:FnBody Tryz.prog 179:=⟨ak⟩
instance:FnBody Tryz.prog 180:=⟨ak⟩
instance:FnBody Tryz.prog 181:=⟨ak⟩
instance:FnBody Tryz.prog 182:=⟨ak⟩
instance:FnBody Tryz.prog 183:=⟨ak⟩
instance:FnBody Tryz.prog 184:=⟨ak⟩
instance:FnBody Tryz.prog 185:=⟨ak⟩
instance:FnBody Tryz.prog 191:=⟨ak⟩
instance:FnBody Tryz.prog 192:=⟨ak⟩
instance:FnBody Tryz.prog 193:=⟨ak⟩
instance:FnBody Tryz.prog 194:=⟨ak⟩
instance:FnBody Tryz.prog 196:=⟨ak⟩
instance:FnBody Tryz.prog 197:=⟨ak⟩
instance:FnBody Tryz.prog 198:=⟨ak⟩
instance:FnBody Tryz.prog 199:=⟨ak⟩
instance:FnBody Tryz.prog 200:=⟨ak⟩
instance:FnBody Tryz.prog 201:=⟨ak⟩
instance:FnBody Tryz.prog 202:=⟨ak⟩
instance:FnBody Tryz.prog 203:=⟨ak⟩
instance:FnBody Tryz.prog 207:=⟨ak⟩
instance:FnBody Tryz.prog 208:=⟨ak⟩
instance:FnBody Tryz.prog 209:=⟨ak⟩
instance:FnBody Tryz.prog 210:=⟨ak⟩
instance:FnBody Tryz.prog 211:=⟨ak⟩
instance:FnBody Tryz.prog 212:=⟨ak⟩
instance:FnBody Tryz.prog 213:=⟨ak⟩
instance:FnBody Tryz.prog 214:=⟨ak⟩
instance:FnBody Tryz.prog 215:=⟨ak⟩
instance:FnBody Tryz.prog 216:=⟨ak⟩
instance:FnBody Tryz.prog 217:=⟨ak⟩
instance:FnBody Tryz.prog 218:=⟨ak⟩
instance:FnBody Tryz.prog 219:=⟨ak⟩
instance:FnBody Tryz.prog 221:=⟨ak⟩
instance:FnBody Tryz.prog 222:=⟨ak⟩
instance:FnBody Tryz.prog 223:=⟨ak⟩
instance:FnBody Tryz.prog 233:=⟨ak⟩
instance:FnBody Tryz.prog 234:=⟨ak⟩
instance:FnBody Tryz.prog 237:=⟨ak⟩
instance:FnBody Tryz.prog 238:=⟨ak⟩
instance:FnBody Tryz.prog 239:=⟨ak⟩
instance:FnBody Tryz.prog 240:=⟨ak⟩
instance:FnBody Tryz.prog 241:=⟨ak⟩
instance:FnBody Tryz.prog 242:=⟨ak⟩
instance:FnBody Tryz.prog 243:=⟨ak⟩
instance:FnBody Tryz.prog 244:=⟨ak⟩
instance:FnBody Tryz.prog 245:=⟨ak⟩
instance:FnBody Tryz.prog 246:=⟨ak⟩
instance:FnBody Tryz.prog 247:=⟨ak⟩
instance:FnBody Tryz.prog 248:=⟨ak⟩
instance:FnBody Tryz.prog 249:=⟨ak⟩
instance:FnBody Tryz.prog 250:=⟨ak⟩
instance:FnBody Tryz.prog 251:=⟨ak⟩
instance:FnBody Tryz.prog 252:=⟨ak⟩
instance:FnBody Tryz.prog 256:=⟨ak⟩
instance:FnBody Tryz.prog 257:=⟨ak⟩
instance:FnBody Tryz.prog 260:=⟨ak⟩
instance:FnBody Tryz.prog 261:=⟨ak⟩
instance:FnBody Tryz.prog 262:=⟨ak⟩
instance:FnBody Tryz.prog 263:=⟨ak⟩
instance:FnBody Tryz.prog 265:=⟨ak⟩
instance:FnBody Tryz.prog 266:=⟨ak⟩
instance:FnBody Tryz.prog 267:=⟨ak⟩
instance:FnBody Tryz.prog 268:=⟨ak⟩
instance:FnBody Tryz.prog 269:=⟨ak⟩
end Go.Proofs.YtcdilibijnboeaaGreatDoor.Sy
namespace Go.Proofs.YtcdilibijnboeaaGreatDoor
open Go Go.Proofs Sy
def strs (l:List ByteArray):List (List Value):=l.map fun s=>[.string s]
def Strs (w:World) (s:SlV) (l:List ByteArray):Prop:=RowsD w 1 s (strs l)
theorem Strs.at_ {w:World} {s:SlV} {l:List ByteArray} (h:Strs w s l) {i:Nat} {x:ByteArray} (hx:l[i]?=some x):CellAt w s.p i (.string x):=by
 have:=(RowsD.row h i [.string x] (by simp [strs,hx])).2.2 0 (.string x) rfl
 simpa using this
theorem Strs.len_ {w:World} {s:SlV} {l:List ByteArray} (h:Strs w s l):s.n=l.length:=by have:=RowsD.len h;simpa [strs] using this
theorem Strs.some_ {w:World} {s:SlV} {l:List ByteArray} (h:Strs w s l) (hl:0<l.length):s.p.isSome=true:=by
 have hx:l[0]?=some l[0]:=Zm hl
 exact (RowsD.row h 0 [.string l[0]] (by simp [strs,hx])).2.1
theorem Strs.get {w:World} {s:SlV} {l:List ByteArray} (h:Strs w s l) {i:Nat} (hi:i<l.length):CellAt w s.p i (.string (l.getD i .empty)):=h.at_ (by simp [hi])
structure BoxD where
 nonce:ByteArray
 data:ByteArray
 tag:ByteArray
structure WrapD where
 to:Int
 eph:Int
 box:BoxD
structure ActD where
 author:ByteArray
 seq:Int
 prev:ByteArray
 kind:Int
 time:Int
 object:ByteArray
 target:ByteArray
 scope:Int
 group:ByteArray
 to:SlV
 text:ByteArray
 body:BoxD
 epoch:Int
 wraps:SlV
 n:Int
 m:Int
 e:Int
 s:Int
 toL:List ByteArray
 wrapsL:List WrapD
def BoxD.cells (b:BoxD):List Value:=[.string b.nonce,.string b.data,.string b.tag]
def BoxD.v (b:BoxD):Value:=.agg b.cells.toArray
theorem BoxD.v_cells (b:BoxD):b.v.cells.toList=b.cells:=rfl
def BoxD.zero:BoxD:=⟨⟨#[]⟩,⟨#[]⟩,⟨#[]⟩⟩
def WrapD.cells (w:WrapD):List Value:=[.int .i64 w.to,.int .i64 w.eph,.string w.box.nonce,.string w.box.data,.string w.box.tag]
theorem WrapD.cells_box (w:WrapD):(w.cells.drop 2).take 3=w.box.cells:=rfl
def ActD.cells (a:ActD):List Value:=[.string a.author,.int .i64 a.seq,.string a.prev,.int .i64 a.kind,.int .i64 a.time,.string a.object,.string a.target,.int .i64 a.scope,.string a.group,a.to.v,
 .string a.text,.string a.body.nonce,.string a.body.data,.string a.body.tag,.int .i64 a.epoch,a.wraps.v,.int .i64 a.n,.int .i64 a.m,.int .i64 a.e,.int .i64 a.s]
def ActD.v (a:ActD):Value:=.agg a.cells.toArray
theorem ActD.v_cells (a:ActD):a.v.cells.toList=a.cells:=rfl
theorem ActD.cells_body (a:ActD):(a.cells.drop 11).take 3=a.body.cells:=rfl
def Wraps (w:World) (s:SlV) (l:List WrapD):Prop:=RowsD w 5 s (l.map WrapD.cells)
theorem Wraps.len_ {w:World} {s:SlV} {l:List WrapD} (h:Wraps w s l):s.n=l.length:=by have:=RowsD.len h;simpa using this
theorem Wraps.some_ {w:World} {s:SlV} {l:List WrapD} (h:Wraps w s l) (hl:0<l.length):s.p.isSome=true:=by
 have hx:l[0]?=some l[0]:=Zm hl
 exact (RowsD.row h 0 l[0].cells (by simp [hx])).2.1
theorem Wraps.get {w:World} {s:SlV} {l:List WrapD} (h:Wraps w s l) {i:Nat} {x:WrapD} (hx:l[i]?=some x):x.cells.length=5∧s.p.isSome=true∧∀ j u,x.cells[j]?=some u→CellAt w s.p (i*5+j) u :=
 RowsD.row h i x.cells (by simp [hx])
def ActD.at_ (w:World) (a:ActD):Prop:=Strs w a.to a.toL∧Wraps w a.wraps a.wrapsL
def dig (c:Int):Bool:=decide (48≤c)&&decide (c≤57)
theorem lA (c:Int):Pu Tryz.prog 139 #[.int .i32 c] (fun _=>True) (.bool (dig c)):=by
 refine ay (args:=[_]) _ Tryz.func139 rfl Tryz.ntmps139 rfl fun av bor w0=>?_
 repeat' (first|apply ab|apply Qu|apply Qv|refine aj ?_|refine ad ?_|refine aD ?_|refine aF ?_|refine cB ?_|refine aK ?_|apply ar|((fail_if_success (refine aZ ?_));refine aR (ht:=?_) (hf:=?_);all_goals (intro hx_;first|have:=aP hx_|have:=aS hx_))|fail)
 (all_goals (apply al;apply aq;rfl;rfl));all_goals (simp only [dig, *,ZQ,ZO,ZC,ZB,ZE,ZD,ZH,ZG,ZK,ZI,ZP,ZJ,ZN,ZF];done)
theorem tn (s:ByteArray) (q:Nat):1≤(Utf8.decode s q).2:=by
 unfold Utf8.decode
 simp only
 repeat' split
 all_goals simp
def runes (bad:Nat→Int→Bool) (s:ByteArray):Nat→Nat→Bool
 | 0,_=>true
 | f+1,q=>bif decide (q<s.size) then (bif bad q (Utf8.decode s q).1 then false else runes bad s f (q+(Utf8.decode s q).2)) else true
structure At0 (bad:Nat→Int→Bool) (s:ByteArray) where
 f:Nat
 q:Nat
 h:s.size≤f+q
 e:runes bad s f q=runes bad s s.size 0
theorem mB {bad:Nat→Int→Bool} {s:ByteArray} (i:At0 bad s) (h:s.size≤i.q):runes bad s s.size 0=true:=by
 rw [←i.e]
 cases hf:i.f with
 | zero=>rfl
 | succ f =>
  have:decide (i.q<s.size)=false:=by simp;omega
  simp only [runes,this,ZB]
theorem mC {bad:Nat→Int→Bool} {s:ByteArray} (i:At0 bad s) (h:i.q<s.size) (hb:bad i.q (Utf8.decode s i.q).1=true):runes bad s s.size 0=false:=by
 rw [←i.e]
 cases hf:i.f with
 | zero=>have:=i.h;omega
 | succ f=>simp only [runes,ZA h,hb,ZC]
def kZ {bad:Nat→Int→Bool} {s:ByteArray} (i:At0 bad s) (h:i.q<s.size) (hb:bad i.q (Utf8.decode s i.q).1=false):At0 bad s :=
 ⟨i.f-1,i.q+(Utf8.decode s i.q).2,by have:=tn s i.q;have:=i.h;omega,by
  rw [←i.e]
  cases hf:i.f with
  | zero=>have:=i.h;omega
  | succ f=>simp only [runes,ZA h,hb,ZC,ZB,Nat.add_sub_cancel]⟩
def badId (_:Nat) (c:Int):Bool:=!dig c&&(decide (c<97)||decide (102<c))
def isId (s:ByteArray):Bool:=decide ((s.size:Int)=16)&&runes badId s s.size 0
theorem fJ (s:ByteArray):Pu Tryz.prog 84 #[.string s] (fun _=>True) (.bool (isId s)):=by
 refine ay (args:=[_]) _ Tryz.func84 rfl Tryz.ntmps84 rfl fun av bor w0=>?_
 repeat' (first|apply ab|apply Qu|apply Qv|refine aj ?_|refine ad ?_|refine dJ ?_|refine bT ?_|refine mw fun _=>?_|apply Qx|apply Qw|apply ar|(refine aG (ht:=?_) (hf:=?_);all_goals (intro hx_;skip)))
 · (all_goals (apply al;apply aq;rfl;rfl));all_goals (simp_all [isId];done)
 rename_i b
 refine aT (ι:=At0 badId s) (fun i=>⟨[(0,.string s),(9,.pointer (some ⟨b,0,none⟩))],[sit b s i.q],fun _=>True⟩) (fun i=>i.f) ⟨s.size,0,by omega,rfl⟩ (aw ⟨rfl,rfl,trivial⟩ (aE _) fun _ h=>h) fun i=>?_
 repeat' (first|apply ab|apply Qu|apply Qv|refine aj ?_|refine ad ?_|refine aD ?_|refine aF ?_|refine bN ?_|refine bj ?_|refine cK ?_|refine bM ?_|refine aK ?_|refine cb ?_|refine fD ?_|refine oN (h1:=fun _=>?_) (h2:=fun _=>?_)|refine Qy ?_|refine Qz ?_|apply Qx|apply Qw|apply ar|apply aQ|refine ao (hc:=lA _) ?_|((fail_if_success (refine aZ ?_));refine aR (ht:=?_) (hf:=?_);all_goals (intro hx_;first|have:=aP hx_|have:=aS hx_|skip))|(refine aG (ht:=?_) (hf:=?_);all_goals (intro hx_;first|have:=aP hx_|have:=aS hx_)))
 all_goals first
  | (apply al;apply aq;rfl;rfl;rw [isId,mC i (by assumption) (by simp only [badId, *,ZQ,ZO,ZC,ZB,ZE,ZD,ZH,ZG,ZK,ZI,ZP,ZJ,ZN,ZF]),ZH])
  | (apply al;apply aq;rfl;rfl;rw [isId,mB i (by assumption)];simp_all;done)
  | exact ⟨kZ i (by assumption) (by simp only [badId, *,ZQ,ZO,ZC,ZB,ZE,ZD,ZH,ZG,ZK,ZI,ZP,ZJ,ZN,ZF]),(by show i.f-1<i.f;have:=i.h;omega),aw ⟨rfl,rfl,trivial⟩ (aE _) fun _ h=>h⟩
def badName (q:Nat) (c:Int):Bool:=!(decide (97≤c)&&decide (c≤122))&&(decide ((q:Int)=0)||!dig c&&!decide (c=95))
def isName (s:ByteArray):Bool:=!(seqB s ⟨#[]⟩)&&!decide (24<(s.size:Int))&&runes badName s s.size 0
theorem jZ (s:ByteArray):Pu Tryz.prog 148 #[.string s] (fun _=>True) (.bool (isName s)):=by
 refine ay (args:=[_]) _ Tryz.func148 rfl Tryz.ntmps148 rfl fun av bor w0=>?_
 repeat' (first|apply ab|apply Qu|apply Qv|refine aj ?_|refine ad ?_|refine aD ?_|refine aF ?_|refine cK ?_|refine cC ?_|refine bT ?_|refine cb ?_|refine mw fun _=>?_|refine Qy ?_|apply Qx|apply Qw|apply ar|((fail_if_success (refine aZ ?_));refine aR (ht:=?_) (hf:=?_);all_goals (intro hx_;skip))|(refine aG (ht:=?_) (hf:=?_);all_goals (intro hx_;first|have:=aP hx_|have:=aS hx_)))
 all_goals try ((all_goals (apply al;apply aq;rfl;rfl));all_goals (simp only [isName, *,ZQ,ZO,ZC,ZB,ZE,ZD,ZH,ZG,ZK,ZI,ZP,ZJ,ZN,ZF];done))
 rename_i b
 refine aT (ι:=At0 badName s) (fun i=>⟨[(0,.string s),(14,.pointer (some ⟨b,0,none⟩))],[sit b s i.q],fun _=>True⟩) (fun i=>i.f) ⟨s.size,0,by omega,rfl⟩ (aw ⟨rfl,rfl,trivial⟩ (aE _) fun _ h=>h) fun i=>?_
 repeat' (first|apply ab|apply Qu|apply Qv|refine aj ?_|refine ad ?_|refine aD ?_|refine aF ?_|refine bN ?_|refine bR ?_|refine dJ ?_|refine cB ?_|refine bM ?_|refine aK ?_|refine cb ?_|refine fD ?_|refine oN (h1:=fun _=>?_) (h2:=fun _=>?_)|refine Qy ?_|refine Qz ?_|apply Qx|apply Qw|apply ar|apply aQ|refine ao (hc:=lA _) ?_|((fail_if_success (refine aZ ?_));refine aR (ht:=?_) (hf:=?_);all_goals (intro hx_;first|have:=aP hx_|have:=aS hx_|skip))|(refine aG (ht:=?_) (hf:=?_);all_goals (intro hx_;skip)))
 all_goals first
  | (apply al;apply aq;rfl;rfl;rw [isName,mC i (by assumption) (by simp only [badName, *,ZQ,ZO,ZC,ZB,ZE,ZD,ZH,ZG,ZK,ZI,ZP,ZJ,ZN,ZF]),ZH])
  | (apply al;apply aq;rfl;rfl;rw [isName,mB i (by assumption)];simp only [*,ZQ,ZO,ZC,ZB,ZE,ZD,ZH,ZG,ZK,ZI,ZP,ZJ,ZN,ZF];done)
  | exact ⟨kZ i (by assumption) (by simp only [badName, *,ZQ,ZO,ZC,ZB,ZE,ZD,ZH,ZG,ZK,ZI,ZP,ZJ,ZN,ZF]),(by show i.f-1<i.f;have:=i.h;omega),aw ⟨rfl,rfl,trivial⟩ (aE _) fun _ h=>h⟩
def allB (n:Nat) (bad:Nat→Bool):Bool:=(List.range n).all fun k=>!bad k
theorem vp {n:Nat} {bad:Nat→Bool} (h:∀ j,j<n→bad j=false):allB n bad=true:=by
 simp only [allB,List.all_eq_true,List.mem_range]
 intro j hj
 rw [h j hj]
 rfl
theorem dz {n k:Nat} {bad:Nat→Bool} (hk:k<n) (h:bad k=true):allB n bad=false:=by
 simp only [allB,List.all_eq_false,List.mem_range]
 exact ⟨k,hk,by simp [h]⟩
structure Upto (n:Nat) (bad:Nat→Bool) where
 k:Nat
 hk:k≤n
 ok:∀ j,j<k→bad j=false
def Upto.zero (n:Nat) (bad:Nat→Bool):Upto n bad:=⟨0,Nat.zero_le _,fun j h=>absurd h (Nat.not_lt_zero _)⟩
def Upto.next {n:Nat} {bad:Nat→Bool} (i:Upto n bad) (h:i.k<n) (hb:bad i.k=false):Upto n bad:=⟨i.k+1,h,fun j hj=>by
 by_cases e:j=i.k
 · rw [e];exact hb
 · exact i.ok j ae⟩
theorem Upto.all {n:Nat} {bad:Nat→Bool} (i:Upto n bad) (h:¬ i.k<n):allB n bad=true:=vp fun j hj=>i.ok j (by have:=i.hk;omega)
def badIds (l:List ByteArray) (k:Nat):Bool:=!isId (l.getD k .empty)||decide (0<(k:Int))&&(Op.bytesLess (l.getD k .empty).toList (l.getD (k-1) .empty).toList||seqB (l.getD k .empty) (l.getD (k-1) .empty))
def isIds (l:List ByteArray):Bool:=!decide (64<(l.length:Int))&&allB l.length (badIds l)
theorem lC (s:SlV) (l:List ByteArray):Pu Tryz.prog 151 #[s.v] (fun w=>Strs w s l) (.bool (isIds l)):=by
 refine ay (args:=[_]) _ Tryz.func151 rfl Tryz.ntmps151 rfl fun av bor w0=>?_
 refine bI (p:=s.n=l.length∧s.n≤maxLen∧(0<l.length→s.p.isSome=true)) (fun w h=>⟨h.len_,Qq (RowsD.cap h) (RowsD.max h),h.some_⟩) fun ⟨hl,hm,hp⟩=>?_
 simp only [maxLen] at hm
 repeat' (first|apply ab|apply Qu|apply Qv|refine aj ?_|refine ad ?_|refine cK ?_|refine aY ?_|apply Qx|apply Qw|apply ar|(refine aG (ht:=?_) (hf:=?_);all_goals (intro hx_;first|have:=aP hx_|have:=aS hx_)))
 · simp only [*] at *
   (all_goals (apply al;apply aq;rfl;rfl));all_goals (simp only [isIds, *,ZQ,ZO,ZC,ZB,ZE,ZD,ZH,ZG,ZK,ZI,ZP,ZJ,ZN,ZF];done)
 refine aT (ι:=Upto l.length (badIds l)) (fun i=>⟨[(0,s.v),(8,s.v),(9,.int .i64 s.n),(10,.int .i64 i.k)],[],fun w=>Strs w s l⟩) (fun i=>l.length-i.k) (Upto.zero _ _) (aw ⟨rfl,rfl,rfl,rfl,trivial⟩ (aE _) fun _ h=>h) fun i=>?_
 have hik:=i.hk
 repeat' (first|apply ab|apply Qu|apply Qv|refine aj ?_|refine ad ?_|refine bj ?_|apply Qx|apply Qw|apply ar|apply aQ|(refine aG (ht:=?_) (hf:=?_);all_goals (intro hx_;first|have:=aP hx_|have:=aS hx_)))
 · have hlt:i.k<l.length:=by omega
   have hp':=hp ae
   repeat' (first|apply ab|apply Qu|apply Qv|refine aj ?_|refine ad ?_|refine aD ?_|refine aF ?_|refine bN ?_|refine cK ?_|refine be (h:=?_)|refine df (h:=?_)|refine aK ?_|refine cb ?_|refine fD ?_|refine Qy ?_|refine Qz ?_|apply Qx|apply ar|refine ao (hc:=fJ _) ?_|(refine bu (q:=i.k) ?_)|(refine bu (q:=i.k-1) ?_)|(refine dD (hF:=fun w h=>Strs.get h hlt) ?_)|(refine dD (hF:=fun w h=>Strs.get h (by omega:i.k-1<l.length)) ?_)|(refine zj ?_)|((fail_if_success (refine aZ ?_));refine aR (ht:=?_) (hf:=?_);all_goals (intro hx_;first|have:=aP hx_|have:=aS hx_|skip))|(refine aG (ht:=?_) (hf:=?_);all_goals (intro hx_;skip)))
   all_goals first
    | (apply al;apply aq;rfl;rfl;rw [isIds,dz hlt (by simp only [badIds, *,ZQ,ZO,ZC,ZB,ZE,ZD,ZH,ZG,ZK,ZI,ZP,ZJ,ZN,ZF]),ZH])
    | exact ⟨i.next hlt (by simp only [badIds, *,ZQ,ZO,ZC,ZB,ZE,ZD,ZH,ZG,ZK,ZI,ZP,ZJ,ZN,ZF]),(by show l.length-(i.k+1)<l.length-i.k;omega),aw ⟨rfl,rfl,rfl,rfl,trivial⟩ (aE _) fun _ h=>h⟩
    | skip
 · apply al;apply aq;rfl;rfl
   rw [isIds,i.all (by omega)]
   simp only [←hl,‹decide (64<(s.n:Int))=false›,ZQ,ZO,ZC,ZB,ZE,ZD,ZH,ZG,ZK,ZI,ZP,ZJ,ZN,ZF]
end Go.Proofs.YtcdilibijnboeaaGreatDoor
