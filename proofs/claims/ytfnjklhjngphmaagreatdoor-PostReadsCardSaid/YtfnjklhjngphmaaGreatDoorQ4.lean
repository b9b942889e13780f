/- Joined by program out of: Ps Rn Pk Cj Mo Ax Pa Wo To St Pe Pc Pd Pf Pb. -/
import Derived.Sort.Walk0
import Derived.Test.YtfnjklhjngphmaaGreatDoorQ3
set_option linter.unusedVariables false
set_option linter.unusedSimpArgs false
namespace Go.Proofs.YtfnjklhjngphmaaGreatDoor.Sy
open Go Go.Proofs
theorem gB (a:ByteArray):a.toList=bl a:=by simp [bl,ByteArray.toList_eq]
theorem rz {a b:ByteArray} (h:bl a=bl b):a=b:=by rw [←m6 a,←m6 b,h]
theorem seqB_iff {a b:ByteArray}:seqB a b=true↔a=b:=by
 unfold seqB
 rw [gB,gB,beq_iff_eq]
 exact ⟨rz,fun h=>by rw [h]⟩
theorem cG (a:ByteArray):seqB a a=true:=seqB_iff.2 rfl
theorem seqB_ne {a b:ByteArray}:seqB a b=false↔a≠b:=by
 rw [←Bool.not_eq_true,seqB_iff]
theorem jd (a b:ByteArray):seqB a b=seqB b a:=by
 cases h:seqB b a with
 | true=>rw [seqB_iff.1 h];exact cG _
 | false=>exact seqB_ne.2 fun e=>seqB_ne.1 h e.symm
def ltB (a b:ByteArray):Bool:=Op.bytesLess a.toList b.toList
theorem iF {a b:ByteArray}:ltB a b=true↔bl a<bl b:=by
 unfold ltB
 rw [gB,gB,Go.Proofs.bytesLess_eq,decide_eq_true_eq]
theorem gZ (a:ByteArray):ltB a a=false:=by
 rw [←Bool.not_eq_true,iF]
 exact List.lt_irrefl _
theorem ji {a b c:ByteArray} (h:ltB a b=true) (k:ltB b c=true):ltB a c=true:=by
 rw [iF] at *
 exact List.lt_trans h k
theorem m0 {a b:ByteArray} (h:ltB a b=true):ltB b a=false:=by
 rw [←Bool.not_eq_true]
 intro k
 have:=ji h k
 rw [gZ] at this
 cases this
theorem mZ {a b:ByteArray} (h:ltB a b=false) (k:ltB b a=false):a=b:=by
 rw [←Bool.not_eq_true,iF] at *
 exact rz (List.le_antisymm (List.not_lt.1 k) (List.not_lt.1 h))
theorem yo {a b:ByteArray} (h:ltB a b=true):a≠b:=by
 rintro rfl
 rw [gZ] at h
 cases h
def Asc (l:List ByteArray):Prop:=l.Pairwise fun a b=>ltB a b=true
theorem Asc.nodup {l:List ByteArray} (h:Asc l):l.Nodup:=List.Pairwise.imp (fun h=>yo h) h
theorem Asc.getD {l:List ByteArray} (h:Asc l) {i j:Nat} (hij:i<j) (hj:j<l.length):ltB (l.getD i .empty) (l.getD j .empty)=true:=by
 rw [List.getD_eq_getElem?_getD,List.getD_eq_getElem?_getD,List.getElem?_eq_getElem hj,List.getElem?_eq_getElem (by omega)]
 exact List.pairwise_iff_getElem.1 h i j ag hj hij
theorem Asc.ext {l m:List ByteArray} (hl:Asc l) (hm:Asc m) (h:∀ x,x∈l↔x∈m):l=m:=by
 have hp:l.Perm m:=(List.perm_ext_iff_of_nodup hl.nodup hm.nodup).2 h
 refine hp.eq_of_pairwise (fun a b _ _ h1 h2=>?_) hl hm
 rw [m0 h1] at h2
 cases h2
theorem fC {x:ByteArray} {l:List ByteArray}:x∈sortB l↔x∈l:=by
 unfold sortB
 have hp:(((l.map bl).mergeSort leB).map lb).Perm ((l.map bl).map lb):=(List.mergeSort_perm _ _).map lb
 rw [hp.mem_iff,List.map_map]
 have e:(lb ∘ bl)=id:=by funext a;exact m6 a
 rw [e,List.map_id]
theorem yp (l:List (List UInt8)):(l.mergeSort leB).Pairwise fun a b=>a≤b:=by
 have h:=List.pairwise_mergeSort (le:=leB) (fun a b c h1 h2=>by
  simp only [leB,decide_eq_true_eq] at *
  exact List.le_trans h1 h2) (fun a b=>by
  simp only [leB,Bool.or_eq_true,decide_eq_true_eq]
  exact List.le_total a b) l
 exact h.imp fun h=>by simpa [leB] using h
theorem pG {zs:List (List UInt8)} {x:List UInt8}:x∈Lib.compact zs↔x∈zs:=by
 unfold Lib.compact Lib.compactUpTo
 simp only [List.mem_map,List.mem_filter,List.mem_range]
 constructor
 · rintro ⟨j,⟨hj,_⟩,rfl⟩
   rw [getElem!_pos zs.toArray j (by simpa using hj)]
   simp
 · intro h
   obtain ⟨j,hj,rfl⟩:=List.getElem_of_mem h
   induction j with
   | zero=>exact ⟨0,⟨hj,by simp [Lib.keeps]⟩,by rw [getElem!_pos zs.toArray 0 (by simpa using hj)];simp⟩
   | succ j ih =>
    cases hk:Lib.keeps zs.toArray (j+1) with
    | true=>exact ⟨j+1,⟨hj,hk⟩,by rw [getElem!_pos zs.toArray (j+1) (by simpa using hj)];simp⟩
    | false =>
     have e:zs.toArray[j+1]! = zs.toArray[j+1-1]! := by
      simp only [Lib.keeps,decide_eq_false_iff_not,not_or,Decidable.not_not] at hk
      exact hk.2
     rw [Nat.add_sub_cancel,getElem!_pos zs.toArray (j+1) (by simpa using hj),getElem!_pos zs.toArray j (by simp;omega)] at e
     simp only [List.getElem_toArray] at e
     rw [e]
     exact ih ag (List.getElem_mem _)
theorem rs {zs:List (List UInt8)} (h:zs.Pairwise fun a b=>a≤b):(Lib.compact zs).Pairwise fun a b=>a<b:=by
 unfold Lib.compact Lib.compactUpTo
 rw [List.pairwise_map,List.pairwise_filter]
 refine (List.Pairwise.and_mem.1 (List.pairwise_lt_range (n:=zs.length))).imp ?_
 rintro i j ⟨_,hj,hij⟩ _ hk
 have hj':=List.mem_range.1 hj
 have hne:zs.toArray[j]! ≠ zs.toArray[j-1]! := by
  simp only [Lib.keeps,decide_eq_true_eq] at hk
  exact hk.resolve_left ag
 have hpw:=List.pairwise_iff_getElem.1 h
 rw [getElem!_pos zs.toArray j (by simpa using hj'),getElem!_pos zs.toArray (j-1) (by simp;omega)] at hne
 rw [getElem!_pos zs.toArray j (by simpa using hj'),getElem!_pos zs.toArray i (by simp;omega)]
 simp only [List.getElem_toArray] at *
 have h1:zs[j-1]≤zs[j]:=hpw (j-1) j ag hj' ag
 have h2:zs[i]≤zs[j-1]:=by
  by_cases e:i=j-1
  · subst e;exact List.le_refl _
  · exact hpw i (j-1) ag ag ag
 have h3:zs[j-1]<zs[j]:=by
  rcases Decidable.em (zs[j-1]<zs[j]) with h|h
  · exact h
  · exact absurd (List.le_antisymm (List.not_lt.1 h) h1) hne
 exact List.not_le.1 fun h4=>absurd (List.lt_of_le_of_lt h2 h3) (List.not_lt.2 h4)
theorem uZ {x:ByteArray} {l:List ByteArray}:x∈compB l↔x∈l:=by
 unfold compB
 simp only [List.mem_map,pG]
 constructor
 · rintro ⟨a,⟨b,hb,rfl⟩,rfl⟩
   rwa [m6]
 · intro h
   exact ⟨bl x,⟨x,h,rfl⟩,m6 x⟩
theorem u7 (l:List (List UInt8)):(l.map lb).map bl=l:=by
 rw [List.map_map]
 have e:(bl ∘ lb)=id:=by funext a;exact nk a
 rw [e,List.map_id]
theorem j5 (l:List ByteArray):Asc (compB (sortB l)):=by
 unfold Asc compB sortB
 rw [u7,List.pairwise_map]
 refine (rs (yp _)).imp fun h=>?_
 rw [iF,nk,nk]
 exact h
theorem j4 {x:ByteArray} {l:List ByteArray}:x∈compB (sortB l)↔x∈l:=by rw [uZ,fC]
theorem l3 {l m:List ByteArray} (hm:Asc m) (h:∀ x,x∈l↔x∈m):compB (sortB l)=m:=(j5 l).ext hm fun x=>by rw [j4,h]
theorem gJ {l:List ByteArray} (hn:l.Nodup):Asc (sortB l):=by
 have hp:(sortB l).Perm l:=by
  unfold sortB
  have hp:(((l.map bl).mergeSort leB).map lb).Perm ((l.map bl).map lb):=(List.mergeSort_perm _ _).map lb
  have e:(lb ∘ bl)=id:=by funext a;exact m6 a
  rwa [List.map_map,e,List.map_id] at hp
 have hn':(sortB l).Nodup:=hp.nodup_iff.2 hn
 have h1:(sortB l).Pairwise fun a b=>bl a≤bl b:=by
  unfold sortB
  rw [List.pairwise_map]
  exact (yp (l.map bl)).imp (fun {a b} (h:a≤b)=>by rw [nk,nk];exact h)
 unfold Asc
 refine (h1.and hn').imp (fun {a b} ⟨h2,h3⟩=>?_)
 rw [iF]
 rcases Decidable.em (bl a<bl b) with h|h
 · exact h
 · exact absurd (rz (List.le_antisymm h2 (List.not_lt.1 h))) h3
end Go.Proofs.YtfnjklhjngphmaaGreatDoor.Sy
namespace Go.Proofs.YtfnjklhjngphmaaGreatDoor
open Go Go.Proofs Sy
theorem eqbB (a b:ByteArray):KeyT.eqb a b=seqB a b:=Bool.eq_iff_iff.2 ((KeyT.eqb_iff a b).trans seqB_iff.symm)
theorem mem_sput {k x:ByteArray}:∀ {ks:List ByteArray},x∈sput ks k↔x=k∨x∈ks
 | []=>by simp [sput]
 | a::ks=>by
  have ih:=mem_sput (k:=k) (x:=x) (ks:=ks)
  rw [sput,eqbB]
  cases h:seqB k a with
  | true =>
   obtain rfl:=seqB_iff.1 h
   simp only [cond_true,List.mem_cons]
   constructor
   · rintro (h|h)
     · exact .inl h
     · exact .inr (.inr h)
   · rintro (h|h|h)
     · exact .inl h
     · exact .inl h
     · exact .inr h
  | false =>
   simp only [cond_false,List.mem_cons,ih]
   constructor
   · rintro (h|h|h)
     · exact .inr (.inl h)
     · exact .inl h
     · exact .inr (.inr h)
   · rintro (h|h|h)
     · exact .inr (.inl h)
     · exact .inl h
     · exact .inr (.inr h)
theorem ej {k:ByteArray}:∀ {ks:List ByteArray},ks.Nodup→(sput ks k).Nodup
 | [],_=>by simp [sput]
 | a::ks,h=>by
  rw [List.nodup_cons] at h
  rw [sput,eqbB]
  cases hk:seqB k a with
  | true =>
   obtain rfl:=seqB_iff.1 hk
   exact List.nodup_cons.2 h
  | false =>
   refine List.nodup_cons.2 ⟨fun hm=>?_,ej h.2⟩
   rcases mem_sput.1 hm with hm|hm
   · exact seqB_ne.1 hk hm.symm
   · exact h.1 hm
def postK (k:Int):Bool:=decide (k=1)||decide (k=2)||decide (k=3)
theorem eX (k:Int):Pu Tryz.prog 87 #[.int .i64 k] (fun _=>True) (.bool (postK k)):=by
 refine aN (args:=[_]) _ Tryz.func87 rfl Tryz.ntmps87 rfl fun av bor w0=>?_
 repeat' (first|apply ab|apply aj|apply ai|refine ae ?_|refine ac ?_|refine aJ ?_|refine aH ?_|refine bR ?_|refine bI ?_|apply aA|((fail_if_success (refine bA ?_));refine bj (ht:=?_) (hf:=?_);all_goals (intro hx_;first|have:=aY hx_|have:=aZ hx_))|fail)
 all_goals
  apply aq;apply aB;rfl;rfl
  simp only [postK, *,decide_true,decide_false,cond_true,cond_false,Bool.and_true,Bool.true_and,Bool.and_false,Bool.false_and,Bool.not_true,Bool.not_false,Bool.or_true,Bool.true_or,Bool.or_false,Bool.false_or]
theorem hasS_iff {l:List ByteArray} {x:ByteArray}:hasS l x=true↔x∈l:=by
 rw [hasS,List.any_eq_true]
 constructor
 · rintro ⟨y,hy,h⟩
   rw [seqB_iff.1 h];exact hy
 · intro h
   exact ⟨x,h,cG x⟩
theorem hasS_false {l:List ByteArray} {x:ByteArray}:hasS l x=false↔x∉l:=by
 rw [←Bool.not_eq_true,hasS_iff]
def ChBox (c:ChainD) (b:Nat) (w:World):Prop:=w.heap[b]?=some (.cells c.cells.toArray 31 (0,0))
theorem ChBox.cell {c:ChainD} {b:Nat} {w:World} (h:ChBox c b w):∀ j v,c.cells[j]?=some v→w.cell? ⟨b,j,none⟩=some v:=fun j v hj=>by
 simp [World.cell?,show w.heap[b]?=_ from h,hj]
def XC (c:ChainD) (w:World):Prop:=c.at_ w∧Glob w
theorem XC.know {c:ChainD}:∀ w,XC c w→c.acts.n=c.actsL.length∧c.acts.n≤maxLen∧(0<c.actsL.length→c.acts.p.isSome=true)∧c.acts.n≤c.acts.c:=fun w h=>⟨h.1.len_,h.1.max_,h.1.some_,h.1.cap_⟩
theorem iv {P:Program} {fn:Func} {N t u r:Nat} {s:St} {v x y:Value} (hr:fn.results=#[.tmp t,.tmp u,.tmp r]) (h:Sy.look s.env t=some v) (h':Sy.look s.env u=some x) (h2:Sy.look s.env r=some y):Res1 P fn N s (.tuple #[v,x,y]):=fun av bor w0 a w ok=>by
 have h3:=ok.env t v h
 have h4:=ok.env u x h'
 have h5:=ok.env r y h2
 simp [results,hr,h3,h4,h5]
theorem jb (l:List ByteArray):∀ cs∈strs l,cs.all (·.oneCell')=true:=fun cs hcs=>by simp only [strs,List.mem_map] at hcs;obtain ⟨x,_,rfl⟩:=hcs;rfl
theorem im {e n:Nat} {v:Value} {ss:List ByteArray} (hn:n≤1000000000):Ct Tryz.prog 55 #[v] [orow e 1 v n (ss.map encB)] (fun _=>True) fun u R _=>u=.tuple #[]∧R=[orow e 1 v n ((sortB ss).map encB)]:=by
 have h:=sortS_c.ct (e:=e) (n:=n) (v:=v) (ss:=ss.map bl) hn
 rw [pL ss]
 refine h.mono fun u R X' ⟨h1,h2⟩=>⟨h1,?_⟩
 rw [h2,gX,sortB]
def StrsAt (l:List ByteArray) (u:Value) (X:World→Prop):Prop:=∃ s:SlV,u=s.v∧∀ w,X w→Strs w s l
theorem ff {p:ByteArray→Bool} (L:List ByteArray) {k:Nat} (h:k<L.length):(L.take (k+1)).filter p=(L.take k).filter p++(bif p (L.getD k .empty) then [L.getD k .empty] else []):=by
 rw [List.take_add_one,List.filter_append,List.getElem?_eq_getElem h,List.getD_eq_getElem?_getD,List.getElem?_eq_getElem h]
 simp only [Option.toList_some,Option.getD_some,List.filter_cons,List.filter_nil]
 cases p L[k]<;>rfl
end Go.Proofs.YtfnjklhjngphmaaGreatDoor
namespace Go.Proofs.YtfnjklhjngphmaaGreatDoor.Sy
open Go Go.RowKit
theorem CellAt.shift {w:World} {p:Option Addr} {k q:Nat} {u:Value}:CellAt w (p.map (·.add k)) q u↔CellAt w p (k+q) u:=by
 cases p with
 | none=>simp [CellAt]
 | some a=>simp [CellAt,eP]
theorem RowsD.take {w:World} {size:Nat} {s:SlV} {xs:List (List Value)} (h:RowsD w size s xs) {n:Nat} (hn:n≤xs.length):RowsD w size ⟨s.p,n,s.c⟩ (xs.take n):=by
 refine ⟨by rw [List.length_take];show n=_;omega,by have:=h.cap;have:=h.len;show n≤s.c;omega,h.max,fun i cs hi=>h.row i cs ?_⟩
 rw [List.getElem?_take] at hi
 split at hi
 · exact hi
 · cases hi
def SlV.from (s:SlV) (size n:Nat):SlV:=⟨if s.c=n then s.p else s.p.map (·.add (n*size)),s.n-n,s.c-n⟩
theorem RowsD.drop {w:World} {size:Nat} {s:SlV} {xs:List (List Value)} (h:RowsD w size s xs) {n:Nat} (hn:n≤xs.length):RowsD w size (s.from size n) (xs.drop n):=by
 have h1:=h.len
 have h2:=h.cap
 have h3:=h.max
 refine ⟨by rw [List.length_drop];show s.n-n=_;omega,by show s.n-n≤s.c-n;omega,by show s.c-n≤maxLen;omega,fun i cs hi=>?_⟩
 rw [List.getElem?_drop] at hi
 have hlt:=(List.getElem?_eq_some_iff.1 hi).1
 have hr:=h.row (n+i) cs hi
 have e:(s.from size n).p=s.p.map (·.add (n*size)):=by unfold SlV.from;rw [if_neg (by omega)]
 refine ⟨hr.1,by rw [e];simpa using hr.2.1,fun j u hj=>?_⟩
 rw [e,CellAt.shift,←Nat.add_assoc,←Nat.add_mul]
 exact hr.2.2 j u hj
section
variable {P:Program} {N:Nat} {av bor:List Nat} {w0:World} {ops:Array Oper} {rest:List Oper} {k:St→Prop} {E:Env} {loc loc':List Res} {X:World→Prop}
variable {d:Option Tmp} {ty:TypeId} {pos:String} {af:Array Edge} {g:Option (Nat×Bool)} {bb want:Bool} {K:Exit→St→Prop}
theorem gP {st:St} {x y:Operand} {t e size b':Nat} [hI:TySl P t e size b'] {s:SlV} {kk:IntKind} {i:Int} (hx:ev st.env x=some s.v) (hy:ev st.env y=some (.int kk i)) (h0:0≤i) (h1:i≤(s.n:Int)) :
  Sy.Yields P N av bor w0 st (.slice t x (some y) none none) ty (s.from size i.toNat).v:=Sy.Yields.mk fun A w ok d pos af g=>by
 obtain ⟨p,m,c⟩:=s
 obtain ⟨hu,inf,hi,hs,hb⟩:=cM hI.out
 have hz:=run_sizeOf (P:=P) (w:=w) (t:=e) (n:=size) (by simp [hi,hs])
 have hx':ev st.env x=some (.slice p m c):=hx
 have h1':i≤(m:Int):=h1
 simp [execOp,ok.eval hx',ok.eval hy,Instr.sliceAt,run_underlying hu,Instr.slice,Instr.sliceBounds,run_sliceBound,h0,h1',hz,SlV.v,SlV.from]
theorem nb (size:Nat):∀ (vs:List Value) (k:Nat) (pre z:List Value),(∀ v∈vs,v.cells.size=size)→pre.length=k*size→z.length=vs.length*size →
  Instr.fill (fun i=>some (i*size,size)) (pre++z).toArray ((vs.zipIdx k).map fun p=>(p.2,p.1))=some (pre++vs.flatMap fun v=>v.cells.toList).toArray
 | [],k,pre,z,_,_,hz=>by
  have:z=[]:=List.eq_nil_of_length_eq_zero (by simpa using hz)
  subst this
  simp [Instr.fill]
 | v::vs,k,pre,z,h1,hp,hz=>by
  have hv:=h1 v aU
  have hvl:v.cells.toList.length=size:=by simpa using hv
  simp only [List.length_cons,Nat.add_mul,Nat.one_mul] at hz
  have ih:=nb size vs (k+1) (pre++v.cells.toList) (z.drop size) (fun u hu=>h1 u (List.mem_cons_of_mem _ hu)) (by rw [List.length_append,hp,hvl,Nat.add_mul,Nat.one_mul]) (by rw [List.length_drop];omega)
  have h3:=lR pre.length v.cells.toList 0 (pre++z).toArray (by simp;omega)
  have h4:(v.cells.zipIdx.foldl (fun cs (p:Value×Nat)=>cs.setIfInBounds (k*size+p.2) p.1) (pre++z).toArray)=(pre++v.cells.toList++z.drop size).toArray:=by
   rw [←Array.foldl_toList,Array.toList_zipIdx,←hp,h3]
   simp [hv]
  simp only [List.zipIdx_cons,List.map_cons,Instr.fill]
  have hc:¬ ((decide (v.cells.size≠size)||decide (k*size+v.cells.size>(pre++z).toArray.size))=true):=by
   simp [hv];omega
  rw [if_neg hc,h4,ih]
  simp [List.flatMap_cons]
theorem bH {n len:Nat} {t e size b':Nat} [hs:TySl P t e size b'] {z:Value} [hz:TyZero P e z] {parts:List (Nat×Operand)} {vs css:List Value} (h:∀ b,Sw P N av bor w0 ops rest ⟨(n,.slice (some ⟨b,0,none⟩) len len)::E,cel b e css::loc,X⟩ k) (hzs:z.cells.size=size:=by rfl) (hp:partsOf E 0 parts=some vs:=by rfl) (hl:vs.length=len:=by rfl) (hsz:(vs.all fun v=>v.cells.size==size)=true) (hcs:(vs.flatMap fun v=>v.cells.toList)=css) (hpos:Nat.ble (len*size) 1000000=true:=by rfl) (h0:Nat.blt 0 (len*size)=true:=by rfl) (hg:gdB ops E g=some (bb,want):=by rfl) (hb:bb=want:=by exact aR) (hd:Nat.blt n N=true:=by rfl):Sw P N av bor w0 ops (⟨some n,.buildSlice t len parts.toArray,ty,pos,af,g⟩::rest) ⟨E,loc,X⟩ k:=Sw.mk fun a w ok=>by
 have hd':inB N (some n)=true:=by have h1:n<N:=Nat.le_of_ble_eq_true hd;simpa [inB] using h1
 have hle:len*size≤1000000:=Nat.le_of_ble_eq_true hpos
 have hlt:0<len*size:=Nat.le_of_ble_eq_true h0
 obtain ⟨ht,inf,hi,hi1,hi2⟩:=cM hs.out
 have hsz1:(sizeOf e).run P w=.ok size w:=by simp [sizeOf,typeInfo,hi,hi1]
 have hzr:(zeroValue e).run P w=.ok z w:=dK hz.out w
 simp only [wpList]
 rw [cj ok (o:=⟨some n,.buildSlice t len parts.toArray,ty,pos,af,g⟩) hg]
 subst hb
 simp only [beq_self_eq_true,if_true]
 left
 unfold Oper.wp
 have hfill:∀ Z:Array Value,Z.size=len*size→Instr.fill (fun i=>some (i*size,size)) Z (parts.map fun p=>(p.1,a.eval p.2))=some css.toArray:=fun Z hZ=>by
  rw [eM ok parts 0 vs hp,←hcs]
  have:=nb size vs 0 [] Z.toList (fun v hv=>by simpa using List.all_eq_true.1 hsz v hv) (by simp) (by simp [hZ,hl])
  simpa using this
 have hr:(execOp a.eval ⟨some n,.buildSlice t len parts.toArray,ty,pos,af,g⟩).run P w=.ok (.value (.slice (some ⟨w.heap.size,0,none⟩) len len)) (w.alloc (.cells css.toArray e)):=by
  have hn:¬ (16777216<len*size):=by omega
  have hne:¬ (len*size=0):=by omega
  have hne2:¬ (len=0∨size=0):=fun h=>hne (by rcases h with h|h<;>simp [h])
  have hf:=hfill ((Array.range (len*size)).map (fun x=>z.cells[x%z.cells.size]!)) (by simp)
  simp [execOp,Instr.buildSlice,run_underlying ht,hsz1,hzr,hne,hne2,hn,hf,d7]
 rw [hr]
 have ok':Ok N av bor w0 ⟨E,cel w.heap.size e css::loc,X⟩ a (w.alloc (.cells css.toArray e)):=(ok.via fun M G=>G.new _ _ fun _ h=>h)
 exact (h _).run _ _ (di (some n) _▸ok'.put hd' _)
theorem ez {ι:Type} (M:ι→St) {x y:Code} {st:St} (h1:Cw P N av bor w0 x st (thn (fun s=>∃ i,∀ a w,Ok N av bor w0 s a w→Ok N av bor w0 (M i) a w) K)) (h2:∀ i,Cw P N av bor w0 y (M i) K) :
  Cw P N av bor w0 x st (thn (fun s=>Cw P N av bor w0 y s K) K):=tp (fun e s h=>by
 cases e with
 | normal =>
  obtain ⟨i,hi⟩:=h
  exact yQ hi (h2 i)
 | _=>exact h) h1
end
end Go.Proofs.YtfnjklhjngphmaaGreatDoor.Sy
namespace Go.Proofs.YtfnjklhjngphmaaGreatDoor
open Go Go.Proofs Sy
section
variable {P:Program} {N:Nat} {av bor:List Nat} {w0:World} {ops:Array Oper} {rest:List Oper} {k:St→Prop} {E:Env} {loc:List Res} {X:World→Prop}
theorem dX {r:Res} (h:Sw P N av bor w0 ops rest ⟨E,loc,fun w=>X w∧r.F w⟩ k):Sw P N av bor w0 ops rest ⟨E,r::loc,X⟩ k:=Sw.mk fun a w ok=>h.run a w (ok.via fun M G=>G.give)
end
theorem yJ (l:List ByteArray):eqL l l=true:=by
 rw [eqL,decide_eq_true rfl,Bool.true_and]
 refine np fun j hj=>?_
 simp [eqBad,seqB]
section
variable {P:Program} {N:Nat} {av bor:List Nat} {w0:World} {ops:Array Oper} {rest:List Oper} {kk:St→Prop} {E:Env} {loc:List Res} {X:World→Prop} {x y:Operand} {t t2:TypeId}
variable {n:Nat} {ty:TypeId} {pos:String} {af:Array Edge} {g:Option (Nat×Bool)} {bb want:Bool}
theorem fN {k:IntKind} {a b:Int} (h:Sw P N av bor w0 ops rest ⟨(n,.bool false)::E,loc,X⟩ kk) (hx:ev E x=some (.int k a):=by rfl) (hy:ev E y=some (.int k b):=by rfl) (hab:a=b:=by decide) (hg:gdB ops E g=some (bb,want):=by rfl) (hbb:bb=want:=by exact aR) (hd:Nat.blt n N=true:=by rfl) :
  Sw P N av bor w0 ops (⟨some n,.binOp .neq t x y t2,ty,pos,af,g⟩::rest) ⟨E,loc,X⟩ kk:=cZ (hx:=hx) (hy:=hy) (hg:=hg) (hbb:=hbb) (hd:=hd) (h:=by
   have e:∀ u,u=Value.bool false→Sw P N av bor w0 ops rest ⟨(n,u)::E,loc,X⟩ kk:=fun u hu=>hu▸h
   exact e _ (by simp [hab]))
theorem nI {k:IntKind} {a b:Int} (h:Sw P N av bor w0 ops rest ⟨(n,.bool false)::E,loc,X⟩ kk) (hx:ev E x=some (.int k a):=by rfl) (hy:ev E y=some (.int k b):=by rfl) (hab:¬ b≤a) (hg:gdB ops E g=some (bb,want):=by rfl) (hbb:bb=want:=by exact aR) (hd:Nat.blt n N=true:=by rfl) :
  Sw P N av bor w0 ops (⟨some n,.binOp .geq t x y t2,ty,pos,af,g⟩::rest) ⟨E,loc,X⟩ kk:=cL (hx:=hx) (hy:=hy) (hg:=hg) (hbb:=hbb) (hd:=hd) (h:=by
   have e:∀ u,u=Value.bool false→Sw P N av bor w0 ops rest ⟨(n,u)::E,loc,X⟩ kk:=fun u hu=>hu▸h
   exact e _ (by simp only [decide_eq_false hab]))
theorem zX {k:IntKind} {a b:Int} (h:Sw P N av bor w0 ops rest ⟨(n,.bool true)::E,loc,X⟩ kk) (hx:ev E x=some (.int k a):=by rfl) (hy:ev E y=some (.int k b):=by rfl) (hab:b<a:=by (first|decide|omega)) (hg:gdB ops E g=some (bb,want):=by rfl) (hbb:bb=want:=by exact aR) (hd:Nat.blt n N=true:=by rfl) :
  Sw P N av bor w0 ops (⟨some n,.binOp .gtr t x y t2,ty,pos,af,g⟩::rest) ⟨E,loc,X⟩ kk:=cP (hx:=hx) (hy:=hy) (hg:=hg) (hbb:=hbb) (hd:=hd) (h:=by
   have e:∀ u,u=Value.bool true→Sw P N av bor w0 ops rest ⟨(n,u)::E,loc,X⟩ kk:=fun u hu=>hu▸h
   exact e _ (by simp [hab]))
theorem nH {k:IntKind} {a b:Int} (h:Sw P N av bor w0 ops rest ⟨(n,.bool false)::E,loc,X⟩ kk) (hx:ev E x=some (.int k a):=by rfl) (hy:ev E y=some (.int k b):=by rfl) (hab:¬ b<a) (hg:gdB ops E g=some (bb,want):=by rfl) (hbb:bb=want:=by exact aR) (hd:Nat.blt n N=true:=by rfl) :
  Sw P N av bor w0 ops (⟨some n,.binOp .gtr t x y t2,ty,pos,af,g⟩::rest) ⟨E,loc,X⟩ kk:=cP (hx:=hx) (hy:=hy) (hg:=hg) (hbb:=hbb) (hd:=hd) (h:=by
   have e:∀ u,u=Value.bool false→Sw P N av bor w0 ops rest ⟨(n,u)::E,loc,X⟩ kk:=fun u hu=>hu▸h
   exact e _ (by simp [hab]))
end
structure RowI where
 A:Option Addr
 c:Nat
def ChainD.with (c:ChainD) (s:SlV) (l:List ActD):ChainD:={ c with acts:=s,actsL:=l }
theorem fF (l:List ActD):∀ r∈l.map ActD.cells,r.length=20:=by
 intro r hr
 obtain ⟨a,_,rfl⟩:=List.mem_map.1 hr
 rfl
theorem eg {w:World} {e n c:Nat} {A:Option Addr} {l:List ActD} (h:ORow w e 20 (.slice A n c) n (l.map ActD.cells).flatten) (hn:n=l.length) (ha:∀ a∈l,a.at_ w):Acts w ⟨A,n,c⟩ l :=
 ⟨bJ h (by simpa using hn) (fF l),ha⟩
theorem ru (l:List ActD):∀ cs∈l.map ActD.cells,cs.all (·.oneCell')=true:=by
 intro r hr
 obtain ⟨a,_,rfl⟩:=List.mem_map.1 hr
 rfl
section
variable {P:Program} {N:Nat} {av bor:List Nat} {w0:World} {ops:Array Oper} {rest:List Oper} {kk:St→Prop} {E:Env} {loc:List Res} {X:World→Prop} {x y:Operand} {t t2:TypeId}
variable {n:Nat} {ty:TypeId} {pos:String} {af:Array Edge} {g:Option (Nat×Bool)} {bb want:Bool}
end
section
variable {P:Program} {N:Nat} {av bor:List Nat} {w0:World} {ops:Array Oper} {rest:List Oper} {k:St→Prop} {E:Env} {loc:List Res} {X:World→Prop}
variable {d:Option Tmp} {ty:TypeId} {pos:String} {af:Array Edge} {g:Option (Nat×Bool)} {bb want:Bool}
theorem nM {x:Operand} {xs:List Operand} {ats:Array TypeId} {f:FuncId} {first caps:Array Value} {args all:List Value} {X1:World→Prop} {Post:Value→List Res→(World→Prop)→Prop} (h:∀ v R X',Post v R X'→Sw P N av bor w0 ops rest ⟨putE E d v,R++loc,fun w=>X w∧X' w⟩ k) (hx:ev E x=some (.func (.func f) first caps):=by rfl) (ha:evs E xs=some args:=by rfl) (hall:first.toList++args++caps.toList=all:=by rfl) (hg:gdB ops E g=some (bb,want):=by rfl) (hb:bb=want:=by exact aR) (hd:inB N d=true:=by rfl) (hf:FnBody P f:=by infer_instance) (hc:Ct P f all.toArray [] X1 Post) (hX:∀ w,X w→X1 w:=by (first|exact fun _ _=>trivial|exact fun _ h=>h|exact fun _ h=>h.1|exact fun _ h=>h.2)) :
  Sw P N av bor w0 ops (⟨d,.call ⟨.value x,xs.toArray,ats⟩,ty,pos,af,g⟩::rest) ⟨E,loc,X⟩ k:=dj (pre:=[]) (fr:=loc) hx ha hall hg hb hd hf hc hX h
end
theorem jl (l:List ByteArray) (x:ByteArray):has21V l x=hasS l x:=by
 unfold has21V hasS
 congr 1
 funext y
 exact jd y x
section
variable {P:Program} {N:Nat} {av bor:List Nat} {w0:World} {st:St} {x y:Operand} {t t2:TypeId} {ty:TypeId}
end
theorem sE {P:Program} {f:FuncId} {args:Array Value} {X X':World→Prop} {v:Value} (h:Pu P f args X v) (hx:∀ w,X' w→X w):Pu P f args X' v:=by
 unfold Pu at *
 exact Ct.mk fun w av G=>(Ct.run h w av (G.imp hx)).mono fun e w' ⟨u,R,X1,he,hp,G'⟩=>⟨u,R,X1,he,hp,G'⟩
structure PostD where
 id:ByteArray
 author:ByteArray
 pos:Nat
 kind:Int
 scope:Int
 group:ByteArray
 to:SlV
 object:ByteArray
 time:Int
 ed:SlV
 gone:Bool
 toL:List ByteArray
 edL:List Int
def PostD.cells (p:PostD):List Value:=[.string p.id,.string p.author,.int .i64 (p.pos:Nat),.int .i64 p.kind,.int .i64 p.scope,.string p.group,p.to.v,.string p.object,.int .i64 p.time,p.ed.v,.bool p.gone]
def PostD.v (p:PostD):Value:=.agg p.cells.toArray
def PostD.zero:PostD:=⟨⟨#[]⟩,⟨#[]⟩,0,0,0,⟨#[]⟩,⟨none,0,0⟩,⟨#[]⟩,0,⟨none,0,0⟩,false,[],[]⟩
theorem cells11 (L:List PostD):∀ r∈L.map PostD.cells,r.length=11:=fun r hr=>by
 obtain ⟨c,_,rfl⟩:=List.mem_map.1 hr
 rfl
def edR (p:PostD):Res:=orow 3 1 (.slice p.ed.p p.ed.n p.ed.c) p.ed.n (p.edL.map fun n=>.int .i64 n)
def PostD.can (p:PostD):PostD:={ p with to:=⟨none,0,0⟩,ed:=⟨none,0,0⟩ }
def newP (id:ByteArray) (i:Nat) (a:ActD):PostD:=⟨digV a,id,i,a.kind,a.scope,a.group,⟨none,0,0⟩,a.object,a.time,⟨none,0,0⟩,false,a.toL,[]⟩
def openF (c:ChainD):Nat→List PostD
 | 0=>[]
 | i+1=>openF c i++(bif postK (c.actsL.getD i ActD.zero).kind then [newP c.id i (c.actsL.getD i ActD.zero)] else [])
def posP (P:List PostD) (j:Nat):Option Nat:=P.findIdx? fun p=>p.pos==j
def refV (l:List ActD) (P:List PostD) (i:Nat):Option Nat:=match idxV l (l.getD i ActD.zero).object with
 | some j=>bif decide (j<i) then posP P j else none
 | none=>none
def goneP (p:PostD):PostD:={ p with gone:=true }
def editB (a:ActD) (p:PostD):Bool:=!p.gone&&decide (a.scope=p.scope)&&seqB a.group p.group&&eqL a.toL p.toL
def editP (a:ActD) (i:Nat) (p:PostD):PostD:=bif editB a p then { p with edL:=p.edL++[(i:Int)] } else p
def modP (P:List PostD) (o:Option Nat) (f:PostD→PostD):List PostD:=match o with
 | some n=>P.set n (f (P.getD n PostD.zero))
 | none=>P
def stepP (l:List ActD) (i:Nat) (P:List PostD):List PostD :=
 bif decide ((l.getD i ActD.zero).kind=13) then modP P (refV l P i) goneP else bif decide ((l.getD i ActD.zero).kind=14) then modP P (refV l P i) (editP (l.getD i ActD.zero) i) else P
def ofP (c:ChainD):Nat→List PostD
 | 0=>openF c c.actsL.length
 | i+1=>stepP c.actsL i (ofP c i)
def postsV (c:ChainD):List PostD:=ofP c c.actsL.length
theorem xC (P:List PostD) (j:Nat):posP (P.map PostD.can) j=posP P j:=by
 rw [posP,posP,List.findIdx?_map]
 rfl
theorem pq (l:List ActD) (P:List PostD) (i:Nat):refV l (P.map PostD.can) i=refV l P i:=by
 rw [refV,refV]
 cases idxV l (l.getD i ActD.zero).object with
 | none=>rfl
 | some j=>simp only [xC]
theorem vg (P:List PostD) (n:Nat):(P.map PostD.can).getD n PostD.zero=(P.getD n PostD.zero).can:=by
 rw [List.getD_eq_getElem?_getD,List.getD_eq_getElem?_getD,List.getElem?_map]
 cases P[n]?<;>rfl
theorem jf (c:ChainD):∀ i,(openF c i).length≤i
 | 0=>Nat.le_refl _
 | i+1=>by
  have ih:=jf c i
  rw [openF,List.length_append]
  cases postK (c.actsL.getD i ActD.zero).kind with
  | true=>simp only [cond_true,List.length_singleton];omega
  | false=>simp only [cond_false,List.length_nil];omega
theorem Az {P:List PostD} {j n:Nat} (h:posP P j=some n):n<P.length:=by
 rw [posP,List.findIdx?_eq_some_iff_getElem] at h
 exact h.1
theorem mS (c:ChainD):∀ i,∀ p∈openF c i,p.pos<i
 | 0,p,h=>(List.not_mem_nil h).elim
 | i+1,p,h=>by
  rw [openF] at h
  rcases List.mem_append.1 h with h|h
  · have:=mS c i p h
    omega
  · revert h
    cases postK (c.actsL.getD i ActD.zero).kind with
    | true=>intro h;rw [cond_true,List.mem_singleton] at h;subst h;exact Nat.lt_succ_self i
    | false=>intro h;exact (List.not_mem_nil h).elim
theorem ga {κ β:Type} [KeyT κ]:∀ (b:List (κ×β)) (k a:κ) (v:β),mget (mput b k v) a=bif KeyT.eqb a k then some v else mget b a
 | [],k,a,v=>rfl
 | (k',v')::r,k,a,v=>by
  have ih:=ga r k a v
  simp only [mput]
  cases hk:KeyT.eqb k k' with
  | true =>
   obtain rfl:=(KeyT.eqb_iff k k').1 hk
   simp only [cond_true,mget]
   cases KeyT.eqb a k<;>rfl
  | false =>
   simp only [cond_false,mget,ih]
   cases ha:KeyT.eqb a k' with
   | true =>
    obtain rfl:=(KeyT.eqb_iff a k').1 ha
    have hne:KeyT.eqb a k=false:=by
     rw [←Bool.not_eq_true]
     intro e
     rw [(KeyT.eqb_iff a k).1 e,(KeyT.eqb_iff k k).2 rfl] at hk
     cases hk
    rw [hne]
    rfl
   | false=>rfl
theorem vc {l:List ActD} {k:Nat} {x:ActD} (hx:l[k]?=some x) (d:ByteArray):idxV (l.take (k+1)) d=(idxV (l.take k) d).or (bif seqB (digV x) d then some k else none):=by
 have hk:k<l.length:=(List.getElem?_eq_some_iff.1 hx).1
 have hl:(l.take k).length=k:=by rw [List.length_take];omega
 rw [idxV,idxV,List.take_add_one,hx,Option.toList_some,List.findIdx?_append,hl]
 congr 1
 rw [List.findIdx?_singleton]
 cases seqB (digV x) d with
 | true=>simp
 | false=>simp
theorem pt (P:List PostD) (p:PostD) (j:Nat):posP (P++[p]) j=(posP P j).or (bif p.pos==j then some P.length else none):=by
 rw [posP,posP,List.findIdx?_append]
 congr 1
 rw [List.findIdx?_singleton]
 cases p.pos==j with
 | true=>simp
 | false=>simp
theorem uU {P:List PostD} {j:Nat} (h:∀ p∈P,p.pos≠j):posP P j=none:=by
 rw [posP,List.findIdx?_eq_none_iff]
 intro p hp
 simpa using h p hp
theorem eqbI (a b:Int):KeyT.eqb a b=decide (a=b):=rfl
namespace Sy
section
variable {P:Program} {N:Nat} {av bor:List Nat} {w0:World} {ops:Array Oper} {rest:List Oper} {E:Env} {loc:List Res} {X:World→Prop} {k:St→Prop}
theorem nU {w:World} {b e size m:Nat} {cs:List Value} (h:w.heap[b]?=some (.cells cs.toArray e (0,0))) (hl:cs.length=m*size) (hm:m≤maxLen):ORow w e size (.slice (some ⟨b,0,none⟩) m m) m cs :=
 ⟨hl,.inr ⟨b,m,cs.toArray,(0,0),rfl,h,Nat.le_refl _,hm,by simpa using hl,by rw [←hl];simp,.inl rfl⟩⟩
theorem Gam.orow {w:World} {b e size m:Nat} {cs:List Value} (hl:cs.length=m*size) (hm:m≤maxLen) (G:Gam av bor w0 (cel b e cs::loc) X w):Gam av bor w0 (orow e size (.slice (some ⟨b,0,none⟩) m m) m cs::loc) X w:=by
 have e1:fps (Sy.orow e size (.slice (some ⟨b,0,none⟩) m m) m cs::loc)=fps (cel b e cs::loc):=by simp [fps,Sy.orow,cel,Value.ownBlock]
 refine ⟨G.fr,G.avb,by rw [e1];exact G.nodup,by rw [e1];exact G.own,fun r hr=>?_,by rw [e1];exact G.keep⟩
 rcases List.mem_cons.1 hr with rfl|hr
 · exact dx (nU (G.here _ aU).now hl hm)
 · exact G.here r (List.mem_cons_of_mem _ hr)
theorem nK {b e:Nat} {cs:List Value} (size m:Nat) (hl:cs.length=m*size:=by rfl) (hm:m≤maxLen) (h:Sw P N av bor w0 ops rest ⟨E,orow e size (.slice (some ⟨b,0,none⟩) m m) m cs::loc,X⟩ k):Sw P N av bor w0 ops rest ⟨E,cel b e cs::loc,X⟩ k :=
 Sw.mk fun a w ok=>h.run a w (ok.via fun M G=>G.orow hl hm)
end
end Sy
end Go.Proofs.YtfnjklhjngphmaaGreatDoor
namespace Go.Proofs.YtfnjklhjngphmaaGreatDoor.Sy
open Go Go.Proofs
section
variable {P:Program} {N:Nat} {av bor:List Nat} {w0:World} {st:St} {ty:TypeId} {x y:Operand} {t t2:TypeId}
variable {E:Env} {loc:List Res} {X:World→Prop} {ops:Array Oper} {kk:St→Prop} {n:Nat} {pos:String} {af:Array Edge} {g:Option (Nat×Bool)} {rest:List Oper} {bb want:Bool} {K:Exit→St→Prop} {c:Code}
theorem de {p:Prop} {r:Res} (hm:r∈loc:=by exact bF) (hp:∀ w,r.F w→p) (h:p→Cw P N av bor w0 c ⟨E,loc,X⟩ K):Cw P N av bor w0 c ⟨E,loc,X⟩ K:=Cw.mk fun a w ok=>(h (hp w (ok.gam.here r hm).now)).run a w ok
theorem cR {w:World} {e size n c:Nat} {A:Option Addr} {xs:List Value} (h:ORow w e size (.slice A n c) n xs) (hn:0<n):A.isSome=true:=by
 rcases h.2 with ⟨h1,h2⟩|⟨g,cap,cur,fz,h1,hg,_⟩
 · omega
 · simp only [Value.slice.injEq] at h1
   obtain ⟨rfl,_⟩:=h1
   rfl
theorem iV {e size m i c:Nat} [h:TyAgg P t size] {A:Option Addr} {xs:List (List Value)} {cs:List Value} (hx:ev st.env x=some (elP A (i*size))) (hm:orow e size (.slice A m c) m xs.flatten∈st.loc) (hn:m=xs.length) (hs:∀ r∈xs,r.length=size) (hi:xs[i]?=some cs) :
  Yields P N av bor w0 st (.load t x) ty (.agg cs.toArray):=Sy.Yields.mk fun B w ok d pos af g=>by
 have hr:=bJ (ok.gam.here _ hm).now hn hs
 obtain ⟨h1,hp,hc⟩:=RowsD.row hr i cs hi
 obtain ⟨a,rfl⟩:=Option.isSome_iff_exists.1 hp
 have:=dG (P:=P) (t:=t) h.out (w:=w) (A:=a.add (i*size)) h1 (fun j v hj=>by rw [eP];exact (hc j v hj).2 a rfl)
 simp [execOp,ok.eval hx,elP,Instr.loadAt,Instr.sureAddr,this]
theorem mv (l vs:List Value) (o s M:Nat) (hv:vs.length=s) (h1:o+s≤M) (h2:M≤l.length):(l.take o++vs++l.drop (o+s)).take M=(l.take M).take o++vs++(l.take M).drop (o+s):=by
 have e1:(l.take o++vs).length=o+s:=by rw [List.length_append,List.length_take,hv];omega
 rw [List.take_append,e1,List.take_of_length_le ag,List.take_take,Nat.min_eq_left ag,List.drop_take]
theorem ix (l vs:List Value) (o s M:Nat) (hv:vs.length=s) (h1:o+s≤M) (hl:l.length=M):(l.take o++vs++l.drop (o+s)).length=M:=by
 simp only [List.length_append,List.length_take,List.length_drop,hv,hl]
 omega
theorem xd {d:Option Tmp} {loc':List Res} {e size m i c:Nat} {A:Option Addr} {xs vs xs':List Value} {v:Value} (hsz:(P.info? t).map (·.size)=some size) (hx:ev E x=some (elP A (i*size)):=by rfl) (hy:ev E y=some v:=by rfl) (hv:v.cells.toList=vs) (h1:(vs.all (·.oneCell'))=true:=by rfl) (hvl:vs.length=size) (hi:i<m:=by omega)
  (hxs:xs.take (i*size)++vs++xs.drop (i*size+size)=xs') (hA:At (orow e size (.slice A m c) m xs) (orow e size (.slice A m c) m xs') loc loc':=by (repeat (first|exact At.here _|apply At.there))) (hg:gdB ops E g=some (bb,want):=by rfl) (hb:bb=want:=by exact aR) (hd:inB N d=true:=by rfl)
  (h:Sw P N av bor w0 ops rest ⟨putE E d undef,loc',X⟩ kk):Sw P N av bor w0 ops (⟨d,.store t x y,ty,pos,af,g⟩::rest) ⟨E,loc,X⟩ kk:=Sw.mk fun a w ok=>by
 have ho:ORow w e size (.slice A m c) m xs:=(ok.gam.here _ hA.mem).now
 rcases ho.2 with ⟨_,h0⟩|⟨b,cap,cur,fz,hs,hb',hnc,hcm,hcs,htake,hfz⟩
 · omega
 simp only [Value.slice.injEq] at hs
 obtain ⟨rfl,_,rfl⟩:=hs
 have hm1:i*size+size≤m*size:=by rw [←Nat.succ_mul];exact Nat.mul_le_mul_right _ hi
 have hm2:m*size≤cur.size:=by rw [hcs];exact Nat.mul_le_mul_right _ hnc
 have hst:=dQ P b (i*size) e fz vs 0 cur w hb' hfz ag (by simpa using h1)
 have hadd:(⟨b,0,none⟩:Addr).add (i*size)=⟨b,i*size,none⟩:=by unfold Addr.add;split<;>simp_all
 simp only [wpList]
 rw [cj ok (o:=⟨d,.store t x y,ty,pos,af,g⟩) hg]
 subst hb
 simp only [beq_self_eq_true,if_true]
 left
 unfold Oper.wp
 have hs:v.cells.size=size:=by rw [←hvl,←hv];simp
 generalize hnew:(cur.toList.take (i*size)++vs++cur.toList.drop (i*size+size)).toArray=new at *
 have hr:(execOp a.eval ⟨d,.store t x y,ty,pos,af,g⟩).run P w=.ok .skip (w.setRow b new):=by
  simp only [Nat.add_zero,hvl,hnew] at hst
  simp [execOp,ok.eval (st:=⟨E,loc,X⟩) hx,ok.eval (st:=⟨E,loc,X⟩) hy,elP,hadd,Instr.storeAt,Instr.sureAddr,storeVar,run_sizeOf hsz,hs,hv,hst]
 rw [hr]
 have hsn:new.size=cur.size:=by
  rw [←hnew]
  simpa using ix cur.toList vs (i*size) size cur.size hvl ag (by simp)
 have ho':ORow (w.setRow b new) e size (.slice (some ⟨b,0,none⟩) m c) m xs':=by
  refine ⟨by rw [←hxs];exact ix xs vs (i*size) size (m*size) hvl hm1 ho.1,.inr ⟨b,c,new,fz,rfl,Go.setRow_heap w b cur new e fz hb',hnc,hcm,hsn.trans hcs,?_,by rw [hsn];exact hfz⟩⟩
  rw [←hnew,←hxs,←htake]
  exact mv cur.toList vs (i*size) size (m*size) hvl hm1 (by simpa using hm2)
 have ok':Ok N av bor w0 ⟨E,loc',X⟩ a (w.setRow b new):=(ok.via fun M G=>G.swap (hA.app M) rfl rfl rfl (by rw [Go.setRow_size];exact Nat.le_refl _) (fun j _ hj=>Go.setRow_other w b j new (by rintro rfl;exact hj (by simp [orow,Value.ownBlock]))) (by simp [orow,Value.ownBlock]) (fun j hj=>by
  have hj:j=b:=by simpa [orow,Value.ownBlock] using hj
  subst hj
  exact ⟨by rw [Go.setRow_size];exact (Array.getElem?_eq_some_iff.1 hb').1,.inl (by simp [orow,Value.ownBlock])⟩) (dx ho'))
 exact h.run _ _ (di d _▸ok'.put hd _)
end
end Go.Proofs.YtfnjklhjngphmaaGreatDoor.Sy
namespace Go.Proofs.YtfnjklhjngphmaaGreatDoor
open Go Go.Proofs Sy
abbrev postR (s:SlV) (P:List PostD):Res:=orow 84 11 (.slice s.p s.n s.c) s.n (P.map PostD.cells).flatten
theorem iJ:∀ (L:List PostD) (p:Nat) (x:PostD),p<L.length→(L.map PostD.cells).flatten.take (p*11)++x.cells++(L.map PostD.cells).flatten.drop (p*11+11)=((L.set p x).map PostD.cells).flatten
 | [],p,x,h=>absurd h (by simp)
 | c::L,0,x,h=>by
  have h6:c.cells.length=11:=rfl
  rw [List.set_cons_zero,List.map_cons,List.map_cons,List.flatten_cons,List.flatten_cons,Nat.zero_mul,Nat.zero_add,List.take_zero,List.nil_append,List.drop_append,h6,List.drop_of_length_le (by omega)]
  rfl
 | c::L,p+1,x,h=>by
  have h6:c.cells.length=11:=rfl
  have ih:=iJ L p x (by simpa using h)
  rw [List.set_cons_succ,List.map_cons,List.map_cons,List.flatten_cons,List.flatten_cons,←ih,List.take_append,List.drop_append,h6,List.take_of_length_le ag,List.drop_of_length_le ag,
   show (p+1)*11-11=p*11 from by omega,show (p+1)*11+11-11=p*11+11 from by omega,List.nil_append,List.append_assoc,List.append_assoc,List.append_assoc]
theorem gC {P:List PostD} {i j:Nat} {x y:PostD} (hi:P[i]?=some x) (hj:P[j]?=some y):((P.set i y).set j x).Perm P:=by
 obtain ⟨h1,rfl⟩:=List.getElem?_eq_some_iff.1 hi
 obtain ⟨h2,rfl⟩:=List.getElem?_eq_some_iff.1 hj
 exact List.set_set_perm h1 h2
namespace Sy
section
variable {N:Nat} {av bor:List Nat} {w0:World} {st:St} {ty:TypeId} {x y:Operand} {E:Env} {loc:List Res} {X:World→Prop} {ops:Array Oper} {kk:St→Prop} {pos:String} {af:Array Edge} {g:Option (Nat×Bool)} {rest:List Oper} {bb want:Bool}
theorem cX {A:Option Addr} {m c i:Nat} {P:List PostD} {p:PostD} (hx:ev st.env x=some (elP A (i*11))) (hm:orow 84 11 (.slice A m c) m (P.map PostD.cells).flatten∈st.loc) (hn:m=P.length) (hi:P[i]?=some p) :
  Yields Tryz.prog N av bor w0 st (.load 84 x) ty p.v:=iV (xs:=P.map PostD.cells) (cs:=p.cells) hx hm (by simp [hn]) (cells11 P) (by simp [hi])
theorem dT {d:Option Tmp} {loc':List Res} {A:Option Addr} {m c i:Nat} {P:List PostD} {p:PostD} (hx:ev E x=some (elP A (i*11)):=by rfl) (hy:ev E y=some p.v:=by rfl) (hi:i<m:=by omega) (hn:m=P.length)
  (hA:At (orow 84 11 (.slice A m c) m (P.map PostD.cells).flatten) (orow 84 11 (.slice A m c) m ((P.set i p).map PostD.cells).flatten) loc loc':=by (repeat (first|exact At.here _|apply At.there))) (hg:gdB ops E g=some (bb,want):=by rfl) (hb:bb=want:=by exact aR) (hd:inB N d=true:=by rfl)
  (h:Sw Tryz.prog N av bor w0 ops rest ⟨putE E d undef,loc',X⟩ kk):Sw Tryz.prog N av bor w0 ops (⟨d,.store 84 x y,ty,pos,af,g⟩::rest) ⟨E,loc,X⟩ kk :=
 xd (i:=i) (size:=11) (vs:=p.cells) ar hx hy rfl rfl rfl hi (iJ P i p ag) hA hg hb hd h
variable {n:Nat} {t t2:TypeId}
theorem dF [hI:TyInt Tryz.prog t .i64] {p q:Nat} (h:Sw Tryz.prog N av bor w0 ops rest ⟨(n,.int .i64 ((p+q:Nat):Int))::E,loc,X⟩ kk) (hx:ev E x=some (.int .i64 (p:Nat)):=by rfl) (hy:ev E y=some (.int .i64 (q:Nat)):=by rfl) (hq:p+q<9223372036854775808) (hg:gdB ops E g=some (bb,want):=by rfl) (hbb:bb=want:=by exact aR) (hd:Nat.blt n N=true:=by rfl) :
  Sw Tryz.prog N av bor w0 ops (⟨some n,.binOp .add t x y t2,ty,pos,af,g⟩::rest) ⟨E,loc,X⟩ kk:=bm (c:=((p+q:Nat):Int)) hx hy (by rw [←Int.natCast_add];exact IntWalk.i64_in _ ag) hg hbb hd h
theorem dW [hI:TyInt Tryz.prog t .i64] {p q:Nat} (h:Sw Tryz.prog N av bor w0 ops rest ⟨(n,.int .i64 ((p-q:Nat):Int))::E,loc,X⟩ kk) (hx:ev E x=some (.int .i64 (p:Nat)):=by rfl) (hy:ev E y=some (.int .i64 (q:Nat)):=by rfl) (hq:q≤p∧p<9223372036854775808) (hg:gdB ops E g=some (bb,want):=by rfl) (hbb:bb=want:=by exact aR) (hd:Nat.blt n N=true:=by rfl) :
  Sw Tryz.prog N av bor w0 ops (⟨some n,.binOp .sub t x y t2,ty,pos,af,g⟩::rest) ⟨E,loc,X⟩ kk:=cJ (c:=((p-q:Nat):Int)) hx hy (by rw [show (p:Int)-(q:Int)=((p-q:Nat):Int) by omega];exact IntWalk.i64_in _ ag) hg hbb hd h
end
end Sy
def PermAt (s:SlV) (P:List PostD) (u:Value) (R:List Res) (X:World→Prop):Prop:=u=.tuple #[]∧∃ Q:List PostD,Q.Perm P∧R=[postR s Q]
structure PermI (P:List PostD) (n:Nat) where
 k:Nat
 hk:k≤n
 Q:List PostD
 hQ:Q.Perm P
set_option maxHeartbeats 4000000 in
theorem fQ (s:SlV) (P:List PostD) (a b n:Nat) (fv:Value) (hs:s.n=P.length) (hm:s.n≤1000000) (ha:a+n≤s.n) (hb:b+n≤s.n) :
  Ct Tryz.prog 338 #[s.v,.int .i64 (a:Nat),.int .i64 (b:Nat),.int .i64 (n:Nat),fv] [postR s P] (fun _=>True) (PermAt s P):=by
 refine cB (args:=[_,_,_,_,_]) _ Tryz.func338 rfl Tryz.ntmps338 rfl fun av bor w0=>?_
 refine de (r:=postR s P) aU (p:=0<s.n→s.p.isSome=true) (fun w h hn=>cR h hn) fun hp=>?_
 repeat' (first|apply ab|apply aj|apply ai|refine ac ?_|apply aw|fail)
 refine be (ι:=PermI P n) (fun i=>⟨[(0,s.v),(1,.int .i64 (a:Nat)),(2,.int .i64 (b:Nat)),(3,.int .i64 (n:Nat)),(10,.int .i64 (i.k:Nat))],[postR s i.Q],fun _=>True⟩) (fun i=>n-i.k) ⟨0,Nat.zero_le _,P,List.Perm.refl _⟩ (aF ⟨rfl,rfl,rfl,rfl,rfl,trivial⟩ (aQ _) fun _ h=>h) fun i=>?_
 obtain ⟨k,hk,Q,hQ⟩:=i
 simp only
 have hl:=hQ.length_eq
 repeat' (first|apply ab|apply aj|apply ai|refine ae ?_|refine bu ?_|apply ay|apply aw|apply aV|(refine aO (ht:=?_) (hf:=?_);all_goals (intro hx_;first|have:=aY hx_|have:=aZ hx_)))
 · have hlt:k<n:=by omega
   have hp':=hp ag
   obtain ⟨x,hx⟩:∃ x,Q[a+k]?=some x:=⟨_,List.getElem?_eq_getElem ag⟩
   obtain ⟨y,hy⟩:∃ y,Q[b+k]?=some y:=⟨_,List.getElem?_eq_getElem ag⟩
   (refine bo [] (fun _=>True) ar ?_)
   all_goals refine aa 0 ?_
   all_goals refine aa 1 ?_
   all_goals refine aa 2 ?_
   all_goals refine aa 3 ?_
   all_goals refine aa 4 ?_
   all_goals refine aa 5 ?_
   all_goals refine aa 6 ?_
   all_goals refine aa 7 ?_
   all_goals refine aa 8 ?_
   all_goals refine aa 9 ?_
   all_goals refine aa 10 ?_
   all_goals refine aa 11 ?_
   all_goals (refine aa 12 (hy:=by (apply bp (q:=(b+k)*11);rfl;rfl;omega;omega;assumption;(rfl))) ?_)
   all_goals refine aa 14 ?_
   all_goals refine aa 15 ?_
   all_goals refine aa 16 ?_
   all_goals refine aa 17 ?_
   all_goals (refine aa 18 (hy:=by (apply bp (q:=(a+k)*11);rfl;rfl;omega;omega;assumption;(rfl))) ?_)
   all_goals (refine bS 13 19 (h:=?_) (h':=?_);(focus (((refine ax (cX (i:=b+k) (P:=Q) rfl aU ag hy) rfl rfl rfl ?_);apply ab;refine ak ?_);all_goals ((refine ao 19 ?_;(refine ax (cX (i:=a+k) (P:=Q) rfl aU ag hx) rfl rfl rfl ?_);apply ab;refine ak ?_);all_goals (refine aa 20 (hy:=by (apply bp (q:=(a+k)*11);rfl;rfl;omega;omega;assumption;(rfl))) ?_);all_goals (refine ao 21 ?_;(refine dT (i:=a+k) (p:=y) rfl rfl ag ag (At.here _) rfl aR rfl ?_);apply ab;refine ak ?_);all_goals (refine aa 22 (hy:=by (apply bp (q:=(b+k)*11);rfl;rfl;omega;omega;assumption;(rfl))) ?_);all_goals (refine ao 23 ?_;(refine dT (i:=b+k) (p:=x) rfl rfl ag (by (simp only [List.length_set];omega)) (At.here _) rfl aR rfl ?_);apply ab;refine ak ?_);all_goals (refine aI ?_))));rotate_right;(focus (((refine ax (cX (i:=a+k) (P:=Q) rfl aU ag hx) rfl rfl rfl ?_);apply ab;refine ak ?_);all_goals ((refine ao 13 ?_;(refine ax (cX (i:=b+k) (P:=Q) rfl aU ag hy) rfl rfl rfl ?_);apply ab;refine ak ?_);all_goals (refine aa 20 (hy:=by (apply bp (q:=(a+k)*11);rfl;rfl;omega;omega;assumption;(rfl))) ?_);all_goals (refine ao 21 ?_;(refine dT (i:=a+k) (p:=y) rfl rfl ag ag (At.here _) rfl aR rfl ?_);apply ab;refine ak ?_);all_goals (refine aa 22 (hy:=by (apply bp (q:=(b+k)*11);rfl;rfl;omega;omega;assumption;(rfl))) ?_);all_goals (refine ao 23 ?_;(refine dT (i:=b+k) (p:=x) rfl rfl ag (by (simp only [List.length_set];omega)) (At.here _) rfl aR rfl ?_);apply ab;refine ak ?_);all_goals (refine aI ?_)))))
   all_goals
    repeat' (first|apply ab|apply ai|refine ae ?_|refine ac ?_|refine bm (h:=?_)|fail)
    exact ⟨(⟨k+1,hlt,(Q.set (a+k) y).set (b+k) x,(gC hx hy).trans hQ⟩:PermI P n),(by show n-(k+1)<n-k;omega),aF ⟨rfl,rfl,rfl,rfl,rfl,trivial⟩ (aQ _) fun _ h=>h⟩
 · exact cb (bP rfl) ⟨rfl,Q,hQ,rfl⟩
section
variable {N:Nat} {av bor:List Nat} {w0:World} {ops:Array Oper} {rest:List Oper} {k:St→Prop} {E:Env} {X:World→Prop} {d:Option Tmp} {ty:TypeId} {pos:String} {af:Array Edge} {g:Option (Nat×Bool)} {bb want:Bool}
theorem fw {x:Operand} {xs:List Operand} {ats:Array TypeId} {f:FuncId} {args:List Value} {s:SlV} {Q:List PostD}
  (hx:ev E x=some (.func (.func f) #[] #[]):=by rfl) (ha:evs E xs=some args:=by rfl) (hg:gdB ops E g=some (bb,want):=by rfl) (hb:bb=want:=by exact aR) (hd:inB N d=true:=by rfl) (hf:FnBody Tryz.prog f:=by infer_instance)
  (hc:Ct Tryz.prog f args.toArray [postR s Q] (fun _=>True) (PermAt s Q))
  (h:∀ Q':List PostD,Q'.Perm Q→Sw Tryz.prog N av bor w0 ops rest ⟨putE E d (.tuple #[]),[postR s Q'],X⟩ k) :
  Sw Tryz.prog N av bor w0 ops (⟨d,.call ⟨.value x,xs.toArray,ats⟩,ty,pos,af,g⟩::rest) ⟨E,[postR s Q],X⟩ k :=
 dj (pre:=[postR s Q]) (fr:=[]) (first:=#[]) (caps:=#[]) (Post:=PermAt s Q) hx ha rfl hg hb hd hf (by simpa using hc) (fun _ _=>trivial) fun u R X' ⟨h1,Q',h2,h3⟩=>by
  subst h1
  subst h3
  refine r8 (fun a w ok=>?_) (h Q' h2)
  exact ok.via fun M G=>G.imp fun _ h=>h.1
end
structure RotI (P:List PostD) (p q:Nat) where
 i:Nat
 j:Nat
 h1:1≤i
 h2:i≤p
 h3:1≤j
 h4:j≤q
 Q:List PostD
 hQ:Q.Perm P
set_option maxHeartbeats 4000000 in
theorem uS (s:SlV) (P:List PostD) (a m b:Nat) (fv:Value) (hs:s.n=P.length) (hm:s.n≤1000000) (ha:a<m) (hb:m<b) (hbs:b≤s.n) :
  Ct Tryz.prog 309 #[s.v,.int .i64 (a:Nat),.int .i64 (m:Nat),.int .i64 (b:Nat),fv] [postR s P] (fun _=>True) (PermAt s P):=by
 refine cB (args:=[_,_,_,_,_]) _ Tryz.func309 rfl Tryz.ntmps309 rfl fun av bor w0=>?_
 repeat' (first|refine dW (hq:=by omega) ?_|apply ab|apply aj|apply ai|refine ae ?_|refine ac ?_|apply aw|fail)
 refine be (ι:=RotI P (m-a) (b-m)) (fun r=>⟨[(0,s.v),(2,.int .i64 (m:Nat)),(4,fv),(10,.int .i64 (r.i:Nat)),(11,.int .i64 (r.j:Nat))],[postR s r.Q],fun _=>True⟩) (fun r=>r.i+r.j) ⟨m-a,b-m,by omega,by omega,by omega,by omega,P,List.Perm.refl _⟩ (aF ⟨rfl,rfl,rfl,rfl,rfl,trivial⟩ (aQ _) fun _ h=>h) fun r=>?_
 obtain ⟨i,j,h1,h2,h3,h4,Q,hQ⟩:=r
 simp only
 have hl:=hQ.length_eq
 by_cases hij:i=j
 · repeat' (first|refine fN (hab:=by omega) ?_|refine dW (hq:=by omega) ?_|apply ab|apply aj|apply ai|refine ae ?_|refine aD ?_|apply aV|(refine fw (hc:=fQ s Q (m-i) m i fv ag hm ag ag) (h:=fun Q2 hQ2=>?_))|fail)
   exact cb (bP rfl) ⟨rfl,Q2,hQ2.trans hQ,rfl⟩
 · repeat' (first|refine dW (hq:=by omega) ?_|refine dF (hq:=by omega) ?_|apply ab|apply aj|apply ai|refine ae ?_|refine ac ?_|refine cZ ?_|refine cP ?_|apply ay|apply aw|apply aV|(refine fw (hc:=fQ s Q (m-i) m j fv ag hm ag ag) (h:=fun Q2 hQ2=>?_))|(refine fw (hc:=fQ s Q (m-i) (m+j-i) i fv ag hm ag ag) (h:=fun Q2 hQ2=>?_))|(refine aO (ht:=?_) (hf:=?_);all_goals (intro hx_;first|have:=aY hx_|have:=aZ hx_|skip)))
   · exact ⟨(⟨i-j,j,by omega,by omega,h3,h4,Q2,hQ2.trans hQ⟩:RotI P (m-a) (b-m)),(by show i-j+j<i+j;omega),aF ⟨rfl,rfl,rfl,rfl,rfl,trivial⟩ (aQ _) fun _ h=>h⟩
   · exact ⟨(⟨i,j-i,h1,h2,by omega,by omega,Q2,hQ2.trans hQ⟩:RotI P (m-a) (b-m)),(by show i+(j-i)<i+j;omega),aF ⟨rfl,rfl,rfl,rfl,rfl,trivial⟩ (aQ _) fun _ h=>h⟩
   · have h9:(i:Int)=(j:Int):=by simpa using hx_
     exact absurd (show i=j by omega) hij
def cmpB (x y:ByteArray):Int:=bif Op.bytesLess x.toList y.toList then -1 else bif !(Op.bytesLess x.toList y.toList||seqB x y) then 1 else 0
theorem yu (x:ByteArray):Pu Tryz.prog 200 #[.string x] (fun _=>True) (.bool false):=by
 refine aN (args:=[_]) _ Tryz.func200 rfl Tryz.ntmps200 rfl fun av bor w0=>?_
 have h:=cG x
 repeat' (first|apply ab|apply aj|apply ai|refine ae ?_|refine ac ?_|refine dp ?_|apply aA|fail)
 apply aq;apply aB;rfl;rfl
 rw [h]
 rfl
theorem rr (x y:ByteArray):Pu Tryz.prog 118 #[.string x,.string y] (fun _=>True) (.int .i64 (cmpB x y)):=by
 refine aN (args:=[_,_]) _ Tryz.func118 rfl Tryz.ntmps118 rfl fun av bor w0=>?_
 repeat' (first|apply ab|apply aj|apply ai|refine ae ?_|refine ac ?_|refine aD ?_|apply ay|apply aA|refine aC (hc:=yu _) ?_|(refine zR ?_)|(refine zV ?_)|(refine aO (ht:=?_) (hf:=?_);all_goals (intro hx_;skip)))
 (all_goals (apply aq;apply aB;rfl;rfl));all_goals first|(simp only [cmpB, *,decide_true,decide_false,cond_true,cond_false,Bool.and_true,Bool.true_and,Bool.and_false,Bool.false_and,Bool.not_true,Bool.not_false,Bool.or_true,Bool.true_or,Bool.or_false,Bool.false_or];done)|(simp_all [cmpB];done)
theorem ou (x y:PostD):Pu Tryz.prog 130 #[x.v,y.v] (fun _=>True) (.int .i64 (cmpB x.id y.id)):=by
 refine aN (args:=[_,_]) _ Tryz.func130 rfl Tryz.ntmps130 rfl fun av bor w0=>?_
 have h:=rr x.id y.id
 generalize cmpB x.id y.id=k at *
 repeat' (first|apply ab|apply aj|apply ai|refine ac ?_|refine aM ?_|refine aL ?_|refine aT fun _=>?_|apply aA|(refine aC (hc:=h) (hX:=fun _ _=>trivial) ?_)|fail)
 exact aq (aB rfl rfl) rfl
def cmpF:Value:=.func (.func 130) #[] #[]
end Go.Proofs.YtfnjklhjngphmaaGreatDoor
namespace Go.Proofs.YtfnjklhjngphmaaGreatDoor
open Go Go.Proofs Sy
instance:TyMap Tryz.prog 239 3 (keyD Int):=⟨ar⟩
instance:TyMap Tryz.prog 94 3 (keyD ByteArray):=⟨ar⟩
structure RegI (c:ChainD) where
 k:Nat
 hk:k≤c.actsL.length
 P:List PostD
 hP:P.map PostD.can=openF c k
 hz:∀ p∈P,p.ed=⟨none,0,0⟩∧p.edL=[]
 pl:List (ByteArray×Value)
 hpl:∀ d,mget pl d=(idxV (c.actsL.take k) d).map fun (j:Nat)=>Value.int .i64 (j:Int)
 num:List (Int×Value)
 hnum:∀ j:Nat,mget num (j:Int)=(posP P j).map fun (n:Nat)=>Value.int .i64 (n:Int)
 n:Nat
 hn:n=P.length
 xs:List Value
 hxs:xs=(P.map PostD.cells).flatten
 A:Option Addr
 cp:Nat
def RegI.s {c:ChainD} (r:RegI c):SlV:=⟨r.A,r.n,r.cp⟩
def regC (c:ChainD) (u:Value) (q1 q2:Nat):List Value:=c.cells++[u,.map (some q1),.map (some q2)]
def RegAt (c:ChainD) (u:Value) (R:List Res) (X:World→Prop):Prop:=∃ (r:RegI c) (b b1 q1 q2:Nat),r.k=c.actsL.length∧u=.pointer (some ⟨b,0,none⟩)∧R=[cel b 241 (regC c r.s.v q1 q2),mapr q2 r.pl,mapr q1 r.num,cel b1 31 c.cells,postR r.s r.P]∧∀ w,X w→∀ p∈r.P,Strs w p.to p.toL
end Go.Proofs.YtfnjklhjngphmaaGreatDoor
namespace Go.Proofs.YtfnjklhjngphmaaGreatDoor
open Go Go.Proofs Sy
theorem gM:∀ (L:List PostD) (n j:Nat) (p p':PostD) (v:Value),L[n]?=some p→j<11→p'.cells=p.cells.take j++[v]++p.cells.drop (j+1)→(L.map PostD.cells).flatten.take (n*11+j)++[v]++(L.map PostD.cells).flatten.drop (n*11+j+1)=((L.set n p').map PostD.cells).flatten
 | [],n,j,p,p',v,h,_,_=>by simp at h
 | c::L,0,j,p,p',v,h,hj,hc=>by
  have h6:c.cells.length=11:=rfl
  obtain rfl:c=p:=by simpa using h
  rw [List.set_cons_zero,List.map_cons,List.map_cons,List.flatten_cons,List.flatten_cons,Nat.zero_mul,Nat.zero_add,List.take_append_of_le_length ag,List.drop_append_of_le_length ag,hc,List.append_assoc,List.append_assoc,List.append_assoc]
 | c::L,n+1,j,p,p',v,h,hj,hc=>by
  have h6:c.cells.length=11:=rfl
  have ih:=gM L n j p p' v (by simpa using h) hj hc
  rw [List.set_cons_succ,List.map_cons,List.map_cons,List.flatten_cons,List.flatten_cons,←ih,List.take_append,List.drop_append,h6,List.take_of_length_le ag,List.drop_of_length_le ag,
   show (n+1)*11+j-11=n*11+j from by omega,show (n+1)*11+j+1-11=n*11+j+1 from by omega,List.nil_append,List.append_assoc,List.append_assoc,List.append_assoc]
namespace Sy
section
variable {N:Nat} {av bor:List Nat} {w0:World} {st:St} {ty:TypeId} {x y:Operand} {E:Env} {loc:List Res} {X:World→Prop} {ops:Array Oper} {kk:St→Prop} {pos:String} {af:Array Edge} {g:Option (Nat×Bool)} {rest:List Oper} {bb want:Bool} {t:TypeId}
theorem d4 {A:Option Addr} {q:Nat} {ad:Addr} (hx:ev st.env x=some (elP A q)) (hp:A=some ad):Yields Tryz.prog N av bor w0 st (.nilCheck x) ty (elP A q):=by
 subst hp
 exact fL (a:=ad.add q) hx
theorem nF {n:Nat} {A:Option Addr} {q:Nat} {ad:Addr} (h:Sw Tryz.prog N av bor w0 ops rest ⟨(n,elP A q)::E,loc,X⟩ kk) (hx:ev E x=some (elP A q):=by rfl) (hp:A=some ad) (hg:gdB ops E g=some (bb,want):=by rfl) (hbb:bb=want:=by exact aR) (hd:Nat.blt n N=true:=by rfl) :
  Sw Tryz.prog N av bor w0 ops (⟨some n,.nilCheck x,ty,pos,af,g⟩::rest) ⟨E,loc,X⟩ kk:=ax (d4 hx hp) hg hbb hd h
theorem d5 [h:TyOne Tryz.prog t] {A:Option Addr} {m c i j:Nat} {P:List PostD} {p:PostD} {u:Value} (hx:ev st.env x=some (elP A (i*11+j))) (hm:orow 84 11 (.slice A m c) m (P.map PostD.cells).flatten∈st.loc) (hn:m=P.length) (hi:P[i]?=some p) (hj:p.cells[j]?=some u) :
  Yields Tryz.prog N av bor w0 st (.load t x) ty u:=Sy.Yields.mk fun B w ok d pos af g=>by
 have hr:=bJ (ok.gam.here _ hm).now (by simp [hn]) (cells11 P)
 obtain ⟨h1,hp,hc⟩:=RowsD.row hr i p.cells (by simp [hi])
 obtain ⟨a,rfl⟩:=Option.isSome_iff_exists.1 hp
 simp [execOp,ok.eval hx,elP,Instr.loadAt,Instr.sureAddr,loadVar,(cE h.out w).1,(hc j u hj).2 a rfl]
theorem B8 {P:Program} {d:Option Tmp} {loc':List Res} {e size m q c:Nat} {A:Option Addr} {xs xs':List Value} {v:Value} (hsz:(P.info? t).map (·.size)=some 1) (hx:ev E x=some (elP A q):=by rfl) (hy:ev E y=some v:=by rfl) (hv:v.cells.toList=[v]) (h1:v.oneCell'=true:=by rfl) (hq:q<m*size)
  (hxs:xs.take q++[v]++xs.drop (q+1)=xs') (hA:At (orow e size (.slice A m c) m xs) (orow e size (.slice A m c) m xs') loc loc':=by (repeat (first|exact At.here _|apply At.there))) (hg:gdB ops E g=some (bb,want):=by rfl) (hb:bb=want:=by exact aR) (hd:inB N d=true:=by rfl)
  (h:Sw P N av bor w0 ops rest ⟨putE E d undef,loc',X⟩ kk):Sw P N av bor w0 ops (⟨d,.store t x y,ty,pos,af,g⟩::rest) ⟨E,loc,X⟩ kk:=Sw.mk fun a w ok=>by
 have ho:ORow w e size (.slice A m c) m xs:=(ok.gam.here _ hA.mem).now
 rcases ho.2 with ⟨_,h0⟩|⟨b,cap,cur,fz,hs,hb',hnc,hcm,hcs,htake,hfz⟩
 · rw [h0] at hq
   omega
 simp only [Value.slice.injEq] at hs
 obtain ⟨rfl,_,rfl⟩:=hs
 have hm2:m*size≤cur.size:=by rw [hcs];exact Nat.mul_le_mul_right _ hnc
 have hst:=dQ P b q e fz [v] 0 cur w hb' hfz (by simp;omega) (by simpa using h1)
 have hadd:(⟨b,0,none⟩:Addr).add q=⟨b,q,none⟩:=by unfold Addr.add;split<;>simp_all
 simp only [wpList]
 rw [cj ok (o:=⟨d,.store t x y,ty,pos,af,g⟩) hg]
 subst hb
 simp only [beq_self_eq_true,if_true]
 left
 unfold Oper.wp
 have hs:v.cells.size=1:=by have:=congrArg List.length hv;simpa using this
 generalize hnew:(cur.toList.take q++[v]++cur.toList.drop (q+1)).toArray=new at *
 have hr:(execOp a.eval ⟨d,.store t x y,ty,pos,af,g⟩).run P w=.ok .skip (w.setRow b new):=by
  try simp only [Nat.add_zero,List.length_singleton,hnew] at hst
  simp [execOp,ok.eval (st:=⟨E,loc,X⟩) hx,ok.eval (st:=⟨E,loc,X⟩) hy,elP,hadd,Instr.storeAt,Instr.sureAddr,storeVar,run_sizeOf hsz,hs,hv,hst]
 rw [hr]
 have hsn:new.size=cur.size:=by
  rw [←hnew]
  simpa using ix cur.toList [v] q 1 cur.size rfl ag (by simp)
 have ho':ORow (w.setRow b new) e size (.slice (some ⟨b,0,none⟩) m c) m xs':=by
  refine ⟨by rw [←hxs];exact ix xs [v] q 1 (m*size) rfl ag ho.1,.inr ⟨b,c,new,fz,rfl,Go.setRow_heap w b cur new e fz hb',hnc,hcm,hsn.trans hcs,?_,by rw [hsn];exact hfz⟩⟩
  rw [←hnew,←hxs,←htake]
  exact mv cur.toList [v] q 1 (m*size) rfl ag (by simpa using hm2)
 have ok':Ok N av bor w0 ⟨E,loc',X⟩ a (w.setRow b new):=(ok.via fun M G=>G.swap (hA.app M) rfl rfl rfl (by rw [Go.setRow_size];exact Nat.le_refl _) (fun j _ hj=>Go.setRow_other w b j new (by rintro rfl;exact hj (by simp [orow,Value.ownBlock]))) (by simp [orow,Value.ownBlock]) (fun j hj=>by
  have hj:j=b:=by simpa [orow,Value.ownBlock] using hj
  subst hj
  exact ⟨by rw [Go.setRow_size];exact (Array.getElem?_eq_some_iff.1 hb').1,.inl (by simp [orow,Value.ownBlock])⟩) (dx ho'))
 exact h.run _ _ (di d _▸ok'.put hd _)
theorem sd {d:Option Tmp} {loc':List Res} {A:Option Addr} {m c i j:Nat} {P:List PostD} (p':PostD) {p:PostD} {v:Value} (hi:P[i]?=some p) (hj:j<11) (hc:p'.cells=p.cells.take j++[v]++p.cells.drop (j+1)) (hn:m=P.length) (hsz:(Tryz.prog.info? t).map (·.size)=some 1) (hx:ev E x=some (elP A (i*11+j)):=by rfl) (hy:ev E y=some v:=by rfl) (hv:v.cells.toList=[v]) (h1:v.oneCell'=true:=by rfl)
  (hA:At (orow 84 11 (.slice A m c) m (P.map PostD.cells).flatten) (orow 84 11 (.slice A m c) m ((P.set i p').map PostD.cells).flatten) loc loc':=by (repeat (first|exact At.here _|apply At.there))) (hg:gdB ops E g=some (bb,want):=by rfl) (hb:bb=want:=by exact aR) (hd:inB N d=true:=by rfl)
  (h:Sw Tryz.prog N av bor w0 ops rest ⟨putE E d undef,loc',X⟩ kk):Sw Tryz.prog N av bor w0 ops (⟨d,.store t x y,ty,pos,af,g⟩::rest) ⟨E,loc,X⟩ kk:=by
 have hil:=(List.getElem?_eq_some_iff.1 hi).1
 exact B8 hsz hx hy hv h1 ag (gM P i j p p' v hi hj hc) hA hg hb hd h
end
end Sy
end Go.Proofs.YtfnjklhjngphmaaGreatDoor
namespace Go.Proofs.YtfnjklhjngphmaaGreatDoor
open Go Go.Proofs Sy
section
variable {P:Program} {N:Nat} {av bor:List Nat} {w0:World} {st:St} {ty:TypeId} {x y:Operand} {t t2:TypeId} {k:IntKind}
theorem nu {a b:Int} (v:Bool) (hx:ev st.env x=some (.int k a)) (hy:ev st.env y=some (.int k b)) (hv:decide (a=b)=v):Sy.Yields P N av bor w0 st (.binOp .eql t x y t2) ty (.bool v):=hv▸kp hx hy
theorem nr {a b:ByteArray} (v:Bool) (hx:ev st.env x=some (.string a)) (hy:ev st.env y=some (.string b)) (hv:seqB a b=v):Sy.Yields P N av bor w0 st (.binOp .eql t x y t2) ty (.bool v):=hv▸kg hx hy
end
def NoteAt (r:Res) (s:SlV) (P:List PostD) (i:Nat) (p p1:PostD) (u:Value) (R:List Res) (X:World→Prop):Prop:=u=.tuple #[]∧∃ (p':PostD) (ex:List Res),p'.can=p1.can∧p'.to=p.to∧p'.toL=p.toL∧R=ex++[r,postR s (P.set i p'),edR p']
theorem eD {P:List PostD} {i:Nat} {p:PostD} (h:P[i]?=some p):P.set i p=P:=by
 obtain ⟨h1,rfl⟩:=List.getElem?_eq_some_iff.1 h
 exact List.set_getElem_self h1
theorem pg {X:World→Prop} (r:Res) (s:SlV) (P:List PostD) (i:Nat) (p:PostD) (u:Value) (k:Nat) (hs:s.n=P.length) (hi:P[i]?=some p):Ct Tryz.prog 211 #[u,elP s.p (i*11),.int .i64 (k:Nat)] [r,postR s P,edR p] X (NoteAt r s P i p (goneP p)):=by
 refine cB (args:=[_,_,_]) _ Tryz.func211 rfl Tryz.ntmps211 rfl fun av bor w0=>?_
 have hil:=(List.getElem?_eq_some_iff.1 hi).1
 refine de (r:=postR s P) (List.mem_cons_of_mem _ aU) (p:=0<s.n→s.p.isSome=true) (fun w h hn=>cR h hn) fun hp=>?_
 have hp':=hp ag
 obtain ⟨ad,had⟩:=Option.isSome_iff_exists.1 hp'
 repeat' (first|apply ab|apply ai|refine ae ?_|(refine nF (ad:=ad) (hp:=had) ?_)|(refine cT ?_)|(refine sd (goneP p) (i:=i) (j:=10) (hi:=hi) (hj:=by decide) (hc:=rfl) (hn:=hs) (hsz:=by kernel_rfl) (hv:=rfl) (h1:=rfl) (hA:=At.there _ (At.here _)) (h:=?_))|fail)
 exact cb (bP rfl) ⟨rfl,goneP p,[],rfl,rfl,rfl,rfl⟩
set_option maxHeartbeats 4000000 in
theorem vn (c:ChainD) (s:SlV) (P:List PostD) (i:Nat) (p:PostD) (b q1 q2 k:Nat) (x:ActD) (hs:s.n=P.length) (hi:P[i]?=some p) (hx:c.actsL[k]?=some x) (hk:k≤1000000) (hel:p.ed.n=p.edL.length) (hem:p.ed.n≤1000000) :
  Ct Tryz.prog 212 #[.pointer (some ⟨b,0,none⟩),elP s.p (i*11),.int .i64 (k:Nat)] [cel b 241 (regC c s.v q1 q2),postR s P,edR p] (fun w=>(c.at_ w∧Glob w)∧Strs w p.to p.toL) (NoteAt (cel b 241 (regC c s.v q1 q2)) s P i p (editP x k p)):=by
 refine cB (args:=[_,_,_]) _ Tryz.func212 rfl Tryz.ntmps212 rfl fun av bor w0=>?_
 have hil:=(List.getElem?_eq_some_iff.1 hi).1
 have hkl:=(List.getElem?_eq_some_iff.1 hx).1
 refine de (r:=postR s P) (List.mem_cons_of_mem _ aU) (p:=0<s.n→s.p.isSome=true) (fun w h hn=>cR h hn) fun hp=>?_
 have hp':=hp ag
 obtain ⟨ad,had⟩:=Option.isSome_iff_exists.1 hp'
 refine bt (p:=c.acts.n=c.actsL.length∧(0<c.actsL.length→c.acts.p.isSome=true)) (fun w h=>⟨h.1.1.len_,h.1.1.some_⟩) fun ⟨hl,hpa⟩=>?_
 have hpa':=hpa ag
 have heq:=nd x.to p.to x.toL p.toL
 repeat' (first|apply ab|apply aj|apply ai|refine ae ?_|refine bX ?_|refine aM ?_|refine aL ?_|refine aP fun _=>?_|refine aK ?_|(refine bf (q:=k*20) ?_)|(refine bD (cs:=x.cells) (hF:=fun w h=>Acts.get h.1.1 hx) ?_)|fail)
 rename_i b6
 cases hg:p.gone with
 | true =>
  have h10:p.cells[10]?=some (.bool true):=by rw [←hg];rfl
  have hE:editB x p=false:=by rw [editB,hg];rfl
  (refine bo [cel b6 46 x.cells,cel b 241 (regC c s.v q1 q2),postR s P,edR p] (fun w=>(c.at_ w∧Glob w)∧Strs w p.to p.toL) ar ?_)
  all_goals refine aa 0 ?_
  all_goals (refine aa 1 (hy:=by (apply d4 (ad:=ad);rfl;exact had)) ?_)
  all_goals (refine aa 2 (hy:=by (apply cw;rfl;exact hp';rfl)) ?_)
  all_goals (refine aa 3 (hy:=by (apply d5 (i:=i) (j:=10) (P:=P) (p:=p) (u:=.bool true);rfl;exact List.mem_cons_of_mem _ (List.mem_cons_of_mem _ aU);exact hs;exact hi;exact h10)) ?_)
  all_goals refine aa 4 ?_
  all_goals refine aa 5 ?_
  all_goals refine aX 6 ?_
  all_goals refine aX 7 ?_
  all_goals refine aX 8 ?_
  all_goals refine aX 9 ?_
  all_goals refine aX 10 ?_
  all_goals refine aX 11 ?_
  all_goals refine aX 12 ?_
  all_goals refine aa 13 ?_
  all_goals refine aa 14 ?_
  all_goals refine aX 15 ?_
  all_goals refine aX 16 ?_
  all_goals refine aX 17 ?_
  all_goals refine aX 18 ?_
  all_goals refine aX 19 ?_
  all_goals refine aX 20 ?_
  all_goals refine aX 21 ?_
  all_goals refine aa 22 ?_
  all_goals refine aa 23 ?_
  all_goals refine aX 24 ?_
  all_goals refine aX 25 ?_
  all_goals refine aX 26 ?_
  all_goals refine aX 27 ?_
  all_goals refine aX 28 ?_
  all_goals refine aX 29 ?_
  all_goals (refine ao 30 ?_;(refine aW ?_);apply ab;refine ak ?_)
  all_goals refine aa 31 ?_
  all_goals (refine aI ?_)
  all_goals
   repeat' (first|refine aD ?_|apply ay|fail)
   first
    | exact cb (bP rfl) ⟨rfl,p,[cel b6 46 x.cells],by rw [editP,hE];rfl,rfl,rfl,by rw [eD hi];rfl⟩
    | exact aq (bP rfl) ⟨rfl,p,[cel b6 46 x.cells],by rw [editP,hE];rfl,rfl,rfl,by rw [eD hi];rfl⟩
 | false =>
  have h10:p.cells[10]?=some (.bool false):=by rw [←hg];rfl
  by_cases hsc:x.scope=p.scope
  · cases hgr:seqB x.group p.group with
    | false =>
     have hE:editB x p=false:=by rw [editB,hgr,Bool.and_false];rfl
     (refine bo [cel b6 46 x.cells,cel b 241 (regC c s.v q1 q2),postR s P,edR p] (fun w=>(c.at_ w∧Glob w)∧Strs w p.to p.toL) ar ?_)
     all_goals refine aa 0 ?_
     all_goals (refine aa 1 (hy:=by (apply d4 (ad:=ad);rfl;exact had)) ?_)
     all_goals (refine aa 2 (hy:=by (apply cw;rfl;exact hp';rfl)) ?_)
     all_goals (refine aa 3 (hy:=by (apply d5 (i:=i) (j:=10) (P:=P) (p:=p) (u:=.bool false);rfl;exact List.mem_cons_of_mem _ (List.mem_cons_of_mem _ aU);exact hs;exact hi;exact h10)) ?_)
     all_goals refine aa 4 ?_
     all_goals refine aa 5 ?_
     all_goals refine aa 6 ?_
     all_goals refine aa 7 ?_
     all_goals refine aa 8 ?_
     all_goals (refine aa 9 (hy:=by (apply d4 (ad:=ad);rfl;exact had)) ?_)
     all_goals (refine aa 10 (hy:=by (apply cw;rfl;exact hp';rfl)) ?_)
     all_goals (refine aa 11 (hy:=by (apply d5 (i:=i) (j:=4) (P:=P) (p:=p) (u:=.int .i64 p.scope);rfl;exact List.mem_cons_of_mem _ (List.mem_cons_of_mem _ aU);exact hs;exact hi;exact rfl)) ?_)
     all_goals (refine aa 12 (hy:=by (apply nu true;rfl;rfl;exact decide_eq_true hsc)) ?_)
     all_goals refine aa 13 ?_
     all_goals refine aa 14 ?_
     all_goals refine aa 15 ?_
     all_goals refine aa 16 ?_
     all_goals refine aa 17 ?_
     all_goals (refine aa 18 (hy:=by (apply d4 (ad:=ad);rfl;exact had)) ?_)
     all_goals (refine aa 19 (hy:=by (apply cw;rfl;exact hp';rfl)) ?_)
     all_goals (refine aa 20 (hy:=by (apply d5 (i:=i) (j:=5) (P:=P) (p:=p) (u:=.string p.group);rfl;exact List.mem_cons_of_mem _ (List.mem_cons_of_mem _ aU);exact hs;exact hi;exact rfl)) ?_)
     all_goals (refine aa 21 (hy:=by (apply nr false;rfl;rfl;exact hgr)) ?_)
     all_goals refine aa 22 ?_
     all_goals refine aa 23 ?_
     all_goals refine aX 24 ?_
     all_goals refine aX 25 ?_
     all_goals refine aX 26 ?_
     all_goals refine aX 27 ?_
     all_goals refine aX 28 ?_
     all_goals refine aX 29 ?_
     all_goals (refine ao 30 ?_;(refine aW ?_);apply ab;refine ak ?_)
     all_goals refine aa 31 ?_
     all_goals (refine aI ?_)
     all_goals
      repeat' (first|refine aD ?_|apply ay|fail)
      first
       | exact cb (bP rfl) ⟨rfl,p,[cel b6 46 x.cells],by rw [editP,hE];rfl,rfl,rfl,by rw [eD hi];rfl⟩
       | exact aq (bP rfl) ⟨rfl,p,[cel b6 46 x.cells],by rw [editP,hE];rfl,rfl,rfl,by rw [eD hi];rfl⟩
    | true =>
     have hEq:editB x p=eqL x.toL p.toL:=by rw [editB,hg,hgr,decide_eq_true hsc];rfl
     cases hE:eqL x.toL p.toL with
     | false =>
      rw [hE] at heq hEq
      have hE:=hEq
      (refine bo [cel b6 46 x.cells,cel b 241 (regC c s.v q1 q2),postR s P,edR p] (fun w=>(c.at_ w∧Glob w)∧Strs w p.to p.toL) ar ?_)
      all_goals refine aa 0 ?_
      all_goals (refine aa 1 (hy:=by (apply d4 (ad:=ad);rfl;exact had)) ?_)
      all_goals (refine aa 2 (hy:=by (apply cw;rfl;exact hp';rfl)) ?_)
      all_goals (refine aa 3 (hy:=by (apply d5 (i:=i) (j:=10) (P:=P) (p:=p) (u:=.bool false);rfl;exact List.mem_cons_of_mem _ (List.mem_cons_of_mem _ aU);exact hs;exact hi;exact h10)) ?_)
      all_goals refine aa 4 ?_
      all_goals refine aa 5 ?_
      all_goals refine aa 6 ?_
      all_goals refine aa 7 ?_
      all_goals refine aa 8 ?_
      all_goals (refine aa 9 (hy:=by (apply d4 (ad:=ad);rfl;exact had)) ?_)
      all_goals (refine aa 10 (hy:=by (apply cw;rfl;exact hp';rfl)) ?_)
      all_goals (refine aa 11 (hy:=by (apply d5 (i:=i) (j:=4) (P:=P) (p:=p) (u:=.int .i64 p.scope);rfl;exact List.mem_cons_of_mem _ (List.mem_cons_of_mem _ aU);exact hs;exact hi;exact rfl)) ?_)
      all_goals (refine aa 12 (hy:=by (apply nu true;rfl;rfl;exact decide_eq_true hsc)) ?_)
      all_goals refine aa 13 ?_
      all_goals refine aa 14 ?_
      all_goals refine aa 15 ?_
      all_goals refine aa 16 ?_
      all_goals refine aa 17 ?_
      all_goals (refine aa 18 (hy:=by (apply d4 (ad:=ad);rfl;exact had)) ?_)
      all_goals (refine aa 19 (hy:=by (apply cw;rfl;exact hp';rfl)) ?_)
      all_goals (refine aa 20 (hy:=by (apply d5 (i:=i) (j:=5) (P:=P) (p:=p) (u:=.string p.group);rfl;exact List.mem_cons_of_mem _ (List.mem_cons_of_mem _ aU);exact hs;exact hi;exact rfl)) ?_)
      all_goals (refine aa 21 (hy:=by (apply nr true;rfl;rfl;exact hgr)) ?_)
      all_goals refine aa 22 ?_
      all_goals refine aa 23 ?_
      all_goals refine aa 24 ?_
      all_goals refine aa 25 ?_
      all_goals refine aa 26 ?_
      all_goals (refine aa 27 (hy:=by (apply d4 (ad:=ad);rfl;exact had)) ?_)
      all_goals (refine aa 28 (hy:=by (apply cw;rfl;exact hp';rfl)) ?_)
      all_goals (refine aa 29 (hy:=by (apply d5 (i:=i) (j:=6) (P:=P) (p:=p) (u:=p.to.v);rfl;exact List.mem_cons_of_mem _ (List.mem_cons_of_mem _ aU);exact hs;exact hi;exact rfl)) ?_)
      all_goals (refine ao 30 ?_;(refine aC (hc:=heq) (hX:=fun w h=>⟨(h.1.1.2 x (List.mem_of_getElem? hx)).1,h.2⟩) ?_);apply ab;refine ak ?_)
      all_goals refine aa 31 ?_
      all_goals (refine aI ?_)
      all_goals
       repeat' (first|refine aD ?_|apply ay|fail)
       first
        | exact cb (bP rfl) ⟨rfl,p,[cel b6 46 x.cells],by rw [editP,hE];rfl,rfl,rfl,by rw [eD hi];rfl⟩
        | exact aq (bP rfl) ⟨rfl,p,[cel b6 46 x.cells],by rw [editP,hE];rfl,rfl,rfl,by rw [eD hi];rfl⟩
     | true =>
      rw [hE] at heq hEq
      have hE:=hEq
      (refine bo [cel b6 46 x.cells,cel b 241 (regC c s.v q1 q2),postR s P,edR p] (fun w=>(c.at_ w∧Glob w)∧Strs w p.to p.toL) ar ?_)
      all_goals refine aa 0 ?_
      all_goals (refine aa 1 (hy:=by (apply d4 (ad:=ad);rfl;exact had)) ?_)
      all_goals (refine aa 2 (hy:=by (apply cw;rfl;exact hp';rfl)) ?_)
      all_goals (refine aa 3 (hy:=by (apply d5 (i:=i) (j:=10) (P:=P) (p:=p) (u:=.bool false);rfl;exact List.mem_cons_of_mem _ (List.mem_cons_of_mem _ aU);exact hs;exact hi;exact h10)) ?_)
      all_goals refine aa 4 ?_
      all_goals refine aa 5 ?_
      all_goals refine aa 6 ?_
      all_goals refine aa 7 ?_
      all_goals refine aa 8 ?_
      all_goals (refine aa 9 (hy:=by (apply d4 (ad:=ad);rfl;exact had)) ?_)
      all_goals (refine aa 10 (hy:=by (apply cw;rfl;exact hp';rfl)) ?_)
      all_goals (refine aa 11 (hy:=by (apply d5 (i:=i) (j:=4) (P:=P) (p:=p) (u:=.int .i64 p.scope);rfl;exact List.mem_cons_of_mem _ (List.mem_cons_of_mem _ aU);exact hs;exact hi;exact rfl)) ?_)
      all_goals (refine aa 12 (hy:=by (apply nu true;rfl;rfl;exact decide_eq_true hsc)) ?_)
      all_goals refine aa 13 ?_
      all_goals refine aa 14 ?_
      all_goals refine aa 15 ?_
      all_goals refine aa 16 ?_
      all_goals refine aa 17 ?_
      all_goals (refine aa 18 (hy:=by (apply d4 (ad:=ad);rfl;exact had)) ?_)
      all_goals (refine aa 19 (hy:=by (apply cw;rfl;exact hp';rfl)) ?_)
      all_goals (refine aa 20 (hy:=by (apply d5 (i:=i) (j:=5) (P:=P) (p:=p) (u:=.string p.group);rfl;exact List.mem_cons_of_mem _ (List.mem_cons_of_mem _ aU);exact hs;exact hi;exact rfl)) ?_)
      all_goals (refine aa 21 (hy:=by (apply nr true;rfl;rfl;exact hgr)) ?_)
      all_goals refine aa 22 ?_
      all_goals refine aa 23 ?_
      all_goals refine aa 24 ?_
      all_goals refine aa 25 ?_
      all_goals refine aa 26 ?_
      all_goals (refine aa 27 (hy:=by (apply d4 (ad:=ad);rfl;exact had)) ?_)
      all_goals (refine aa 28 (hy:=by (apply cw;rfl;exact hp';rfl)) ?_)
      all_goals (refine aa 29 (hy:=by (apply d5 (i:=i) (j:=6) (P:=P) (p:=p) (u:=p.to.v);rfl;exact List.mem_cons_of_mem _ (List.mem_cons_of_mem _ aU);exact hs;exact hi;exact rfl)) ?_)
      all_goals (refine ao 30 ?_;(refine aC (hc:=heq) (hX:=fun w h=>⟨(h.1.1.2 x (List.mem_of_getElem? hx)).1,h.2⟩) ?_);apply ab;refine ak ?_)
      all_goals refine aa 31 ?_
      all_goals (refine aI ?_)
      all_goals
       repeat' (first|apply ai|refine ae ?_|refine ca fun _=>?_|refine aE ?_|(refine nF (ad:=ad) (hp:=had) ?_)|(refine cT ?_)|(refine ax (d5 (i:=i) (j:=9) (P:=P) (p:=p) (u:=p.ed.v) rfl (List.mem_cons_of_mem _ (List.mem_cons_of_mem _ aU)) hs hi rfl) rfl rfl rfl ?_)|fail)
       rename_i bn
       refine aS (size:=1) (news:=[.int .i64 (k:Nat)]) (q:=1) rfl rfl rfl rfl (fun _=>At.there _ (At.there _ (At.there _ (At.there _ (At.here _))))) (fun w G=>bq G aU rfl rfl 1) ag (by simp only [maxLen];omega) rfl ?_ rfl ?_
       · (with_reducible rfl)
       intro A2 c2
       repeat' (first|apply ab|(refine nF (ad:=ad) (hp:=had) ?_)|(refine cT ?_)|(refine sd { p with ed:=⟨A2,p.ed.n+1,c2⟩,edL:=p.edL++[(k:Int)] } (i:=i) (j:=9) (hi:=hi) (hj:=by decide) (hc:=rfl) (hn:=hs) (hsz:=by kernel_rfl) (hv:=rfl) (h1:=rfl) (hA:=At.there _ (At.there _ (At.there _ (At.here _)))) (h:=?_))|fail)
       refine cb (bP rfl) ⟨rfl,{ p with ed:=⟨A2,p.ed.n+1,c2⟩,edL:=p.edL++[(k:Int)] },[cel bn 3 [.int .i64 (k:Nat)],cel b6 46 x.cells],by rw [editP,hE];rfl,rfl,rfl,?_⟩
       simp only [edR,List.map_append,List.map_cons,List.map_nil]
       rfl
  · have hE:editB x p=false:=by rw [editB,decide_eq_false hsc,Bool.and_false];rfl
    (refine bo [cel b6 46 x.cells,cel b 241 (regC c s.v q1 q2),postR s P,edR p] (fun w=>(c.at_ w∧Glob w)∧Strs w p.to p.toL) ar ?_)
    all_goals refine aa 0 ?_
    all_goals (refine aa 1 (hy:=by (apply d4 (ad:=ad);rfl;exact had)) ?_)
    all_goals (refine aa 2 (hy:=by (apply cw;rfl;exact hp';rfl)) ?_)
    all_goals (refine aa 3 (hy:=by (apply d5 (i:=i) (j:=10) (P:=P) (p:=p) (u:=.bool false);rfl;exact List.mem_cons_of_mem _ (List.mem_cons_of_mem _ aU);exact hs;exact hi;exact h10)) ?_)
    all_goals refine aa 4 ?_
    all_goals refine aa 5 ?_
    all_goals refine aa 6 ?_
    all_goals refine aa 7 ?_
    all_goals refine aa 8 ?_
    all_goals (refine aa 9 (hy:=by (apply d4 (ad:=ad);rfl;exact had)) ?_)
    all_goals (refine aa 10 (hy:=by (apply cw;rfl;exact hp';rfl)) ?_)
    all_goals (refine aa 11 (hy:=by (apply d5 (i:=i) (j:=4) (P:=P) (p:=p) (u:=.int .i64 p.scope);rfl;exact List.mem_cons_of_mem _ (List.mem_cons_of_mem _ aU);exact hs;exact hi;exact rfl)) ?_)
    all_goals (refine aa 12 (hy:=by (apply nu false;rfl;rfl;exact decide_eq_false hsc)) ?_)
    all_goals refine aa 13 ?_
    all_goals refine aa 14 ?_
    all_goals refine aX 15 ?_
    all_goals refine aX 16 ?_
    all_goals refine aX 17 ?_
    all_goals refine aX 18 ?_
    all_goals refine aX 19 ?_
    all_goals refine aX 20 ?_
    all_goals refine aX 21 ?_
    all_goals refine aa 22 ?_
    all_goals refine aa 23 ?_
    all_goals refine aX 24 ?_
    all_goals refine aX 25 ?_
    all_goals refine aX 26 ?_
    all_goals refine aX 27 ?_
    all_goals refine aX 28 ?_
    all_goals refine aX 29 ?_
    all_goals (refine ao 30 ?_;(refine aW ?_);apply ab;refine ak ?_)
    all_goals refine aa 31 ?_
    all_goals (refine aI ?_)
    all_goals
     repeat' (first|refine aD ?_|apply ay|fail)
     first
      | exact cb (bP rfl) ⟨rfl,p,[cel b6 46 x.cells],by rw [editP,hE];rfl,rfl,rfl,by rw [eD hi];rfl⟩
      | exact aq (bP rfl) ⟨rfl,p,[cel b6 46 x.cells],by rw [editP,hE];rfl,rfl,rfl,by rw [eD hi];rfl⟩
end Go.Proofs.YtfnjklhjngphmaaGreatDoor
namespace Go.Proofs.YtfnjklhjngphmaaGreatDoor
open Go Go.Proofs Sy
theorem yN {P:List PostD} {n:Nat} {p:PostD} (h:P[n]?=some p):(P.map edR).Perm (edR p::(P.eraseIdx n).map edR):=by
 obtain ⟨h1,rfl⟩:=List.getElem?_eq_some_iff.1 h
 have e:P=P.take n++P[n]::P.drop (n+1):=by rw [←List.drop_eq_getElem_cons h1,List.take_append_drop]
 rw [List.eraseIdx_eq_take_drop_succ]
 conv=>lhs;rw [e]
 rw [List.map_append,List.map_cons,List.map_append]
 exact List.perm_middle
theorem permA (c m2 m1 po e:Res) (E:List Res):([c,m2,m1,po]++(e::E)).Perm ([c,po,e]++([m2,m1]++E)):=by
 have h:=(List.perm_append_comm (l₁:=[m2,m1]) (l₂:=[po,e])).append_right E
 simpa using h.cons c
theorem permB (c m2 m1 po:Res) {P:List PostD} {n:Nat} {p:PostD} (h:P[n]?=some p):([c,m2,m1,po]++P.map edR).Perm ([c,po,edR p]++([m2,m1]++(P.eraseIdx n).map edR)) :=
 ((yN h).append_left _).trans (permA c m2 m1 po (edR p) _)
theorem iL {P:List PostD} {n:Nat} {p:PostD}:(P.set n p).eraseIdx n=P.eraseIdx n:=by
 rw [List.eraseIdx_set_eq]
theorem permC (ex:List Res) (c m2 m1 po:Res) {P:List PostD} {n:Nat} {p':PostD} (h:n<P.length):((ex++[c,po,edR p'])++([m2,m1]++(P.eraseIdx n).map edR)).Perm (ex++([c,m2,m1,po]++(P.set n p').map edR)):=by
 have h1:=permB c m2 m1 po (P:=P.set n p') (n:=n) (p:=p') (by simp [h])
 rw [iL] at h1
 rw [List.append_assoc]
 exact (h1.symm).append_left ex
section
variable {P:Program} {N:Nat} {av bor:List Nat} {w0:World} {ops:Array Oper} {rest:List Oper} {kk:St→Prop} {E:Env} {loc:List Res} {X:World→Prop} {x y:Operand} {t t2:TypeId}
variable {n:Nat} {ty:TypeId} {pos:String} {af:Array Edge} {g:Option (Nat×Bool)} {bb want:Bool}
theorem zY {k:IntKind} {a b:Int} [hI:TyInt P t k] (h:Sw P N av bor w0 ops rest ⟨(n,.bool true)::E,loc,X⟩ kk) (hx:ev E x=some (.int k a):=by rfl) (hy:ev E y=some (.int k b):=by rfl) (hab:b≤a:=by (first|decide|omega)) (hg:gdB ops E g=some (bb,want):=by rfl) (hbb:bb=want:=by exact aR) (hd:Nat.blt n N=true:=by rfl) :
  Sw P N av bor w0 ops (⟨some n,.binOp .geq t x y t2,ty,pos,af,g⟩::rest) ⟨E,loc,X⟩ kk:=cL (hx:=hx) (hy:=hy) (hg:=hg) (hbb:=hbb) (hd:=hd) (h:=by
   have e:∀ u,u=Value.bool true→Sw P N av bor w0 ops rest ⟨(n,u)::E,loc,X⟩ kk:=fun u hu=>hu▸h
   exact e _ (by simp [hab]))
end
structure PostTo (P Q:List PostD):Prop where
 to:Q.map (fun p=>(p.to,p.toL,p.pos))=P.map fun p=>(p.to,p.toL,p.pos)
theorem uF {α:Type} {P:List α} {i:Nat} {p:α} (h:P[i]?=some p):P.set i p=P:=by
 obtain ⟨h1,rfl⟩:=List.getElem?_eq_some_iff.1 h
 exact List.set_getElem_self h1
def ReferAt (c:ChainD) (r m2 m1:Res) (s:SlV) (P:List PostD) (k:Nat) (g:PostD→PostD) (u:Value) (R:List Res) (X:World→Prop):Prop:=u=.tuple #[]∧∃ (Q:List PostD) (ex:List Res),Q.map PostD.can=modP (P.map PostD.can) (refV c.actsL P k) g∧PostTo P Q∧R=ex++([r,m2,m1,postR s Q]++Q.map edR)
set_option maxHeartbeats 8000000 in
theorem pm (c:ChainD) (s:SlV) (P:List PostD) (b q1 q2 k nf:Nat) (hnf:FnBody Tryz.prog nf) (pl:List (ByteArray×Value)) (num:List (Int×Value)) (x:ActD) (g:PostD→PostD) (hs:s.n=P.length) (hx:c.actsL[k]?=some x) (hkm:k≤1000000)
  (hpl:∀ d,mget pl d=(idxV c.actsL d).map fun (j:Nat)=>Value.int .i64 (j:Int)) (hnum:∀ j:Nat,mget num (j:Int)=(posP P j).map fun (n:Nat)=>Value.int .i64 (n:Int)) (hcl:c.actsL.length≤1000000) (hPm:P.length≤1000000)
  (hg:∀ p,(g p).can=g p.can) (hgp:∀ p,(g p).pos=p.pos)
  (hnote:∀ n p,P[n]?=some p→Ct Tryz.prog nf #[.pointer (some ⟨b,0,none⟩),elP s.p (n*11),.int .i64 (k:Nat)] [cel b 241 (regC c s.v q1 q2),postR s P,edR p] (fun w=>(c.at_ w∧Glob w)∧Strs w p.to p.toL) (NoteAt (cel b 241 (regC c s.v q1 q2)) s P n p (g p))) :
  Ct Tryz.prog 210 #[.pointer (some ⟨b,0,none⟩),.int .i64 (k:Nat),.func (.func nf) #[.pointer (some ⟨b,0,none⟩)] #[]] ([cel b 241 (regC c s.v q1 q2),mapr q2 pl,mapr q1 num,postR s P]++P.map edR) (fun w=>(c.at_ w∧Glob w)∧∀ p∈P,Strs w p.to p.toL)
   (ReferAt c (cel b 241 (regC c s.v q1 q2)) (mapr q2 pl) (mapr q1 num) s P k g):=by
 refine cB (args:=[_,_,_]) _ Tryz.func210 rfl Tryz.ntmps210 rfl fun av bor w0=>?_
 have hkl:=(List.getElem?_eq_some_iff.1 hx).1
 refine de (r:=postR s P) (by simp) (p:=0<s.n→s.p.isSome=true) (fun w h hn=>cR h hn) fun hp=>?_
 refine bt (p:=c.acts.n=c.actsL.length∧(0<c.actsL.length→c.acts.p.isSome=true)) (fun w h=>⟨h.1.1.len_,h.1.1.some_⟩) fun ⟨hl,hpa⟩=>?_
 have hpa':=hpa ag
 have hxD:c.actsL.getD k ActD.zero=x:=by rw [List.getD_eq_getElem?_getD,hx];rfl
 have hlk:=hpl x.object
 have hM0:∀ {o},refV c.actsL P k=o→o=none→P.map PostD.can=modP (P.map PostD.can) (refV c.actsL P k) g:=fun {o} h1 h2=>by rw [h1,h2];rfl
 simp only [List.cons_append,List.nil_append]
 cases hj:idxV c.actsL x.object with
 | none =>
  rw [hj] at hlk
  have hR:refV c.actsL P k=none:=by rw [refV,hxD,hj]
  repeat apply aj
  (refine bo [cel b 241 (regC c s.v q1 q2)] (fun w=>(c.at_ w∧Glob w)∧∀ p∈P,Strs w p.to p.toL) ar ?_)
  all_goals refine aa 0 ?_
  all_goals refine aa 1 ?_
  all_goals refine aa 2 ?_
  all_goals refine aa 3 ?_
  all_goals refine aa 4 ?_
  all_goals refine aa 5 ?_
  all_goals refine aa 6 ?_
  all_goals refine aa 7 ?_
  all_goals refine aa 8 ?_
  all_goals refine aa 9 ?_
  all_goals (refine aa 10 (hy:=by (apply bp (q:=k*20);rfl;rfl;omega;omega;assumption;(rfl))) ?_)
  all_goals (refine aa 11 (hy:=by (apply cw;rfl;exact hpa';rfl)) ?_)
  all_goals (refine aa 12 (hy:=by (apply cC (q:=k*20+5) (u:=.string x.object);rfl;exact (fun w h=>(Acts.get h.1.1 hx).2.2 5 _ rfl))) ?_)
  all_goals (refine ao 13 ?_;(refine cq (κ:=ByteArray) (kk:=x.object) (b:=false) (v:=.int .i64 0) (hl:=dZ (List.mem_cons_of_mem _ aU)) (ho:=hlk) ?_);apply ab;refine ak ?_)
  all_goals refine aa 14 ?_
  all_goals refine aa 15 ?_
  all_goals refine aa 16 ?_
  all_goals refine aa 17 ?_
  all_goals refine aa 18 ?_
  all_goals (refine aI ?_)
  all_goals
   repeat' (first|apply ab|apply aj|apply ai|refine ae ?_|refine aJ ?_|refine bE ?_|refine bI ?_|refine aE ?_|apply aA|fail)
   first
    | exact aq (bP rfl) ⟨rfl,P,[],hM0 hR rfl,⟨rfl⟩,rfl⟩
    | exact cb (bP rfl) ⟨rfl,P,[],hM0 hR rfl,⟨rfl⟩,rfl⟩
 | some j =>
  rw [hj] at hlk
  have hjl:=iI hj
  by_cases hjk:j<k
  · have hlk2:=hnum j
    cases hn:posP P j with
    | none =>
     rw [hn] at hlk2
     have hR:refV c.actsL P k=none:=by
      rw [refV,hxD,hj]
      simp only [decide_eq_true hjk,cond_true,hn]
     repeat apply aj
     (refine bo [cel b 241 (regC c s.v q1 q2)] (fun w=>(c.at_ w∧Glob w)∧∀ p∈P,Strs w p.to p.toL) ar ?_)
     all_goals refine aa 0 ?_
     all_goals refine aa 1 ?_
     all_goals refine aa 2 ?_
     all_goals refine aa 3 ?_
     all_goals refine aa 4 ?_
     all_goals refine aa 5 ?_
     all_goals refine aa 6 ?_
     all_goals refine aa 7 ?_
     all_goals refine aa 8 ?_
     all_goals refine aa 9 ?_
     all_goals (refine aa 10 (hy:=by (apply bp (q:=k*20);rfl;rfl;omega;omega;assumption;(rfl))) ?_)
     all_goals (refine aa 11 (hy:=by (apply cw;rfl;exact hpa';rfl)) ?_)
     all_goals (refine aa 12 (hy:=by (apply cC (q:=k*20+5) (u:=.string x.object);rfl;exact (fun w h=>(Acts.get h.1.1 hx).2.2 5 _ rfl))) ?_)
     all_goals (refine ao 13 ?_;(refine cq (κ:=ByteArray) (kk:=x.object) (b:=true) (v:=.int .i64 (j:Nat)) (hl:=dZ (List.mem_cons_of_mem _ aU)) (ho:=hlk) ?_);apply ab;refine ak ?_)
     all_goals refine aa 14 ?_
     all_goals refine aa 15 ?_
     all_goals refine aa 16 ?_
     all_goals refine aa 17 ?_
     all_goals refine aa 18 ?_
     all_goals (refine aI ?_)
     all_goals
      repeat' (first|refine nI (hab:=by omega) ?_|apply ab|apply aj|apply ai|refine ae ?_|refine ac ?_|refine bX ?_|refine aM ?_|refine aL ?_|refine aH ?_|refine bE ?_|refine bC ?_|refine aD ?_|apply ay|(refine cq (κ:=Int) (kk:=(j:Int)) (b:=false) (v:=.int .i64 0) (hl:=dZ (List.mem_cons_of_mem _ (List.mem_cons_of_mem _ aU))) (ho:=hlk2) ?_)|fail)
      first
       | exact aq (bP rfl) ⟨rfl,P,[],hM0 hR rfl,⟨rfl⟩,rfl⟩
       | exact cb (bP rfl) ⟨rfl,P,[],hM0 hR rfl,⟨rfl⟩,rfl⟩
    | some n =>
     rw [hn] at hlk2
     have hnl:=Az hn
     obtain ⟨p,hpn⟩:∃ p,P[n]?=some p:=⟨_,List.getElem?_eq_getElem hnl⟩
     have hp':=hp ag
     have hR:refV c.actsL P k=some n:=by
      rw [refV,hxD,hj]
      simp only [decide_eq_true hjk,cond_true,hn]
     have hpm:=List.mem_of_getElem? hpn
     have hno:=hnote n p hpn
     repeat apply aj
     (refine bo [cel b 241 (regC c s.v q1 q2)] (fun w=>(c.at_ w∧Glob w)∧∀ p∈P,Strs w p.to p.toL) ar ?_)
     all_goals refine aa 0 ?_
     all_goals refine aa 1 ?_
     all_goals refine aa 2 ?_
     all_goals refine aa 3 ?_
     all_goals refine aa 4 ?_
     all_goals refine aa 5 ?_
     all_goals refine aa 6 ?_
     all_goals refine aa 7 ?_
     all_goals refine aa 8 ?_
     all_goals refine aa 9 ?_
     all_goals (refine aa 10 (hy:=by (apply bp (q:=k*20);rfl;rfl;omega;omega;assumption;(rfl))) ?_)
     all_goals (refine aa 11 (hy:=by (apply cw;rfl;exact hpa';rfl)) ?_)
     all_goals (refine aa 12 (hy:=by (apply cC (q:=k*20+5) (u:=.string x.object);rfl;exact (fun w h=>(Acts.get h.1.1 hx).2.2 5 _ rfl))) ?_)
     all_goals (refine ao 13 ?_;(refine cq (κ:=ByteArray) (kk:=x.object) (b:=true) (v:=.int .i64 (j:Nat)) (hl:=dZ (List.mem_cons_of_mem _ aU)) (ho:=hlk) ?_);apply ab;refine ak ?_)
     all_goals refine aa 14 ?_
     all_goals refine aa 15 ?_
     all_goals refine aa 16 ?_
     all_goals refine aa 17 ?_
     all_goals refine aa 18 ?_
     all_goals (refine aI ?_)
     all_goals
      repeat' (first|refine nI (hab:=by omega) ?_|apply ab|apply aj|apply ai|refine ae ?_|refine ac ?_|refine bX ?_|refine aM ?_|refine aL ?_|refine aH ?_|refine bE ?_|refine bC ?_|refine aE ?_|refine aD ?_|apply ay|(refine cq (κ:=Int) (kk:=(j:Int)) (b:=true) (v:=.int .i64 (n:Nat)) (hl:=dZ (List.mem_cons_of_mem _ (List.mem_cons_of_mem _ aU))) (ho:=hlk2) ?_)|(refine bf (q:=n*11) ?_)|fail)
      refine eu (permB _ _ _ _ hpn) ?_
      refine dj (first:=#[.pointer (some ⟨b,0,none⟩)]) (caps:=#[]) (pre:=[cel b 241 (regC c s.v q1 q2),postR s P,edR p]) (fr:=[mapr q2 pl,mapr q1 num]++(P.eraseIdx n).map edR) (hc:=hno) (hX:=fun w h=>⟨h.1,h.2 p hpm⟩) (h:=?_)
      rintro _ _ X' ⟨rfl,p',ex,hcan,hto,htl,rfl⟩
      refine eu (permC ex _ _ _ _ hnl) ?_
      repeat' (first|apply ab|fail)
      have hpos:p'.pos=p.pos:=(congrArg PostD.pos hcan).trans (hgp p)
      refine cb (bP rfl) ⟨rfl,P.set n p',ex,?_,⟨?_⟩,rfl⟩
      · rw [hR]
        show (P.set n p').map PostD.can=(P.map PostD.can).set n (g ((P.map PostD.can).getD n PostD.zero))
        rw [List.map_set,vg,List.getD_eq_getElem?_getD,hpn,Option.getD_some,←hg p,hcan]
      · rw [List.map_set,hto,htl,hpos]
        exact uF (by simp [hpn])
  · have hR:refV c.actsL P k=none:=by
     rw [refV,hxD,hj]
     simp only [decide_eq_false hjk,cond_false]
    repeat apply aj
    (refine bo [cel b 241 (regC c s.v q1 q2)] (fun w=>(c.at_ w∧Glob w)∧∀ p∈P,Strs w p.to p.toL) ar ?_)
    all_goals refine aa 0 ?_
    all_goals refine aa 1 ?_
    all_goals refine aa 2 ?_
    all_goals refine aa 3 ?_
    all_goals refine aa 4 ?_
    all_goals refine aa 5 ?_
    all_goals refine aa 6 ?_
    all_goals refine aa 7 ?_
    all_goals refine aa 8 ?_
    all_goals refine aa 9 ?_
    all_goals (refine aa 10 (hy:=by (apply bp (q:=k*20);rfl;rfl;omega;omega;assumption;(rfl))) ?_)
    all_goals (refine aa 11 (hy:=by (apply cw;rfl;exact hpa';rfl)) ?_)
    all_goals (refine aa 12 (hy:=by (apply cC (q:=k*20+5) (u:=.string x.object);rfl;exact (fun w h=>(Acts.get h.1.1 hx).2.2 5 _ rfl))) ?_)
    all_goals (refine ao 13 ?_;(refine cq (κ:=ByteArray) (kk:=x.object) (b:=true) (v:=.int .i64 (j:Nat)) (hl:=dZ (List.mem_cons_of_mem _ aU)) (ho:=hlk) ?_);apply ab;refine ak ?_)
    all_goals refine aa 14 ?_
    all_goals refine aa 15 ?_
    all_goals refine aa 16 ?_
    all_goals refine aa 17 ?_
    all_goals refine aa 18 ?_
    all_goals (refine aI ?_)
    all_goals
     repeat' (first|refine zY (hab:=by omega) ?_|apply ab|apply aj|apply ai|refine ae ?_|refine aH ?_|refine bE ?_|refine aE ?_|apply aA|fail)
     first
      | exact aq (bP rfl) ⟨rfl,P,[],hM0 hR rfl,⟨rfl⟩,rfl⟩
      | exact cb (bP rfl) ⟨rfl,P,[],hM0 hR rfl,⟨rfl⟩,rfl⟩
set_option maxHeartbeats 8000000 in
theorem AD (c:ChainD) (hc:ActsOk c.actsL) (hcl:c.actsL.length≤1000000):Ct Tryz.prog 209 #[c.v] [] (fun w=>c.at_ w∧Glob w) (RegAt c):=by
  refine cB (args:=[_]) _ Tryz.func209 rfl Tryz.ntmps209 rfl fun av bor w0=>?_
  refine bt (p:=c.acts.n=c.actsL.length∧c.acts.n≤maxLen∧(0<c.actsL.length→c.acts.p.isSome=true)) (fun w h=>⟨h.1.len_,h.1.max_,h.1.some_⟩) fun ⟨hl,hm,hp⟩=>?_
  simp only [maxLen] at hm
  refine cf 84 11 ?_
  repeat' (first|apply ab|apply aj|apply ai|refine ac ?_|refine aG ?_|refine aT fun _=>?_|fail)
  refine eV Int (h:=fun q1=>?_)
  refine eV ByteArray (h:=fun q2=>?_)
  repeat' (first|apply ab|apply aj|apply ai|refine ae ?_|refine ac ?_|refine aM ?_|refine aL ?_|refine bg ?_|refine aT fun _=>?_|apply aw|(refine bV (cs:=regC c (.slice none 0 0) q1 q2) (hf:=by rfl) ?_)|fail)
  rename_i b1 b
  refine be (ι:=RegI c) (fun r=>⟨[(1,.pointer (some ⟨b1,0,none⟩)),(3,.pointer (some ⟨b,0,none⟩)),(15,c.acts.v),(16,.int .i64 (c.acts.n:Nat)),(17,.int .i64 (r.k:Nat))],[cel b 241 (regC c (.slice r.A r.n r.cp) q1 q2),mapr q2 r.pl,mapr q1 r.num,cel b1 31 c.cells,orow 84 11 (.slice r.A r.n r.cp) r.n r.xs],fun w=>(c.at_ w∧Glob w)∧∀ p∈r.P,Strs w p.to p.toL⟩) (fun r=>c.actsL.length-r.k)
    ⟨0,Nat.zero_le _,[],rfl,(fun p hp=>(List.not_mem_nil hp).elim),[],(fun d=>rfl),[],(fun j=>rfl),0,rfl,[],rfl,none,0⟩ (aF ⟨rfl,rfl,rfl,rfl,rfl,trivial⟩ (aQ _) fun w h=>⟨h,fun p hp=>(List.not_mem_nil hp).elim⟩) fun r=>?_
  obtain ⟨k,hk,P,hP,hz,pl,hpl,num,hnum,n,hn,xs,hxs,A,cp⟩:=r
  simp only [RegI.s]
  have hPl:P.length≤k:=by
    have h1:=jf c k
    rw [←hP,List.length_map] at h1
    exact h1
  repeat' (first|apply ab|apply aj|apply ai|refine ae ?_|refine ac ?_|refine bu ?_|apply ay|apply aw|apply aA|apply aV|(refine aO (ht:=?_) (hf:=?_);all_goals (intro hx_;first|have:=aY hx_|have:=aZ hx_)))
  · have hlt:k<c.actsL.length:=by omega
    have hp':=hp ag
    obtain ⟨x,hx⟩:∃ x,c.actsL[k]?=some x:=⟨_,List.getElem?_eq_getElem hlt⟩
    have hxm:x∈c.actsL:=List.mem_of_getElem? hx
    have hxD:c.actsL.getD k ActD.zero=x:=by rw [List.getD_eq_getElem?_getD,hx];rfl
    have hpo:=eX x.kind
    have hlk:=hpl (digV x)
    have hpos:∀ p∈P,p.pos<k:=fun p hp=>by
      have h1:=mS c k p.can (by rw [←hP];exact List.mem_map_of_mem hp)
      exact h1
    have hidx:=vc hx
    have hcl2:=eR x.to (strs x.toL) (hc.sm x hxm).to (jb _)
    have hpl2n:idxV (c.actsL.take k) (digV x)=none→∀ d,mget (mput pl (digV x) (Value.int .i64 (k:Int))) d=(idxV (c.actsL.take (k+1)) d).map fun (j:Nat)=>Value.int .i64 (j:Int):=fun hj d=>by
      rw [ga,hidx d,eqbB]
      cases hs:seqB d (digV x) with
      | true =>
        obtain rfl:=seqB_iff.1 hs
        rw [hj,hs]
        rfl
      | false =>
        rw [jd (digV x) d,hs,hpl d]
        cases idxV (c.actsL.take k) d<;>rfl
    have hpl2s:∀ j,idxV (c.actsL.take k) (digV x)=some j→∀ d,mget pl d=(idxV (c.actsL.take (k+1)) d).map fun (j:Nat)=>Value.int .i64 (j:Int):=fun j hj d=>by
      rw [hidx d,hpl d]
      cases hs:seqB (digV x) d with
      | true =>
        obtain rfl:=seqB_iff.1 hs
        rw [hj]
        rfl
      | false=>cases idxV (c.actsL.take k) d<;>rfl
    repeat' (first|apply ab|apply aj|apply ai|refine ac ?_|refine aG ?_|refine aP fun _=>?_|refine aK ?_|(refine bf (q:=k*20) ?_)|(refine bD (cs:=x.cells) (hF:=fun w h=>Acts.get h.1.1 hx) ?_)|fail)
    rename_i b5
    refine bN (hc:=iz x (hc.rng x hxm) (hc.sm x hxm)) (hX:=fun w h=>h.1.1.2 x hxm) fun v1 X1 h1=>?_
    obtain ⟨x',rfl,hdig,hr',hat⟩:=h1
    refine aC (hc:=fE x' hr') (hX:=fun w h=>⟨hat w h.2,h.1.1.2⟩) ?_
    rw [hdig]
    cases hpk:postK x.kind with
    | false =>
      rw [hpk] at hpo
      have hP2:P.map PostD.can=openF c (k+1):=by rw [openF,hxD,hpk,cond_false,List.append_nil];exact hP
      cases hj:idxV (c.actsL.take k) (digV x) with
      | none =>
        rw [hj] at hlk
        repeat' (first|apply ab|apply aj|apply ai|refine ae ?_|refine ac ?_|refine bX ?_|refine aM ?_|refine aL ?_|refine bE ?_|refine bC ?_|refine bm (h:=?_)|refine aE ?_|refine aD ?_|apply ay|(refine cq (κ:=ByteArray) (kk:=digV x) (b:=false) (v:=.int .i64 0) (hl:=dZ bF) (ho:=hlk) ?_)|(refine fu (κ:=ByteArray) (kk:=digV x) (v:=.int .i64 (k:Nat)) ?_)|(refine aC (hc:=hpo) (hX:=fun _ _=>trivial) ?_)|fail)
        exact ⟨(⟨k+1,hlt,P,hP2,hz,_,hpl2n hj,num,hnum,n,hn,xs,hxs,A,cp⟩:RegI c),(by show c.actsL.length-(k+1)<c.actsL.length-k;omega),aF ⟨rfl,rfl,rfl,rfl,rfl,trivial⟩ (List.Sublist.cons _ (aQ _)) fun w h=>h.1⟩
      | some j =>
        rw [hj] at hlk
        repeat' (first|apply ab|apply aj|apply ai|refine ae ?_|refine ac ?_|refine bX ?_|refine aM ?_|refine aL ?_|refine bE ?_|refine bC ?_|refine bm (h:=?_)|refine aD ?_|apply ay|(refine cq (κ:=ByteArray) (kk:=digV x) (b:=true) (v:=.int .i64 (j:Nat)) (hl:=dZ bF) (ho:=hlk) ?_)|(refine aC (hc:=hpo) (hX:=fun _ _=>trivial) ?_)|fail)
        exact ⟨(⟨k+1,hlt,P,hP2,hz,_,hpl2s j hj,num,hnum,n,hn,xs,hxs,A,cp⟩:RegI c),(by show c.actsL.length-(k+1)<c.actsL.length-k;omega),aF ⟨rfl,rfl,rfl,rfl,rfl,trivial⟩ (List.Sublist.cons _ (aQ _)) fun w h=>h.1⟩
    | true =>
      rw [hpk] at hpo
      obtain ⟨p,hpd⟩:∃ p:SlV→PostD,p=fun s2=>⟨digV x,c.id,k,x.kind,x.scope,x.group,s2,x.object,x.time,⟨none,0,0⟩,false,x.toL,[]⟩:=⟨_,rfl⟩
      have hP2:∀ s2,(P++[p s2]).map PostD.can=openF c (k+1):=fun s2=>by
        rw [openF,hxD,hpk,cond_true,List.map_append,hP,hpd]
        rfl
      have hz2:∀ s2,∀ q∈P++[p s2],q.ed=⟨none,0,0⟩∧q.edL=[]:=fun s2 q hq=>by
        rcases List.mem_append.1 hq with hq|hq
        · exact hz q hq
        · rw [List.mem_singleton] at hq
          subst hq
          rw [hpd]
          exact ⟨rfl,rfl⟩
      have hnum2:∀ s2,∀ j:Nat,mget (mput num (k:Int) (Value.int .i64 (n:Int))) (j:Int)=(posP (P++[p s2]) j).map fun (n:Nat)=>Value.int .i64 (n:Int):=fun s2 j=>by
        rw [ga,pt,eqbI,hnum j,hn]
        have e1:(p s2).pos=k:=by rw [hpd]
        rw [e1]
        by_cases hjk:j=k
        · subst hjk
          rw [uU (fun q hq=>Nat.ne_of_lt (hpos q hq)),decide_eq_true rfl,beq_self_eq_true]
          rfl
        · rw [decide_eq_false ag,show (k==j)=false from by simpa using fun e=>hjk e.symm,cond_false,cond_false,Option.or_none]
      rcases hj:idxV (c.actsL.take k) (digV x) with _|j
      all_goals rw [hj] at hlk
      all_goals first
        | (have hpl2:=hpl2n hj
           repeat' (first|apply ab|apply aj|apply ai|refine ae ?_|refine ac ?_|refine bX ?_|refine aM ?_|refine aL ?_|refine bE ?_|refine bC ?_|refine aE ?_|(refine cq (κ:=ByteArray) (kk:=digV x) (b:=false) (v:=.int .i64 0) (hl:=dZ bF) (ho:=hlk) ?_)|(refine fu (κ:=ByteArray) (kk:=digV x) (v:=.int .i64 (k:Nat)) ?_)|(refine aC (hc:=hpo) (hX:=fun _ _=>trivial) ?_)|fail))
        | (have hpl2:=hpl2s j hj
           repeat' (first|apply ab|apply aj|apply ai|refine ae ?_|refine ac ?_|refine bX ?_|refine aM ?_|refine aL ?_|refine bE ?_|refine bC ?_|refine aE ?_|refine aD ?_|apply ay|(refine cq (κ:=ByteArray) (kk:=digV x) (b:=true) (v:=.int .i64 (j:Nat)) (hl:=dZ bF) (ho:=hlk) ?_)|(refine aC (hc:=hpo) (hX:=fun _ _=>trivial) ?_)|fail))
      all_goals
        (refine bo [cel b 241 (regC c (.slice A n cp) q1 q2)] (fun w=>((c.at_ w∧Glob w)∧∀ p∈P,Strs w p.to p.toL)∧X1 w) ar ?_)
        all_goals refine aa 0 ?_
        all_goals refine aa 1 ?_
        all_goals refine aa 2 ?_
        all_goals refine aa 3 ?_
        all_goals refine aa 4 ?_
        all_goals refine aa 5 ?_
        all_goals refine aa 6 ?_
        all_goals refine aa 7 ?_
        all_goals refine aa 8 ?_
        all_goals refine aa 9 ?_
        all_goals (refine ao 10 ?_;(refine fu (κ:=Int) (kk:=(k:Int)) (v:=.int .i64 (n:Nat)) ?_);apply ab;refine ak ?_)
        all_goals (refine aI ?_)
        all_goals
          repeat' (first|apply ab|fail)
          (refine bo [cel b5 46 x.cells,cel b1 31 c.cells] (fun w=>((c.at_ w∧Glob w)∧∀ p∈P,Strs w p.to p.toL)∧X1 w) ar ?_)
          all_goals refine aa 0 ?_
          all_goals refine aa 1 ?_
          all_goals refine aa 2 ?_
          all_goals refine aa 3 ?_
          all_goals refine aa 5 ?_
          all_goals refine aa 6 ?_
          all_goals refine aa 7 ?_
          all_goals refine aa 8 ?_
          all_goals refine aa 9 ?_
          all_goals refine aa 10 ?_
          all_goals refine aa 11 ?_
          all_goals refine aa 12 ?_
          all_goals refine aa 13 ?_
          all_goals refine aa 14 ?_
          all_goals refine aa 15 ?_
          all_goals refine aa 16 ?_
          all_goals refine aa 18 ?_
          all_goals refine aa 19 ?_
          all_goals refine aa 20 ?_
          all_goals refine aa 21 ?_
          all_goals (refine bS 4 17 (h:=?_) (h':=?_);(focus (((refine aL ?_);apply ab;refine ak ?_);all_goals ((refine ao 17 ?_;(refine bN (hc:=hcl2) (hX:=fun w h=>(h.1.1.1.2 x hxm).1) fun v2 X2 h2=>?_;obtain ⟨s2,rfl,hn2,hw2⟩:=h2);apply ab;refine ak ?_);all_goals (refine aa 22 (hy:=by (apply cd (cs:=PostD.cells (⟨digV x,c.id,k,x.kind,x.scope,x.group,s2,x.object,x.time,⟨none,0,0⟩,false,x.toL,[]⟩:PostD));rfl;rfl)) ?_);all_goals (refine ao 23 ?_;(refine bH (size:=11) (vs:=[.agg (PostD.cells (⟨digV x,c.id,k,x.kind,x.scope,x.group,s2,x.object,x.time,⟨none,0,0⟩,false,x.toL,[]⟩:PostD)).toArray]) (css:=PostD.cells (⟨digV x,c.id,k,x.kind,x.scope,x.group,s2,x.object,x.time,⟨none,0,0⟩,false,x.toL,[]⟩:PostD)) (hsz:=by rfl) (hcs:=by rfl) fun _=>?_);apply ab;refine ak ?_);all_goals (refine ao 24 ?_;(refine aS (size:=11) (news:=PostD.cells (⟨digV x,c.id,k,x.kind,x.scope,x.group,s2,x.object,x.time,⟨none,0,0⟩,false,x.toL,[]⟩:PostD)) (q:=1) rfl rfl rfl rfl (fun _=>At.there _ (At.there _ (At.there _ (At.there _ (At.there _ (At.there _ (At.here _))))))) (fun w G=>bq G aU rfl rfl 1) ag (by simp only [maxLen];omega) rfl ?_ rfl ?_;(with_reducible rfl);intro A2 c2);apply ab;refine ak ?_);all_goals (refine aa 25 ?_);all_goals (refine aa 26 ?_);all_goals (refine ao 27 ?_;(refine br ?_);apply ab;refine ak ?_);all_goals (refine aI ?_))));rotate_right;(focus (((refine bN (hc:=hcl2) (hX:=fun w h=>(h.1.1.1.2 x hxm).1) fun v2 X2 h2=>?_;obtain ⟨s2,rfl,hn2,hw2⟩:=h2);apply ab;refine ak ?_);all_goals ((refine aa 22 (hy:=by (apply cd (cs:=PostD.cells (⟨digV x,c.id,k,x.kind,x.scope,x.group,s2,x.object,x.time,⟨none,0,0⟩,false,x.toL,[]⟩:PostD));rfl;rfl)) ?_);all_goals (refine bS 4 23 (h:=?_) (h':=?_);(focus (((refine aL ?_);apply ab;refine ak ?_);all_goals ((refine ao 23 ?_;(refine bH (size:=11) (vs:=[.agg (PostD.cells (⟨digV x,c.id,k,x.kind,x.scope,x.group,s2,x.object,x.time,⟨none,0,0⟩,false,x.toL,[]⟩:PostD)).toArray]) (css:=PostD.cells (⟨digV x,c.id,k,x.kind,x.scope,x.group,s2,x.object,x.time,⟨none,0,0⟩,false,x.toL,[]⟩:PostD)) (hsz:=by rfl) (hcs:=by rfl) fun _=>?_);apply ab;refine ak ?_);all_goals (refine ao 24 ?_;(refine aS (size:=11) (news:=PostD.cells (⟨digV x,c.id,k,x.kind,x.scope,x.group,s2,x.object,x.time,⟨none,0,0⟩,false,x.toL,[]⟩:PostD)) (q:=1) rfl rfl rfl rfl (fun _=>At.there _ (At.there _ (At.there _ (At.there _ (At.there _ (At.there _ (At.here _))))))) (fun w G=>bq G aU rfl rfl 1) ag (by simp only [maxLen];omega) rfl ?_ rfl ?_;(with_reducible rfl);intro A2 c2);apply ab;refine ak ?_);all_goals (refine aa 25 ?_);all_goals (refine aa 26 ?_);all_goals (refine ao 27 ?_;(refine br ?_);apply ab;refine ak ?_);all_goals (refine aI ?_))));rotate_right;(focus (((refine bH (size:=11) (vs:=[.agg (PostD.cells (⟨digV x,c.id,k,x.kind,x.scope,x.group,s2,x.object,x.time,⟨none,0,0⟩,false,x.toL,[]⟩:PostD)).toArray]) (css:=PostD.cells (⟨digV x,c.id,k,x.kind,x.scope,x.group,s2,x.object,x.time,⟨none,0,0⟩,false,x.toL,[]⟩:PostD)) (hsz:=by rfl) (hcs:=by rfl) fun _=>?_);apply ab;refine ak ?_);all_goals ((refine ao 4 ?_;(refine aL ?_);apply ab;refine ak ?_);all_goals (refine ao 24 ?_;(refine aS (size:=11) (news:=PostD.cells (⟨digV x,c.id,k,x.kind,x.scope,x.group,s2,x.object,x.time,⟨none,0,0⟩,false,x.toL,[]⟩:PostD)) (q:=1) rfl rfl rfl rfl (fun _=>At.there _ (At.there _ (At.there _ (At.there _ (At.there _ (At.there _ (At.here _))))))) (fun w G=>bq G aU rfl rfl 1) ag (by simp only [maxLen];omega) rfl ?_ rfl ?_;(with_reducible rfl);intro A2 c2);apply ab;refine ak ?_);all_goals (refine aa 25 ?_);all_goals (refine aa 26 ?_);all_goals (refine ao 27 ?_;(refine br ?_);apply ab;refine ak ?_);all_goals (refine aI ?_)))))))))
          all_goals
            repeat' (first|apply ab|apply ai|refine ae ?_|refine bm (h:=?_)|fail)
            exact ⟨(⟨k+1,hlt,P++[p s2],hP2 s2,hz2 s2,_,hpl2,_,hnum2 s2,n+1,by rw [List.length_append,hn];rfl,xs++PostD.cells (⟨digV x,c.id,k,x.kind,x.scope,x.group,s2,x.object,x.time,⟨none,0,0⟩,false,x.toL,[]⟩:PostD),by rw [hxs,List.map_append,List.flatten_append,List.map_cons,List.map_nil,List.flatten_cons,List.flatten_nil,List.append_nil,hpd],A2,c2⟩:RegI c),(by show c.actsL.length-(k+1)<c.actsL.length-k;omega),
              aF ⟨rfl,rfl,rfl,rfl,rfl,trivial⟩ (List.Sublist.cons _ (List.Sublist.cons _ (aQ _))) fun w h=>⟨h.1.1.1,fun q hq=>(List.mem_append.1 hq).elim (h.1.1.2 q) fun e=>by
                rw [List.mem_singleton] at e
                subst e
                rw [hpd]
                exact hw2 w h.2⟩⟩
  · subst hn hxs
    have hkE:k=c.actsL.length:=by omega
    exact aq (aB rfl rfl) ⟨⟨k,hk,P,hP,hz,pl,hpl,num,hnum,_,rfl,_,rfl,A,cp⟩,b,b1,q1,q2,hkE,rfl,rfl,fun w h=>h.2⟩
end Go.Proofs.YtfnjklhjngphmaaGreatDoor
