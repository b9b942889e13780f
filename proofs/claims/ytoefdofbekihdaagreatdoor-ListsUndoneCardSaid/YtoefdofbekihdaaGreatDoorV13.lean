/- Joined by program out of: Lj Lo Lq Lr S3 S9 Lm S0 S4 Yq Po. -/
import Derived.Test.YtoefdofbekihdaaGreatDoorV12
import Derived.Test.YtoefdofbekihdaaGreatDoorCards
import Derived.Test.YtoefdofbekihdaaGreatDoorTie
import Derived.WalkKit
import Derived.ProofKit
import Derived.Deep.DeepHandedRow
import Derived.Lib.LaidTab
set_option linter.unusedVariables false
set_option linter.unusedSimpArgs false
set_option maxHeartbeats 16000000
namespace Go.Proofs.YtoefdofbekihdaaGreatDoor
open Go Go.Proofs Sy Go.Sort
def entA (k:ByteArray) (l:List ActD) (j:Nat):EntD:=⟨⟨(l.getD j ActD.zero).target,(l.getD j ActD.zero).text,k,(l.getD j ActD.zero).n⟩,j⟩
def foundF (l:List ActD):Nat→List Nat
 | 0=>[]
 | i+1=>bif decide ((l.getD i ActD.zero).kind=23) then foundF l i++[i] else bif decide ((l.getD i ActD.zero).kind=6) then (match idxV l (l.getD i ActD.zero).object with|some j=>(foundF l i).erase j|none=>foundF l i) else foundF l i
theorem eN (l:List ActD):∀ i,∀ j∈foundF l i,j<i
 | 0,j,h=>by cases h
 | i+1,j,h=>by
  have ih:=eN l i
  simp only [foundF] at h
  cases h1:decide ((l.getD i ActD.zero).kind=23) with
  | true =>
   rw [h1] at h
   rcases List.mem_append.1 h with h|h
   · have:=ih j h;omega
   · rw [List.mem_singleton.1 h];omega
  | false =>
   rw [h1] at h
   simp only [ZB] at h
   cases h2:decide ((l.getD i ActD.zero).kind=6) with
   | true =>
    rw [h2] at h
    simp only [ZC] at h
    split at h
    · have:=ih j (List.mem_of_mem_erase h);omega
    · have:=ih j h;omega
   | false=>rw [h2] at h;have:=ih j h;omega
theorem iE (l:List ActD):∀ i,(foundF l i).Pairwise (·<·)
 | 0=>List.Pairwise.nil
 | i+1=>by
  have ih:=iE l i
  simp only [foundF]
  cases h1:decide ((l.getD i ActD.zero).kind=23) with
  | true =>
   simp only [ZC]
   rw [List.pairwise_append]
   refine ⟨ih,List.pairwise_singleton _ _,fun a ha b hb=>?_⟩
   rw [List.mem_singleton.1 hb]
   exact eN l i a ha
  | false =>
   simp only [ZB]
   cases h2:decide ((l.getD i ActD.zero).kind=6) with
   | true =>
    simp only [ZC]
    split
    · exact ih.sublist List.erase_sublist
    · exact ih
   | false=>exact ih
theorem pM (l:List ActD) (i:Nat):(foundF l i).Nodup:=(iE l i).imp fun h=>by omega
theorem iD (l:List ActD):∀ i,(foundF l i).length≤i
 | 0=>Qq _
 | i+1=>by
  have ih:=iD l i
  simp only [foundF]
  cases decide ((l.getD i ActD.zero).kind=23) with
  | true=>simp only [ZC,ZX,List.length_singleton];omega
  | false =>
   simp only [ZB]
   cases decide ((l.getD i ActD.zero).kind=6) with
   | true =>
    simp only [ZC]
    split
    · have:=List.length_erase_le (a:=‹Nat›) (l:=foundF l i);omega
    · omega
   | false=>simp only [ZB];omega
def idxP' (f:Nat→Value) (F:List Nat):List (Int×Value):=F.map fun (j:Nat)=>((j:Int),f j)
theorem jt (a b:Int):KeyT.eqb a b=decide (a=b):=rfl
theorem rx (f:Nat→Value) (i:Nat):∀ F:List Nat,i∉F→mput (idxP' f F) (i:Int) (f i)=idxP' f (F++[i])
 | [],_=>rfl
 | j::F,h=>by
  have h1:¬ (i:Int)=(j:Int):=fun e=>h (by rw [show i=j by omega];exact ar)
  have ih:=rx f i F fun h2=>h (ZS _ h2)
  simp only [idxP',Qv,mput,jt,Zn h1,ZB,Qa] at ih ⊢
  rw [ih]
theorem rG (f:Nat→Value) (i:Nat):∀ F:List Nat,mdel (idxP' f F) (i:Int)=idxP' f (F.erase i)
 | []=>rfl
 | j::F=>by
  have ih:=rG f i F
  by_cases h:i=j
  · subst h
    simp only [idxP',Qv,mdel,jt,ZQ,ZC,List.erase_cons_head]
  · have h1:¬ (i:Int)=(j:Int):=by omega
    rw [List.erase_cons_tail (by simpa using fun e:j=i=>h e.symm)]
    simp only [idxP',Qv,mdel,jt,Zn h1,ZB] at ih ⊢
    rw [ih]
theorem rD (f:Nat→Value) (i:Nat):∀ F:List Nat,i∈F→mget (idxP' f F) (i:Int)=some (f i)
 | [],h=>by cases h
 | j::F,h=>by
  by_cases e:i=j
  · subst e
    simp only [idxP',Qv,mget,jt,ZQ,ZC]
  · have h1:¬ (i:Int)=(j:Int):=by omega
    have ih:=rD f i F ((List.mem_cons.1 h).resolve_left e)
    simp only [idxP',Qv,mget,jt,Zn h1,ZB] at ih ⊢
    exact ih
theorem wG {l:List Int} (h:l.Pairwise (·<·)):sortI l=l:=List.mergeSort_of_pairwise (h.imp fun h=>by simp only [leI,ZT];omega)
theorem AP (f:Nat→Value) (F:List Nat):(idxP' f F).map (·.1)=F.map fun (j:Nat)=>(j:Int):=by simp [idxP',Function.comp_def]
theorem ED {j:Nat} (h:j≤1000000000):(Lit.int .i64 (j:Int)).wf=true:=by
 have h1:IntKind.i64.min=-9223372036854775808:=by decide
 have h2:IntKind.i64.max=9223372036854775807:=by decide
 simp only [Lit.wf,ZM,ZT,h1,h2]
 omega
def entsV (l:List ChainD) (k:ByteArray):List EntD:=match findC l k with
 | some c=>(foundF c.actsL c.actsL.length).map (entA k c.actsL)
 | none=>[]
def intsR (l:List Int):List (List Value):=l.map fun z=>[.int .i64 z]
theorem tK (l:List Int):l.map encZ=(intsR l).flatten:=by
 induction l with
 | nil=>rfl
 | cons a l ih =>
  simp only [intsR,Qv,List.flatten_cons] at ih ⊢
  rw [ih]
  rfl
theorem xu (l:List Int):∀ r∈intsR l,r.length=1:=by
 intro r hr
 simp only [intsR,List.mem_map] at hr
 obtain ⟨x,_,rfl⟩:=hr
 rfl
theorem pJ {w:World} {e n c:Nat} {A:Option Addr} {l:List Int} (h:ORow w e 1 (.slice A n c) n (l.map encZ)) (hn:n=l.length):RowsD w 1 ⟨A,n,c⟩ (intsR l):=by
 rw [tK] at h
 exact bt h (by simpa [intsR] using hn) (xu l)
theorem oz {l:List ChainD} {k:ByteArray} {c:ChainD} (h:findC l k=some c):c∈l:=List.mem_of_find?_eq_some h
set_option maxHeartbeats 2000000 in
theorem tT (s:SlV) (l:List ChainD) (k:ByteArray) (hok:∀ c∈l,ActsOk c.actsL) (hlen:∀ c∈l,c.actsL.length≤1000000) :
    Mk Tryz.prog 29 #[s.v,.string k] (fun w=>Chains w s l∧Glob w) fun u X=>∃ S:SlV,u=S.v∧∀ w,X w→Ents w S (entsV l k):=by
  refine bE (args:=[_,_]) _ Tryz.func29 rfl Tryz.ntmps29 rfl fun av bor w0=>?_
  have hfi:=vu s l k
  cases hf:findC l k with
  | none =>
    rw [hf] at hfi
    have hfi:Pu Tryz.prog 9 #[s.v,.string k] (fun w=>Chains w s l) (.tuple #[ChainD.zero.v,.bool false]):=hfi
    repeat' (first|(refine ab (hc:=hfi) (hX:=fun w h=>h.1) ?_)|refine gs ?_|refine gs1 fun _=>?_|(refine gp ?_ ?_<;>intro hx_ this)|fail)
    have e:entsV l k=[]:=by rw [entsV,hf]
    rw [e]
    exact ad (ag rfl rfl) ⟨⟨none,0,0⟩,rfl,fun w _=>aV w 5⟩
  | some c =>
    rw [hf] at hfi
    have hfi:Pu Tryz.prog 9 #[s.v,.string k] (fun w=>Chains w s l) (.tuple #[c.v,.bool true]):=hfi
    have hcm:=oz hf
    have hc:=hok c hcm
    have hcl:=hlen c hcm
    have e:entsV l k=(foundF c.actsL c.actsL.length).map (entA k c.actsL):=by rw [entsV,hf]
    rw [e]
    have hF:=eN c.actsL
    have hA:=iE c.actsL
    have hN:=pM c.actsL
    have hFl:=iD c.actsL
    have hS:∀ i,foundF c.actsL (i+1)=_:=fun i=>foundF.eq_2 c.actsL i
    have hE:∀ j x,c.actsL[j]?=some x→entA k c.actsL j=⟨⟨x.target,x.text,k,x.n⟩,j⟩:=fun j x hx=>by simp only [entA,ZL,hx,Option.getD_some]
    generalize hFg:foundF c.actsL=F at *
    refine aJ (p:=c.acts.n=c.actsL.length∧c.acts.n≤maxLen∧(0<c.actsL.length→c.acts.p.isSome=true)∧c.acts.n≤c.acts.c) (fun w h=>XC.know (c:=c) w ⟨h.1.2 c hcm,h.2⟩) fun ⟨hl,hm,hp,hcap⟩=>?_
    simp only [maxLen] at hm
    repeat' (first|(refine ab (hc:=hfi) (hX:=fun w h=>h.1) ?_)|refine gs ?_|refine gs1 fun _=>?_|(refine gj Int (h:=fun q=>?_))|(refine gp ?_ ?_<;>intro hx_ this)|fail)
    rename_i b5
    refine ap (ι:=Kth c.actsL.length) (fun i=>⟨[(1,.string k),(5,.pointer (some ⟨b5,0,none⟩)),(7,.map (some q)),(25,c.acts.v),(26,.int .i64 c.acts.n),(27,.int .i64 i.k)],
      [mapr q (idxP' (fun j=>(entA k c.actsL j).v) (F i.k)),cel b5 36 c.cells],fun w=>Chains w s l∧Glob w⟩) (fun i=>c.actsL.length-i.k) ⟨0,Nat.zero_le _⟩ (aj ⟨rfl,rfl,rfl,rfl,rfl,rfl,trivial⟩ (by rw [←hFg];exact al _) fun _ h=>h) fun i=>?_
    have hik:=i.hk
    repeat' (first|refine gs ?_|refine gs1 fun _=>?_|(refine gp ?_ ?_<;>intro hx_ this)|fail)
    · have hlt:i.k<c.actsL.length:=by omega
      have hp':=hp aa
      obtain ⟨x,hx⟩:∃ x,c.actsL[i.k]?=some x:=⟨_,Zm hlt⟩
      have hidx:=AT c hc x.object
      have hEx:=hE i.k x hx
      have hSx:=hS i.k
      rw [show c.actsL.getD i.k ActD.zero=x from by rw [ZL,hx];rfl] at hSx
      have hnew:i.k∉F i.k:=fun h=>absurd (hF i.k i.k h) (Qs _)
      have hFlen:=hFl i.k
      have hml:(idxP' (fun j=>(entA k c.actsL j).v) (F i.k)).length=(F i.k).length:=by simp [idxP']
      have hm1:mput (idxP' (fun j=>(entA k c.actsL j).v) (F i.k)) (i.k:Int) (Value.agg (⟨⟨x.target,x.text,k,x.n⟩,i.k⟩:EntD).cells.toArray)=idxP' (fun j=>(entA k c.actsL j).v) (F i.k++[i.k]):=by
        have h:=rx (fun j=>(entA k c.actsL j).v) i.k (F i.k) hnew
        simp only [hEx] at h
        exact h
      cases ho:idxV c.actsL x.object with
      | none =>
        rw [ho] at hidx hSx
        have hidx:Pu Tryz.prog 42 #[c.v,.string x.object] (fun w=>c.at_ w∧Glob w) (.tuple #[.int .i64 0,.bool false]):=hidx
        repeat' (first|refine aC (cs:=[.string x.target,.string x.text,.string k,.int .i64 x.n]) (hf:=by rfl) ?_|refine aC (cs:=(⟨⟨x.target,x.text,k,x.n⟩,i.k⟩:EntD).cells) (hf:=by rfl) ?_|(refine ab (hc:=hidx) (hX:=fun w h=>⟨h.1.2 c hcm,h.2⟩) ?_)|refine gs ?_|refine gs1 fun _=>?_|(refine aH (q:=i.k*20) ?_)|(refine bP (cs:=x.cells) (hF:=fun w h=>Acts.get (h.1.2 c hcm) hx) ?_)|(refine fo (κ:=Int) (kk:=(i.k:Int)) (hA:=by (repeat (first|exact At.here _|apply At.there))) ?_)|(refine uL (κ:=Int) (hl:=by exact aP) ?_)|(refine nO (κ:=Int) (kk:=(j:Nat)) (hA:=by (repeat (first|exact At.here _|apply At.there))) ?_)|(refine gp ?_ ?_<;>intro hx_ this)|fail)
        all_goals first
          | (have hSx':F (i.k+1)=F i.k++[i.k]:=by rw [hSx,ZA (by assumption),ZC]
             refine ⟨(⟨i.k+1,hlt⟩:Kth c.actsL.length),(by show c.actsL.length-(i.k+1)<c.actsL.length-i.k;omega),aj ⟨rfl,rfl,rfl,rfl,rfl,rfl,trivial⟩ ?_ fun _ h=>h⟩
             show List.Sublist [mapr q (idxP' (fun j=>(entA k c.actsL j).v) (F (i.k+1))),_] _
             rw [hSx',←hm1]
             exact List.Sublist.cons _ (al _))
          | (have hSx':F (i.k+1)=F i.k:=by
               have h0:F i.k=[]:=List.eq_nil_of_length_eq_zero aa
               rw [hSx,Zn (by assumption),ZB,ZA (by assumption),ZC,h0]
               try rfl
             refine ⟨(⟨i.k+1,hlt⟩:Kth c.actsL.length),(by show c.actsL.length-(i.k+1)<c.actsL.length-i.k;omega),aj ⟨rfl,rfl,rfl,rfl,rfl,rfl,trivial⟩ ?_ fun _ h=>h⟩
             show List.Sublist [mapr q (idxP' (fun j=>(entA k c.actsL j).v) (F (i.k+1))),_] _
             rw [hSx']
             exact List.Sublist.cons _ (al _))
          | (have hSx':F (i.k+1)=F i.k:=by
               rw [hSx,Zn (by assumption),ZB,Zn (by assumption),ZB]
             refine ⟨(⟨i.k+1,hlt⟩:Kth c.actsL.length),(by show c.actsL.length-(i.k+1)<c.actsL.length-i.k;omega),aj ⟨rfl,rfl,rfl,rfl,rfl,rfl,trivial⟩ ?_ fun _ h=>h⟩
             show List.Sublist [mapr q (idxP' (fun j=>(entA k c.actsL j).v) (F (i.k+1))),_] _
             rw [hSx']
             exact List.Sublist.cons _ (al _))
          | (have hSx':F (i.k+1)=F i.k:=by
               rw [hSx,Zn (by assumption),ZB,ZA (by assumption),ZC]
             refine ⟨(⟨i.k+1,hlt⟩:Kth c.actsL.length),(by show c.actsL.length-(i.k+1)<c.actsL.length-i.k;omega),aj ⟨rfl,rfl,rfl,rfl,rfl,rfl,trivial⟩ ?_ fun _ h=>h⟩
             show List.Sublist [mapr q (idxP' (fun j=>(entA k c.actsL j).v) (F (i.k+1))),_] _
             rw [hSx']
             exact List.Sublist.cons _ (al _))
      | some j =>
        rw [ho] at hidx hSx
        have hidx:Pu Tryz.prog 42 #[c.v,.string x.object] (fun w=>c.at_ w∧Glob w) (.tuple #[.int .i64 (j:Nat),.bool true]):=hidx
        repeat' (first|refine aC (cs:=[.string x.target,.string x.text,.string k,.int .i64 x.n]) (hf:=by rfl) ?_|refine aC (cs:=(⟨⟨x.target,x.text,k,x.n⟩,i.k⟩:EntD).cells) (hf:=by rfl) ?_|(refine ab (hc:=hidx) (hX:=fun w h=>⟨h.1.2 c hcm,h.2⟩) ?_)|refine gs ?_|refine gs1 fun _=>?_|(refine aH (q:=i.k*20) ?_)|(refine bP (cs:=x.cells) (hF:=fun w h=>Acts.get (h.1.2 c hcm) hx) ?_)|(refine fo (κ:=Int) (kk:=(i.k:Int)) (hA:=by (repeat (first|exact At.here _|apply At.there))) ?_)|(refine uL (κ:=Int) (hl:=by exact aP) ?_)|(refine nO (κ:=Int) (kk:=(j:Nat)) (hA:=by (repeat (first|exact At.here _|apply At.there))) ?_)|(refine gp ?_ ?_<;>intro hx_ this)|fail)
        all_goals first
          | (have hSx':F (i.k+1)=F i.k++[i.k]:=by rw [hSx,ZA (by assumption),ZC]
             refine ⟨(⟨i.k+1,hlt⟩:Kth c.actsL.length),(by show c.actsL.length-(i.k+1)<c.actsL.length-i.k;omega),aj ⟨rfl,rfl,rfl,rfl,rfl,rfl,trivial⟩ ?_ fun _ h=>h⟩
             show List.Sublist [mapr q (idxP' (fun j=>(entA k c.actsL j).v) (F (i.k+1))),_] _
             rw [hSx',←hm1]
             exact List.Sublist.cons _ (al _))
          | (have hSx':F (i.k+1)=F i.k:=by
               have h0:F i.k=[]:=List.eq_nil_of_length_eq_zero aa
               rw [hSx,Zn (by assumption),ZB,ZA (by assumption),ZC,h0]
               try rfl
             refine ⟨(⟨i.k+1,hlt⟩:Kth c.actsL.length),(by show c.actsL.length-(i.k+1)<c.actsL.length-i.k;omega),aj ⟨rfl,rfl,rfl,rfl,rfl,rfl,trivial⟩ ?_ fun _ h=>h⟩
             show List.Sublist [mapr q (idxP' (fun j=>(entA k c.actsL j).v) (F (i.k+1))),_] _
             rw [hSx']
             exact List.Sublist.cons _ (al _))
          | (have hSx':F (i.k+1)=F i.k:=by
               rw [hSx,Zn (by assumption),ZB,Zn (by assumption),ZB]
             refine ⟨(⟨i.k+1,hlt⟩:Kth c.actsL.length),(by show c.actsL.length-(i.k+1)<c.actsL.length-i.k;omega),aj ⟨rfl,rfl,rfl,rfl,rfl,rfl,trivial⟩ ?_ fun _ h=>h⟩
             show List.Sublist [mapr q (idxP' (fun j=>(entA k c.actsL j).v) (F (i.k+1))),_] _
             rw [hSx']
             exact List.Sublist.cons _ (al _))
          | (have hSx':F (i.k+1)=(F i.k).erase j:=by
               rw [hSx,Zn (by assumption),ZB,ZA (by assumption),ZC]
             refine ⟨(⟨i.k+1,hlt⟩:Kth c.actsL.length),(by show c.actsL.length-(i.k+1)<c.actsL.length-i.k;omega),aj ⟨rfl,rfl,rfl,rfl,rfl,rfl,trivial⟩ ?_ fun _ h=>h⟩
             show List.Sublist [mapr q (idxP' (fun j=>(entA k c.actsL j).v) (F (i.k+1))),_] _
             rw [hSx',←rG]
             exact List.Sublist.cons _ (al _))
    have hik':i.k=c.actsL.length:=by omega
    rw [hik']
    have hGlt:=hF c.actsL.length
    have hGA:=hA c.actsL.length
    have hGl:=hFl c.actsL.length
    generalize F c.actsL.length=G at *
    have hml:(idxP' (fun j=>(entA k c.actsL j).v) G).length=G.length:=by simp [idxP']
    have hasc:(G.map fun (j:Nat)=>(j:Int)).Pairwise (·<·):=by
      rw [List.pairwise_map]
      exact hGA.imp fun h=>by omega
    refine zG (hc:=keysEI_c.ct (some q)) (hX:=fun _ _=>trivial) ?_
    rintro v1 R1 X1 ⟨bk,rfl,rfl⟩
    refine bY (pre:=[cel bk 126 [.map (some q)],mapr q (idxP' (fun j=>(entA k c.actsL j).v) G)]) (fr:=[cel b5 36 c.cells]) (hc:=sortedEI_c.ct bk q (idxP' (fun j=>(entA k c.actsL j).v) G) (fun p hp=>?_) aa) (hX:=fun _ _=>trivial) (h:=?_)
    · simp only [idxP',List.mem_map] at hp
      obtain ⟨j,hj,rfl⟩:=hp
      have:=hGlt j hj
      exact ED aa
    rintro v2 R2 X2 ⟨A,c2,rfl,rfl⟩
    rw [hml,AP,wG hasc]
    refine bo ?_
    repeat' (first|refine gs ?_|refine gs1 fun _=>?_|fail)
    refine tV (X':=fun w=>RowsD w 1 ⟨A,G.length,c2⟩ (intsR (G.map fun (j:Nat)=>(j:Int)))) (fun w h=>pJ h.2 (by simp)) ?_
    refine aJ (p:=0<G.length→A.isSome=true) (fun w h h0=>?_) fun hpA=>?_
    · exact (RowsD.row h 0 [.int .i64 (G[0]:Nat)] (by simp [intsR,Zm h0])).2.1
    refine cL 82 5 ?_
    refine ap (ι:=FilS G.length) (fun j=>⟨[(7,.map (some q)),(12,.slice j.A j.k j.c),(66,.slice A G.length c2),(67,.int .i64 (G.length:Nat)),(68,.int .i64 j.k)],
      [orow 82 5 (.slice j.A j.k j.c) j.k ((G.take j.k).map fun j=>(entA k c.actsL j).cells).flatten,mapr q (idxP' (fun j=>(entA k c.actsL j).v) G)],fun w=>RowsD w 1 ⟨A,G.length,c2⟩ (intsR (G.map fun (j:Nat)=>(j:Int)))⟩) (fun j=>G.length-j.k) ⟨0,Nat.zero_le _,none,0⟩
      (aj ⟨rfl,rfl,rfl,rfl,rfl,trivial⟩ (List.Sublist.cons_cons _ (List.Sublist.cons _ (List.Sublist.cons_cons _ (ZR _)))) fun _ h=>h) fun j=>?_
    have hjk:=j.hk
    repeat' (first|refine gs ?_|refine gs1 fun _=>?_|(refine gp ?_ ?_<;>intro hx_ this)|fail)
    · have hlt:j.k<G.length:=by omega
      have hpA':=hpA aa
      obtain ⟨g,hg⟩:∃ g,G[j.k]?=some g:=⟨_,Zm hlt⟩
      have hgm:=List.mem_of_getElem? hg
      have hc1:∀ w,RowsD w 1 ⟨A,G.length,c2⟩ (intsR (G.map fun (j:Nat)=>(j:Int)))→CellAt w A j.k (.int .i64 (g:Nat)):=fun w h=>by
        have:=(RowsD.row h j.k [.int .i64 (g:Nat)] (by simp [intsR,hg])).2.2 0 _ rfl
        simpa using this
      have hfl:((G.take (j.k+1)).map fun j=>(entA k c.actsL j).cells).flatten=((G.take j.k).map fun j=>(entA k c.actsL j).cells).flatten++(entA k c.actsL g).cells:=by
        rw [List.take_add_one,hg]
        simp
      repeat' (first|refine aH (q:=j.k) ?_|refine dr (q:=j.k) (u:=.int .i64 (g:Nat)) (hF:=fun w h=>hc1 w h) ?_|refine cS (size:=5) (vs:=[(entA k c.actsL g).v]) (css:=(entA k c.actsL g).cells) (hsz:=by rfl) (hcs:=by rfl) fun _=>?_|refine gs ?_|refine gs1 fun _=>?_|(refine gg (κ:=Int) (kk:=(g:Nat)) (o:=some (entA k c.actsL g).v) (hl:=fC aP) (ho:=rD _ g G hgm) ?_)|(refine gp ?_ ?_<;>intro hx_ this)|fail)
      refine aF (size:=5) (news:=(entA k c.actsL g).cells) (q:=1) rfl rfl rfl rfl (fun _=>At.there _ (At.here _)) (fun w G=>bJ G ar rfl rfl 1) ?_ ?_ rfl ?_ rfl ?_
      · omega
      · simp only [maxLen];omega
      · rfl
      intro A3 c3
      repeat' (first|refine gs ?_|refine gs1 fun _=>?_|fail)
      refine ⟨(⟨j.k+1,hlt,A3,c3⟩:FilS G.length),(by show G.length-(j.k+1)<G.length-j.k;omega),aj ⟨rfl,rfl,rfl,rfl,rfl,trivial⟩ ?_ fun _ h=>h⟩
      show List.Sublist [orow 82 5 _ _ ((G.take (j.k+1)).map fun j=>(entA k c.actsL j).cells).flatten,_] _
      rw [hfl]
      exact List.Sublist.cons _ (al _)
    · have hk:j.k=G.length:=by omega
      refine ad (ag rfl rfl) ⟨⟨j.A,j.k,j.c⟩,rfl,fun w h=>?_⟩
      have h1:=h.2 _ ar
      have e1:((G.take j.k).map fun j=>(entA k c.actsL j).cells)=(G.map (entA k c.actsL)).map EntD.cells:=by
        rw [hk,List.take_length,Qu];rfl
      rw [e1] at h1
      exact bt h1 (by simp [hk]) (by
        intro r hr
        obtain ⟨x,_,rfl⟩:=List.mem_map.1 hr
        rfl)
def hasK (ks:List ByteArray) (k:ByteArray):Bool:=ks.any fun y=>KeyT.eqb k y
theorem rA:∀ (ks:List ByteArray) (k:ByteArray),mget (setM ks) k=bif hasK ks k then some (.bool true) else none
 | [],_=>rfl
 | a::ks,k=>by
  have ih:=rA ks k
  simp only [setM,Qv,mget,hasK,List.any_cons] at ih ⊢
  cases KeyT.eqb k a with
  | true=>rfl
  | false=>simpa using ih
def bestStep (now:Int) (b:List (ByteArray×EntD)) (e:EntD):List (ByteArray×EntD) :=
 bif decide (e.l.until_≤now) then b else
  match mget b e.l.actor with
  | none=>mput b e.l.actor e
  | some old=>bif (!eqED e old)&&betV e old then mput b e.l.actor e else b
def bestF (l:List ChainD) (now:Int) (ks:List ByteArray):Nat→List ByteArray×List (ByteArray×EntD)
 | 0=>([],[])
 | i+1=>bif hasK (bestF l now ks i).1 (ks.getD i .empty) then bestF l now ks i else (sput (bestF l now ks i).1 (ks.getD i .empty),(entsV l (ks.getD i .empty)).foldl (bestStep now) (bestF l now ks i).2)
def bm (b:List (ByteArray×EntD)):List (ByteArray×Value):=b.map fun p=>(p.1,p.2.v)
theorem vj (b:List (ByteArray×EntD)) (k:ByteArray):mget (bm b) k=(mget b k).map EntD.v:=rC EntD.v b k
theorem Db (b:List (ByteArray×EntD)) (k:ByteArray) (e:EntD):mput (bm b) k e.v=bm (mput b k e):=ry EntD.v b k e
def EntD.zero:EntD:=⟨ListD.zero,0⟩
def ofV (l:List ChainD) (ks:List ByteArray) (now:Int):List ListD:=(sortB ((bestF l now ks ks.length).2.map (·.1))).map fun a=>((mget (bestF l now ks ks.length).2 a).getD EntD.zero).l
theorem tQ {α β:Type} (f:β→α→β) (b:β) (E:List α) {j:Nat} {e:α} (h:E[j]?=some e):(E.take (j+1)).foldl f b=f ((E.take j).foldl f b) e:=by
 rw [List.take_add_one,h]
 simp
section
variable {N:Nat} {av bor:List Nat} {w0:World} {ops:Array Oper} {rest:List Oper} {k:St→Prop} {E:Env} {loc:List Res} {X:World→Prop} {x:Operand} {st:St}
variable {n:Nat} {ty:TypeId} {pos:String} {af:Array Edge} {g:Option (Nat×Bool)} {bb want:Bool}
theorem yk (e:EntD) (hx:ev st.env x=some e.v):Sy.Yields Tryz.prog N av bor w0 st (.field 82 x 0) ty e.l.v:=Sy.Yields.mk fun A w ok d pos af g=>by
 have p0:(part 52 e.cells.toArray 0).run Tryz.prog w=.ok e.l.v w:=by
  have hs:(sizeOf 52).run Tryz.prog w=.ok 4 w:=Sy.run_sizeOf (P:=Tryz.prog) (t:=52) (n:=4) ae w
  simp [part,isAgg,run_underlying Tryz.underlying52,hs]
  rfl
 simp only [EntD.v] at hx
 simp [execOp,ok.eval hx,Instr.field,run_underlying Tryz.underlying82,asAgg,p0]
theorem wA (e:EntD) (hx:ev E x=some e.v:=by rfl) (hg:gdB ops E g=some (bb,want):=by rfl) (hbb:bb=want:=by exact am) (hd:Nat.blt n N=true:=by rfl) (h:Sw Tryz.prog N av bor w0 ops rest ⟨(n,e.l.v)::E,loc,X⟩ k) :
  Sw Tryz.prog N av bor w0 ops (⟨some n,.field 82 x 0,ty,pos,af,g⟩::rest) ⟨E,loc,X⟩ k:=ai (yk e hx) hg hbb hd h
end
theorem jk {β:Type}:∀ {b:List (ByteArray×β)} {a:ByteArray},a∈b.map (·.1)→∃ e,mget b a=some e
 | [],a,h=>by cases h
 | (k',v')::r,a,h=>by
  simp only [mget]
  cases hk:KeyT.eqb a k' with
  | true=>exact ⟨v',rfl⟩
  | false =>
   simp only [Qv,Z8] at h
   rcases h with rfl|h
   · rw [(KeyT.eqb_iff a a).2 rfl] at hk;cases hk
   · exact jk h
structure BBnd (m:Nat) (b:List (ByteArray×EntD)):Prop where
 len:b.length≤m
 size:∀ p∈b,p.1.size≤maxLen
theorem mD {k:ByteArray} {e:EntD} (hk:k.size≤maxLen):∀ {b:List (ByteArray×EntD)} {m:Nat},BBnd m b→BBnd (m+1) (mput b k e)
 | [],m,h=>⟨by simp [mput],by simp [mput,hk]⟩
 | p::r,m,h=>by
  obtain ⟨k',v'⟩:=p
  have hl:=h.len
  simp only [ZY] at hl
  simp only [mput]
  cases KeyT.eqb k k' with
  | true=>exact ⟨by simp only [ZC,ZY];omega,fun q hq=>by
    rcases List.mem_cons.1 hq with rfl|hq
    · exact hk
    · exact h.size q (ZS _ hq)⟩
  | false =>
   have ih:=mD (e:=e) hk (b:=r) (m:=m-1) ⟨by omega,fun q hq=>h.size q (ZS _ hq)⟩
   exact ⟨by have:=ih.len;simp only [ZB,ZY];omega,fun q hq=>by
    rcases List.mem_cons.1 hq with rfl|hq
    · exact h.size _ ar
    · exact ih.size q hq⟩
theorem BBnd.mono {m m':Nat} {b:List (ByteArray×EntD)} (h:BBnd m b) (hm:m≤m'):BBnd m' b:=⟨Qr h.len hm,h.size⟩
theorem pX {m:Nat} {now:Int} {b:List (ByteArray×EntD)} {e:EntD} (h:BBnd m b) (he:e.l.actor.size≤maxLen):BBnd (m+1) (bestStep now b e):=by
 unfold bestStep
 cases decide (e.l.until_≤now) with
 | true=>exact h.mono (Nat.le_succ m)
 | false =>
  simp only [ZB]
  split
  · exact mD he h
  · cases (!eqED e _&&betV e _) with
    | true=>exact mD he h
    | false=>exact h.mono (Nat.le_succ m)
theorem rR {now:Int}:∀ (E:List EntD) {m:Nat} {b:List (ByteArray×EntD)},BBnd m b→(∀ e∈E,e.l.actor.size≤maxLen)→BBnd (m+E.length) (E.foldl (bestStep now) b)
 | [],m,b,h,_=>h
 | e::E,m,b,h,he=>by
  have:=rR (now:=now) E (pX (now:=now) h (he e ar)) fun x hx=>he x (ZS _ hx)
  simp only [List.foldl_cons,ZY]
  exact this.mono aa
theorem Bg {l:List ChainD} (hok:∀ c∈l,ActsOk c.actsL) (hlen:∀ c∈l,c.actsL.length≤1000) (k:ByteArray):(entsV l k).length≤1000∧∀ e∈entsV l k,e.l.actor.size≤maxLen:=by
 unfold entsV
 cases hf:findC l k with
 | none=>simp
 | some c =>
  have hcm:=oz hf
  refine ⟨?_,fun e he=>?_⟩
  · have h1:=iD c.actsL c.actsL.length
    have h2:=hlen c hcm
    simp only [Z3]
    omega
  · obtain ⟨j,hj,rfl⟩:=List.mem_map.1 he
    have hj2:=eN _ _ _ hj
    show (c.actsL.getD j ActD.zero).target.size≤maxLen
    rw [ZL,Zm hj2]
    exact ((hok c hcm).sm _ (Qh hj2)).target
theorem oJ {l:List ChainD} (hok:∀ c∈l,ActsOk c.actsL) (hlen:∀ c∈l,c.actsL.length≤1000) (now:Int) (ks:List ByteArray):∀ i,BBnd (i*1000) (bestF l now ks i).2
 | 0=>⟨by simp [bestF],by simp [bestF]⟩
 | i+1=>by
  have ih:=oJ hok hlen now ks i
  simp only [bestF]
  cases hasK (bestF l now ks i).1 (ks.getD i .empty) with
  | true=>exact ih.mono aa
  | false =>
   have he:=Bg hok hlen (ks.getD i .empty)
   exact (rR (entsV l (ks.getD i .empty)) ih he.2).mono (by have:=he.1;omega)
set_option maxHeartbeats 2000000 in
theorem rq (s:SlV) (l:List ChainD) (sk:SlV) (ks:List ByteArray) (now:Int) (hok:∀ c∈l,ActsOk c.actsL) (hlen:∀ c∈l,c.actsL.length≤1000) (hkl:ks.length≤1000) :
    Mk Tryz.prog 11 #[s.v,sk.v,.int .i64 now] (fun w=>Chains w s l∧Strs w sk ks∧Glob w) fun u X=>∃ S:SlV,u=S.v∧∀ w,X w→Lists w S (ofV l ks now):=by
  refine bE (args:=[_,_,_]) _ Tryz.func11 rfl Tryz.ntmps11 rfl fun av bor w0=>?_
  refine aJ (p:=sk.n=ks.length∧sk.n≤maxLen∧(0<ks.length→sk.p.isSome=true)) (fun w h=>⟨h.2.1.len_,Qr (RowsD.cap h.2.1) (RowsD.max h.2.1),h.2.1.some_⟩) fun ⟨hl,hm,hp⟩=>?_
  simp only [maxLen] at hm
  have hS:∀ i,bestF l now ks (i+1)=_:=fun i=>bestF.eq_2 l now ks i
  have hB:=oJ hok hlen now ks
  have hofV:ofV l ks now=(sortB ((bestF l now ks ks.length).2.map (·.1))).map fun a=>((mget (bestF l now ks ks.length).2 a).getD EntD.zero).l:=rfl
  generalize hFg:bestF l now ks=F at *
  repeat' (first|refine gs ?_|refine gs1 fun _=>?_|(refine gj ByteArray (h:=fun _=>?_))|(refine gp ?_ ?_<;>intro hx_ this)|fail)
  rename_i q1 q2
  refine ap (ι:=Kth ks.length) (fun i=>⟨[(0,s.v),(2,.int .i64 now),(7,.map (some q1)),(8,.map (some q2)),(20,sk.v),(21,.int .i64 sk.n),(22,.int .i64 i.k)],
    [mapr q2 (setM (F i.k).1),mapr q1 (bm (F i.k).2)],fun w=>Chains w s l∧Strs w sk ks∧Glob w⟩) (fun i=>ks.length-i.k) ⟨0,Nat.zero_le _⟩ (aj ⟨rfl,rfl,rfl,rfl,rfl,rfl,rfl,trivial⟩ (by rw [←hFg];exact al _) fun _ h=>h) fun i=>?_
  have hik:=i.hk
  repeat' (first|refine gs ?_|refine gs1 fun _=>?_|(refine gp ?_ ?_<;>intro hx_ this)|fail)
  · have hlt:i.k<ks.length:=by omega
    have hp':=hp aa
    have hSx:=hS i.k
    have hc1:∀ w,Chains w s l∧Strs w sk ks∧Glob w→CellAt w sk.p i.k (.string (ks.getD i.k .empty)):=fun w h=>Strs.get h.2.1 hlt
    generalize ks.getD i.k .empty=x at *
    have hen:=tT s l x hok (fun c hc=>Qr (hlen c hc) (by decide))
    have hgs:=rA (F i.k).1 x
    have hps:=rv (F i.k).1 x
    generalize entsV l x=E at *
    cases hh:hasK (F i.k).1 x with
    | true =>
      rw [hh] at hgs hSx
      repeat' (first|refine aH (q:=i.k) ?_|refine dr (q:=i.k) (u:=.string x) (hF:=fun w h=>hc1 w h) ?_|refine gs ?_|refine gs1 fun _=>?_|(refine gg (κ:=ByteArray) (kk:=x) (o:=some (.bool true)) (hl:=fC aP) (ho:=hgs) ?_)|(refine gp ?_ ?_<;>intro hx_ this)|fail)
      simp only [ZC] at hSx
      refine ⟨(⟨i.k+1,hlt⟩:Kth ks.length),(by show ks.length-(i.k+1)<ks.length-i.k;omega),aj ⟨rfl,rfl,rfl,rfl,rfl,rfl,rfl,trivial⟩ ?_ fun _ h=>h⟩
      show List.Sublist [mapr q2 (setM (F (i.k+1)).1),mapr q1 (bm (F (i.k+1)).2)] _
      rw [hSx]
      exact al _
    | false =>
      rw [hh] at hgs hSx
      repeat' (first|refine aH (q:=i.k) ?_|refine dr (q:=i.k) (u:=.string x) (hF:=fun w h=>hc1 w h) ?_|(refine cA (hc:=hen) (hX:=fun w h=>⟨h.1,h.2.2⟩) fun v1 X1 h1=>?_;obtain ⟨S,rfl,hs⟩:=h1)|refine gs ?_|refine gs1 fun _=>?_|(refine gg (κ:=ByteArray) (kk:=x) (o:=none) (hl:=fC aP) (ho:=hgs) ?_)|(refine fo (κ:=ByteArray) (kk:=x) (hA:=by (repeat (first|with_reducible exact At.here _|apply At.there))) ?_)|(refine gp ?_ ?_<;>intro hx_ this)|fail)
      rw [hps]
      simp only [ZB] at hSx
      refine aJ (fun w h=>Ents.know w (hs w h.2)) fun ⟨hn1,hm1,hp1⟩=>?_
      simp only [maxLen] at hm1
      generalize hsk:sput (F i.k).1 x=sn at *
      generalize hb0:(F i.k).2=b0 at *
      refine ap (ι:=Kth E.length) (fun j=>⟨[(0,s.v),(2,.int .i64 now),(7,.map (some q1)),(8,.map (some q2)),(20,sk.v),(21,.int .i64 sk.n),(22,.int .i64 i.k),(33,S.v),(34,.int .i64 S.n),(35,.int .i64 j.k)],
        [mapr q2 (setM sn),mapr q1 (bm ((E.take j.k).foldl (bestStep now) b0))],fun w=>(Chains w s l∧Strs w sk ks∧Glob w)∧X1 w⟩) (fun j=>E.length-j.k) ⟨0,Nat.zero_le _⟩ (aj ⟨rfl,rfl,rfl,rfl,rfl,rfl,rfl,rfl,rfl,rfl,trivial⟩ (al _) fun _ h=>h) fun j=>?_
      have hjk:=j.hk
      repeat' (first|refine gs ?_|refine gs1 fun _=>?_|(refine gp ?_ ?_<;>intro hx_ this)|fail)
      · have hlt2:j.k<E.length:=by omega
        have hp2:=hp1 aa
        obtain ⟨e,he⟩:∃ e,E[j.k]?=some e:=⟨_,Zm hlt2⟩
        have hfo:=tQ (bestStep now) b0 E he
        generalize (E.take j.k).foldl (bestStep now) b0=b at *
        have hmb:=vj b e.l.actor
        have hpb:=Db b e.l.actor e
        cases ho:mget b e.l.actor with
        | none =>
          rw [ho] at hmb
          have hst:bestStep now b e=bif decide (e.l.until_≤now) then b else mput b e.l.actor e:=by unfold bestStep;rw [ho]
          repeat' (first|refine aH (q:=j.k*5) ?_|refine bP (cs:=e.cells) (hF:=fun w h=>Ents.get (hs w h.2) he) ?_|refine gs ?_|refine gs1 fun _=>?_|(refine dL (κ:=ByteArray) (kk:=e.l.actor) (o:=none) (v:=EntD.zero.v) (b:=false) (hl:=fC aP) (ho:=hmb) ?_)|(refine fo (κ:=ByteArray) (kk:=e.l.actor) (v:=e.v) (hA:=by (repeat (first|with_reducible exact At.here _|apply At.there))) ?_)|(refine gp ?_ ?_<;>intro hx_ this)|fail)
          · have e1:bestStep now b e=b:=by rw [hst,ZA (by assumption),ZC]
            refine ⟨(⟨j.k+1,hlt2⟩:Kth E.length),(by show E.length-(j.k+1)<E.length-j.k;omega),aj ⟨rfl,rfl,rfl,rfl,rfl,rfl,rfl,rfl,rfl,rfl,trivial⟩ ?_ fun _ h=>h⟩
            show List.Sublist [mapr q2 (setM sn),mapr q1 (bm ((E.take (j.k+1)).foldl (bestStep now) b0))] _
            rw [hfo,e1]
            exact List.Sublist.cons _ (al _)
          · have e1:bestStep now b e=mput b e.l.actor e:=by rw [hst,Zn (by assumption),ZB]
            refine ⟨(⟨j.k+1,hlt2⟩:Kth E.length),(by show E.length-(j.k+1)<E.length-j.k;omega),aj ⟨rfl,rfl,rfl,rfl,rfl,rfl,rfl,rfl,rfl,rfl,trivial⟩ ?_ fun _ h=>h⟩
            show List.Sublist [mapr q2 (setM sn),mapr q1 (bm ((E.take (j.k+1)).foldl (bestStep now) b0))] _
            rw [hfo,e1,←hpb]
            exact List.Sublist.cons _ (List.Sublist.cons _ (al _))
        | some old =>
          rw [ho] at hmb
          have hst:bestStep now b e=bif decide (e.l.until_≤now) then b else bif ((!eqED e old)&&betV e old) then mput b e.l.actor e else b:=by unfold bestStep;rw [ho]
          repeat' (first|refine aH (q:=j.k*5) ?_|refine bP (cs:=e.cells) (hF:=fun w h=>Ents.get (hs w h.2) he) ?_|refine zz e old (hx:=by rfl) (hy:=by rfl) (h:=?_)|(refine ab (hc:=xR e old) (hX:=fun w h=>trivial) ?_)|refine gs ?_|refine gs1 fun _=>?_|(refine dL (κ:=ByteArray) (kk:=e.l.actor) (o:=some old.v) (v:=old.v) (b:=true) (hl:=fC aP) (ho:=hmb) ?_)|(refine fo (κ:=ByteArray) (kk:=e.l.actor) (v:=e.v) (hA:=by (repeat (first|with_reducible exact At.here _|apply At.there))) ?_)|(refine gp ?_ ?_<;>intro hx_ this)|fail)
          all_goals first
            | (have e1:bestStep now b e=b:=by
                 first
                   | rw [hst,ZA (by assumption),ZC]
                   | rw [hst,Zn (by assumption),ZB,show (!eqED e old)=false from by assumption,ZG,ZB]
                   | rw [hst,Zn (by assumption),ZB,show (!eqED e old)=true from by assumption,show betV e old=false from by assumption,ZH,ZB]
               refine ⟨(⟨j.k+1,hlt2⟩:Kth E.length),(by show E.length-(j.k+1)<E.length-j.k;omega),aj ⟨rfl,rfl,rfl,rfl,rfl,rfl,rfl,rfl,rfl,rfl,trivial⟩ ?_ fun _ h=>h⟩
               show List.Sublist [mapr q2 (setM sn),mapr q1 (bm ((E.take (j.k+1)).foldl (bestStep now) b0))] _
               rw [hfo,e1]
               first
                 | exact List.Sublist.cons _ (al _)
                 | exact List.Sublist.cons _ (List.Sublist.cons _ (al _)))
            | (have e1:bestStep now b e=mput b e.l.actor e:=by
                 rw [hst,Zn (by assumption),ZB,show (!eqED e old)=true from by assumption,show betV e old=true from by assumption,ZE,ZC]
               refine ⟨(⟨j.k+1,hlt2⟩:Kth E.length),(by show E.length-(j.k+1)<E.length-j.k;omega),aj ⟨rfl,rfl,rfl,rfl,rfl,rfl,rfl,rfl,rfl,rfl,trivial⟩ ?_ fun _ h=>h⟩
               show List.Sublist [mapr q2 (setM sn),mapr q1 (bm ((E.take (j.k+1)).foldl (bestStep now) b0))] _
               rw [hfo,e1,←hpb]
               exact List.Sublist.cons _ (List.Sublist.cons _ (al _)))
      · have hj:j.k=E.length:=by omega
        refine ⟨(⟨i.k+1,hlt⟩:Kth ks.length),(by show ks.length-(i.k+1)<ks.length-i.k;omega),aj ⟨rfl,rfl,rfl,rfl,rfl,rfl,rfl,trivial⟩ ?_ fun _ h=>h.1⟩
        show List.Sublist [mapr q2 (setM (F (i.k+1)).1),mapr q1 (bm (F (i.k+1)).2)] _
        rw [hSx,hj,List.take_length]
        exact al _
  · have hik':i.k=ks.length:=by omega
    rw [hik']
    have hBx:=hB ks.length
    generalize (F ks.length).2=b at *
    have hbl:b.length≤1000000:=by have:=hBx.len;have:ks.length*1000≤1000000:=Nat.mul_le_mul_right 1000 hkl;omega
    have hml:(bm b).length=b.length:=by simp [bm]
    have hmk:(bm b).map (·.1)=b.map (·.1):=by simp [bm,Function.comp_def]
    refine Cy (l:=[mapr q1 (bm b)]) (List.Sublist.cons _ (al _)) ?_
    refine zG (hc:=keysES_c.ct (some q1)) (hX:=fun _ _=>trivial) ?_
    rintro v1 R1 X1 ⟨bk,rfl,rfl⟩
    refine bY (pre:=[cel bk 77 [.map (some q1)],mapr q1 (bm b)]) (fr:=[]) (hc:=sortedES_c.ct bk q1 (bm b) (fun p hp=>?_) aa) (hX:=fun _ _=>trivial) (h:=?_)
    · simp only [bm,List.mem_map] at hp
      obtain ⟨p',hp',rfl⟩:=hp
      exact hBx.size p' hp'
    rintro v2 R2 X2 ⟨A,c2,rfl,rfl⟩
    rw [hml,hmk]
    have hKl:(sortB (b.map (·.1))).length=b.length:=by rw [nP,Z3]
    have hKm:∀ a∈sortB (b.map (·.1)),∃ e,mget b a=some e:=fun a ha=>jk (mem_sortB.1 ha)
    generalize sortB (b.map (·.1))=K at *
    refine bo ?_
    repeat' (first|refine gs ?_|refine gs1 fun _=>?_|fail)
    refine tV (X':=fun w=>Strs w ⟨A,b.length,c2⟩ K) (fun w h=>gk h.2 hKl.symm) ?_
    refine aJ (p:=0<K.length→A.isSome=true) (fun w h=>h.some_) fun hpA=>?_
    refine cL 52 4 ?_
    refine ap (ι:=FilS K.length) (fun j=>⟨[(7,.map (some q1)),(15,.slice j.A j.k j.c),(73,.slice A b.length c2),(74,.int .i64 (b.length:Nat)),(75,.int .i64 j.k)],
      [orow 52 4 (.slice j.A j.k j.c) j.k ((K.take j.k).map fun a=>((mget b a).getD EntD.zero).l.cells).flatten,mapr q1 (bm b)],fun w=>Strs w ⟨A,b.length,c2⟩ K⟩) (fun j=>K.length-j.k) ⟨0,Nat.zero_le _,none,0⟩
      (aj ⟨rfl,rfl,rfl,rfl,rfl,trivial⟩ (List.Sublist.cons_cons _ (List.Sublist.cons _ (List.Sublist.cons_cons _ (ZR _)))) fun _ h=>h) fun j=>?_
    have hjk:=j.hk
    repeat' (first|refine gs ?_|refine gs1 fun _=>?_|(refine gp ?_ ?_<;>intro hx_ this)|fail)
    · have hltj:j.k<K.length:=by omega
      have hpA':=hpA aa
      obtain ⟨a,ha⟩:∃ a,K[j.k]?=some a:=⟨_,Zm hltj⟩
      obtain ⟨e,he⟩:=hKm a (List.mem_of_getElem? ha)
      have hmb:mget (bm b) a=some e.v:=by rw [vj,he];rfl
      have hfl:((K.take (j.k+1)).map fun a=>((mget b a).getD EntD.zero).l.cells).flatten=((K.take j.k).map fun a=>((mget b a).getD EntD.zero).l.cells).flatten++e.l.cells:=by
        rw [List.take_add_one,ha]
        simp [he]
      generalize ((K.take j.k).map fun a=>((mget b a).getD EntD.zero).l.cells).flatten=acc at *
      repeat' (first|refine aH (q:=j.k) ?_|refine dr (q:=j.k) (u:=.string a) (hF:=fun w h=>h.at_ ha) ?_|refine cS (size:=4) (vs:=[e.l.v]) (css:=e.l.cells) (hsz:=by rfl) (hcs:=by rfl) fun _=>?_|(refine aF (size:=4) (news:=e.l.cells) (q:=1) rfl rfl rfl rfl (fun _=>At.there _ (At.here _)) (fun w G=>bJ G ar rfl rfl 1) aa (by simp only [maxLen];omega) rfl ?_ rfl ?_;(first|with_reducible rfl|with_reducible assumption|with_reducible exact ZI|with_reducible exact ZK);intro A3 c3)|refine gs ?_|refine gs1 fun _=>?_|(refine gg (κ:=ByteArray) (kk:=a) (o:=some e.v) (hl:=fC aP) (ho:=hmb) ?_)|(refine wA e (hx:=by rfl) (h:=?_))|(refine gp ?_ ?_<;>intro hx_ this)|fail)
      refine ⟨(⟨j.k+1,hltj,A3,c3⟩:FilS K.length),(by show K.length-(j.k+1)<K.length-j.k;omega),aj ⟨rfl,rfl,rfl,rfl,rfl,trivial⟩ ?_ fun _ h=>h⟩
      show List.Sublist [orow 52 4 _ _ ((K.take (j.k+1)).map fun a=>((mget b a).getD EntD.zero).l.cells).flatten,_] _
      rw [hfl]
      exact List.Sublist.cons _ (al _)
    · have hk:j.k=K.length:=by omega
      refine ad (ag rfl rfl) ⟨⟨j.A,j.k,j.c⟩,rfl,fun w h=>?_⟩
      have h1:=h.2 _ ar
      have e1:((K.take j.k).map fun a=>((mget b a).getD EntD.zero).l.cells)=(K.map fun a=>((mget b a).getD EntD.zero).l).map ListD.cells:=by
        rw [hk,List.take_length,Qu];rfl
      rw [e1] at h1
      rw [hofV]
      exact bt h1 (by simp [hk]) (by
        intro r hr
        obtain ⟨x,_,rfl⟩:=List.mem_map.1 hr
        rfl)
end Go.Proofs.YtoefdofbekihdaaGreatDoor
set_option maxHeartbeats 16000000
namespace Go.Proofs.YtoefdofbekihdaaGreatDoor
open Go Go.Proofs Sy
theorem g8 {a b:EntD}:betV a b=true↔b.l.until_<a.l.until_∨(a.l.until_=b.l.until_∧(ltB a.l.by_ b.l.by_=true∨(a.l.by_=b.l.by_∧b.at_<a.at_))):=by
 unfold betV
 by_cases h:a.l.until_=b.l.until_
 · rw [ZA h]
   simp only [ZK,ZB]
   cases hs:seqB a.l.by_ b.l.by_ with
   | true =>
    have e:=seqB_iff.1 hs
    simp only [ZK,ZB,ZT]
    constructor
    · intro h1;exact .inr ⟨h,.inr ⟨e,h1⟩⟩
    · rintro (h1|⟨_,h1|h1⟩)
      · omega
      · rw [e,cX] at h1;cases h1
      · exact h1.2
   | false =>
    have e:=seqB_ne.1 hs
    simp only [ZI,ZC]
    constructor
    · intro h1;exact .inr ⟨h,.inl h1⟩
    · rintro (h1|⟨_,h1|h1⟩)
      · omega
      · exact h1
      · exact absurd h1.1 e
 · rw [Zn h]
   simp only [ZI,ZC,ZT]
   constructor
   · intro h1;exact .inl h1
   · rintro (h1|h1)
     · exact h1
     · exact absurd h1.1 h
theorem uf {a b:EntD} (h:betV a b=true) (k:betV b a=true):False:=by
 rw [g8] at h k
 rcases h with h|⟨h,h2⟩
 · rcases k with k|⟨k,_⟩<;>omega
 · rcases k with k|⟨k,k2⟩
   · omega
   · rcases h2 with h2|⟨h2,h3⟩
     · rcases k2 with k2|⟨k2,_⟩
       · rw [fZ h2] at k2;cases k2
       · rw [k2,cX] at h2;cases h2
     · rcases k2 with k2|⟨k2,k3⟩
       · rw [h2,cX] at k2;cases k2
       · omega
theorem ud {a b c:EntD} (h:betV a b=true) (k:betV b c=true):betV a c=true:=by
 rw [g8] at *
 rcases h with h|⟨h,h2⟩
 · rcases k with k|⟨k,_⟩<;>exact .inl aa
 · rcases k with k|⟨k,k2⟩
   · exact .inl aa
   · refine .inr ⟨by omega,?_⟩
     rcases h2 with h2|⟨h2,h3⟩
     · rcases k2 with k2|⟨k2,_⟩
       · exact .inl (fq h2 k2)
       · exact .inl (k2▸h2)
     · rcases k2 with k2|⟨k2,k3⟩
       · exact .inl (h2▸k2)
       · exact .inr ⟨h2.trans k2,by omega⟩
theorem ue {a b:EntD} (h:¬ betV a b=true) (k:¬ betV b a=true):a.l.by_=b.l.by_∧a.at_=b.at_:=by
 rw [g8] at *
 simp only [not_or,not_and] at h k
 have hu:a.l.until_=b.l.until_:=by omega
 have h2:=h.2 hu
 have k2:=k.2 hu.symm
 have e:a.l.by_=b.l.by_:=jY (by simpa using h2.1) (by simpa using k2.1)
 exact ⟨e,by have:=h2.2 e;have:=k2.2 e.symm;omega⟩
theorem iF {l:List ChainD} {k:ByteArray} {e:EntD} (h:e∈entsV l k):∃ c j,findC l k=some c∧j∈foundF c.actsL c.actsL.length∧e=entA k c.actsL j:=by
 unfold entsV at h
 cases hf:findC l k with
 | none=>rw [hf] at h;cases h
 | some c =>
  rw [hf] at h
  obtain ⟨j,hj,rfl⟩:=List.mem_map.1 h
  exact ⟨c,j,rfl,hj,rfl⟩
theorem Bj {l:List ChainD} {k:ByteArray} {e:EntD} (h:e∈entsV l k):e.l.by_=k:=by
 obtain ⟨c,j,_,_,rfl⟩:=iF h
 rfl
theorem Bi {l:List ChainD} {k k':ByteArray} {e e':EntD} (h:e∈entsV l k) (h':e'∈entsV l k') (hb:e.l.by_=e'.l.by_) (ha:e.at_=e'.at_):e=e':=by
 have hk:k=k':=by rw [←Bj h,←Bj h',hb]
 subst hk
 obtain ⟨c,j,hc,_,rfl⟩:=iF h
 obtain ⟨c',j',hc',_,rfl⟩:=iF h'
 rw [hc] at hc'
 cases hc'
 have:(j:Int)=(j':Int):=ha
 rw [show j=j' by omega]
def Best (S:EntD→Prop) (a:ByteArray) (e:EntD):Prop:=S e∧e.l.actor=a∧∀ e',S e'→e'.l.actor=a→e'=e∨betV e e'=true
theorem Best.uniq {S:EntD→Prop} {a:ByteArray} {e e':EntD} (h:Best S a e) (h':Best S a e'):e=e':=by
 rcases h.2.2 e' h'.1 h'.2.1 with h1|h1
 · exact h1.symm
 · rcases h'.2.2 e h.1 h.2.1 with h2|h2
   · exact h2
   · exact (uf h1 h2).elim
theorem jW {β:Type}:∀ (b:List (ByteArray×β)) (k a:ByteArray) (v:β),mget (mput b k v) a=if a=k then some v else mget b a
 | [],k,a,v=>by
  by_cases h:a=k
  · simp only [mput,mget,(KeyT.eqb_iff a k).2 h,ZC,Qf h]
  · have:KeyT.eqb a k=false:=by rw [←Z2,KeyT.eqb_iff];exact h
    simp only [mput,mget,this,ZB,Qg h]
 | (k',v')::r,k,a,v=>by
  have ih:=jW r k a v
  simp only [mput]
  cases hk:KeyT.eqb k k' with
  | true =>
   have e:=(KeyT.eqb_iff k k').1 hk
   subst e
   by_cases h:a=k
   · simp only [ZC,mget,(KeyT.eqb_iff a k).2 h,Qf h]
   · have:KeyT.eqb a k=false:=by rw [←Z2,KeyT.eqb_iff];exact h
     simp only [ZC,mget,this,ZB,Qg h]
  | false =>
   simp only [ZB,mget]
   cases ha:KeyT.eqb a k' with
   | true =>
    have e:=(KeyT.eqb_iff a k').1 ha
    subst e
    have hne:¬ a=k:=fun e=>by rw [e,(KeyT.eqb_iff k k).2 rfl] at hk;cases hk
    simp only [ZC,Qg hne]
   | false=>simp only [ZB,ih]
theorem rE {β:Type}:∀ (b:List (ByteArray×β)) (k a:ByteArray) (v:β),a∈(mput b k v).map (·.1)↔a=k∨a∈b.map (·.1)
 | [],k,a,v=>by simp [mput]
 | (k',v')::r,k,a,v=>by
  have ih:=rE r k a v
  simp only [mput]
  cases hk:KeyT.eqb k k' with
  | true =>
   have e:=(KeyT.eqb_iff k k').1 hk
   subst e
   simp
  | false =>
   simp only [ZB,Qv,Z8,ih]
   constructor
   · rintro (h|h|h)
     · exact .inr (.inl h)
     · exact .inl h
     · exact .inr (.inr h)
   · rintro (h|h|h)
     · exact .inr (.inl h)
     · exact .inl h
     · exact .inr (.inr h)
theorem mC {β:Type}:∀ (b:List (ByteArray×β)) (k:ByteArray) (v:β),(b.map (·.1)).Nodup→((mput b k v).map (·.1)).Nodup
 | [],k,v,_=>by simp [mput]
 | (k',v')::r,k,v,h=>by
  simp only [Qv,List.nodup_cons] at h
  have ih:=mC r k v h.2
  simp only [mput]
  cases hk:KeyT.eqb k k' with
  | true =>
   have e:=(KeyT.eqb_iff k k').1 hk
   subst e
   simp only [ZC,Qv,List.nodup_cons]
   exact h
  | false =>
   simp only [ZB,Qv,List.nodup_cons]
   refine ⟨fun hm=>?_,ih⟩
   rcases (rE r k k' v).1 hm with e|e
   · rw [e,(KeyT.eqb_iff k k).2 rfl] at hk;cases hk
   · exact h.1 e
theorem on {β:Type}:∀ {b:List (ByteArray×β)} {a:ByteArray} {e:β},mget b a=some e→a∈b.map (·.1)
 | [],a,e,h=>by cases h
 | (k',v')::r,a,e,h=>by
  simp only [mget] at h
  cases hk:KeyT.eqb a k' with
  | true=>rw [(KeyT.eqb_iff a k').1 hk];simp
  | false=>rw [hk] at h;simp only [Qv,Z8];exact .inr (on h)
structure Inv (l:List ChainD) (S:EntD→Prop) (b:List (ByteArray×EntD)):Prop where
 wf:∀ e,S e→∃ k,e∈entsV l k
 nodup:(b.map (·.1)).Nodup
 best:∀ a e,mget b a=some e→Best S a e
 all:∀ e,S e→∃ e',mget b e.l.actor=some e'
theorem Inv.congr {l:List ChainD} {S S':EntD→Prop} {b:List (ByteArray×EntD)} (h:Inv l S b) (hs:∀ e,S e↔S' e):Inv l S' b:=by
 have:S=S':=funext fun e=>propext (hs e)
 subst this
 exact h
theorem AR {l:List ChainD} {S:EntD→Prop} {b:List (ByteArray×EntD)} {now:Int} {e:EntD} {k:ByteArray} (h:Inv l S b) (he:e∈entsV l k):Inv l (fun x=>S x∨(x=e∧now<e.l.until_)) (bestStep now b e):=by
 unfold bestStep
 by_cases hu:e.l.until_≤now
 · rw [ZA hu,ZC]
   exact h.congr fun x=>⟨.inl,fun hx=>hx.elim id fun hx=>by omega⟩
 · rw [Zn hu,ZB]
   have hu':now<e.l.until_:=by omega
   have hS:(fun x=>S x∨(x=e∧now<e.l.until_))=fun x=>S x∨x=e:=funext fun x=>propext ⟨fun hx=>hx.imp id And.left,fun hx=>hx.imp id fun hx=>⟨hx,hu'⟩⟩
   rw [hS]
   have hwf:∀ x,S x∨x=e→∃ k,x∈entsV l k:=fun x hx=>hx.elim (h.wf x) fun hx=>⟨k,hx▸he⟩
   have put:(∀ x,S x→x.l.actor=e.l.actor→x=e∨betV e x=true)→Inv l (fun x=>S x∨x=e) (mput b e.l.actor e):=fun hb=>by
    refine ⟨hwf,mC b _ _ h.nodup,fun a x hx=>?_,fun x hx=>?_⟩
    · rw [jW] at hx
      by_cases ha:a=e.l.actor
      · rw [Qf ha] at hx
        cases hx
        refine ⟨.inr rfl,ha.symm,fun e' h1 h2=>?_⟩
        rcases h1 with h1|h1
        · exact hb e' h1 (h2.trans ha)
        · exact .inl h1
      · rw [Qg ha] at hx
        have h1:=h.best a x hx
        refine ⟨.inl h1.1,h1.2.1,fun e' h2 h3=>?_⟩
        rcases h2 with h2|h2
        · exact h1.2.2 e' h2 h3
        · subst h2;exact absurd h3.symm ha
    · rw [jW]
      by_cases ha:x.l.actor=e.l.actor
      · rw [Qf ha];exact ⟨_,rfl⟩
      · rw [Qg ha]
        rcases hx with hx|hx
        · exact h.all x hx
        · subst hx;exact absurd rfl ha
   cases ho:mget b e.l.actor with
   | none =>
    refine put fun x hx ha=>?_
    obtain ⟨e',h1⟩:=h.all x hx
    rw [ha,ho] at h1
    cases h1
   | some old =>
    have hbo:=h.best _ _ ho
    simp only
    cases hc:((!eqED e old)&&betV e old) with
    | true =>
     have hb:=(ZM _ _).mp hc
     refine put fun x hx ha=>?_
     rcases hbo.2.2 x hx ha with h1|h1
     · rw [h1];exact .inr hb.2
     · exact .inr (ud hb.2 h1)
    | false =>
     simp only [ZB]
     have hoe:old=e∨betV old e=true:=by
      by_cases h1:betV old e=true
      · exact .inr h1
      · by_cases h2:betV e old=true
        · rw [h2,ZE] at hc
          have:eqED e old=true:=by simpa using hc
          exact .inl (eqED_iff.1 this).symm
        · obtain ⟨k',hk'⟩:=h.wf old hbo.1
          have h3:=ue h1 h2
          exact .inl (Bi hk' he h3.1 h3.2)
     refine ⟨hwf,h.nodup,fun a x hx=>?_,fun x hx=>?_⟩
     · have h1:=h.best a x hx
       refine ⟨.inl h1.1,h1.2.1,fun e' h2 h3=>?_⟩
       rcases h2 with h2|h2
       · exact h1.2.2 e' h2 h3
       · subst h2
         rw [←h3,ho] at hx
         cases hx
         rcases hoe with h4|h4
         · exact .inl h4.symm
         · exact .inr h4
     · rcases hx with hx|hx
       · exact h.all x hx
       · subst hx;exact ⟨old,ho⟩
theorem rM {l:List ChainD} {now:Int} {k:ByteArray}:∀ (E:List EntD) {S:EntD→Prop} {b:List (ByteArray×EntD)},Inv l S b→(∀ e∈E,e∈entsV l k)→Inv l (fun x=>S x∨(x∈E∧now<x.l.until_)) (E.foldl (bestStep now) b)
 | [],S,b,h,_=>h.congr fun x=>⟨.inl,fun hx=>hx.elim id fun hx=>by cases hx.1⟩
 | e::E,S,b,h,he=>by
  have h1:=AR (now:=now) h (he e ar)
  have h2:=rM (now:=now) E h1 fun x hx=>he x (ZS _ hx)
  refine h2.congr fun x=>?_
  simp only [Z8]
  constructor
  · rintro ((h|⟨rfl,h⟩)|⟨h,h'⟩)
    · exact .inl h
    · exact .inr ⟨.inl rfl,h⟩
    · exact .inr ⟨.inr h,h'⟩
  · rintro (h|⟨rfl|h,h'⟩)
    · exact .inl (.inl h)
    · exact .inl (.inr ⟨rfl,h'⟩)
    · exact .inr ⟨h,h'⟩
def Cand (l:List ChainD) (ks:List ByteArray) (now:Int) (e:EntD):Prop:=(∃ k∈ks,e∈entsV l k)∧now<e.l.until_
theorem hasK_iff {ks:List ByteArray} {k:ByteArray}:hasK ks k=true↔k∈ks:=by
 rw [hasK,List.any_eq_true]
 constructor
 · rintro ⟨y,hy,h⟩
   rw [(KeyT.eqb_iff k y).1 h];exact hy
 · intro h
   exact ⟨k,h,(KeyT.eqb_iff k k).2 rfl⟩
theorem xl {ks:List ByteArray} {k a:ByteArray}:a∈sput ks k↔a=k∨a∈ks:=by
 induction ks with
 | nil=>simp [sput]
 | cons y ks ih =>
  simp only [sput]
  cases hk:KeyT.eqb k y with
  | true=>rw [(KeyT.eqb_iff k y).1 hk];simp
  | false =>
   simp only [ZB,Z8,ih]
   constructor
   · rintro (h|h|h)
     · exact .inr (.inl h)
     · exact .inl h
     · exact .inr (.inr h)
   · rintro (h|h|h)
     · exact .inr (.inl h)
     · exact .inl h
     · exact .inr (.inr h)
theorem rN (l:List ChainD) (now:Int) (ks:List ByteArray):∀ i,i≤ks.length→(∀ k,k∈(bestF l now ks i).1↔k∈ks.take i)∧Inv l (Cand l (ks.take i) now) (bestF l now ks i).2
 | 0,_=>⟨fun k=>(by simp [bestF]),{ wf:=fun e h=>(by obtain ⟨⟨k,hk,_⟩,_⟩:=h;simp at hk),nodup:=(by simp [bestF]),best:=fun a e h=>(by cases h),all:=fun e h=>(by obtain ⟨⟨k,hk,_⟩,_⟩:=h;simp at hk) }⟩
 | i+1,hi=>by
  obtain ⟨ih1,ih2⟩:=rN l now ks i aa
  have hx:ks.getD i .empty=ks[i]:=by rw [ZL,Zm (by omega)];rfl
  have ht:ks.take (i+1)=ks.take i++[ks[i]]:=by rw [List.take_add_one,Zm (by omega)];rfl
  simp only [bestF,hx,ht]
  generalize ks[i]=k0 at *
  cases hh:hasK (bestF l now ks i).1 k0 with
  | true =>
   have hin:k0∈ks.take i:=(ih1 k0).1 (hasK_iff.1 hh)
   simp only [ZC]
   refine ⟨fun k=>?_,ih2.congr fun e=>?_⟩
   · rw [ih1,List.mem_append,List.mem_singleton]
     exact ⟨.inl,fun h=>h.elim id fun h=>h▸hin⟩
   · unfold Cand
     simp only [List.mem_append,List.mem_singleton]
     exact ⟨fun ⟨⟨k,h1,h2⟩,h3⟩=>⟨⟨k,.inl h1,h2⟩,h3⟩,fun ⟨⟨k,h1,h2⟩,h3⟩=>⟨⟨k,h1.elim id fun h=>h▸hin,h2⟩,h3⟩⟩
  | false =>
   simp only [ZB]
   refine ⟨fun k=>?_,(rM (now:=now) (k:=k0) (entsV l k0) ih2 fun e he=>he).congr fun e=>?_⟩
   · rw [xl,ih1,List.mem_append,List.mem_singleton]
     exact Or.comm
   · unfold Cand
     simp only [List.mem_append,List.mem_singleton]
     constructor
     · rintro (⟨⟨k,h1,h2⟩,h3⟩|⟨h2,h3⟩)
       · exact ⟨⟨k,.inl h1,h2⟩,h3⟩
       · exact ⟨⟨k0,.inr rfl,h2⟩,h3⟩
     · rintro ⟨⟨k,h1|rfl,h2⟩,h3⟩
       · exact .inl ⟨⟨k,h1,h2⟩,h3⟩
       · exact .inr ⟨h2,h3⟩
theorem pI (l:List ChainD) (now:Int) (ks:List ByteArray):Inv l (Cand l ks now) (bestF l now ks ks.length).2:=by
 have:=(rN l now ks ks.length (Qq _)).2
 rwa [List.take_length] at this
def Lst (l:List ChainD) (ks:List ByteArray) (now:Int) (x:ListD):Prop:=∃ e,Best (Cand l ks now) x.actor e∧e.l=x
theorem mem_ofV {l:List ChainD} {ks:List ByteArray} {now:Int} {x:ListD}:x∈ofV l ks now↔Lst l ks now x:=by
 have hI:=pI l now ks
 unfold ofV
 rw [List.mem_map]
 constructor
 · rintro ⟨a,ha,rfl⟩
   obtain ⟨e,he⟩:=jk (mem_sortB.1 ha)
   have hb:=hI.best a e he
   rw [he]
   refine ⟨e,?_,rfl⟩
   show Best _ e.l.actor e
   rw [hb.2.1]
   exact hb
 · rintro ⟨e,hb,rfl⟩
   obtain ⟨e',he'⟩:=hI.all e hb.1
   have hb':=hI.best _ e' he'
   have:e=e':=hb.uniq hb'
   subst this
   exact ⟨e.l.actor,mem_sortB.2 (on he'),by rw [he'];rfl⟩
theorem ul (l:List ChainD) (ks:List ByteArray) (now:Int):(ofV l ks now).map (·.actor)=sortB ((bestF l now ks ks.length).2.map (·.1)):=by
 have hI:=pI l now ks
 unfold ofV
 rw [Qu]
 conv=>rhs;rw [←List.map_id (sortB ((bestF l now ks ks.length).2.map (·.1)))]
 refine List.map_congr_left fun a ha=>?_
 obtain ⟨e,he⟩:=jk (mem_sortB.1 ha)
 have hb:=hI.best a e he
 simp only [Function.comp_apply,he,Option.getD_some,id_eq]
 exact hb.2.1
theorem vH (l:List ChainD) (ks:List ByteArray) (now:Int):(ofV l ks now).Pairwise fun x y=>ltB x.actor y.actor=true:=by
 have h:Asc ((ofV l ks now).map (·.actor)):=by
  rw [ul]
  exact xT (pI l now ks).nodup
 unfold Asc at h
 rwa [List.pairwise_map] at h
theorem DJ {l m:List ListD} (hl:l.Pairwise fun x y=>ltB x.actor y.actor=true) (hm:m.Pairwise fun x y=>ltB x.actor y.actor=true) (h:∀ x,x∈l↔x∈m):l=m:=by
 have nd:∀ {l:List ListD},(l.Pairwise fun x y=>ltB x.actor y.actor=true)→l.Nodup:=fun h=>h.imp fun h e=>by subst e;rw [cX] at h;cases h
 refine ((List.perm_ext_iff_of_nodup (nd hl) (nd hm)).2 h).eq_of_pairwise (fun a b _ _ h1 h2=>?_) hl hm
 rw [fZ h1] at h2
 cases h2
theorem Lst.uniq {l:List ChainD} {ks:List ByteArray} {now:Int} {x y:ListD} (hx:Lst l ks now x) (hy:Lst l ks now y) (h:x.actor=y.actor):x=y:=by
 obtain ⟨e,he,rfl⟩:=hx
 obtain ⟨e',he',rfl⟩:=hy
 rw [h] at he
 rw [he.uniq he']
theorem hasL_iff {l:List ChainD} {ks:List ByteArray} {now:Int} {x:ListD} {a:ByteArray}:hasL (ofV l ks now) a=some x↔Lst l ks now x∧x.actor=a:=by
 constructor
 · intro h
   have h1:=List.find?_some h
   exact ⟨mem_ofV.1 (List.mem_of_find?_eq_some h),seqB_iff.1 h1⟩
 · rintro ⟨h,rfl⟩
   cases hf:hasL (ofV l ks now) x.actor with
   | none =>
    rw [hasL,List.find?_eq_none] at hf
    exact absurd (cV x.actor) (hf x (mem_ofV.2 h))
   | some y =>
    have h1:=mem_ofV.1 (List.mem_of_find?_eq_some hf)
    have h2:=List.find?_some hf
    rw [h.uniq h1 (seqB_iff.1 h2).symm]
theorem listed {l:List ChainD} {ks:List ByteArray} {now:Int} {e:EntD} (h:Cand l ks now e):∃ x,Lst l ks now x∧x.actor=e.l.actor∧e.l.until_≤x.until_∧(x.until_=e.l.until_→ltB e.l.by_ x.by_=false):=by
 have hI:=pI l now ks
 obtain ⟨e',he'⟩:=hI.all e h
 have hb:=hI.best _ e' he'
 refine ⟨e'.l,⟨e',by rw [hb.2.1];exact hb,rfl⟩,hb.2.1,?_,fun hu=>?_⟩
 · rcases hb.2.2 e h rfl with h1|h1
   · rw [h1];exact Int.le_refl _
   · rw [g8] at h1;omega
 · rcases hb.2.2 e h rfl with h1|h1
   · rw [h1];exact cX _
   · rw [g8] at h1
     rcases h1 with h1|⟨_,h1|h1⟩
     · omega
     · exact fZ h1
     · rw [h1.1];exact cX _
theorem Lst.after {l:List ChainD} {ks:List ByteArray} {now:Int} {x:ListD} (h:Lst l ks now x):now<x.until_:=by
 obtain ⟨e,he,rfl⟩:=h
 exact he.1.2
theorem gdApp {l r:List ActD} {i:Nat} (h:i<l.length):(l++r).getD i ActD.zero=l.getD i ActD.zero:=by
 rw [ZL,ZL,Z4 h]
theorem gV (l:List ActD) (a:ActD) (r:List ActD):(l++a::r).getD l.length ActD.zero=a:=by
 rw [ZL,Qm (Qq _),Nat.sub_self]
 rfl
def UndOk (l:List ActD):Prop:=∀ i,i<l.length→(l.getD i ActD.zero).kind=6→(idxV l (l.getD i ActD.zero).object).isSome=true
theorem jr {l r:List ActD} {d:ByteArray} (h:(idxV l d).isSome=true):idxV (l++r) d=idxV l d:=by
 rw [idxV,List.findIdx?_append]
 rw [idxV] at h ⊢
 cases hf:l.findIdx? fun a=>seqB (digV a) d with
 | none=>rw [hf] at h;cases h
 | some j=>rfl
theorem nL {l:List ActD} (h:UndOk l):UndOk (l.map ActD.can):=fun i hi hk=>by
 rw [Z3] at hi
 rw [pS] at hk ⊢
 rw [tX]
 exact h i hi hk
theorem mP (l:List ActD):∀ i,foundF (l.map ActD.can) i=foundF l i
 | 0=>rfl
 | i+1=>by
  have ih:=mP l i
  simp only [foundF]
  rw [pS,ih,tX]
  rfl
theorem Bk (k:ByteArray) (l:List ActD) (j:Nat):entA k (l.map ActD.can) j=entA k l j:=by
 rw [entA,entA,pS]
 rfl
theorem E1 {L:List Int} {I:List ItemD} {au:ByteArray} {c:ChainD} {kl:List KeyD} (q:QK L I au c kl):∀ x∈c.actsL,x∈selA au rightIt I:=by
 obtain ⟨A,sa,sk,st,fork,hA,hR,rfl,rfl⟩:=q
 rw [OfRes] at hR
 cases ho:oneA (firstL ((OfWK L.length I au).at A)) with
 | none =>
  rw [ho] at hR
  obtain ⟨rfl,rfl⟩:=hR
  exact fun x hx=>absurd hx (by simp)
 | some a =>
  rw [ho] at hR
  obtain ⟨rfl,rfl⟩:=hR
  have ha:a∈firstL ((OfWK L.length I au).at A):=by rw [fY ho];exact List.mem_singleton.2 rfl
  exact fun x hx=>hA.subset ((vw ha).mem x hx)
theorem qp {L:List Int} {I:List ItemD} (h:KnR L I) {au:ByteArray} {c:ChainD} {kl:List KeyD} (q:QK L I au c kl):UndOk c.actsL:=fun i hi hk=>by
 have G:=gC h q
 have hx:c.actsL[i]?=some (c.actsL.getD i ActD.zero):=by rw [ZL,Zm hi];rfl
 generalize c.actsL.getD i ActD.zero=x at *
 by_cases h0:i=0
 · subst h0
   obtain ⟨it,_,rfl,k0,hr,_⟩:=fQ (E1 q x (List.mem_of_getElem? hx))
   have h1:=gO k0 hr
   have h2:=G.seq 0 _ hx
   simp only [rightB,ZM] at h1
   have h3:=h1.1.1.1.1.2
   rw [placedB,ZA aa,ZC,ZM,ZT] at h3
   rw [h3.1] at hk
   exact absurd hk (by decide)
 · have hf:=G.fit i x aa hx ⟨c.id,⟨none,i,0⟩,⟨none,0,0⟩,x.prev,0,false,c.actsL.take i⟩ rfl rfl rfl rfl
   have hs:(idxV (c.actsL.take i) x.object).isSome=true:=by
    cases ho:idxV (c.actsL.take i) x.object with
    | some j=>rfl
    | none =>
     rw [fitsV] at hf
     change (bif _ then false else bif _ then false else bif decide (x.kind=6) then atK _ (idxV (c.actsL.take i) x.object) undoK else _)=true at hf
     rw [ho,ZA hk,ZC,atK] at hf
     cases hb:!rightB x||!seqB x.author c.id||!decide (x.seq=((i:Nat):Int))||!seqB x.prev x.prev with
     | true =>
      change (bif (!rightB x||!seqB x.author c.id||!decide (x.seq=((i:Nat):Int))||!seqB x.prev x.prev) then false else _)=true at hf
      rw [hb] at hf;cases hf
     | false =>
      change (bif (!rightB x||!seqB x.author c.id||!decide (x.seq=((i:Nat):Int))||!seqB x.prev x.prev) then false else bif (decide (x.kind=0) != decide (((i:Nat):Int)=0)) then false else false)=true at hf
      rw [hb,ZB] at hf
      cases hc:decide (x.kind=0) != decide (((i:Nat):Int)=0)<;>rw [hc] at hf<;>cases hf
   have e:=jr (r:=c.actsL.drop i) hs
   rw [List.take_append_drop] at e
   rw [e]
   exact hs
def entsW (o:Option (List ActD)) (k:ByteArray):List EntD:=match o with
 | some acts=>(foundF acts acts.length).map (entA k acts)
 | none=>[]
theorem eO (l:List ChainD) (k:ByteArray):entsV l k=entsW (viewC l k) k:=by
 rw [entsV,viewC]
 cases findC l k with
 | none=>rfl
 | some c =>
  show _=(foundF (c.actsL.map ActD.can) (c.actsL.map ActD.can).length).map (entA k (c.actsL.map ActD.can))
  rw [Z3,mP]
  exact List.map_congr_left fun j _=>(Bk k c.actsL j).symm
theorem gD {l:List ActD} (r:List ActD) (hu:UndOk l):∀ i,i≤l.length→foundF (l++r) i=foundF l i
 | 0,_=>rfl
 | i+1,h=>by
  have ih:=gD r hu i aa
  simp only [foundF]
  rw [gdApp aa,ih]
  cases decide ((l.getD i ActD.zero).kind=23) with
  | true=>rfl
  | false =>
   by_cases h6:(l.getD i ActD.zero).kind=6
   · rw [jr (hu i aa h6)]
   · rw [Zn h6]
     rfl
theorem rZ {l:List ActD} (r:List ActD) (k:ByteArray) {F:List Nat} (h:∀ j∈F,j<l.length):F.map (entA k (l++r))=F.map (entA k l) :=
 List.map_congr_left fun j hj=>by rw [entA,entA,gdApp (h j hj)]
theorem xF {l:List ActD} (hu:UndOk l) (k:ByteArray) {a:ActD} (ha:a.kind=23):entsW (some (l++[a])) k=entsW (some l) k++[⟨⟨a.target,a.text,k,a.n⟩,(l.length:Nat)⟩]:=by
 show (foundF (l++[a]) (l++[a]).length).map _=_
 rw [ZX]
 show (foundF (l++[a]) (l.length+1)).map _=_
 have e:foundF (l++[a]) (l.length+1)=foundF l l.length++[l.length]:=by
  simp only [foundF]
  rw [gV,ZA ha,ZC,gD [a] hu _ (Qq _)]
 rw [e,Qn,rZ [a] k (eN l l.length),Qv,entA,gV]
 rfl
theorem rY {l:List ActD} (hu:UndOk l) (k:ByteArray) {a u:ActD} (ha:a.kind=23) (hk:u.kind=6) (ho:idxV (l++[a]) u.object=some l.length):entsW (some (l++[a]++[u])) k=entsW (some l) k:=by
 have hu2:UndOk (l++[a]):=fun i hi h6=>by
  rw [ZX] at hi
  have hi':i<l.length+1:=hi
  by_cases e:i=l.length
  · subst e
    rw [gV,ha] at h6
    exact absurd h6 (by decide)
  · rw [gdApp (by omega)] at h6 ⊢
    rw [jr (hu i aa h6)]
    exact hu i aa h6
 have hl:(l++[a]).length=l.length+1:=by rw [ZX];rfl
 show (foundF (l++[a]++[u]) (l++[a]++[u]).length).map _=_
 rw [ZX,hl]
 show (foundF (l++[a]++[u]) (l.length+1+1)).map _=_
 have e:foundF (l++[a]++[u]) (l.length+1+1)=foundF l l.length:=by
  have e1:(l++[a]++[u]).getD (l.length+1) ActD.zero=u:=by
   have:=gV (l++[a]) u []
   rwa [hl] at this
  have e2:foundF (l++[a]++[u]) (l.length+1)=foundF l l.length++[l.length]:=by
   rw [gD [u] hu2 _ (by rw [hl];exact Qq _)]
   simp only [foundF]
   rw [gV,ZA ha,ZC,gD [a] hu _ (Qq _)]
  rw [foundF,e1,e2,Zn (by rw [hk];decide),ZA hk,ZB,ZC,jr (by rw [ho];rfl),ho]
  show (foundF l l.length++[l.length]).erase l.length=_
  have hn:l.length∉foundF l l.length:=fun h=>Qs _ (eN l _ _ h)
  rw [List.erase_append_right _ hn]
  simp
 rw [e,ZZ,rZ _ k (eN l l.length)]
 rfl
theorem tZ {l l':List ChainD} {ks:List ByteArray} (h:∀ k∈ks,entsV l' k=entsV l k) (now:Int):Cand l' ks now=Cand l ks now :=
 funext fun e=>propext ⟨fun ⟨⟨k,hk,he⟩,hu⟩=>⟨⟨k,hk,by rw [←h k hk];exact he⟩,hu⟩,fun ⟨⟨k,hk,he⟩,hu⟩=>⟨⟨k,hk,by rw [h k hk];exact he⟩,hu⟩⟩
theorem AC {l l':List ChainD} {ks:List ByteArray} (h:∀ k∈ks,entsV l' k=entsV l k) (now:Int):ofV l' ks now=ofV l ks now :=
 DJ (vH _ _ _) (vH _ _ _) fun x=>by rw [mem_ofV,mem_ofV,Lst,Lst,tZ h now]
structure OneMore (l l':List ChainD) (ks:List ByteArray) (id:ByteArray) (e0:EntD):Prop where
 mem:id∈ks
 far:∀ k,k≠id→entsV l' k=entsV l k
 own:entsV l' id=entsV l id++[e0]
theorem OneMore.cand {l l':List ChainD} {ks:List ByteArray} {id:ByteArray} {e0:EntD} (h:OneMore l l' ks id e0) {now:Int} {e:EntD}:Cand l' ks now e↔Cand l ks now e∨(e=e0∧now<e0.l.until_):=by
 constructor
 · rintro ⟨⟨k,hk,he⟩,hu⟩
   by_cases hki:k=id
   · subst hki
     rw [h.own] at he
     rcases List.mem_append.1 he with he|he
     · exact .inl ⟨⟨k,hk,he⟩,hu⟩
     · rw [List.mem_singleton.1 he] at hu ⊢
       exact .inr ⟨rfl,hu⟩
   · rw [h.far k hki] at he
     exact .inl ⟨⟨k,hk,he⟩,hu⟩
 · rintro (⟨⟨k,hk,he⟩,hu⟩|⟨rfl,hu⟩)
   · by_cases hki:k=id
     · subst hki
       exact ⟨⟨k,hk,by rw [h.own];exact List.mem_append_left _ he⟩,hu⟩
     · exact ⟨⟨k,hk,by rw [h.far k hki];exact he⟩,hu⟩
   · exact ⟨⟨id,h.mem,by rw [h.own];exact List.mem_append_right _ (List.mem_singleton.2 rfl)⟩,hu⟩
theorem OneMore.others {l l':List ChainD} {ks:List ByteArray} {id:ByteArray} {e0:EntD} (h:OneMore l l' ks id e0) {now:Int} {x:ListD} (hx:x∈ofV l' ks now) (hn:x.actor≠e0.l.actor):hasL (ofV l ks now) x.actor=some x:=by
 obtain ⟨e,⟨h1,h2,h3⟩,rfl⟩:=mem_ofV.1 hx
 refine hasL_iff.2 ⟨⟨e,⟨?_,rfl,fun e' he' ha=>h3 e' (h.cand.2 (.inl he')) ha⟩,rfl⟩,rfl⟩
 rcases h.cand.1 h1 with h1|⟨rfl,_⟩
 · exact h1
 · exact absurd rfl hn
theorem m9 {l:List ChainD} {ks:List ByteArray} {now:Int} {e:EntD} (h:Cand l ks now e):∃ x,hasL (ofV l ks now) e.l.actor=some x∧e.l.until_≤x.until_:=by
 obtain ⟨x,h1,h2,h3,_⟩:=listed h
 exact ⟨x,hasL_iff.2 ⟨h1,h2⟩,h3⟩
theorem OneMore.first {l l':List ChainD} {ks:List ByteArray} {id:ByteArray} {e0:EntD} (h:OneMore l l' ks id e0) {now:Int} (h0:0≤e0.l.until_) :
  (hasL (ofV l' ks now) e0.l.actor).isSome=((hasL (ofV l ks now) e0.l.actor).isSome||decide (now<e0.l.until_)) ∧
  ∀ x,hasL (ofV l' ks now) e0.l.actor=some x→e0.l.until_≤x.until_∧((hasL (ofV l ks now) e0.l.actor).getD ListD.zero).until_≤x.until_:=by
 have hold:∀ y,hasL (ofV l ks now) e0.l.actor=some y→∃ x,hasL (ofV l' ks now) e0.l.actor=some x∧y.until_≤x.until_:=fun y hy=>by
  obtain ⟨⟨e,he,rfl⟩,ha⟩:=hasL_iff.1 hy
  obtain ⟨x,hx,hu⟩:=m9 (h.cand.2 (.inl he.1))
  rw [ha] at hx
  exact ⟨x,hx,hu⟩
 have hnew:now<e0.l.until_→∃ x,hasL (ofV l' ks now) e0.l.actor=some x∧e0.l.until_≤x.until_:=fun hu=>m9 (h.cand.2 (.inr ⟨rfl,hu⟩))
 constructor
 · cases hw:hasL (ofV l ks now) e0.l.actor with
   | some y =>
    obtain ⟨x,hx,_⟩:=hold y hw
    rw [hx]
    rfl
   | none =>
    by_cases hu:now<e0.l.until_
    · obtain ⟨x,hx,_⟩:=hnew hu
      rw [hx,ZA hu]
      rfl
    · rw [Zn hu]
      cases hx:hasL (ofV l' ks now) e0.l.actor with
      | none=>rfl
      | some x =>
       obtain ⟨⟨e,he,rfl⟩,ha⟩:=hasL_iff.1 hx
       rcases h.cand.1 he.1 with h1|⟨_,h1⟩
       · obtain ⟨y,hy,_⟩:=m9 h1
         rw [ha,hw] at hy
         cases hy
       · exact absurd h1 hu
 · intro x hx
   have hafter:now<x.until_:=(hasL_iff.1 hx).1.after
   have h1:e0.l.until_≤x.until_:=by
    by_cases hu:now<e0.l.until_
    · obtain ⟨x',hx',hu'⟩:=hnew hu
      rw [hx] at hx'
      cases hx'
      exact hu'
    · omega
   refine ⟨h1,?_⟩
   cases hw:hasL (ofV l ks now) e0.l.actor with
   | none=>exact Int.le_trans h0 h1
   | some y =>
    obtain ⟨x',hx',hu'⟩:=hold y hw
    rw [hx] at hx'
    cases hx'
    exact hu'
theorem zY {k:KyD} {c:ChainD} {x:ActD} (hx:x.Rng) (hc:c.acts.n≤1000):(sgA k c x).Rng :=
 qL ⟨⟨by show (c.acts.n:Int)<_;omega,hx.ints.2.1,by show (1:Int)<_;decide,hx.ints.2.2.2⟩,hx.wints,hx.to_len,hx.wraps_len⟩
theorem D6 {k:KyD} {c:ChainD} {x:ActD} (hs:x.Sm):(sgA k c x).Sm:=uR ⟨hs.to,hs.wraps,hs.target⟩
theorem BO (L:List Int) (I:List ItemD) (it:ItemD):(addK L I it).length≤I.length+1:=by
 rw [addK]
 cases canAdd L I it with
 | false=>exact Nat.le_succ _
 | true =>
  have:=(io digIt it I).length_eq
  rw [ZY] at this
  exact Nat.le_of_eq this
theorem qC {L:List Int} {I:List ItemD} (h:KnR L I) {au:ByteArray} {c n:ChainD} {kl kl':List KeyD} (q:QK L I au c kl) (h0:0<c.actsL.length) (hcn:c.acts.n=c.actsL.length) (hnn:n.acts.n=n.actsL.length) {k:KyD} {x:ActD} {s3 s4:SlV}
  (e3:s3.n=(sgA k c x).to.n) (e4:s4.n=(sgA k c x).wraps.n) (q':QK L (addK L I (ofActI ((sgA k c x).re s3 s4))) c.id n kl') (hl:(n.acts.n:Int)=(c.acts.n:Int)+1) :
  SignD L I c n k { x with time:=1 } (sgA k c x)∧QK L (addK L I (ofActI ((sgA k c x).re s3 s4))) au n kl':=by
 rw [mw q] at q'
 exact ⟨(sX h q h0 hcn e3 e4 q' aa).1,q'⟩
theorem SignD.author {L:List Int} {I:List ItemD} {c n:ChainD} {k:KyD} {x b:ActD} (h:SignD L I c n k x b):b.author=c.id:=by rw [h.sig];rfl
theorem SignD.kind {L:List Int} {I:List ItemD} {c n:ChainD} {k:KyD} {x b:ActD} (h:SignD L I c n k x b):b.kind=x.kind:=by rw [h.sig];rfl
theorem SignD.object {L:List Int} {I:List ItemD} {c n:ChainD} {k:KyD} {x b:ActD} (h:SignD L I c n k x b):b.object=x.object:=by rw [h.sig];rfl
theorem SignD.target {L:List Int} {I:List ItemD} {c n:ChainD} {k:KyD} {x b:ActD} (h:SignD L I c n k x b):b.target=x.target:=by rw [h.sig];rfl
theorem SignD.text {L:List Int} {I:List ItemD} {c n:ChainD} {k:KyD} {x b:ActD} (h:SignD L I c n k x b):b.text=x.text:=by rw [h.sig];rfl
theorem SignD.num {L:List Int} {I:List ItemD} {c n:ChainD} {k:KyD} {x b:ActD} (h:SignD L I c n k x b):b.n=x.n:=by rw [h.sig];rfl
theorem E7 {a:ActD} (h:rightB a=true) (hk:a.kind=23):0≤a.n:=by
 simp only [rightB,ZM] at h
 have h6:=h.2
 rw [ruleB,hk] at h6
 change (decide _&&rule6B a)=true at h6
 rw [ZM] at h6
 have h7:=h6.2
 simp only [rule6B,ZM] at h7
 exact (bX h7.2).1
theorem mZ {L:List Int} {I:List ItemD} {it:ItemD} (hk:it.kind=0) {l l':List ChainD} (h:AllK L I l) (h':AllK L (addK L I it) l') {k:ByteArray} (hi:k≠it.act.author):entsV l' k=entsV l k:=by
 rw [eO,eO,BJ hk h h' hi]
theorem tH {L:List Int} {I:List ItemD} (hK:KnR L I) {id:ByteArray} {c n:ChainD} {kl kl':List KeyD} {k:KyD} {x b:ActD} {s3 s4:SlV} {l1 l2:List ChainD} (hQ:QK L I id c kl) (h0:0<c.actsL.length) (hau:id∈authI I) (hS:SignD L I c n k x b)
  (hQ':QK L (addK L I (ofActI (b.re s3 s4))) id n kl') (hA1:AllK L I l1) (hA2:AllK L (addK L I (ofActI (b.re s3 s4))) l2) (hx:x.kind=23) {KS:List ByteArray} (hm:id∈KS) :
  OneMore l1 l2 KS id ⟨⟨x.target,x.text,id,x.n⟩,(c.actsL.length:Nat)⟩∧0≤x.n:=by
 have hid:=mw hQ
 refine ⟨⟨hm,fun k hk=>mZ rfl hA1 hA2 (by show k≠b.author;rw [hS.author,hid];exact hk),?_⟩,?_⟩
 · have hu:=nL (qp hK hQ)
   have hmore:=xF hu id (a:=b.can) (hS.kind.trans hx)
   rw [eO,eO,fB hA1 hau hQ,jH h0,oL rfl hA2 hau hQ' (by rw [hS.len];omega),hS.acts,hmore,Z3]
   show _++[(⟨⟨b.target,b.text,id,b.n⟩,_⟩:EntD)]=_
   rw [hS.target,hS.text,hS.num]
 · have:=E7 hS.right (hS.kind.trans hx)
   rw [hS.num] at this
   exact this
theorem pF {L:List Int} {I I2:List ItemD} (hK:KnR L I) (hK2:KnR L I2) {id:ByteArray} {c n m:ChainD} {kl kl' kl2:List KeyD} {k kk:KyD} {x b y u:ActD} {s3 s4 s5 s6:SlV} {l1 l2 l3:List ChainD} (hQ:QK L I id c kl) (h0:0<c.actsL.length) (hau:id∈authI I) (hS:SignD L I c n k x b)
  (hI2:addK L I (ofActI (b.re s3 s4))=I2) (hQ2:QK L I2 id n kl') (hT:SignD L I2 n m kk y u) (hQ3:QK L (addK L I2 (ofActI (u.re s5 s6))) id m kl2) (hA1:AllK L I l1) (hA2:AllK L I2 l2) (hA3:AllK L (addK L I2 (ofActI (u.re s5 s6))) l3)
  (hx:x.kind=23) (hy:y.kind=6) {z:ActD} (hz:n.actsL[c.actsL.length]?=some z) (ho:y.object=digV z):∀ k,entsV l3 k=entsV l1 k:=by
 have hid:=mw hQ
 have hid2:=mw hQ2
 intro k
 by_cases hk:k=id
 · subst hk
   have hu:=nL (qp hK hQ)
   have hau2:k∈authI I2:=by rw [←hI2];exact oK rfl hau
   have hown:idxV (c.actsL.map ActD.can++[b.can]) u.can.object=some c.actsL.length:=by
    show idxV _ u.object=_
    rw [←hS.acts,tX,hT.object,ho]
    exact (gC hK2 hQ2).own _ _ hz
   rw [eO,eO,fB hA1 hau hQ,jH h0,oL rfl hA3 hau2 hQ3 (by rw [hT.len];omega),hT.acts,hS.acts,rY hu k (a:=b.can) (u:=u.can) (hS.kind.trans hx) (hT.kind.trans hy) (by rw [Z3];exact hown)]
 · subst hI2
   rw [mZ rfl hA2 hA3 (by show k≠u.author;rw [hT.author,hid2];exact hk),mZ rfl hA1 hA2 (by show k≠b.author;rw [hS.author,hid];exact hk)]
def fewBad (l:List ChainD) (k:Nat):Bool:=!shortV (l.getD k ChainD.zero)
def fewV (l:List ChainD):Bool:=decide (l.length≤6)&&allB l.length (fewBad l)
set_option maxHeartbeats 1000000 in
theorem Bc (s:SlV) (l:List ChainD):Pu Tryz.prog 10 #[s.v] (fun w=>Chains w s l) (.bool (fewV l)):=by
  refine ak (args:=[_]) _ Tryz.func10 rfl Tryz.ntmps10 rfl fun av bor w0=>?_
  refine aJ (p:=s.n=l.length∧s.n≤maxLen∧(0<l.length→s.p.isSome=true)) (fun w h=>⟨h.len_,h.max_,h.some_⟩) fun ⟨hl,hm,hp⟩=>?_
  simp only [maxLen] at hm
  repeat' (first|refine gs ?_|refine gs1 fun _=>?_|(refine gp ?_ ?_<;>intro hx_ this)|fail)
  · apply ad;apply ag;rfl;rfl
    rw [fewV,Zn aa,ZG]
  refine ap (ι:=Upto l.length (fewBad l)) (fun i=>⟨[(0,s.v),(3,.int .i64 i.k)],[],fun w=>Chains w s l⟩) (fun i=>l.length-i.k) (Upto.zero _ _) (aj ⟨rfl,rfl,trivial⟩ (al _) fun _ h=>h) fun i=>?_
  have hik:=i.hk
  repeat' (first|refine gs ?_|refine gs1 fun _=>?_|(refine gp ?_ ?_<;>intro hx_ this)|fail)
  · have hlt:i.k<l.length:=by omega
    have hp':=hp aa
    obtain ⟨c,hc⟩:∃ c,l[i.k]?=some c:=⟨_,Zm hlt⟩
    have hcm:=List.mem_of_getElem? hc
    have hfb:fewBad l i.k=!shortV c:=by simp only [fewBad,ZL,hc,Option.getD_some]
    refine ig (p:=c.acts.n=c.actsL.length∧c.acts.n≤maxLen∧(0<c.actsL.length→c.acts.p.isSome=true)) (fun w h=>⟨(h.2 c hcm).len_,(h.2 c hcm).max_,(h.2 c hcm).some_⟩) fun ⟨hl2,hm2,hp2⟩=>?_
    simp only [maxLen] at hm2
    repeat' (first|refine gs ?_|refine gs1 fun _=>?_|(refine aH (q:=i.k*6) ?_)|(refine gi ?_)|(refine dr (q:=i.k*6+1) (u:=c.acts.v) (hF:=fun w h=>(Chains.get h hc).2.2 1 _ rfl) ?_)|(refine gp ?_ ?_<;>intro hx_ this)|fail)
    · apply ad;apply ag;rfl;rfl
      rw [fewV,cM hlt (by rw [hfb,shortV,Zn (by omega)];rfl),ZH]
    refine ap (ι:=Upto c.actsL.length (shortBad c.actsL)) (fun j=>⟨[(0,s.v),(3,.int .i64 i.k),(4,.int .i64 j.k)],[],fun w=>Chains w s l⟩) (fun j=>c.actsL.length-j.k) (Upto.zero _ _) (aj ⟨rfl,rfl,rfl,trivial⟩ (al _) fun _ h=>h) fun j=>?_
    have hjk:=j.hk
    repeat' (first|refine gs ?_|refine gs1 fun _=>?_|(refine aH (q:=i.k*6) ?_)|(refine gi ?_)|(refine dr (q:=i.k*6+1) (u:=c.acts.v) (hF:=fun w h=>(Chains.get h hc).2.2 1 _ rfl) ?_)|(refine gp ?_ ?_<;>intro hx_ this)|fail)
    · have hjl:j.k<c.actsL.length:=by omega
      have hp3:=hp2 aa
      obtain ⟨x,hx⟩:∃ x,c.actsL[j.k]?=some x:=⟨_,Zm hjl⟩
      have hB:shortBad c.actsL j.k=(decide (8<x.to.n)||decide (8<x.wraps.n)||decide (600<x.text.size)||decide (600<x.body.data.size)):=by simp only [shortBad,ZL,hx,Option.getD_some]
      repeat' (first|refine gs ?_|refine gs1 fun _=>?_|(refine aH (q:=j.k*20) ?_)|(refine bP (cs:=x.cells) (hF:=fun w h=>Acts.get (h.2 c hcm) hx) ?_)|(refine gp ?_ ?_<;>intro hx_ this)|fail)
      all_goals first
        | (apply ad;apply ag;rfl;rfl
           have hb:shortBad c.actsL j.k=true:=by
             rw [hB];simp only [Bool.or_eq_true,ZT];simp only [ZT,decide_eq_false_iff_not] at *;omega
           rw [fewV,cM hlt (by rw [hfb,shortV,cM hjl hb,ZH];rfl),ZH])
        | (have hb:shortBad c.actsL j.k=false:=by
             rw [hB];simp only [Bool.or_eq_false_iff,decide_eq_false_iff_not];simp only [ZT,decide_eq_false_iff_not] at *;omega
           exact ⟨j.next hjl hb,(by show c.actsL.length-(j.k+1)<c.actsL.length-j.k;omega),aj ⟨rfl,rfl,rfl,trivial⟩ (List.Sublist.cons _ (al _)) fun _ h=>h⟩)
    · have hsv:shortV c=true:=by rw [shortV,j.all aa,ZA (by omega)];rfl
      exact ⟨i.next hlt (by rw [hfb,hsv];rfl),(by show l.length-(i.k+1)<l.length-i.k;omega),aj ⟨rfl,rfl,trivial⟩ (al _) fun _ h=>h⟩
  · apply ad;apply ag;rfl;rfl
    rw [fewV,i.all aa,ZA (by omega)]
    rfl
def spamS:ByteArray:=⟨#[115,112,97,109]⟩
def botS:ByteArray:=⟨#[98,111,116]⟩
def xS:ByteArray:=⟨#[120]⟩
def lxP1:ActD:={ ActD.zero with kind:=23,target:=idB,text:=spamS,n:=9 }
def lxP2:ActD:={ ActD.zero with kind:=23,target:=idB,text:=botS,n:=9 }
def lxP3:ActD:={ ActD.zero with kind:=23,target:=idA,text:=xS,n:=5 }
def lxL:List ActD:=[lxP1,lxP2,lxP3]
def chainX (b:Nat):ChainD:=⟨idA,⟨some ⟨b,0,none⟩,3,3⟩,⟨none,0,0⟩,⟨#[]⟩,0,false,lxL⟩
def lx0:ListD:=⟨idB,botS,idA,9⟩
theorem pE {P:ActD→Prop} (h1:P lxP1) (h2:P lxP2) (h3:P lxP3):∀ a∈lxL,P a:=by
 intro a ha
 simp only [lxL,Z8,List.not_mem_nil,or_false] at ha
 rcases ha with rfl|rfl|rfl
 · exact h1
 · exact h2
 · exact h3
theorem E6:ActsOk lxL:=⟨pE ⟨by decide,fun w hw=>absurd hw (by show ¬ w∈[];simp),rfl,rfl⟩ ⟨by decide,fun w hw=>absurd hw (by show ¬ w∈[];simp),rfl,rfl⟩ ⟨by decide,fun w hw=>absurd hw (by show ¬ w∈[];simp),rfl,rfl⟩,
 pE ⟨by decide,by decide,by decide⟩ ⟨by decide,by decide,by decide⟩ ⟨by decide,by decide,by decide⟩⟩
theorem xM {b:Nat} {w:World} (hc:(cel b 50 (lxL.map ActD.cells).flatten).F w):(chainX b).at_ w :=
 ⟨aN hc rfl (by decide) (ft lxL),pE ⟨aV w 1,aV w 5⟩ ⟨aV w 1,aV w 5⟩ ⟨aV w 1,aV w 5⟩⟩
theorem chains1 {b b2:Nat} {w:World} (hc:(cel b 50 (lxL.map ActD.cells).flatten).F w) (h2:(cel b2 36 (chainX b).cells).F w):Chains w ⟨some ⟨b2,0,none⟩,1,1⟩ [chainX b] :=
 ⟨aN (xs:=[(chainX b).cells]) h2 rfl (by decide) (by intro r hr;rw [List.mem_singleton.1 hr];rfl),fun c h=>by rw [List.mem_singleton.1 h];exact xM hc⟩
theorem chainsNil (w:World):Chains w ⟨none,0,0⟩ []:=⟨aV w 6,fun c h=>by cases h⟩
set_option maxHeartbeats 1000000 in
theorem sW:Pu Tryz.prog 6 #[] Glob (.bool true):=by
 refine ak (args:=[]) _ Tryz.func6 rfl Tryz.ntmps6 rfl fun av bor w0=>?_
 repeat' (first|refine aC (cs:=lxP1.cells) (hf:=by rfl) ?_|refine aC (cs:=lxP2.cells) (hf:=by rfl) ?_|refine aC (cs:=lxP3.cells) (hf:=by rfl) ?_|(refine cS (size:=20) (vs:=[.agg lxP1.cells.toArray,.agg lxP2.cells.toArray,.agg lxP3.cells.toArray]) (css:=(lxL.map ActD.cells).flatten) (hsz:=by rfl) (hcs:=by rfl) fun bR=>?_;refine bo ?_)|refine aC (cs:=(chainX bR).cells) (hf:=by rfl) ?_|(refine cS (size:=6) (vs:=[(chainX bR).v]) (css:=(chainX bR).cells) (hsz:=by rfl) (hcs:=by rfl) fun bC=>?_;refine bo ?_)|(refine dt (len:=1) (vs:=[encB idA]) fun bK=>?_;refine bo ?_)|refine gs ?_|refine gs1 fun _=>?_|(refine gp ?_ ?_<;>intro hx_ this)|fail)
 have ho:=rq ⟨some ⟨bC,0,none⟩,1,1⟩ [chainX bR] ⟨some ⟨bK,0,none⟩,1,1⟩ [idA] 5 (fun c h=>by rw [List.mem_singleton.1 h];exact E6) (fun c h=>by rw [List.mem_singleton.1 h];show 3≤1000;decide) (by decide)
 rw [show ofV [chainX bR] [idA] 5=[lx0] from by kernel_rfl] at ho
 refine cA (hc:=ho) (hX:=fun w h=>⟨chains1 h.1.1.2 h.1.2,kg (l:=[idA]) h.2 (by decide),h.1.1.1⟩) fun v4 X4 h4=>?_
 obtain ⟨s4,rfl,hs4⟩:=h4
 have hA:=j1 s4 [lx0] idB
 rw [show hasP (hasL [lx0] idB)=.tuple #[lx0.v,.bool true] from by kernel_rfl] at hA
 have hB:=j1 s4 [lx0] idA
 rw [show hasP (hasL [lx0] idA)=.tuple #[ListD.zero.v,.bool false] from by kernel_rfl] at hB
 have hC:=j1 ⟨none,0,0⟩ [] idB
 rw [show hasP (hasL [] idB)=.tuple #[ListD.zero.v,.bool false] from by kernel_rfl] at hC
 repeat' (first|(refine ab (hc:=hA) (hX:=fun w h=>hs4 w h.2) ?_)|(refine ab (hc:=hB) (hX:=fun w h=>hs4 w h.2) ?_)|(refine ab (hc:=hC) (hX:=fun w h=>aV w 4) ?_)|refine gs ?_|refine gs1 fun _=>?_|(refine gp ?_ ?_<;>intro hx_ this)|fail)
 rename_i b5 b7 b9
 refine tV (X':=fun w=>Glob w∧Lists w s4 [lx0]) (fun w h=>⟨h.1.1.1.1,hs4 w h.2⟩) ?_
 refine aJ (fun w h=>Lists.know w h.2) fun ⟨hn4,hm4,hp4⟩=>?_
 have hp4':=hp4 (by decide)
 have hn4':s4.n=1:=hn4
 have heq:eqLD lx0 lx0=true:=eqLD_iff.2 rfl
 have hsa:∀ r:SlV,Pu Tryz.prog 16 #[s4.v,r.v] (fun w=>Lists w s4 [lx0]∧Lists w r [lx0]) (.bool true):=fun r=>by
  have:=nV s4 r [lx0] [lx0]
  rw [oC] at this
  exact this
 have hof:∀ r:SlV,Mk Tryz.prog 11 #[(⟨none,0,0⟩:SlV).v,r.v,.int .i64 0] (fun w=>Chains w ⟨none,0,0⟩ []∧Strs w r [idA]∧Glob w) (fun u X=>∃ S:SlV,u=S.v∧∀ w,X w→Lists w S []):=fun r=>by
  have:=rq ⟨none,0,0⟩ [] r [idA] 0 (fun c h=>by cases h) (fun c h=>by cases h) (by decide)
  rw [show ofV [] [idA] 0=[] from by kernel_rfl] at this
  exact this
 (refine aq ⟨[0],[(1,⟨[],[(2,⟨[3,4,5,6,7,8,9],[(10,⟨[],[(11,⟨[12,13,14,15,16,17,18,19,20,21,22,23,24,25,26,27,28,29,30,31],[]⟩)]⟩)]⟩)]⟩)]⟩ [cel b5 52 lx0.cells] (fun w=>Glob w∧Lists w s4 [lx0]) (h:=?_))
 all_goals repeat' (first|(refine cA (hc:=hof ⟨some ⟨bq,0,none⟩,1,1⟩) (hX:=fun w h=>⟨chainsNil w,kg (l:=[idA]) h.2 (by decide),h.1.1⟩) fun v5 X5 h5=>?_;obtain ⟨s5,rfl,hs5⟩:=h5;refine ig (p:=decide ((s5.n:Int)=0)=true) (fun w h=>by have:=(hs5 w h.2).len_;rw [this];rfl) fun hn5=>?_)|(refine ab (hc:=hsa ⟨some ⟨bl,0,none⟩,1,1⟩) (hX:=fun w h=>⟨h.1.1.1.2,aN (xs:=[lx0.cells]) h.2 rfl (by decide) (by intro r hr;rw [List.mem_singleton.1 hr];rfl)⟩) ?_)|refine gd ?_|refine ax (hy:=by first|(apply eQ (cs:=lx0.cells);rfl;rfl)|(apply aB (q:=0);rfl;rfl;omega;omega;assumption;rfl)|(apply d9 (cs:=lx0.cells);rfl;exact fun w h=>Lists.get (i:=0) h.2 rfl)|(apply Ew lx0 lx0;rfl;rfl)) ?_|refine az ?_ (h':=?_)|exact aA|(refine dt (len:=1) (vs:=[encB idA]) fun bq=>?_;refine bo ?_)|(refine cS (size:=4) (vs:=[.agg lx0.cells.toArray]) (css:=lx0.cells) (hsz:=by rfl) (hcs:=by rfl) fun bl=>?_;refine bo ?_)|refine gs1 fun _=>?_|(refine gq ?_ ?_<;>intro hx_ this)|fail)
 all_goals
  apply cw_ret
  apply ad;apply ag;rfl;rfl
  rfl
theorem zL {a:ActD} (hr:a.Rng) (h:rightB a=true) (ht:a.target.size≤maxLen):a.Sm:=by
 simp only [rightB,ZM] at h
 have hB:=kI hr h.2
 have h1:=hB.to.len
 have h2:=hB.wraps.len
 have h3:=hr.to_len
 have h4:=hr.wraps_len
 exact ⟨by omega,by omega,ht⟩
theorem xZ {a:ActD} (h:actZ a=true):a.to.n=0∧a.wraps.n=0:=by
 simp only [actZ,ZM,ZT] at h
 omega
theorem CC {i:ItemD} (hs:i.Str) (h:rightIt i=true):i.act.Sm:=by
 rw [rightIt,ZM] at h
 obtain ⟨h1,h2⟩:=h
 have ht:=hs.act.target
 by_cases h0:i.kind=0
 · rw [rightK2,ZA h0,ZC] at h1
   exact zL hs.rng h1 ht
 · have hz:actZ i.act=true:=by
    rw [rightK2,Zn h0,ZB] at h1
    rw [restI,Zn h0,ZB] at h2
    by_cases k1:i.kind=1
    · rw [ZA k1,ZC,sameIZ,ZM,ZM] at h2
      exact h2.2.1
    · rw [Zn k1,ZB] at h1 h2
      by_cases k2:i.kind=2
      · rw [ZA k2,ZC,sameIZ,ZM,ZM] at h2
        exact h2.2.1
      · rw [Zn k2,ZB] at h1 h2
        by_cases k3:i.kind=3
        · rw [ZA k3,ZC,sameIZ,ZM,ZM] at h2
          exact h2.2.1
        · rw [Zn k3,ZB] at h1
          cases h1
   obtain ⟨e1,e2⟩:=xZ hz
   exact ⟨by omega,by omega,ht⟩
theorem xp {L:List Int} {I:List ItemD} (h:rightKn L I=true) (hl:I.length≤100) (hs:∀ i∈I,i.Str) (hd:∀ i∈I,i.dec.to.n=i.dec.toL.length):KnR L I :=
 E8 h hl (fun i hi=>(hs i hi).rng) (fun i hi=>CC (hs i hi) (by
  have h1:=gN h i hi
  rw [signedIt,ZM] at h1
  exact h1.1)) hd
def listX (actor reason:ByteArray) (until_:Int):ActD:={ ActD.zero with kind:=23,target:=actor,text:=reason,n:=until_ }
theorem AK (w:World) (a r:ByteArray) (n:Int):(listX a r n).at_ w:=⟨aV w 1,aV w 5⟩
def undX (d:ByteArray):ActD:={ ActD.zero with kind:=6,object:=d }
theorem B1 (w:World) (d:ByteArray):(undX d).at_ w:=⟨aV w 1,aV w 5⟩
structure UndW (L:List Int) (I2:List ItemD) (n:ChainD) (k:KyD) (D:ByteArray) where
 s8:SlV
 s9:SlV
 sN:SlV
 m:ChainD
 kl2:List KeyD
 b34:Nat
 e5:s8.n=(sgA k n (undX D)).to.n
 e6:s9.n=(sgA k n (undX D)).wraps.n
 hQ3:QK L (addK L I2 (ofActI ((sgA k n (undX D)).re s8 s9))) n.id m kl2
 hm:m.acts.n=m.actsL.length
set_option maxRecDepth 20000 in
set_option maxHeartbeats 16000000 in
theorem mI (ks ki:SlV) (L:List Int) (I:List ItemD) (hs:∀ i∈I,i.Str) (hd:∀ i∈I,i.dec.to.n=i.dec.toL.length) (id:ByteArray) (k:KyD) (actor reason:ByteArray) (until_ now:Int) (so:SlV) (others:List ByteArray)
  (hac:actor.size≤maxLen) (hun:until_<9223372036854775808) :
  Pu Tryz.prog 3 #[.agg #[ks.v,ki.v],.string id,k.v,.string actor,.string reason,.int .i64 until_,.int .i64 now,so.v] (fun w=>((Ints w ks L∧Items w ki I)∧Strs w so others)∧Glob w) (.bool true):=by
 have hsm:=sW
 have hrt:=pp ks ki L I hs hd
 refine ak (args:=[_,_,_,_,_,_,_,_]) _ Tryz.func3 rfl Tryz.ntmps3 rfl fun av bor w0=>?_
 refine aJ (p:=ki.n=I.length∧so.n=others.length) (fun w h=>⟨h.1.1.2.len_,h.1.2.len_⟩) fun ⟨hkin,hson⟩=>?_
 by_cases hbig:30<(ki.n:Int)∨7<(so.n:Int)∨600<(reason.size:Int)
 · cases hR:rightKn L I
   all_goals
    rw [hR] at hrt
    repeat' (first|(refine ab (hc:=hsm) (hX:=fun w h=>h.2) ?_)|(refine ab (hc:=hrt) (hX:=fun w h=>h.1.1) ?_)|refine gs ?_|refine gs1 fun _=>?_|(refine aw ?_)|(refine gp ?_ ?_<;>intro hx_ this)|fail)
    all_goals first
     | exact ad (ag rfl rfl) rfl
     | (exfalso;omega)
 cases hR:rightKn L I with
 | false =>
  rw [hR] at hrt
  repeat' (first|refine ic (hab:=by omega) ?_|(refine ab (hc:=hsm) (hX:=fun w h=>h.2) ?_)|(refine ab (hc:=hrt) (hX:=fun w h=>h.1.1) ?_)|refine gs ?_|refine gs1 fun _=>?_|(refine aw ?_)|(refine gp ?_ ?_<;>intro hx_ this)|fail)
  all_goals first
   | exact ad (ag rfl rfl) rfl
 | true =>
  rw [hR] at hrt
  have hK:=xp hR aa hs hd
  have hsrc:∀ w,Strs w so others→Src Tryz.prog w 1 so.v so.n (others.map encB):=fun w h=>by
   have h1:=fP (P:=Tryz.prog) h (fun cs hcs=>by simp only [strs,List.mem_map] at hcs;obtain ⟨x,_,rfl⟩:=hcs;rfl)
   rwa [←jL] at h1
  repeat' (first|refine ic (hab:=by omega) ?_|(refine ab (hc:=hsm) (hX:=fun w h=>h.2) ?_)|(refine ab (hc:=hrt) (hX:=fun w h=>h.1.1) ?_)|(refine cA (hc:=qd ks ki hK) (hX:=fun w h=>⟨h.1.1,h.2⟩) fun v X1 h1=>?_;obtain ⟨s1,l1,hA1,rfl,hw1⟩:=h1)|refine gs ?_|refine gs1 fun _=>?_|(refine aw ?_)|(refine gp ?_ ?_<;>intro hx_ this)|fail)
  rename_i b8 b10
  have hfi:=vu s1 l1 id
  have hfe:=Bc s1 l1
  cases hfc:findC l1 id with
  | none =>
   rw [hfc] at hfi
   replace hfi:Pu Tryz.prog 9 #[s1.v,.string id] (fun w=>Chains w s1 l1) (.tuple #[ChainD.zero.v,.bool false]):=hfi
   cases hfB:fewV l1
   all_goals
    rw [hfB] at hfe
    repeat' (first|(refine ab (hc:=hfi) (hX:=fun w h=>hw1 w h.2) ?_)|(refine ab (hc:=hfe) (hX:=fun w h=>hw1 w h.2) ?_)|refine gs ?_|refine gs1 fun _=>?_|(refine aw ?_)|(refine gp ?_ ?_<;>intro hx_ this)|fail)
    all_goals first
     | exact ad (ag rfl rfl) rfl
  | some c =>
   rw [hfc] at hfi
   replace hfi:Pu Tryz.prog 9 #[s1.v,.string id] (fun w=>Chains w s1 l1) (.tuple #[c.v,.bool true]):=hfi
   cases hfB:fewV l1 with
   | false =>
    rw [hfB] at hfe
    repeat' (first|(refine ab (hc:=hfi) (hX:=fun w h=>hw1 w h.2) ?_)|(refine ab (hc:=hfe) (hX:=fun w h=>hw1 w h.2) ?_)|refine gs ?_|refine gs1 fun _=>?_|(refine aw ?_)|(refine gp ?_ ?_<;>intro hx_ this)|fail)
    all_goals first
     | exact ad (ag rfl rfl) rfl
   | true =>
    rw [hfB] at hfe
    obtain ⟨kl,hQ,h0,hau⟩:=xU hA1 hfc
    have hok1:=ld hK hA1
    have G:=gC hK hQ
    have hcm:=List.mem_of_find?_eq_some hfc
    refine ig (p:=c.acts.n=c.actsL.length) (fun w h=>((hw1 w h.2).2 c hcm).len_) fun hcn=>?_
    repeat' (first|refine kZ fun _=>?_|(refine ab (hc:=hfi) (hX:=fun w h=>hw1 w h.2) ?_)|(refine ab (hc:=hfe) (hX:=fun w h=>hw1 w h.2) ?_)|(refine aF (size:=1) (z:=.string ⟨#[]⟩) (m:=0) (news:=others.map encB) (q:=so.n) rfl rfl rfl rfl (fun _=>At.here _) (fun w G=>hsrc w G.keep.now.1.1.2) aa (by simp only [maxLen];omega) rfl ?_ rfl ?_;(first|with_reducible rfl|with_reducible assumption|with_reducible exact ZI|with_reducible exact ZK);intro A2 c2)|(refine aF (size:=1) (z:=.string ⟨#[]⟩) (m:=0+so.n) (news:=[encB id]) (q:=1) rfl rfl rfl rfl (fun _=>At.there _ (At.here _)) (fun w G=>bJ G ar rfl rfl 1) aa (by simp only [maxLen];omega) rfl ?_ rfl ?_;(first|with_reducible rfl|with_reducible assumption|with_reducible exact ZI|with_reducible exact ZK);intro A3 c3)|refine gs ?_|refine gs1 fun _=>?_|(refine aw ?_)|(refine gp ?_ ?_<;>intro hx_ this)|fail)
    rename_i b19 bz bi
    have hkn:0+so.n+1=(others++[id]).length:=by rw [ZX,hson];simp
    have hst:∀ w,(orow 9 1 (.slice A3 (0+so.n+1) c3) (0+so.n+1) ([]++others.map encB++[encB id])).F w→Strs w ⟨A3,0+so.n+1,c3⟩ (others++[id]):=fun w h=>gk (l:=others++[id]) (by rw [Qn];exact h) hkn
    refine cZ (List.Perm.swap _ _ _) ?_
    refine bo ?_
    have hKl:(others++[id]).length≤1000:=by omega
    have hKm:id∈others++[id]:=List.mem_append_right _ (List.mem_singleton.2 rfl)
    generalize others++[id]=KS at *
    refine cA (hc:=rq s1 l1 ⟨A3,0+so.n+1,c3⟩ KS now (fun c hc=>(hok1 c hc).1) (fun c hc=>Qr (hok1 c hc).2 (by decide)) hKl) (hX:=fun w h=>⟨hw1 w h.1.2,hst w h.2,h.1.1.2⟩) fun v X2 h2=>?_
    obtain ⟨s2,rfl,hw2⟩:=h2
    refine cu (X':=fun w=>((((Ints w ks L∧Items w ki I)∧Glob w)∧Chains w s1 l1)∧Strs w ⟨A3,0+so.n+1,c3⟩ KS)∧Lists w s2 (ofV l1 KS now)) (fun w h=>⟨⟨⟨⟨h.1.1.1.1.1,h.1.1.1.2⟩,hw1 w h.1.1.2⟩,hst w h.1.2⟩,hw2 w h.2⟩) ?_
    have hxR:(listX actor reason until_).Rng:=⟨by simp only [listX,ActD.zero];omega,fun w hw=>(List.not_mem_nil hw).elim,rfl,rfl⟩
    have hxS:(listX actor reason until_).Sm:=⟨by show 0*16≤_;decide,by show 0*64≤_;decide,hac⟩
    have hG1:=G.len
    repeat' (first|(refine cA (hc:=km ks ki hK aa c aa k (listX actor reason until_) hxR hxS) (hX:=fun w h=>⟨⟨⟨h.1.1.1.1,h.1.1.2.2 c hcm⟩,AK w _ _ _⟩,h.1.1.1.2⟩) fun v X3 h3=>?_;obtain ⟨s3,s4,s5,n,kl',e3,e4,hQ',rfl,hw3⟩:=h3)|refine gs ?_|refine gs1 fun _=>?_|(refine aw ?_)|(refine aC (cs:=(listX actor reason until_).cells) (hf:=by rfl) ?_)|(refine gp ?_ ?_<;>intro hx_ this)|fail)
    · exact ad (ag rfl rfl) rfl
    rename_i b23 b24
    have hone:(n.acts.n:Int)=(c.acts.n:Int)+1:=by
     cases hdd:decide ((n.acts.n:Int)=(c.acts.n:Int)+1) with
     | true=>exact aM hdd
     | false=>rw [hdd] at hx_;exact absurd hx_ (by decide)
    refine ig (p:=n.acts.n=n.actsL.length) (fun w h=>(hw3 w ⟨h.1.1.1.1.1.2,h.2⟩).2.len_) fun hnn=>?_
    obtain ⟨hS,hQ2⟩:=qC hK hQ h0 hcn hnn e3 e4 hQ' hone
    clear hQ'
    have hbR:=zY (k:=k) (c:=c) hxR aa
    have hbS:=D6 (k:=k) (c:=c) hxS
    have hK2:KnR L (addK L I (ofActI ((sgA k c (listX actor reason until_)).re s3 s4))):=mJ hK (iW hbR e3 e4) (o9 hbS e3 e4) rfl aa
    have hl2:=BO L I (ofActI ((sgA k c (listX actor reason until_)).re s3 s4))
    generalize sgA k c (listX actor reason until_)=b at *
    obtain ⟨I2,hI2⟩:∃ I2,addK L I (ofActI (b.re s3 s4))=I2:=⟨_,rfl⟩
    rw [hI2] at hK2 hl2 hQ2 hw3
    have G2:=gC hK2 hQ2
    have hok2:=fun {l} (h:AllK L I2 l)=>ld hK2 h
    repeat' (first|(refine cA (hc:=qd ks s5 hK2) (hX:=fun w h=>⟨⟨h.1.1.1.1.1.1,(hw3 w ⟨h.1.1.1.1.1.2,h.2⟩).1⟩,h.1.1.1.1.2⟩) fun v X4 h4=>?_;obtain ⟨s6,l2,hA2,rfl,hw4⟩:=h4;refine cu (X':=fun w=>((((((Ints w ks L∧Items w ki I)∧Glob w)∧Chains w s1 l1)∧Strs w ⟨A3,0+so.n+1,c3⟩ KS)∧Lists w s2 (ofV l1 KS now))∧Items w s5 I2∧n.at_ w)∧Chains w s6 l2) (fun w h=>⟨⟨h.1.1,hw3 w ⟨h.1.1.1.1.1.1.2,h.1.2⟩⟩,hw4 w h.2⟩) ?_)|refine gs ?_|refine gs1 fun _=>?_|(refine gp ?_ ?_<;>intro hx_ this)|fail)
    refine cA (hc:=rq s6 l2 ⟨A3,0+so.n+1,c3⟩ KS now (fun c hc=>(hok2 hA2 c hc).1) (fun c hc=>Qr (hok2 hA2 c hc).2 (by decide)) hKl) (hX:=fun w h=>⟨h.2,h.1.1.1.2,h.1.1.1.1.1.2⟩) fun v X5 h5=>?_
    obtain ⟨s7,rfl,hw5⟩:=h5
    refine cu (X':=fun w=>((((((Ints w ks L∧Items w ki I)∧Glob w)∧Chains w s1 l1)∧Strs w ⟨A3,0+so.n+1,c3⟩ KS)∧Lists w s2 (ofV l1 KS now))∧Items w s5 I2∧n.at_ w)∧Lists w s7 (ofV l2 KS now)) (fun w h=>⟨h.1.1,hw5 w h.2⟩) ?_
    repeat' (first|apply bL|apply Qw|refine br ?_|refine aK ?_|refine cb ?_|refine cC ?_|refine aL ?_|refine aT ?_|refine aU ?_|refine l8 ?_|refine cr ?_|refine bV ?_|refine cD ?_|refine bT ?_|refine bH ?_|refine cg ?_|refine ma ?_|refine dH (h:=?_)|refine bj ?_|refine bn ?_|refine be ?_|refine aZ fun _=>?_|refine ci fun _=>?_|refine dt fun _=>?_|refine bS ?_|refine aR ?_|refine QA ?_|refine QB ?_|apply Qz|apply Qy|apply cw_ret|apply cw_exit|refine bQ ?_|refine bw ?_|refine bu ?_|((fail_if_success (refine cv ?_));refine bp (ht:=?_) (hf:=?_);all_goals (intro hx_;first|have:=aM hx_|have:=aY hx_|skip))|(refine cw_cond (ht:=?_) (hf:=?_);all_goals (intro hx_;first|have:=aM hx_|have:=aY hx_|skip)))
    have hQ2':QK L (addK L I (ofActI (b.re s3 s4))) id n kl':=by rw [hI2];exact hQ2
    obtain ⟨hOM,hn0⟩:=tH (l1:=l1) (l2:=l2) (KS:=KS) hK hQ h0 hau hS hQ2' hA1 (by rw [hI2];exact hA2) rfl hKm
    have hfirst:(hasL (ofV l2 KS now) actor).isSome=((hasL (ofV l1 KS now) actor).isSome||decide (now<until_))∧∀ x,hasL (ofV l2 KS now) actor=some x→until_≤x.until_∧((hasL (ofV l1 KS now) actor).getD ListD.zero).until_≤x.until_:=hOM.first hn0
    have hothers:∀ x,x∈ofV l2 KS now→x.actor≠actor→hasL (ofV l1 KS now) x.actor=some x:=fun x h1 h2=>hOM.others h1 h2
    have hz0:ListD.zero.until_=0:=rfl
    have hn0':0≤until_:=hn0
    have hha1:=j1 s2 (ofV l1 KS now) actor
    have hha2:=j1 s7 (ofV l2 KS now) actor
    have hhas:=fun x=>j1 s2 (ofV l1 KS now) x
    have hasc2:∀ x,x∈ofV l2 KS now→x∈ofV l2 KS now:=fun _ h=>h
    generalize hM1:ofV l1 KS now=M1 at *
    obtain ⟨M2,hM2⟩:∃ M2,ofV l2 KS now=M2:=⟨_,rfl⟩
    rw [hM2] at hfirst hothers hha2 hasc2 ⊢
    refine Br (ι:=Unit) (fun _=>⟨[(3,.string actor),(6,.int .i64 now),(17,.bool true),(21,.slice A3 (0+so.n+1) c3),(22,s2.v),(26,s7.v),(10,.pointer (some ⟨b10,0,none⟩)),(19,.pointer (some ⟨b19,0,none⟩)),(23,.pointer (some ⟨b23,0,none⟩)),(24,.pointer (some ⟨b24,0,none⟩))],[cel b24 36 n.cells,cel b23 25 [ks.v,s5.v],cel b19 36 c.cells,cel b10 27 k.v.cells.toList],fun w=>((((((Ints w ks L∧Items w ki I)∧Glob w)∧Chains w s1 l1)∧Strs w ⟨A3,0+so.n+1,c3⟩ KS)∧Lists w s2 M1)∧Items w s5 I2∧n.at_ w)∧Lists w s7 M2⟩) ?_ fun _=>?_
    · cases hW:hasL M1 actor
      all_goals
       rw [hW] at hha1 hfirst
       cases hY:hasL M2 actor
       all_goals
        rw [hY] at hha2 hfirst
        by_cases hu:now<until_
        all_goals first
         | (exfalso;revert hfirst;simp [hu];done)
         | skip
      all_goals
       have hf2:=hfirst.2
       first
        | replace hf2:=hf2 _ rfl
        | skip
       simp only [Option.getD_some,Option.getD_none] at hf2
       simp only [hasP,Option.getD_none,Option.getD_some,Option.isSome_none,Option.isSome_some] at hha1 hha2
       repeat' (first|refine kY (hab:=by omega) ?_|refine ic (hab:=by omega) ?_|refine Cv false (hr:=by rfl) (h:=?_)|refine sQ (hab:=by omega) ?_|(refine ab (hc:=hha1) (hX:=fun w h=>h.1.1.2) ?_)|(refine ab (hc:=hha2) (hX:=fun w h=>h.2) ?_)|refine gs ?_|refine gs1 fun _=>?_|(refine gp ?_ ?_<;>intro hx_ this)|fail)
      all_goals first
       | exact ⟨(),aj ⟨rfl,rfl,rfl,rfl,rfl,rfl,rfl,rfl,rfl,rfl,trivial⟩ (.cons _ (.cons _ (.cons_cons _ (.cons_cons _ (.cons _ (.cons_cons _ (.cons_cons _ (ZR _)))))))) fun _ h=>h⟩
    repeat' (first|refine gs ?_|refine gs1 fun _=>?_|(refine gp ?_ ?_<;>intro hx_ this)|fail)
    refine aJ (fun w h=>Lists.know w h.2) fun ⟨hn7,hm7,hp7⟩=>?_
    simp only [maxLen] at hm7
    refine ap (ι:=Kth M2.length) (fun i=>⟨[(3,.string actor),(6,.int .i64 now),(17,.bool true),(21,.slice A3 (0+so.n+1) c3),(22,s2.v),(26,s7.v),(10,.pointer (some ⟨b10,0,none⟩)),(19,.pointer (some ⟨b19,0,none⟩)),(23,.pointer (some ⟨b23,0,none⟩)),(24,.pointer (some ⟨b24,0,none⟩)),(31,.int .i64 i.k)],[cel b24 36 n.cells,cel b23 25 [ks.v,s5.v],cel b19 36 c.cells,cel b10 27 k.v.cells.toList],fun w=>((((((Ints w ks L∧Items w ki I)∧Glob w)∧Chains w s1 l1)∧Strs w ⟨A3,0+so.n+1,c3⟩ KS)∧Lists w s2 M1)∧Items w s5 I2∧n.at_ w)∧Lists w s7 M2⟩) (fun i=>M2.length-i.k) ⟨0,Nat.zero_le _⟩ (aj ⟨rfl,rfl,rfl,rfl,rfl,rfl,rfl,rfl,rfl,rfl,rfl,trivial⟩ (al _) fun _ h=>h) fun i=>?_
    have hik:=i.hk
    by_cases hlt:i.k<M2.length
    · have hp7':=hp7 aa
      obtain ⟨x,hx⟩:∃ x,M2[i.k]?=some x:=⟨_,Zm hlt⟩
      have hxm:=List.mem_of_getElem? hx
      have hh:=hhas x.actor
      have hy0:∀ w,Lists w s7 M2→CellAt w s7.p (i.k*4) (.string x.actor):=fun w h=>(Lists.get h hx).2.2 0 _ rfl
      have hxx:(!eqLD x x)=false:=by rw [eqLD_iff.2 rfl];rfl
      cases hxa:seqB x.actor actor with
      | true =>
       repeat' (first|refine ai (cf true rfl rfl (ZA aa)) rfl am rfl ?_|refine aH (q:=i.k*4) ?_|refine gi ?_|refine dr (q:=i.k*4) (u:=.string x.actor) (hF:=fun w h=>hy0 w h.2) ?_|(refine ab (hc:=hh) (hX:=fun w h=>h.1.1.2) ?_)|refine gs ?_|refine gs1 fun _=>?_|(refine gp ?_ ?_<;>intro hx_ this)|fail)
       rename_i b32
       (refine aq ⟨[0,1,2,3,4,5,6,7,8,9,10,11,12,13,14,15,16,17,18],[]⟩ [] (fun w=>((((((Ints w ks L∧Items w ki I)∧Glob w)∧Chains w s1 l1)∧Strs w ⟨A3,0+so.n+1,c3⟩ KS)∧Lists w s2 M1)∧Items w s5 I2∧n.at_ w)∧Lists w s7 M2) (h:=?_))
       all_goals repeat' (first|refine ax (hy:=by first|(apply kV false;rfl;rfl;(rw [hxa];rfl))) ?_|refine gdz ?_|refine ax (hy:=by first|(apply aB (q:=i.k*4);rfl;rfl;omega;omega;assumption;omega)|(apply gG;rfl;assumption;rfl)|(apply eI (t:=9) (q:=i.k*4) (u:=.string x.actor);rfl;exact fun w h=>hy0 w h.2)) ?_|refine az ?_ (h':=?_)|exact aA|refine gs1 fun _=>?_|(refine gq ?_ ?_<;>intro hx_ this)|fail)
       all_goals
        repeat' (first|refine gs ?_|refine gs1 fun _=>?_|(refine gp ?_ ?_<;>intro hx_ this)|fail)
        all_goals first
         | exact ⟨(⟨i.k+1,by omega⟩:Kth M2.length),(by show M2.length-(i.k+1)<M2.length-i.k;omega),aj ⟨rfl,rfl,rfl,rfl,rfl,rfl,rfl,rfl,rfl,rfl,rfl,trivial⟩ (.cons _ (al _)) fun _ h=>h⟩
      | false =>
       have hx':=hothers x hxm fun e=>by rw [e,cV] at hxa;cases hxa
       rw [hx'] at hh
       simp only [hasP,Option.getD_some,Option.isSome_some] at hh
       repeat' (first|refine ai (cf true rfl rfl (ZA aa)) rfl am rfl ?_|refine aH (q:=i.k*4) ?_|refine gi ?_|refine dr (q:=i.k*4) (u:=.string x.actor) (hF:=fun w h=>hy0 w h.2) ?_|(refine ab (hc:=hh) (hX:=fun w h=>h.1.1.2) ?_)|refine gs ?_|refine gs1 fun _=>?_|(refine gp ?_ ?_<;>intro hx_ this)|fail)
       rename_i b32
       (refine aq ⟨[0,1,2,3,4,5,6,7,8,9,10,11,12,13,14,15,16,17,18],[]⟩ [cel b32 52 x.cells] (fun w=>((((((Ints w ks L∧Items w ki I)∧Glob w)∧Chains w s1 l1)∧Strs w ⟨A3,0+so.n+1,c3⟩ KS)∧Lists w s2 M1)∧Items w s5 I2∧n.at_ w)∧Lists w s7 M2) (h:=?_))
       all_goals repeat' (first|refine ax (hy:=by first|(apply kV true;rfl;rfl;(rw [hxa];rfl))) ?_|refine gdz ?_|refine ax (hy:=by first|(apply aB (q:=i.k*4);rfl;rfl;omega;omega;assumption;omega)|(apply gG;rfl;assumption;rfl)|(apply eI (t:=9) (q:=i.k*4) (u:=.string x.actor);rfl;exact fun w h=>hy0 w h.2)|(apply d9 (cs:=x.cells);rfl;exact fun w h=>Lists.get h.2 hx)|(apply ur x x;rfl;rfl)) ?_|refine az ?_ (h':=?_)|exact aA|refine gs1 fun _=>?_|(refine gq ?_ ?_<;>intro hx_ this)|fail)
       all_goals
        repeat' (first|refine gs ?_|refine gs1 fun _=>?_|(refine gp ?_ ?_<;>intro hx_ this)|fail)
        all_goals first
         | exact ⟨(⟨i.k+1,by omega⟩:Kth M2.length),(by show M2.length-(i.k+1)<M2.length-i.k;omega),aj ⟨rfl,rfl,rfl,rfl,rfl,rfl,rfl,rfl,rfl,rfl,rfl,trivial⟩ (.cons _ (al _)) fun _ h=>h⟩
    · have hk:i.k=M2.length:=by omega
      repeat' (first|refine ai (cf false rfl rfl (Zn aa)) rfl am rfl ?_|refine gs ?_|refine gs1 fun _=>?_|(refine gp ?_ ?_<;>intro hx_ this)|fail)
      have hn100:=G2.len
      have hcn1:c.acts.n<n.actsL.length:=by omega
      obtain ⟨z,hz⟩:∃ z,n.actsL[c.acts.n]?=some z:=⟨_,Zm hcn1⟩
      have hzm:=List.mem_of_getElem? hz
      have hzr:=G2.ok.rng z hzm
      have hzs:=G2.ok.sm z hzm
      obtain ⟨D,hD⟩:∃ D,digV z=D:=⟨_,rfl⟩
      have hyR:(undX D).Rng:=⟨by simp only [undX,ActD.zero];omega,fun w hw=>(List.not_mem_nil hw).elim,rfl,rfl⟩
      have hyS:(undX D).Sm:=⟨by show 0*16≤_;decide,by show 0*64≤_;decide,by show (0:Nat)≤_;decide⟩
      refine aJ (p:=n.acts.p.isSome=true) (fun w h=>h.1.2.2.some_ aa) fun hnp=>?_
      have hof:=mz z hzr hzs
      have hsi:=km ks s5 hK2 aa n aa k (undX D) hyR hyS
      refine il (ι:=UndW L I2 n k D) (fun u=>⟨[(6,.int .i64 now),(17,.bool true),(21,.slice A3 (0+so.n+1) c3),(22,s2.v),(34,.pointer (some ⟨u.b34,0,none⟩)),(36,.bool (decide ((u.m.acts.n:Int)=(n.acts.n:Int)+1)))],[cel u.b34 25 [ks.v,u.sN.v]],fun w=>(((Ints w ks L∧Items w u.sN (addK L I2 (ofActI ((sgA k n (undX D)).re u.s8 u.s9))))∧Glob w)∧Strs w ⟨A3,0+so.n+1,c3⟩ KS)∧Lists w s2 M1⟩) ?_ fun u=>?_
      · (refine aq ⟨[0,1,2,3,4,5,6,7,8,9],[(10,⟨[],[(11,⟨[12],[(13,⟨[14,15,16,17],[(18,⟨[],[(19,⟨[],[(20,⟨[],[(21,⟨[22],[]⟩)]⟩)]⟩)]⟩),(19,⟨[],[(18,⟨[],[(20,⟨[],[(21,⟨[22],[]⟩)]⟩)]⟩)]⟩)]⟩),(18,⟨[],[(13,⟨[14,15,16,17],[(19,⟨[],[(20,⟨[],[(21,⟨[22],[]⟩)]⟩)]⟩)]⟩),(19,⟨[],[(13,⟨[14,15,16,17],[(20,⟨[],[(21,⟨[22],[]⟩)]⟩)]⟩)]⟩)]⟩),(19,⟨[],[(13,⟨[14,15,16,17],[(18,⟨[],[(20,⟨[],[(21,⟨[22],[]⟩)]⟩)]⟩)]⟩),(18,⟨[],[(13,⟨[14,15,16,17],[(20,⟨[],[(21,⟨[22],[]⟩)]⟩)]⟩)]⟩)]⟩)]⟩),(18,⟨[],[(11,⟨[12],[(13,⟨[14,15,16,17],[(19,⟨[],[(20,⟨[],[(21,⟨[22],[]⟩)]⟩)]⟩)]⟩),(19,⟨[],[(13,⟨[14,15,16,17],[(20,⟨[],[(21,⟨[22],[]⟩)]⟩)]⟩)]⟩)]⟩),(19,⟨[],[(11,⟨[12],[(13,⟨[14,15,16,17],[(20,⟨[],[(21,⟨[22],[]⟩)]⟩)]⟩)]⟩)]⟩)]⟩),(19,⟨[],[(11,⟨[12],[(13,⟨[14,15,16,17],[(18,⟨[],[(20,⟨[],[(21,⟨[22],[]⟩)]⟩)]⟩)]⟩),(18,⟨[],[(13,⟨[14,15,16,17],[(20,⟨[],[(21,⟨[22],[]⟩)]⟩)]⟩)]⟩)]⟩),(18,⟨[],[(11,⟨[12],[(13,⟨[14,15,16,17],[(20,⟨[],[(21,⟨[22],[]⟩)]⟩)]⟩)]⟩)]⟩)]⟩)]⟩),(18,⟨[],[(10,⟨[],[(11,⟨[12],[(13,⟨[14,15,16,17],[(19,⟨[],[(20,⟨[],[(21,⟨[22],[]⟩)]⟩)]⟩)]⟩),(19,⟨[],[(13,⟨[14,15,16,17],[(20,⟨[],[(21,⟨[22],[]⟩)]⟩)]⟩)]⟩)]⟩),(19,⟨[],[(11,⟨[12],[(13,⟨[14,15,16,17],[(20,⟨[],[(21,⟨[22],[]⟩)]⟩)]⟩)]⟩)]⟩)]⟩),(19,⟨[],[(10,⟨[],[(11,⟨[12],[(13,⟨[14,15,16,17],[(20,⟨[],[(21,⟨[22],[]⟩)]⟩)]⟩)]⟩)]⟩)]⟩)]⟩),(19,⟨[],[(10,⟨[],[(11,⟨[12],[(13,⟨[14,15,16,17],[(18,⟨[],[(20,⟨[],[(21,⟨[22],[]⟩)]⟩)]⟩)]⟩),(18,⟨[],[(13,⟨[14,15,16,17],[(20,⟨[],[(21,⟨[22],[]⟩)]⟩)]⟩)]⟩)]⟩),(18,⟨[],[(11,⟨[12],[(13,⟨[14,15,16,17],[(20,⟨[],[(21,⟨[22],[]⟩)]⟩)]⟩)]⟩)]⟩)]⟩),(18,⟨[],[(10,⟨[],[(11,⟨[12],[(13,⟨[14,15,16,17],[(20,⟨[],[(21,⟨[22],[]⟩)]⟩)]⟩)]⟩)]⟩)]⟩)]⟩)]⟩ [cel b24 36 n.cells,cel b23 25 [ks.v,s5.v],cel b19 36 c.cells,cel b10 27 k.v.cells.toList] (fun w=>((((((Ints w ks L∧Items w ki I)∧Glob w)∧Chains w s1 l1)∧Strs w ⟨A3,0+so.n+1,c3⟩ KS)∧Lists w s2 M1)∧Items w s5 I2∧n.at_ w)∧Lists w s7 M2) (h:=?_))
        all_goals repeat' (first|((refine cA (hc:=hof) (hX:=fun w h=>h.1.2.2.2 z hzm) fun v X6 h6=>?_;obtain ⟨z',rfl,hdz,hzr',hzat⟩:=h6;have hdg:=j7 z' hzr';rw [hdz,hD] at hdg))|(refine ab (hc:=hdg) (hX:=fun w h=>⟨hzat w h.2,h.1.1.1.1.1.1.2⟩) ?_)|((refine cA (hc:=hsi) (hX:=fun w h=>⟨⟨⟨⟨h.1.1.1.1.1.1.1.1,h.1.1.2.1⟩,h.1.1.2.2⟩,B1 w D⟩,h.1.1.1.1.1.1.2⟩) fun v X7 h7=>?_;obtain ⟨s8,s9,sN,m,kl2,e5,e6,hQ3,rfl,hw7⟩:=h7;refine ig (p:=m.acts.n=m.actsL.length) (fun w h=>(hw7 w ⟨h.1.1.1.2.1,h.2⟩).2.len_) fun hmm=>?_))|refine gdz ?_|refine ax (hy:=by first|(apply aB (q:=c.acts.n*20);rfl;rfl;omega;omega;assumption;omega)|(apply d9 (cs:=z.cells);rfl;exact fun w h=>Acts.get h.1.2.2 hz)|(apply eQ (cs:=(undX D).cells);rfl;rfl)) ?_|refine az ?_ (h':=?_)|exact aA|refine gs1 fun _=>?_|(refine gq ?_ ?_<;>intro hx_ this)|fail)
        all_goals first
         | exact ⟨(⟨s8,s9,sN,m,kl2,_,e5,e6,hQ3,hmm⟩:UndW L I2 n k D),aj ⟨rfl,rfl,rfl,rfl,rfl,rfl,trivial⟩ (List.singleton_sublist.2 aP) fun w h=>⟨⟨⟨⟨h.1.1.1.1.1.1.1.1.1,(hw7 w ⟨h.1.1.1.2.1,h.2⟩).1⟩,h.1.1.1.1.1.1.1.2⟩,h.1.1.1.1.1.2⟩,h.1.1.1.1.2⟩⟩
      obtain ⟨s8,s9,sN,m,kl2,b34,e5,e6,hQ3,hmm⟩:=u
      simp only
      repeat' (first|refine gs ?_|refine gs1 fun _=>?_|(refine gp ?_ ?_<;>intro hx_ this)|fail)
      · exact ad (ag rfl rfl) rfl
      have htwo:(m.acts.n:Int)=(n.acts.n:Int)+1:=by
       cases hdd:decide ((m.acts.n:Int)=(n.acts.n:Int)+1) with
       | true=>exact aM hdd
       | false=>rw [hdd] at hx_;exact absurd hx_ (by decide)
      obtain ⟨hT,hQ4⟩:=qC hK2 hQ2 aa hnn hmm e5 e6 hQ3 htwo
      have hK3:=mJ hK2 (it:=ofActI ((sgA k n (undX D)).re s8 s9)) (iW (zY (k:=k) (c:=n) hyR aa) e5 e6) (o9 (D6 (k:=k) (c:=n) hyS) e5 e6) rfl aa
      repeat' (first|(refine cA (hc:=qd ks sN hK3) (hX:=fun w h=>h.1.1) fun v X8 h8=>?_;obtain ⟨s10,l3,hA3,rfl,hw10⟩:=h8)|refine gs ?_|refine gs1 fun _=>?_|(refine gp ?_ ?_<;>intro hx_ this)|fail)
      have hfin:ofV l3 KS now=M1:=(AC (fun k _=>pF hK hK2 hQ h0 hau hS hI2 hQ2 hT hQ4 hA1 hA2 hA3 rfl rfl (by rw [←hcn];exact hz) hD.symm k) now).trans hM1
      have hof3:=rq s10 l3 ⟨A3,0+so.n+1,c3⟩ KS now (fun c hc=>(ld hK3 hA3 c hc).1) (fun c hc=>Qr (ld hK3 hA3 c hc).2 (by decide)) hKl
      rw [hfin] at hof3
      have hsame:=fun S=>nV S s2 M1 M1
      simp only [oC] at hsame
      repeat' (first|(refine cA (hc:=hof3) (hX:=fun w h=>⟨hw10 w h.2,h.1.1.2,h.1.1.1.2⟩) fun v X9 h9=>?_;obtain ⟨s11,rfl,hw11⟩:=h9)|(refine ab (hc:=hsame s11) (hX:=fun w h=>⟨hw11 w h.2,h.1.1.2⟩) ?_)|refine gs ?_|refine gs1 fun _=>?_|(refine gp ?_ ?_<;>intro hx_ this)|fail)
      all_goals first
       | exact ad (ag rfl rfl) rfl
end Go.Proofs.YtoefdofbekihdaaGreatDoor
set_option maxHeartbeats 16000000
namespace Go.Proofs.YtoefdofbekihdaaGreatDoor
open Go Go.Proofs Sy Go.RowKit Go.Deep Go.ChangeShapes
section
variable {H:Type} {enc:TypeId×Value→H} {P:Program} {w:World} {base:Nat} {spare:Nat→Bool} {held:Bool}
theorem Ai {fuel:Nat} {cs:List Value} {x:DataW H×List MemPlace} (h:DataW.trod enc Tryz.prog w base spare held fuel 27 cs=some x):∃ k:KyD,cs=k.cells:=by
 have hl:=fJ Tryz.underlying27 (k:=2) ae h
 obtain ⟨n0,y0,h0⟩:=aI (i:=0) (off:=0) (k:=1) (t':=3) Tryz.underlying27 h rfl rfl rfl ae
 obtain ⟨n1,y1,h1⟩:=aI (i:=1) (off:=1) (k:=1) (t':=3) Tryz.underlying27 h rfl rfl rfl ae
 match cs,hl with
 | [c0,c1],_ =>
  obtain ⟨s0,e0,b0⟩:=aX h0
  obtain ⟨s1,e1,b1⟩:=aX h1
  simp at e0 e1
  exact ⟨⟨s0,s1⟩,by rw [e0,e1];rfl⟩
end
end Go.Proofs.YtoefdofbekihdaaGreatDoor
set_option maxHeartbeats 16000000
namespace Go.Proofs.YtoefdofbekihdaaGreatDoor
open Go Go.Proofs Sy Go.RowKit Go.Deep Go.ChangeShapes Go.WideShapes
theorem laidOut:laidOutB Tryz.prog=true:=by kernel_rfl
theorem ip {H:Type} {enc:TypeId×Value→H} {P:Program} (hl:laidOutB P=true) {W W':World} {sp:Nat→Bool}:∀ (ts:List TypeId) (vs:List Value) (ds:List (DataW H)) (ps:List MemPlace),(∀ t∈ts,P.readableRec t=true∧t<P.types.size) →
  DataW.TrodAll enc P W 0 (fun _=>true) true ts vs ds ps→(∀ p∈ps,W.sameAt W' p)→(∀ p∈ps,sp p.block=true)→DataW.TrodAll enc P W' 0 sp true ts vs ds ps
 | [],vs,ds,ps,_,h,_,_=>by
  obtain ⟨rfl,rfl,rfl⟩:=trodAll_nil h
  exact trodAll_mk0
 | t::ts,vs,ds,ps,ht,h,hs,hp=>by
  obtain ⟨v,vs',d,ds',p,q,rfl,rfl,rfl,h1,h2⟩:=trodAll_cons h
  exact trodAll_cons_mk (WideElems.Trod_stays hl (ht t ar).1 (ht t ar).2 h1 (fun x hx=>hs x (List.mem_append_left _ hx)) (fun x hx=>hp x (List.mem_append_left _ hx)))
   (ip hl ts vs' ds' q (fun u hu=>ht u (ZS _ hu)) h2 (fun x hx=>hs x (List.mem_append_right _ hx)) (fun x hx=>hp x (List.mem_append_right _ hx)))
theorem xA {X:World→Prop} {w:World} (hX:X w) (hk:∀ w':World,(∀ k,k<w.heap.size→w'.heap[k]?=w.heap[k]?)→X w'):Gam [] (fps []) w [] X w :=
 ⟨Fr.refl _ _,fun k hk=>by simp at hk,by simp [fps],fun k hk=>by simp [fps] at hk,fun r hr=>by simp at hr,⟨fun k=>k<w.heap.size,fun k hk=>⟨hk,by simp [fps]⟩,hk⟩⟩
theorem sf {P:Program} {f:FuncId} {args:Array Value} {X:World→Prop} {v:Value} {w:World} (h:Pu P f args X v) (hX:X w) (hk:∀ w':World,(∀ k,k<w.heap.size→w'.heap[k]?=w.heap[k]?)→X w') :
  Calls P f args w fun e w'=>e=.returned v∧Below w.heap.size w w':=by
 unfold Pu at h
 exact (Ct.run h w [] (xA hX hk)).mono fun e w' ⟨u,R,X',he,⟨hu,hR⟩,G⟩=>⟨by rw [he,hu],G.fr.below⟩
theorem laidK:Rows.laid_agora_sum_constants (H:=Unit)=Lib.tabData .u32 kC:=by kernel_rfl
theorem laidI:Rows.laid_agora_sum_initial (H:=Unit)=Lib.tabData .u32 iniC:=by kernel_rfl
theorem m8 {W:World} {name:String} {zs:List Int} {g:Nat} (h:Lib.TabIs Tryz.prog W name .u32 zs) (hg:Tryz.prog.globalNamed name=some g):CellsAt g (u32s zs) W:=fun j v hj=>by
 have hj':j<zs.length:=by have:=(List.getElem?_eq_some_iff.1 hj).1;simpa [u32s] using this
 rw [h.cell hg j hj']
 simp only [u32s,List.getElem?_map,Zm hj',Option.map_some,Qc] at hj
 rw [ZL,Zm hj',←hj]
 rfl
theorem Dn {W:World} (h:laidMet Tryz.prog [("agora/sum.constants",Rows.laid_agora_sum_constants),("agora/sum.initial",Rows.laid_agora_sum_initial)] W):Glob W:=by
 rw [laidK,laidI] at h
 have h1:=Lib.tabIs_of_head (g:=1) (t:=202) (e:=145) (n:=64) ae ae Tryz.underlying202 Tryz.underlying145 ae ae h
 obtain ⟨ps,⟨g',t',cs,fuel,p,q,hg',ht',hvar,hd,hrest,hpq⟩,_⟩:=h
 obtain ⟨g2,t2,cs2,fuel2,p2,q2,hg2,ht2,hvar2,hd2,_,_⟩:=hrest
 have h2:Lib.TabIs Tryz.prog W "agora/sum.initial" .u32 iniC:=by
  have e1:Tryz.prog.globalNamed "agora/sum.initial"=some 0:=by kernel_rfl
  have e2:(Tryz.prog.globals[0]?).map (·.type)=some 146:=by kernel_rfl
  obtain rfl:=Option.some.inj (e1.symm.trans hg2)
  obtain rfl:=Option.some.inj (e2.symm.trans ht2)
  unfold Lib.TabIs
  rw [hvar2,←Lib.cells_of_tab Tryz.underlying146 Tryz.underlying145 ae ae hd2]
 exact ⟨m8 h2 ae,m8 h1 ae⟩
def layRow (l:List Value):Obj→Obj
 | .cells _ t frozen=>.cells l.toArray t frozen
 | o=>o
noncomputable def laidWorld (os:Os):World :=
 { World.holding Tryz.prog os ⟨#[],#[],[]⟩ with heap:=((World.holding Tryz.prog os ⟨#[],#[],[]⟩).heap.modify 0 (layRow (u32s iniC))).modify 1 (layRow (u32s kC)) }
end Go.Proofs.YtoefdofbekihdaaGreatDoor
