/- Joined. -/
import Derived.Test.YtaolfiikahlmkaaGreatDoorT4
import Derived.Laws.StructEq
import Derived.Shelf.SlIter.Nil
import Derived.Shelf.SlIterI.Nil
import Derived.Shelf.SortM.Plain
import Derived.Shelf.SortM.SortNone
import Derived.Shelf.Slices.CompactS
import Derived.Test.YtaolfiikahlmkaaGreatDoorProg
import Derived.Shelf.Bits.Mul64
import Derived.Shelf.Strconv.Itoa0
set_option linter.unusedVariables false
set_option linter.unusedSimpArgs false
set_option maxHeartbeats 16000000
namespace Go.Proofs.YtaolfiikahlmkaaGreatDoor
open Go Go.Proofs Sy Tryz
instance:Eg prog 237 4 (keyD Int):=⟨ac⟩
section
variable {P:Program} {N:Nat} {av bor:List Nat} {w0:World} {ops:Array Oper} {rest:List Oper} {kk:St→Prop} {E:Env} {loc:List Xm} {X:World→Prop} {x y:Operand} {t t2:TypeId}
variable {n:Nat} {ty:TypeId} {pos:String} {af:Array Edge} {g:Option (Nat×Bool)} {bb want:Bool}
theorem da {a b:ByteArray} (v:Bool) (hx:ev E x=some (.string a):=by rfl) (hy:ev E y=some (.string b):=by rfl) (hv:seqB a b=v) (hg:gdB ops E g=some (bb,want):=by rfl) (hbb:bb=want:=by exact ar) (hd:Nat.blt n N=true:=by rfl) (h:Sw P N av bor w0 ops rest ⟨(n,.bool v)::E,loc,X⟩ kk) :
  Sw P N av bor w0 ops (⟨some n,.binOp .eql t x y t2,ty,pos,af,g⟩::rest) ⟨E,loc,X⟩ kk:=ak (k9 v hx hy hv) hg hbb hd h
end
def admV (l:List Xb) (a au:ByteArray):Bool:=bif seqB a au then true else !blockedV l a au
theorem kQ (s:Xl) (l:List Xb) (a:ByteArray) (p:Xd) (hok:∀ c∈l,Xx c.actsL):Pu prog 58 #[s.v,.string a,p.v] (fun w=>Chains w s l∧Xi w) (.bool (admV l a p.author)):=by
 refine aw func58 ntmps58 fun av bor w0=>?_
 have hb:=nt s l a p.author hok
 cases h:seqB a p.author with
 | true =>
  repeat' (first|refine da _ (hv:=h) (h:=?_)|refine gs ?_|refine gs1 fun _=>?_|fail)
  exact ab (ae rfl rfl) (by rw [admV,h];rfl)
 | false =>
  repeat' (first|refine da _ (hv:=h) (h:=?_)|(refine ag (hc:=hb) ?_)|refine gs ?_|refine gs1 fun _=>?_|fail)
  exact ab (ae rfl rfl) (by rw [admV,h];rfl)
def hasM (c:Xb) (kind:Int) (id:ByteArray):Nat→List (Int×Value)
 | 0=>[]
 | i+1 =>
  let x:=c.actsL.getD i Xa.zero
  let m:=bif decide (x.kind=kind)&&seqB x.object id then mput (hasM c kind id i) (i:Int) (.bool true) else hasM c kind id i
  bif decide (x.kind=6)&&decide (0<m.length) then (match idxV c.actsL x.object with
   | some j=>mdel m (j:Int)
   | none=>m) else m
def hasV (c:Xb) (kind:Int) (id:ByteArray):Bool:=decide (0<(hasM c kind id c.actsL.length).length)
theorem jq {κ β:Type} [Xk κ]:∀ (b:List (κ×β)) (k:κ) (v:β),(mput b k v).length≤b.length+1
 | [],_,_=>ZX 1
 | (k',v')::r,k,v=>by
  have ih:=jq r k v
  rw [mput]
  cases Xk.eqb k k' with
  | true=>exact Nat.le_succ _
  | false=>rw [Ze,ZB,ZB];omega
theorem rZ {κ β:Type} [Xk κ]:∀ (b:List (κ×β)) (k:κ),(mdel b k).length≤b.length
 | [],_=>ZX 0
 | (k',v')::r,k=>by
  have ih:=rZ r k
  rw [mdel]
  cases Xk.eqb k k' with
  | true=>exact Nat.le_succ _
  | false=>rw [Ze,ZB,ZB];omega
theorem sf (c:Xb) (kind:Int) (id:ByteArray):∀ i,(hasM c kind id i).length≤i
 | 0=>ZX 0
 | i+1=>by
  have ih:=sf c kind id i
  rw [hasM]
  have h1:(bif decide ((c.actsL.getD i Xa.zero).kind=kind)&&seqB (c.actsL.getD i Xa.zero).object id then mput (hasM c kind id i) (i:Int) (.bool true) else hasM c kind id i).length≤i+1:=by
   cases decide ((c.actsL.getD i Xa.zero).kind=kind)&&seqB (c.actsL.getD i Xa.zero).object id with
   | true=>exact ZY (jq _ _ _) (Nat.succ_le_succ ih)
   | false=>exact Nat.le_succ_of_le ih
  generalize (bif decide ((c.actsL.getD i Xa.zero).kind=kind)&&seqB (c.actsL.getD i Xa.zero).object id then mput (hasM c kind id i) (i:Int) (.bool true) else hasM c kind id i)=m at *
  cases decide ((c.actsL.getD i Xa.zero).kind=6)&&decide (0<m.length) with
  | false=>exact h1
  | true =>
   rw [Zf]
   cases idxV c.actsL (c.actsL.getD i Xa.zero).object with
   | none=>exact h1
   | some j=>exact ZY (rZ _ _) h1
structure HasI (c:Xb) (kind:Int) (id:ByteArray) where
 k:Nat
 hk:k≤c.actsL.length
 M:List (Int×Value)
 hM:M=hasM c kind id k
theorem CI (c:Xb) (hc:Xx c.actsL) (hcl:c.actsL.length≤1000000) (kind:Int) (id:ByteArray):Pu prog 101 #[c.v,.int .i64 kind,.string id] (fun w=>c.at_ w∧Xi w) (.bool (hasV c kind id)):=by
 refine aw func101 ntmps101 fun av bor w0=>?_
 refine aR (p:=c.acts.n=c.actsL.length∧c.acts.n≤maxLen∧(0<c.actsL.length→c.acts.p.isSome=true)) (fun w h=>⟨h.1.len_,h.1.max_,h.1.some_⟩) fun ⟨hl,hm,hp⟩=>?_
 simp only [maxLen] at hm
 repeat' (first|refine gs ?_|refine gs1 fun _=>?_|fail)
 refine d7 Int (h:=fun q=>?_)
 repeat' (first|refine gs ?_|fail)
 rename_i b
 refine ao (ι:=HasI c kind id) (fun i=>⟨[(1,.int .i64 kind),(2,.string id),(3,.pointer (some ⟨b,0,none⟩)),(7,.map (some q)),(14,c.acts.v),(15,.int .i64 (c.acts.n:Nat)),(16,.int .i64 (i.k:Nat))],[mapr q i.M,cel b 35 c.cells],fun w=>c.at_ w∧Xi w⟩) (fun i=>c.actsL.length-i.k) ⟨0,Z4 _,[],rfl⟩ (ai al (aj _) fun _ h=>h) fun i=>?_
 obtain ⟨k,hk,M,hM⟩:=i
 simp only
 repeat' (first|refine gs ?_|(refine gp ?_ ?_<;>intro hx_ this)|fail)
 · have hlt:k<c.actsL.length:=by omega
   have hp':=hp aa
   obtain ⟨x,hx⟩:∃ x,c.actsL[k]?=some x:=⟨_,Zb hlt⟩
   have hxD:c.actsL.getD k Xa.zero=x:=by rw [Zo,hx];rfl
   have hix:=mV c hc x.object
   have hMl:M.length≤k:=by rw [hM];exact sf c kind id k
   have hS:∀ M1 M2,(bif decide (x.kind=kind)&&seqB x.object id then mput M (k:Int) (.bool true) else M)=M1→(bif decide (x.kind=6)&&decide (0<M1.length) then (match idxV c.actsL x.object with|some j=>mdel M1 (j:Int)|none=>M1) else M1)=M2→M2=hasM c kind id (k+1):=fun M1 M2 h1 h2=>by
    rw [hasM,hxD,←hM]
    simp only [h1,h2]
   cases h1:decide (x.kind=kind)<;>cases h2:seqB x.object id<;>cases h3:decide (x.kind=6)
   · have hm1:(bif decide (x.kind=kind)&&seqB x.object id then mput M (k:Int) (.bool true) else M)=M:=by rw [h1,h2];rfl
     have hM2:M=hasM c kind id (k+1):=hS _ _ hm1 (by rw [h3,Zj];rfl)
     have j:Nat:=0
     repeat' (first|refine aG (hab:=co h1) ?_|refine aG (hab:=co h3) ?_|refine gs ?_|refine gs1 fun _=>?_|(refine aD (q:=k*20) ?_)|(refine aM (cs:=x.cells) (hF:=fun w h=>Acts.get h.1 hx) ?_)|fail)
     exact ⟨(⟨k+1,hlt,M,hM2⟩:HasI c kind id),(by show c.actsL.length-(k+1)<c.actsL.length-k;omega),ai al (Z2 _ (aj _)) fun _ h=>h⟩
   · have hm1:(bif decide (x.kind=kind)&&seqB x.object id then mput M (k:Int) (.bool true) else M)=M:=by rw [h1,h2];rfl
     by_cases h4:0<(M).length
     · cases h5:idxV c.actsL x.object with
       | none =>
        rw [h5] at hix
        have hix:Pu prog 50 #[c.v,.string x.object] (fun w=>c.at_ w∧Xi w) (.tuple #[.int .i64 0,.bool false]):=hix
        have hM2:M=hasM c kind id (k+1):=hS _ _ hm1 (by rw [h3,Zd h4,Zh,Zf,h5])
        have j:Nat:=0
        repeat' (first|refine aE (hab:=bz h3) ?_|refine aG (hab:=co h1) ?_|refine dN ?_|(refine ag (hc:=hix) ?_)|refine gs ?_|refine gs1 fun _=>?_|(refine aD (q:=k*20) ?_)|(refine aM (cs:=x.cells) (hF:=fun w h=>Acts.get h.1 hx) ?_)|(refine dz (κ:=Int) (hl:=by exact aQ) ?_)|fail)
        exact ⟨(⟨k+1,hlt,M,hM2⟩:HasI c kind id),(by show c.actsL.length-(k+1)<c.actsL.length-k;omega),ai al (Z2 _ (aj _)) fun _ h=>h⟩
       | some j =>
        rw [h5] at hix
        have hix:Pu prog 50 #[c.v,.string x.object] (fun w=>c.at_ w∧Xi w) (.tuple #[.int .i64 (j:Nat),.bool true]):=hix
        have hM2:mdel (M) (j:Int)=hasM c kind id (k+1):=hS _ _ hm1 (by rw [h3,Zd h4,Zh,Zf,h5])
        repeat' (first|refine aE (hab:=bz h3) ?_|refine aG (hab:=co h1) ?_|refine dN ?_|(refine ag (hc:=hix) ?_)|refine gs ?_|refine gs1 fun _=>?_|(refine aD (q:=k*20) ?_)|(refine aM (cs:=x.cells) (hF:=fun w h=>Acts.get h.1 hx) ?_)|(refine dz (κ:=Int) (hl:=by exact aQ) ?_)|(refine fQ (κ:=Int) (kk:=(j:Nat)) (hA:=by (repeat (first|exact At.here _|apply At.there))) ?_)|fail)
        exact ⟨(⟨k+1,hlt,mdel (M) (j:Int),hM2⟩:HasI c kind id),(by show c.actsL.length-(k+1)<c.actsL.length-k;omega),ai al (Z2 _ (aj _)) fun _ h=>h⟩
     · have hM2:M=hasM c kind id (k+1):=hS _ _ hm1 (by rw [h3,Zc h4,Zk];rfl)
       have j:Nat:=0
       repeat' (first|refine aE (hab:=bz h3) ?_|refine aG (hab:=co h1) ?_|refine eB ?_|refine gs ?_|refine gs1 fun _=>?_|(refine aD (q:=k*20) ?_)|(refine aM (cs:=x.cells) (hF:=fun w h=>Acts.get h.1 hx) ?_)|(refine dz (κ:=Int) (hl:=by exact aQ) ?_)|fail)
       exact ⟨(⟨k+1,hlt,M,hM2⟩:HasI c kind id),(by show c.actsL.length-(k+1)<c.actsL.length-k;omega),ai al (Z2 _ (aj _)) fun _ h=>h⟩
   · have hm1:(bif decide (x.kind=kind)&&seqB x.object id then mput M (k:Int) (.bool true) else M)=M:=by rw [h1,h2];rfl
     have hM2:M=hasM c kind id (k+1):=hS _ _ hm1 (by rw [h3,Zj];rfl)
     have j:Nat:=0
     repeat' (first|refine aG (hab:=co h1) ?_|refine aG (hab:=co h3) ?_|refine gs ?_|refine gs1 fun _=>?_|(refine aD (q:=k*20) ?_)|(refine aM (cs:=x.cells) (hF:=fun w h=>Acts.get h.1 hx) ?_)|fail)
     exact ⟨(⟨k+1,hlt,M,hM2⟩:HasI c kind id),(by show c.actsL.length-(k+1)<c.actsL.length-k;omega),ai al (Z2 _ (aj _)) fun _ h=>h⟩
   · have hm1:(bif decide (x.kind=kind)&&seqB x.object id then mput M (k:Int) (.bool true) else M)=M:=by rw [h1,h2];rfl
     by_cases h4:0<(M).length
     · cases h5:idxV c.actsL x.object with
       | none =>
        rw [h5] at hix
        have hix:Pu prog 50 #[c.v,.string x.object] (fun w=>c.at_ w∧Xi w) (.tuple #[.int .i64 0,.bool false]):=hix
        have hM2:M=hasM c kind id (k+1):=hS _ _ hm1 (by rw [h3,Zd h4,Zh,Zf,h5])
        have j:Nat:=0
        repeat' (first|refine aE (hab:=bz h3) ?_|refine aG (hab:=co h1) ?_|refine dN ?_|(refine ag (hc:=hix) ?_)|refine gs ?_|refine gs1 fun _=>?_|(refine aD (q:=k*20) ?_)|(refine aM (cs:=x.cells) (hF:=fun w h=>Acts.get h.1 hx) ?_)|(refine dz (κ:=Int) (hl:=by exact aQ) ?_)|fail)
        exact ⟨(⟨k+1,hlt,M,hM2⟩:HasI c kind id),(by show c.actsL.length-(k+1)<c.actsL.length-k;omega),ai al (Z2 _ (aj _)) fun _ h=>h⟩
       | some j =>
        rw [h5] at hix
        have hix:Pu prog 50 #[c.v,.string x.object] (fun w=>c.at_ w∧Xi w) (.tuple #[.int .i64 (j:Nat),.bool true]):=hix
        have hM2:mdel (M) (j:Int)=hasM c kind id (k+1):=hS _ _ hm1 (by rw [h3,Zd h4,Zh,Zf,h5])
        repeat' (first|refine aE (hab:=bz h3) ?_|refine aG (hab:=co h1) ?_|refine dN ?_|(refine ag (hc:=hix) ?_)|refine gs ?_|refine gs1 fun _=>?_|(refine aD (q:=k*20) ?_)|(refine aM (cs:=x.cells) (hF:=fun w h=>Acts.get h.1 hx) ?_)|(refine dz (κ:=Int) (hl:=by exact aQ) ?_)|(refine fQ (κ:=Int) (kk:=(j:Nat)) (hA:=by (repeat (first|exact At.here _|apply At.there))) ?_)|fail)
        exact ⟨(⟨k+1,hlt,mdel (M) (j:Int),hM2⟩:HasI c kind id),(by show c.actsL.length-(k+1)<c.actsL.length-k;omega),ai al (Z2 _ (aj _)) fun _ h=>h⟩
     · have hM2:M=hasM c kind id (k+1):=hS _ _ hm1 (by rw [h3,Zc h4,Zk];rfl)
       have j:Nat:=0
       repeat' (first|refine aE (hab:=bz h3) ?_|refine aG (hab:=co h1) ?_|refine eB ?_|refine gs ?_|refine gs1 fun _=>?_|(refine aD (q:=k*20) ?_)|(refine aM (cs:=x.cells) (hF:=fun w h=>Acts.get h.1 hx) ?_)|(refine dz (κ:=Int) (hl:=by exact aQ) ?_)|fail)
       exact ⟨(⟨k+1,hlt,M,hM2⟩:HasI c kind id),(by show c.actsL.length-(k+1)<c.actsL.length-k;omega),ai al (Z2 _ (aj _)) fun _ h=>h⟩
   · have hm1:(bif decide (x.kind=kind)&&seqB x.object id then mput M (k:Int) (.bool true) else M)=M:=by rw [h1,h2];rfl
     have hM2:M=hasM c kind id (k+1):=hS _ _ hm1 (by rw [h3,Zj];rfl)
     have j:Nat:=0
     repeat' (first|refine aE (hab:=bz h1) ?_|refine aG (hab:=co h3) ?_|refine da _ (hv:=h2) (h:=?_)|refine gs ?_|refine gs1 fun _=>?_|(refine aD (q:=k*20) ?_)|(refine aM (cs:=x.cells) (hF:=fun w h=>Acts.get h.1 hx) ?_)|fail)
     exact ⟨(⟨k+1,hlt,M,hM2⟩:HasI c kind id),(by show c.actsL.length-(k+1)<c.actsL.length-k;omega),ai al (Z2 _ (aj _)) fun _ h=>h⟩
   · have hm1:(bif decide (x.kind=kind)&&seqB x.object id then mput M (k:Int) (.bool true) else M)=M:=by rw [h1,h2];rfl
     by_cases h4:0<(M).length
     · cases h5:idxV c.actsL x.object with
       | none =>
        rw [h5] at hix
        have hix:Pu prog 50 #[c.v,.string x.object] (fun w=>c.at_ w∧Xi w) (.tuple #[.int .i64 0,.bool false]):=hix
        have hM2:M=hasM c kind id (k+1):=hS _ _ hm1 (by rw [h3,Zd h4,Zh,Zf,h5])
        have j:Nat:=0
        repeat' (first|refine aE (hab:=bz h1) ?_|refine aE (hab:=bz h3) ?_|refine da _ (hv:=h2) (h:=?_)|refine dN ?_|(refine ag (hc:=hix) ?_)|refine gs ?_|refine gs1 fun _=>?_|(refine aD (q:=k*20) ?_)|(refine aM (cs:=x.cells) (hF:=fun w h=>Acts.get h.1 hx) ?_)|(refine dz (κ:=Int) (hl:=by exact aQ) ?_)|fail)
        exact ⟨(⟨k+1,hlt,M,hM2⟩:HasI c kind id),(by show c.actsL.length-(k+1)<c.actsL.length-k;omega),ai al (Z2 _ (aj _)) fun _ h=>h⟩
       | some j =>
        rw [h5] at hix
        have hix:Pu prog 50 #[c.v,.string x.object] (fun w=>c.at_ w∧Xi w) (.tuple #[.int .i64 (j:Nat),.bool true]):=hix
        have hM2:mdel (M) (j:Int)=hasM c kind id (k+1):=hS _ _ hm1 (by rw [h3,Zd h4,Zh,Zf,h5])
        repeat' (first|refine aE (hab:=bz h1) ?_|refine aE (hab:=bz h3) ?_|refine da _ (hv:=h2) (h:=?_)|refine dN ?_|(refine ag (hc:=hix) ?_)|refine gs ?_|refine gs1 fun _=>?_|(refine aD (q:=k*20) ?_)|(refine aM (cs:=x.cells) (hF:=fun w h=>Acts.get h.1 hx) ?_)|(refine dz (κ:=Int) (hl:=by exact aQ) ?_)|(refine fQ (κ:=Int) (kk:=(j:Nat)) (hA:=by (repeat (first|exact At.here _|apply At.there))) ?_)|fail)
        exact ⟨(⟨k+1,hlt,mdel (M) (j:Int),hM2⟩:HasI c kind id),(by show c.actsL.length-(k+1)<c.actsL.length-k;omega),ai al (Z2 _ (aj _)) fun _ h=>h⟩
     · have hM2:M=hasM c kind id (k+1):=hS _ _ hm1 (by rw [h3,Zc h4,Zk];rfl)
       have j:Nat:=0
       repeat' (first|refine aE (hab:=bz h1) ?_|refine aE (hab:=bz h3) ?_|refine da _ (hv:=h2) (h:=?_)|refine eB ?_|refine gs ?_|refine gs1 fun _=>?_|(refine aD (q:=k*20) ?_)|(refine aM (cs:=x.cells) (hF:=fun w h=>Acts.get h.1 hx) ?_)|(refine dz (κ:=Int) (hl:=by exact aQ) ?_)|fail)
       exact ⟨(⟨k+1,hlt,M,hM2⟩:HasI c kind id),(by show c.actsL.length-(k+1)<c.actsL.length-k;omega),ai al (Z2 _ (aj _)) fun _ h=>h⟩
   · have hm1:(bif decide (x.kind=kind)&&seqB x.object id then mput M (k:Int) (.bool true) else M)=mput M (k:Int) (.bool true):=by rw [h1,h2];rfl
     have hMl2:=jq M (k:Int) (Value.bool true)
     have hM2:mput M (k:Int) (.bool true)=hasM c kind id (k+1):=hS _ _ hm1 (by rw [h3,Zj];rfl)
     have j:Nat:=0
     repeat' (first|refine aE (hab:=bz h1) ?_|refine aG (hab:=co h3) ?_|refine da _ (hv:=h2) (h:=?_)|refine gs ?_|refine gs1 fun _=>?_|(refine aD (q:=k*20) ?_)|(refine aM (cs:=x.cells) (hF:=fun w h=>Acts.get h.1 hx) ?_)|(refine dp (κ:=Int) (kk:=(k:Int)) (hA:=by (repeat (first|exact At.here _|apply At.there))) ?_)|fail)
     exact ⟨(⟨k+1,hlt,mput M (k:Int) (.bool true),hM2⟩:HasI c kind id),(by show c.actsL.length-(k+1)<c.actsL.length-k;omega),ai al (Z2 _ (aj _)) fun _ h=>h⟩
   · have hm1:(bif decide (x.kind=kind)&&seqB x.object id then mput M (k:Int) (.bool true) else M)=mput M (k:Int) (.bool true):=by rw [h1,h2];rfl
     have hMl2:=jq M (k:Int) (Value.bool true)
     by_cases h4:0<(mput M (k:Int) (.bool true)).length
     · cases h5:idxV c.actsL x.object with
       | none =>
        rw [h5] at hix
        have hix:Pu prog 50 #[c.v,.string x.object] (fun w=>c.at_ w∧Xi w) (.tuple #[.int .i64 0,.bool false]):=hix
        have hM2:mput M (k:Int) (.bool true)=hasM c kind id (k+1):=hS _ _ hm1 (by rw [h3,Zd h4,Zh,Zf,h5])
        have j:Nat:=0
        repeat' (first|refine aE (hab:=bz h1) ?_|refine aE (hab:=bz h3) ?_|refine da _ (hv:=h2) (h:=?_)|refine dN ?_|(refine ag (hc:=hix) ?_)|refine gs ?_|refine gs1 fun _=>?_|(refine aD (q:=k*20) ?_)|(refine aM (cs:=x.cells) (hF:=fun w h=>Acts.get h.1 hx) ?_)|(refine dp (κ:=Int) (kk:=(k:Int)) (hA:=by (repeat (first|exact At.here _|apply At.there))) ?_)|(refine dz (κ:=Int) (hl:=by exact aQ) ?_)|fail)
        exact ⟨(⟨k+1,hlt,mput M (k:Int) (.bool true),hM2⟩:HasI c kind id),(by show c.actsL.length-(k+1)<c.actsL.length-k;omega),ai al (Z2 _ (aj _)) fun _ h=>h⟩
       | some j =>
        rw [h5] at hix
        have hix:Pu prog 50 #[c.v,.string x.object] (fun w=>c.at_ w∧Xi w) (.tuple #[.int .i64 (j:Nat),.bool true]):=hix
        have hM2:mdel (mput M (k:Int) (.bool true)) (j:Int)=hasM c kind id (k+1):=hS _ _ hm1 (by rw [h3,Zd h4,Zh,Zf,h5])
        repeat' (first|refine aE (hab:=bz h1) ?_|refine aE (hab:=bz h3) ?_|refine da _ (hv:=h2) (h:=?_)|refine dN ?_|(refine ag (hc:=hix) ?_)|refine gs ?_|refine gs1 fun _=>?_|(refine aD (q:=k*20) ?_)|(refine aM (cs:=x.cells) (hF:=fun w h=>Acts.get h.1 hx) ?_)|(refine dp (κ:=Int) (kk:=(k:Int)) (hA:=by (repeat (first|exact At.here _|apply At.there))) ?_)|(refine dz (κ:=Int) (hl:=by exact aQ) ?_)|(refine fQ (κ:=Int) (kk:=(j:Nat)) (hA:=by (repeat (first|exact At.here _|apply At.there))) ?_)|fail)
        exact ⟨(⟨k+1,hlt,mdel (mput M (k:Int) (.bool true)) (j:Int),hM2⟩:HasI c kind id),(by show c.actsL.length-(k+1)<c.actsL.length-k;omega),ai al (Z2 _ (aj _)) fun _ h=>h⟩
     · have hM2:mput M (k:Int) (.bool true)=hasM c kind id (k+1):=hS _ _ hm1 (by rw [h3,Zc h4,Zk];rfl)
       have j:Nat:=0
       repeat' (first|refine aE (hab:=bz h1) ?_|refine aE (hab:=bz h3) ?_|refine da _ (hv:=h2) (h:=?_)|refine eB ?_|refine gs ?_|refine gs1 fun _=>?_|(refine aD (q:=k*20) ?_)|(refine aM (cs:=x.cells) (hF:=fun w h=>Acts.get h.1 hx) ?_)|(refine dp (κ:=Int) (kk:=(k:Int)) (hA:=by (repeat (first|exact At.here _|apply At.there))) ?_)|(refine dz (κ:=Int) (hl:=by exact aQ) ?_)|fail)
       exact ⟨(⟨k+1,hlt,mput M (k:Int) (.bool true),hM2⟩:HasI c kind id),(by show c.actsL.length-(k+1)<c.actsL.length-k;omega),ai al (Z2 _ (aj _)) fun _ h=>h⟩
 · have hkE:k=c.actsL.length:=by omega
   by_cases h4:0<M.length
   · repeat' (first|refine dN ?_|refine gs ?_|(refine dz (κ:=Int) (hl:=by exact aQ) ?_)|fail)
     exact ab (ae rfl rfl) (by rw [hasV,←hkE,←hM,Zd h4])
   · repeat' (first|refine eB ?_|refine gs ?_|(refine dz (κ:=Int) (hl:=by exact aQ) ?_)|fail)
     exact ab (ae rfl rfl) (by rw [hasV,←hkE,←hM,Zc h4])
end Go.Proofs.YtaolfiikahlmkaaGreatDoor
namespace Go.Proofs.YtaolfiikahlmkaaGreatDoor
open Go Go.Proofs Sy Go.Shelf Go.Maps Go.Sort Tryz
theorem keysMS_c:KeysC prog 102 179 116 where
 keys:=fun mb W=>(callsIn_wide (n:=5)).1 (AnyZ.keys_in Tryz.keys_map_string_bool_string_bool Fence.wide 5 trivial rfl mb W)
theorem sortedMS_c:SortedSC prog 51 179 9 where
 key:=underlying9
 sorted:=fun w Bm q nn D0 hB hc hown h1 h2=>(callsIn_wide (n:=5)).1 (AnyZ.sorted_in Tryz.sortedS Fence.wide 5 trivial trivial trivial trivial rfl aa (sortsS _) (enters_of func48 ac rfl) _ _ trivial (enters_of func179 ac rfl) _ _ h1 h2 _
  (AnyZ.keys_gives (ρ:=Tryz.keys_map_string_bool_string_bool_ren) { Tryz.keys_map_string_bool_string_bool with } Fence.wide _ trivial rfl aa Bm q nn D0 w hB hc hown))
instance:Eg prog 116 4 (keyD ByteArray):=⟨ac⟩
def cntB (l:List Xb) (p:Xd) (kind:Int) (ks:List ByteArray) (c:Xb):Bool:=bif hasS ks c.id then false else bif hasV c kind p.id then admV l c.id p.author else false
def actF (l:List Xb) (p:Xd) (kind:Int):Nat→List ByteArray
 | 0=>[]
 | i+1=>bif cntB l p kind (actF l p kind i) (l.getD i Xb.zero) then sput (actF l p kind i) (l.getD i Xb.zero).id else actF l p kind i
def actorsV (l:List Xb) (p:Xd) (kind:Int):List ByteArray:=sortB (actF l p kind l.length)
structure ActI (l:List Xb) (p:Xd) (kind:Int) where
 k:Nat
 hk:k≤l.length
 M:List ByteArray
 hM:M=actF l p kind k
theorem vc {k:ByteArray}:∀ ks:List ByteArray,(sput ks k).length≤ks.length+1
 | []=>ZX 1
 | a::ks=>by
  have ih:=vc (k:=k) ks
  rw [sput]
  cases Xk.eqb k a with
  | true=>exact Nat.le_succ _
  | false=>rw [Ze,ZB,ZB];omega
theorem nz (l:List Xb) (p:Xd) (kind:Int):∀ i,(actF l p kind i).length≤i
 | 0=>ZX 0
 | i+1=>by
  have ih:=nz l p kind i
  rw [actF]
  cases cntB l p kind (actF l p kind i) (l.getD i Xb.zero) with
  | true=>exact ZY (vc _) (Nat.succ_le_succ ih)
  | false=>exact Nat.le_succ_of_le ih
theorem ny (l:List Xb) (p:Xd) (kind:Int):∀ i,i≤l.length→∀ x∈actF l p kind i,∃ c∈l,c.id=x∧hasV c kind p.id=true∧admV l x p.author=true
 | 0,_,x,h=>(Qk h).elim
 | i+1,hi,x,h=>by
  have ih:=ny l p kind i aa
  rw [actF] at h
  cases hb:cntB l p kind (actF l p kind i) (l.getD i Xb.zero) with
  | false=>rw [hb] at h;exact ih x h
  | true =>
   rw [hb] at h
   rcases mem_sput.1 h with rfl|h
   · rw [cntB] at hb
     cases h1:hasS (actF l p kind i) (l.getD i Xb.zero).id with
     | true=>rw [h1] at hb;cases hb
     | false =>
      rw [h1,Ze] at hb
      cases h2:hasV (l.getD i Xb.zero) kind p.id with
      | false=>rw [h2] at hb;cases hb
      | true =>
       rw [h2,Zf] at hb
       refine ⟨l.getD i Xb.zero,?_,rfl,h2,hb⟩
       rw [Zo,Zb (by omega)]
       exact ZQ _
   · exact ih x h
theorem nw (l:List Xb) (p:Xd) (kind:Int):∀ i,(actF l p kind i).Nodup
 | 0=>List.nodup_nil
 | i+1=>by
  have ih:=nw l p kind i
  rw [actF]
  cases cntB l p kind (actF l p kind i) (l.getD i Xb.zero) with
  | true=>exact mM ih
  | false=>exact ih
theorem fj (s:Xl) (l:List Xb) (p:Xd) (kind:Int) (hok:∀ c∈l,Xx c.actsL) (hlen:∀ c∈l,c.actsL.length≤1000000) (hids:∀ c∈l,c.id.size≤maxLen) (hll:l.length≤1000000) :
  Mk prog 57 #[s.v,p.v,.int .i64 kind] (fun w=>Chains w s l∧Xi w) fun u X'=>∃ so:Xl,u=so.v∧so.n=(actorsV l p kind).length∧∀ w,X' w→Strs w so (actorsV l p kind):=by
 refine dE func57 ntmps57 fun av bor w0=>?_
 refine aR (p:=s.n=l.length∧s.n≤maxLen∧(0<l.length→s.p.isSome=true)) (fun w h=>⟨h.1.len_,h.1.max_,h.1.some_⟩) fun ⟨hl,hm,hp⟩=>?_
 simp only [maxLen] at hm
 repeat' (first|refine gs ?_|refine gs1 fun _=>?_|fail)
 refine d7 ByteArray (h:=fun q=>?_)
 repeat' (first|refine gs ?_|fail)
 rename_i b
 refine ao (ι:=ActI l p kind) (fun i=>⟨[(0,s.v),(2,.int .i64 kind),(4,.pointer (some ⟨b,0,none⟩)),(7,.map (some q)),(11,s.v),(12,.int .i64 (s.n:Nat)),(13,.int .i64 (i.k:Nat))],[mapr q (setM i.M),cel b 68 p.cells],fun w=>Chains w s l∧Xi w⟩) (fun i=>l.length-i.k) ⟨0,Z4 _,[],rfl⟩ (ai al (aj _) fun _ h=>h) fun i=>?_
 obtain ⟨k,hk,M,hM⟩:=i
 simp only
 repeat' (first|refine gs ?_|(refine gp ?_ ?_<;>intro hx_ this)|fail)
 · have hlt:k<l.length:=by omega
   have hp':=hp aa
   obtain ⟨c,hc⟩:∃ c,l[k]?=some c:=⟨_,Zb hlt⟩
   have hcm:=Z6 hc
   have hcD:l.getD k Xb.zero=c:=by rw [Zo,hc];rfl
   have hha:=CI c (hok c hcm) (hlen c hcm) kind p.id
   have had:=kQ s l c.id p hok
   have hlk:=j4 M c.id
   have hS:actF l p kind (k+1)=bif cntB l p kind M c then sput M c.id else M:=by rw [actF,hcD,←hM]
   rw [cntB] at hS
   have hmp:=mP M c.id
   cases h1:hasS M c.id with
   | true =>
    rw [h1] at hS hlk
    repeat' (first|refine gs ?_|refine gs1 fun _=>?_|(refine aD (q:=k*6) ?_)|(refine aM (cs:=c.cells) (hF:=fun w h=>Chains.get h.1 hc) ?_)|(refine ft (κ:=ByteArray) (kk:=c.id) (hl:=cU aQ) (ho:=hlk) (h:=?_))|fail)
    exact ⟨(⟨k+1,hlt,M,hS.symm⟩:ActI l p kind),(by show l.length-(k+1)<l.length-k;omega),ai al (Z2 _ (aj _)) fun _ h=>h⟩
   | false =>
    rw [h1,Ze] at hS
    rw [h1] at hlk
    cases h2:hasV c kind p.id with
    | false =>
     rw [h2] at hS hha
     repeat' (first|(refine ag (hc:=hha) (hX:=fun w h=>⟨h.1.2 c hcm,h.2⟩) ?_)|refine gs ?_|refine gs1 fun _=>?_|(refine aD (q:=k*6) ?_)|(refine aM (cs:=c.cells) (hF:=fun w h=>Chains.get h.1 hc) ?_)|(refine ft (κ:=ByteArray) (kk:=c.id) (hl:=cU aQ) (ho:=hlk) (h:=?_))|fail)
     exact ⟨(⟨k+1,hlt,M,hS.symm⟩:ActI l p kind),(by show l.length-(k+1)<l.length-k;omega),ai al (Z2 _ (aj _)) fun _ h=>h⟩
    | true =>
     rw [h2,Zf] at hS
     rw [h2] at hha
     cases h3:admV l c.id p.author with
     | false =>
      rw [h3] at hS had
      repeat' (first|(refine ag (hc:=hha) (hX:=fun w h=>⟨h.1.2 c hcm,h.2⟩) ?_)|(refine ag (hc:=had) ?_)|refine gs ?_|refine gs1 fun _=>?_|(refine aD (q:=k*6) ?_)|(refine aM (cs:=c.cells) (hF:=fun w h=>Chains.get h.1 hc) ?_)|(refine ft (κ:=ByteArray) (kk:=c.id) (hl:=cU aQ) (ho:=hlk) (h:=?_))|fail)
      exact ⟨(⟨k+1,hlt,M,hS.symm⟩:ActI l p kind),(by show l.length-(k+1)<l.length-k;omega),ai al (Z2 _ (aj _)) fun _ h=>h⟩
     | true =>
      rw [h3] at hS had
      repeat' (first|(refine ag (hc:=hha) (hX:=fun w h=>⟨h.1.2 c hcm,h.2⟩) ?_)|(refine ag (hc:=had) ?_)|refine gs ?_|refine gs1 fun _=>?_|(refine aD (q:=k*6) ?_)|(refine aM (cs:=c.cells) (hF:=fun w h=>Chains.get h.1 hc) ?_)|(refine ft (κ:=ByteArray) (kk:=c.id) (hl:=cU aQ) (ho:=hlk) (h:=?_))|(refine dp (κ:=ByteArray) (kk:=c.id) (l:=setM M) (hA:=At.there _ (At.here _)) ?_;rw [hmp])|fail)
      exact ⟨(⟨k+1,hlt,sput M c.id,hS.symm⟩:ActI l p kind),(by show l.length-(k+1)<l.length-k;omega),ai al (Z2 _ (aj _)) fun _ h=>h⟩
 · have hkE:k=l.length:=by omega
   have hsl:(setM M).length=M.length:=by simp [setM]
   have hsm:(setM M).map (·.1)=M:=by simp [setM,Function.comp_def]
   have hMl:M.length≤1000000:=by have:=nz l p kind k;rw [hM];omega
   have hMi:∀ x∈M,x.size≤maxLen:=fun x hx=>by
    rw [hM] at hx
    obtain ⟨c,hcm,rfl,_⟩:=ny l p kind k hk x hx
    exact hids c hcm
   repeat' (first|refine gs ?_|fail)
   refine bN (pre:=[]) (fr:=[mapr q (setM M),cel b 68 p.cells]) (hc:=keysMS_c.ct (some q)) (hX:=fun _ _=>trivial) (h:=?_)
   rintro v R X' ⟨b2,rfl,rfl⟩
   refine bN (pre:=[cel b2 116 [.map (some q)],mapr q (setM M)]) (fr:=[cel b 68 p.cells]) (hc:=(sortedMS_c.ct (M:=116) b2 q (setM M) (fun x hx=>by simp only [setM,QJ] at hx;obtain ⟨k,hk,rfl⟩:=hx;exact hMi k hk) (by rw [hsl];exact hMl))) (hX:=fun _ _=>trivial) (h:=?_)
   rintro v R X2 ⟨A,cp,rfl,rfl⟩
   rw [hsl,hsm]
   repeat' (first|refine gs ?_|fail)
   have e:actorsV l p kind=sortB M:=by rw [actorsV,hM,hkE]
   exact ab (ae rfl rfl) ⟨⟨A,M.length,cp⟩,rfl,by rw [e];simp [sortB],fun w h=>by
    rw [e]
    exact tq (l:=M) (h.2 _ am) rfl⟩
end Go.Proofs.YtaolfiikahlmkaaGreatDoor
namespace Go.Proofs.YtaolfiikahlmkaaGreatDoor.Sy
open Go Go.RowKit
section
variable {P:Program} {N:Nat} {av bor:List Nat} {w0:World}
variable {loc0:List Xm} {X0:World→Prop} {ops:Array Oper} {fuel:Nat} {listed:Array Bool} {E:Env} {loc:List Xm} {X:World→Prop} {k:St→Prop} {K:Exit→St→Prop}
variable {n:Nat} {o:Op} {ty:TypeId} {pos:String} {af:Array Edge} {g:Option (Nat×Bool)} {v:Value} {bb want:Bool}
theorem dm (i:Nat) (h:Aw P N av bor w0 loc0 X0 ops fuel (listed.setIfInBounds i true) ⟨(n,v)::E,loc,X⟩ k) (hi:ops[i]?=some ⟨some n,o,ty,pos,af,g⟩:=by rfl) (hs:Region.noSelect ops=true:=by kernel_rfl) (hf:Region.free .any ops listed i=true:=by kernel_rfl) (hr:(Region.ready .any ops listed).contains i=true:=by kernel_rfl) (hsub:∀ w,Xr av bor w0 loc X w→Xr av bor w0 loc0 X0 w:=by exact eS) (hy:Sy.Yields P N av bor w0 ⟨E,loc0,X0⟩ o ty v:=by (first|(apply pg;rfl)|(apply iN;rfl)|(apply fm;rfl)|(apply uF;rfl;(first|exact ZU _|(simp only [Nat.reduceAdd];rfl)))|(apply nA;rfl;(repeat (first|exact am|apply Zv));rfl)|(apply la;rfl;(repeat (first|exact am|apply Zv));rfl)|(apply iL;rfl;(first|with_reducible rfl|with_reducible assumption|with_reducible exact Zl|with_reducible exact Zn);rfl)|(apply iM;rfl;(first|with_reducible rfl|with_reducible assumption|with_reducible exact Zl|with_reducible exact Zn);rfl)|(apply uD;rfl)|(apply kp;rfl;rfl)|(apply qy;rfl;rfl)|(apply qA;rfl;rfl)|(apply qB;rfl;rfl)|(apply ko;rfl;rfl)|(apply qC;rfl;rfl)|(apply jI;rfl;rfl)|(apply lq;rfl;rfl)|(apply pf;rfl)|(apply uE;rfl)|(apply g6;rfl;rfl)|(apply lw;rfl;rfl;(first|exact IntWalk.i64_in _ (by omega)|rfl))|(apply lp;rfl;rfl;(first|exact IntWalk.i64_in _ (by omega)|rfl))|(apply nW;rfl;rfl)|(apply Ca;rfl;rfl)|(apply qv;rfl;rfl)|(apply lu;rfl;rfl)|(apply pd;rfl)|(apply uC;rfl;rfl;(first|decide|exact cE _ _ rfl _ _|exact dK _ rfl _|omega))|(apply qw;rfl;rfl;(first|decide|exact cE _ _ rfl _ _|exact dK _ rfl _|omega))|(apply nV;rfl;rfl)|(apply fq;rfl;rfl;decide;decide;rfl))) (hg:gdB ops E g=some (bb,want):=by rfl) (hb:bb=want:=by exact ar) (hd:Nat.blt n N=true:=by rfl):Aw P N av bor w0 loc0 X0 ops (fuel+1) listed ⟨E,loc,X⟩ k:=bp i h hi hs hf hr hsub hy hg hb hd
theorem eE {A:Prop} (h:A) (hsub:∀ w,Xr av bor w0 loc X w→Xr av bor w0 loc0 X0 w:=by exact eS):(∀ w,Xr av bor w0 loc X w→Xr av bor w0 loc0 X0 w)∧A:=dT h hsub
end
end Go.Proofs.YtaolfiikahlmkaaGreatDoor.Sy
namespace Go.Proofs.YtaolfiikahlmkaaGreatDoor
open Go Go.Proofs Sy Tryz
section
variable {P:Program} {N:Nat} {av bor:List Nat} {w0:World} {ops:Array Oper} {rest:List Oper} {kk:St→Prop} {E:Env} {loc:List Xm} {X:World→Prop} {x y:Operand} {t t2:TypeId}
variable {n:Nat} {ty:TypeId} {pos:String} {af:Array Edge} {g:Option (Nat×Bool)} {bb want:Bool}
theorem qN {k:IntKind} {a b:Int} (h:Sw P N av bor w0 ops rest ⟨(n,.bool true)::E,loc,X⟩ kk) (hx:ev E x=some (.int k a):=by rfl) (hy:ev E y=some (.int k b):=by rfl) (hab:¬ a=b:=by first|omega|decide) (hg:gdB ops E g=some (bb,want):=by rfl) (hbb:bb=want:=by exact ar) (hd:Nat.blt n N=true:=by rfl) :
  Sw P N av bor w0 ops (⟨some n,.binOp .neq t x y t2,ty,pos,af,g⟩::rest) ⟨E,loc,X⟩ kk:=py (hx:=hx) (hy:=hy) (hg:=hg) (hbb:=hbb) (hd:=hd) (h:=by
   have e:∀ u,u=Value.bool true→Sw P N av bor w0 ops rest ⟨(n,u)::E,loc,X⟩ kk:=fun u hu=>hu▸h
   exact e _ (by simp [hab]))
end
instance:Xv prog 64 3:=⟨ac⟩
theorem B3 (l:List Xb) (p:Xd) (kind:Int) (ks:List ByteArray) (c:Xb):cntB l p.can kind ks c=cntB l p kind ks c:=rfl
theorem sQ (l:List Xb) (p:Xd) (kind:Int):∀ i,actF l p.can kind i=actF l p kind i
 | 0=>rfl
 | i+1=>by rw [actF,actF,sQ l p kind i,B3]
theorem fD (l:List Xb) (p:Xd) (kind:Int):actorsV l p.can kind=actorsV l p kind:=by rw [actorsV,actorsV,sQ]
theorem kR (l:List Xb) (p:Xd) (kind:Int):(actorsV l p kind).length≤l.length:=by
 have h:=nz l p kind l.length
 rw [actorsV]
 simpa [sortB] using h
def liveV (l:List Xb) (id:ByteArray):Option Xd:=match findPV l id with
 | some p=>bif p.gone then none else some p
 | none=>none
theorem oI {l:List Xb} {id:ByteArray} (h:(!(findPV l id).isSome)=true):liveV l id=none:=by
 rw [liveV]
 cases hf:findPV l id with
 | none=>rfl
 | some p=>rw [hf] at h;cases h
theorem oJ {l:List Xb} {id:ByteArray} {p:Xd} (hp:p.can=(findPV l id).getD Xd.zero) (h:(!(findPV l id).isSome)=false) (hg:p.gone=true):liveV l id=none:=by
 rw [liveV]
 cases hf:findPV l id with
 | none=>rfl
 | some q =>
  rw [hf] at hp
  obtain rfl:p.can=q:=hp
  show (bif p.gone then none else some p.can)=none
  rw [hg,Zf]
theorem oH {l:List Xb} {id:ByteArray} {p:Xd} (hp:p.can=(findPV l id).getD Xd.zero) (h:(!(findPV l id).isSome)=false) (hg:p.gone=false):liveV l id=some p.can:=by
 rw [liveV]
 cases hf:findPV l id with
 | none=>rw [hf] at h;cases h
 | some q =>
  rw [hf] at hp
  obtain rfl:p.can=q:=hp
  show (bif p.gone then none else some p.can)=some p.can
  rw [hg,Ze]
def whoV (l:List Xb) (id:ByteArray) (kind:Int):List ByteArray:=bif decide (kind=5)||decide (kind=4) then (match liveV l id with
 | some p=>actorsV l p kind
 | none=>[]) else []
theorem lD (s:Xl) (l:List Xb) (id:ByteArray) (kind:Int) (hok:∀ c∈l,Xx c.actsL) (hlen:∀ c∈l,c.actsL.length≤1000000) (hids:∀ c∈l,c.id.size≤maxLen) (hll:l.length≤1000000) :
  Mk prog 23 #[s.v,.string id,.int .i64 kind] (fun w=>Chains w s l∧Xi w) fun u X'=>∃ so:Xl,u=so.v∧so.n=(whoV l id kind).length∧∀ w,X' w→Strs w so (whoV l id kind):=by
 refine dE func23 ntmps23 fun av bor w0=>?_
 have hnil:∀ w,Strs w ⟨none,0,0⟩ []:=fun w=>cj w 1
 by_cases hk:kind=5∨kind=4
 · have hkb:(decide (kind=5)||decide (kind=4))=true:=by rcases hk with h|h<;>simp [h]
   rw [whoV,hkb,Zf]
   rcases hk with rfl|rfl
   all_goals
    repeat' (first|refine eX ?_|refine qN ?_|apply aH|apply QS|apply QT|refine aZ ?_|refine aO ?_|refine bC ?_|refine bQ ?_|refine be ?_|refine aY ?_|refine aU ?_|refine gi ?_|refine d5 ?_|refine bj ?_|refine fO ?_|refine bc fun _=>?_|refine aP ?_|refine QW ?_|refine QX ?_|apply QV|apply bY|(refine cd (hc:=m8 s l id hok hlen) fun v1 X1 h1=>?_;obtain ⟨p,rfl,hp⟩:=h1)|(refine cd (hc:=fj s l p _ hok hlen hids hll) fun v2 X2 h2=>?_;obtain ⟨so,rfl,hn,hw⟩:=h2)|((fail_if_success (refine cf ?_));refine bu (ht:=?_) (hf:=?_);all_goals (intro hx_;skip))|(refine dD (ht:=?_) (hf:=?_);all_goals (intro hx_;skip)))
   all_goals first
    | (rw [oI (by assumption)];exact ab (ae rfl rfl) ⟨⟨none,0,0⟩,rfl,rfl,fun w _=>hnil w⟩)
    | (rw [oJ (by assumption) (by assumption) (by assumption)];exact ab (ae rfl rfl) ⟨⟨none,0,0⟩,rfl,rfl,fun w _=>hnil w⟩)
    | (rw [oH (by assumption) (by assumption) (by assumption)];exact ab (ae rfl rfl) ⟨so,rfl,by rw [hn,←fD],fun w h=>by simp only [fD];exact hw w h.1.2⟩)
 · have hkb:(decide (kind=5)||decide (kind=4))=false:=by simp only [not_or] at hk;simp [hk]
   rw [whoV,hkb,Ze]
   repeat' (first|refine qN ?_|apply aH|apply QS|apply QT|refine aZ ?_|refine aO ?_|refine aY ?_|refine QW ?_|apply bY|fail)
   exact ab (ae rfl rfl) ⟨⟨none,0,0⟩,rfl,rfl,fun w _=>hnil w⟩
def repB (l:List Xb) (id au:ByteArray) (q:Xd):Bool:=decide (q.kind=2)&&seqB q.object id&&!q.gone&&admV l q.author au
structure Ej where
 likes:Nat
 boosts:Nat
 replies:Nat
def Ej.cells (t:Ej):List Value:=[.int .i64 (t.likes:Nat),.int .i64 (t.boosts:Nat),.int .i64 (t.replies:Nat)]
def Ej.v (t:Ej):Value:=.agg t.cells.toArray
def tallyV (l:List Xb) (id:ByteArray):Ej:=match liveV l id with
 | some p=>⟨(actorsV l p 5).length,(actorsV l p 4).length,(l.flatMap postsV).countP (repB l id p.author)⟩
 | none=>⟨0,0,0⟩
structure TalI (Q:List Xd) (B:Xd→Bool) where
 k:Nat
 hk:k≤Q.length
 n:Nat
 hn:n=(Q.take k).countP B
theorem gG (s:Xl) (l:List Xb) (id:ByteArray) (hok:∀ c∈l,Xx c.actsL) (hlen:∀ c∈l,c.actsL.length≤1000) (hids:∀ c∈l,c.id.size≤maxLen) (hll:l.length≤1000) :
  Pu prog 22 #[s.v,.string id] (fun w=>Chains w s l∧Xi w) (tallyV l id).v:=by
 refine aw func22 ntmps22 fun av bor w0=>?_
 have hlen2:∀ c∈l,c.actsL.length≤1000000:=fun c hc=>ZY (hlen c hc) (by decide)
 have hll2:l.length≤1000000:=by omega
 repeat' (first|apply aH|apply QS|apply QT|refine aZ ?_|refine aO ?_|refine bC ?_|refine bQ ?_|refine aY ?_|refine aU ?_|refine gi ?_|refine d5 ?_|refine fO ?_|refine bc fun _=>?_|refine aP ?_|refine QW ?_|apply QV|apply bY|(refine cd (hc:=m8 s l id hok hlen2) fun v1 X1 h1=>?_;obtain ⟨p,rfl,hp⟩:=h1)|(refine aK ?_)|((fail_if_success (refine cf ?_));refine bu (ht:=?_) (hf:=?_);all_goals (intro hx_;skip))|(refine dD (ht:=?_) (hf:=?_);all_goals (intro hx_;skip)))
 · rw [tallyV,oI (by assumption)]
   exact ab (cM rfl rfl aQ (by rfl)) rfl
 · rw [tallyV,oJ hp (by assumption) (by assumption)]
   exact ab (cM rfl rfl aQ (by rfl)) rfl
 rename_i b4 b5 hx1
 have hV:tallyV l id=⟨(actorsV l p 5).length,(actorsV l p 4).length,(l.flatMap postsV).countP (repB l id p.author)⟩:=by
  rw [tallyV,oH hp hx1 (by assumption)]
  show Ej.mk (actorsV l p.can 5).length (actorsV l p.can 4).length _=_
  rw [fD,fD]
  rfl
 rw [hV]
 have h5:=kR l p 5
 have h4:=kR l p 4
 generalize hL:(actorsV l p 5).length=L at *
 generalize hB:(actorsV l p 4).length=Bn at *
 refine ll (ι:=Nat) (fun b7=>⟨[(0,s.v),(1,.string id),(4,.pointer (some ⟨b4,0,none⟩)),(5,.pointer (some ⟨b5,0,none⟩)),(7,.pointer (some ⟨b7,0,none⟩))],[cel b7 64 (Ej.cells ⟨L,Bn,0⟩),cel b5 68 p.cells,cel b4 64 (Ej.cells ⟨0,0,0⟩)],fun w=>Chains w s l∧Xi w⟩) ?_ fun b7=>?_
 · (refine jC [cel b5 68 p.cells,cel b4 64 (Ej.cells ⟨0,0,0⟩)] (fun w=>(Chains w s l∧Xi w)∧X1 w) ac ?_)
   all_goals refine dm 0 ?_<;>refine dm 1 ?_<;>refine dm 4 ?_<;>refine dm 5 ?_<;>(refine qp 2 9 (h:=?_) (h':=?_);(focus (((refine cd (hc:=fj s l p 5 hok hlen2 hids hll2) (hX:=fun w h=>by exact h.1) fun v2 X2 h2=>?_;obtain ⟨so2,rfl,hn2,hw2⟩:=h2);apply aH;refine eE ?_);all_goals ((refine dm 3 ?_);all_goals (refine qp 6 9 (h:=?_) (h':=?_);(focus (((refine cd (hc:=fj s l p 4 hok hlen2 hids hll2) (hX:=fun w h=>by exact h.1.1) fun v3 X3 h3=>?_;obtain ⟨so3,rfl,hn3,hw3⟩:=h3);apply aH;refine eE ?_);all_goals ((refine dm 7 ?_);all_goals (refine dm 8 (hy:=by (apply dv;rfl;rfl)) ?_);all_goals (refine cQ 9 ?_;(refine bc fun _=>?_);apply aH;refine eE ?_);all_goals (refine cQ 10 ?_;(refine aP ?_);apply aH;refine eE ?_);all_goals (refine fC (h:=?_)))));rotate_right;(focus (((refine bc fun _=>?_);apply aH;refine eE ?_);all_goals ((refine cQ 6 ?_;(refine cd (hc:=fj s l p 4 hok hlen2 hids hll2) (hX:=fun w h=>by exact h.1.1) fun v3 X3 h3=>?_;obtain ⟨so3,rfl,hn3,hw3⟩:=h3);apply aH;refine eE ?_);all_goals (refine dm 7 ?_);all_goals (refine dm 8 (hy:=by (apply dv;rfl;rfl)) ?_);all_goals (refine cQ 10 ?_;(refine aP ?_);apply aH;refine eE ?_);all_goals (refine fC (h:=?_)))))))));rotate_right;(focus (((refine bc fun _=>?_);apply aH;refine eE ?_);all_goals ((refine cQ 2 ?_;(refine cd (hc:=fj s l p 5 hok hlen2 hids hll2) (hX:=fun w h=>by exact h.1) fun v2 X2 h2=>?_;obtain ⟨so2,rfl,hn2,hw2⟩:=h2);apply aH;refine eE ?_);all_goals (refine dm 3 ?_);all_goals (refine cQ 6 ?_;(refine cd (hc:=fj s l p 4 hok hlen2 hids hll2) (hX:=fun w h=>by exact h.1.1) fun v3 X3 h3=>?_;obtain ⟨so3,rfl,hn3,hw3⟩:=h3);apply aH;refine eE ?_);all_goals (refine dm 7 ?_);all_goals (refine dm 8 (hy:=by (apply dv;rfl;rfl)) ?_);all_goals (refine cQ 10 ?_;(refine aP ?_);apply aH;refine eE ?_);all_goals (refine fC (h:=?_))))))
   all_goals exact ⟨_,fun a w ok=>ai (by exact ⟨rfl,rfl,rfl,rfl,rfl,trivial⟩) (by (rw [←hL,←hB,←hn2,←hn3];exact aj _)) (fun w h=>by exact h.1.1.1) _ _ ok⟩
 repeat' (first|apply aH|apply QS|apply QT|refine aZ ?_|refine iy ?_|apply QU|(refine cd (hc:=Ev s l hok hlen hll) fun v4 X4 h4=>?_;obtain ⟨s1,Q,rfl,hQ,hQl,hw⟩:=h4))
 refine aR (p:=s1.n=Q.length∧s1.n≤maxLen∧(0<Q.length→s1.p.isSome=true)) (fun w h=>⟨by simpa using Xf.len (hw w h.2),ZY (Xf.cap (hw w h.2)) (Xf.max (hw w h.2)),fun h0=>(Xf.row (hw w h.2) 0 Q[0].cells (by simp [Zb h0])).2.1⟩) fun ⟨hl1,hm1,hp1⟩=>?_
 simp only [maxLen] at hm1
 refine ao (ι:=TalI Q (repB l id p.author)) (fun i=>⟨[(0,s.v),(1,.string id),(4,.pointer (some ⟨b4,0,none⟩)),(5,.pointer (some ⟨b5,0,none⟩)),(7,.pointer (some ⟨b7,0,none⟩)),(33,s1.v),(34,.int .i64 (s1.n:Nat)),(35,.int .i64 (i.k:Nat))],[cel b7 64 [.int .i64 (L:Nat),.int .i64 (Bn:Nat),.int .i64 (i.n:Nat)],cel b5 68 p.cells,cel b4 64 (Ej.cells ⟨0,0,0⟩)],fun w=>(Chains w s l∧Xi w)∧X4 w⟩) (fun i=>Q.length-i.k) ⟨0,Z4 _,0,rfl⟩ (ai al (aj _) fun _ h=>h) fun i=>?_
 obtain ⟨k,hk,n,hn⟩:=i
 simp only
 have hnm:n≤1000000:=by have:=List.countP_le_length (p:=repB l id p.author) (l:=Q.take k);rw [←hn,Qi] at this;omega
 repeat' (first|apply aH|apply QS|apply QT|refine be ?_|refine eG ?_|refine aP ?_|apply QV|apply QU|apply bY|apply il|(refine dD (ht:=?_) (hf:=?_);all_goals (intro hx_;first|have:=bz hx_|have:=co hx_)))
 · have hlt:k<Q.length:=by omega
   have hp':=hp1 aa
   obtain ⟨q,hq⟩:∃ q,Q[k]?=some q:=⟨_,Zb hlt⟩
   have htk:(Q.take (k+1)).countP (repB l id p.author)=n+(bif repB l id p.author q then 1 else 0):=by
    rw [Qg,hq,List.countP_append,←hn,Qu,List.countP_cons,List.countP_nil]
    cases repB l id p.author q<;>rfl
   have had:=kQ s l q.author p hok
   have hno:repB l id p.author q=false→(Q.take (k+1)).countP (repB l id p.author)=n:=fun h=>by rw [htk,h];rfl
   by_cases h2:q.kind=2
   · cases ho:seqB q.object id with
     | false =>
      repeat' (first|refine aE ?_|refine da _ (hv:=ho) (h:=?_)|apply aH|apply QS|apply QT|refine aZ ?_|refine bC ?_|refine bQ ?_|refine aY ?_|refine aU ?_|refine d6 (h:=?_)|refine bj ?_|refine bc fun _=>?_|refine aP ?_|refine QX ?_|apply QV|(refine aD (q:=k*11) ?_)|(refine aM (cs:=q.cells) (hF:=fun w h=>Xf.row (hw w h.2) k q.cells (by simp [hq])) ?_)|fail)
      exact ⟨(⟨k+1,hlt,n,(hno (by rw [repB,ho];simp)).symm⟩:TalI Q _),(by show Q.length-(k+1)<Q.length-k;omega),ai al (Z2 _ (aj _)) fun _ h=>h⟩
     | true =>
      cases ha:admV l q.author p.author with
      | false =>
       rw [ha] at had
       repeat' (first|refine aE ?_|refine da _ (hv:=ho) (h:=?_)|apply aH|apply QS|apply QT|refine aZ ?_|refine bC ?_|refine bQ ?_|refine be ?_|refine aY ?_|refine aU ?_|refine gi ?_|refine d6 (h:=?_)|refine bj ?_|refine bc fun _=>?_|refine aP ?_|refine QX ?_|apply QV|(refine aD (q:=k*11) ?_)|(refine aM (cs:=q.cells) (hF:=fun w h=>Xf.row (hw w h.2) k q.cells (by simp [hq])) ?_)|(refine ag (hc:=had) ?_)|((fail_if_success (refine cf ?_));refine bu (ht:=?_) (hf:=?_);all_goals (intro hx_;skip))|fail)
       all_goals exact ⟨(⟨k+1,hlt,n,(hno (by rw [repB,ha];simp)).symm⟩:TalI Q _),(by show Q.length-(k+1)<Q.length-k;omega),ai al (Z2 _ (aj _)) fun _ h=>h⟩
      | true =>
       rw [ha] at had
       repeat' (first|refine aE ?_|refine da _ (hv:=ho) (h:=?_)|apply aH|apply QS|apply QT|refine aZ ?_|refine bC ?_|refine bQ ?_|refine be ?_|refine aY ?_|refine aU ?_|refine gi ?_|refine d6 (h:=?_)|refine bj ?_|refine bc fun _=>?_|refine bX ?_|refine aP ?_|refine QW ?_|refine QX ?_|apply QV|(refine aD (q:=k*11) ?_)|(refine aM (cs:=q.cells) (hF:=fun w h=>Xf.row (hw w h.2) k q.cells (by simp [hq])) ?_)|(refine ag (hc:=had) ?_)|((fail_if_success (refine cf ?_));refine bu (ht:=?_) (hf:=?_);all_goals (intro hx_;skip))|fail)
       all_goals first
        | exact ⟨(⟨k+1,hlt,n,(hno (by rw [repB,(show q.gone=true from by simpa using hx_)];simp)).symm⟩:TalI Q _),(by show Q.length-(k+1)<Q.length-k;omega),ai al (Z2 _ (aj _)) fun _ h=>h⟩
        | exact ⟨(⟨k+1,hlt,n+1,by rw [htk,repB,ho,ha,Zd h2,(show q.gone=false from by simpa using hx_)];rfl⟩:TalI Q _),(by show Q.length-(k+1)<Q.length-k;omega),ai al (Z2 _ (aj _)) fun _ h=>h⟩
   · repeat' (first|refine aG ?_|apply aH|apply QS|apply QT|refine aZ ?_|refine bC ?_|refine bQ ?_|refine aU ?_|refine d6 (h:=?_)|refine bj ?_|refine bc fun _=>?_|refine aP ?_|refine QX ?_|apply QV|(refine aD (q:=k*11) ?_)|(refine aM (cs:=q.cells) (hF:=fun w h=>Xf.row (hw w h.2) k q.cells (by simp [hq])) ?_)|fail)
     exact ⟨(⟨k+1,hlt,n,(hno (by rw [repB,Zc h2];rfl)).symm⟩:TalI Q _),(by show Q.length-(k+1)<Q.length-k;omega),ai al (Z2 _ (aj _)) fun _ h=>h⟩
 · have hkE:k=Q.length:=by omega
   have hfin:(l.flatMap postsV).countP (repB l id p.author)=n:=by
    rw [←hQ.countP_eq,List.countP_map,hn,hkE,Qh]
    rfl
   rw [hfin]
   exact ab (cM rfl rfl aQ (by rfl)) rfl
end Go.Proofs.YtaolfiikahlmkaaGreatDoor
namespace Go.Proofs.YtaolfiikahlmkaaGreatDoor
open Go Go.Proofs Sy Tryz
def posL (P:List Xd):List Nat:=P.map Xd.pos
theorem mJ (c:Xb):∀ i,(posL (openF c i)).Pairwise (·<·)∧∀ x∈posL (openF c i),x<i
 | 0=>⟨List.Pairwise.nil,fun x h=>(Qk h).elim⟩
 | i+1=>by
  obtain ⟨h1,h2⟩:=mJ c i
  rw [openF]
  cases postK (c.actsL.getD i Xa.zero).kind with
  | false =>
   rw [Ze,ZJ]
   exact ⟨h1,fun x hx=>Nat.lt_succ_of_lt (h2 x hx)⟩
  | true =>
   rw [Zf,posL,ZW]
   refine ⟨List.pairwise_append.2 ⟨h1,List.pairwise_singleton _ _,fun x hx y hy=>?_⟩,fun x hx=>?_⟩
   · rw [Z1,List.map_nil,Z5] at hy
     subst hy
     exact h2 x hx
   · rcases Qy.1 hx with hx|hx
     · exact Nat.lt_succ_of_lt (h2 x hx)
     · rw [Z1,List.map_nil,Z5] at hx
       subst hx
       exact Nat.lt_succ_self _
theorem vp {P:List Xd} {n:Nat} {p:Xd} (h:P[n]?=some p):(posL P)[n]?=some p.pos:=by rw [posL,Z7,h];rfl
theorem Ac {P:List Xd} {n:Nat} {p:Xd} (h:n<P.length→p.pos=(P.getD n Xd.zero).pos):posL (P.set n p)=posL P:=by
 rw [posL,posL,List.map_set]
 by_cases hn:n<P.length
 · rw [h hn]
   refine List.ext_getElem? fun i=>?_
   rw [List.getElem?_set]
   by_cases e:n=i
   · subst e
     rw [ZO rfl,ZF,ZO hn,Z7,Zo,Zb hn]
     rfl
   · rw [ZP e]
 · rw [List.set_eq_of_length_le (by rw [ZF];omega)]
theorem oC {P:List Xd} {o:Option Nat} {f:Xd→Xd} (hf:∀ p,(f p).pos=p.pos):posL (modP P o f)=posL P:=by
 cases o with
 | none=>rfl
 | some n=>exact Ac fun _=>hf _
theorem jn (c:Xb):∀ i,posL (ofP c i)=posL (openF c c.actsL.length)
 | 0=>rfl
 | i+1=>by
  rw [ofP,stepP]
  cases decide ((c.actsL.getD i Xa.zero).kind=13)
  · cases decide ((c.actsL.getD i Xa.zero).kind=14)
    · exact jn c i
    · exact (oC fun p=>oU _ _ p).trans (jn c i)
  · exact (oC (f:=goneP) fun p=>rfl).trans (jn c i)
theorem tP (c:Xb):(posL (postsV c)).Pairwise (·<·)∧∀ x∈posL (postsV c),x<c.actsL.length:=by
 rw [postsV,jn]
 exact mJ c _
theorem Ar {P:List Xd} (h:(posL P).Pairwise (·<·)) {i j:Nat} {p q:Xd} (hi:P[i]?=some p) (hj:P[j]?=some q) (e:p.pos=q.pos):i=j:=by
 have hi':=(QL.1 (vp hi))
 have hj':=(QL.1 (vp hj))
 obtain ⟨a1,a2⟩:=hi'
 obtain ⟨b1,b2⟩:=hj'
 rw [List.pairwise_iff_getElem] at h
 rcases Nat.lt_trichotomy i j with hl|hl|hl
 · have:=h i j a1 b1 hl
   rw [a2,b2] at this
   omega
 · exact hl
 · have:=h j i b1 a1 hl
   rw [a2,b2] at this
   omega
theorem oo (s r:Xl) (l m:List ByteArray):Pu prog 17 #[s.v,r.v] (fun w=>Strs w s l∧Strs w r m) (.bool (eqL l m)):=by
 refine aw func17 ntmps17 fun av bor w0=>?_
 refine aR (p:=(s.n=l.length∧s.n≤maxLen∧(0<l.length→s.p.isSome=true))∧(r.n=m.length∧r.n≤maxLen∧(0<m.length→r.p.isSome=true))) (fun w h=>⟨⟨h.1.len_,ZY (Xf.cap h.1) (Xf.max h.1),h.1.some_⟩,⟨h.2.len_,ZY (Xf.cap h.2) (Xf.max h.2),h.2.some_⟩⟩) fun ⟨⟨hl,hm,hp⟩,⟨hl',hm',hp'⟩⟩=>?_
 simp only [maxLen] at hm hm'
 repeat' (first|refine gs ?_|(refine gp ?_ ?_<;>intro hx_ this)|fail)
 · apply ab;apply ae;rfl;rfl
   have:¬ l.length=m.length:=by
    have h1:¬ (s.n:Int)=(r.n:Int):=by simpa using hx_
    omega
   simp only [eqL,Zc this,Zj]
 have hlm:l.length=m.length:=by
  have h1:(s.n:Int)=(r.n:Int):=by simpa using hx_
  omega
 refine ao (ι:=X6 l.length (eqBad l m)) (fun i=>⟨[(0,s.v),(1,r.v),(5,.int .i64 i.k)],[],fun w=>Strs w s l∧Strs w r m⟩) (fun i=>l.length-i.k) (X6.zero _ _) (ai (by repeat (first|exact trivial|refine ⟨rfl,?_⟩)) (aj _) fun _ h=>h) fun i=>?_
 have hik:=i.hk
 repeat' (first|refine gs ?_|(refine gp ?_ ?_<;>intro hx_ this)|fail)
 · have hlt:i.k<l.length:=by omega
   have hlt':i.k<m.length:=by omega
   have hp1:=hp aa
   have hp2:=hp' aa
   (refine aW ⟨[0,1,2,3,4,5,6,7,8],[]⟩ (h:=?_))
   all_goals repeat' (first|refine gd ?_|refine ax (hy:=by first|(apply ay (q:=i.k);rfl;rfl;omega;omega;assumption;omega)|(apply dl;rfl;exact fun w h=>Strs.get h.1 hlt)|(apply dl;rfl;exact fun w h=>Strs.get h.2 hlt')) ?_|fail)
   repeat' (first|refine gs ?_|(refine gp ?_ ?_<;>intro hx_ this)|fail)
   · apply ab;apply ae;rfl;rfl
     rw [eqL,cw hlt (by assumption),Zk]
   · exact ⟨i.next hlt (by assumption),(by show l.length-(i.k+1)<l.length-i.k;omega),ai (by repeat (first|exact trivial|refine ⟨rfl,?_⟩)) (aj _) fun _ h=>h⟩
 · apply ab;apply ae;rfl;rfl
   rw [eqL,i.all aa,Zd hlm]
   rfl
def fewBad (l:List Xb) (k:Nat):Bool:=!shortV (l.getD k Xb.zero)
def fewV (l:List Xb):Bool:=decide (l.length≤6)&&allB l.length (fewBad l)
theorem Bu (s:Xl) (l:List Xb):Pu prog 21 #[s.v] (fun w=>Chains w s l) (.bool (fewV l)):=by
  refine aw func21 ntmps21 fun av bor w0=>?_
  refine aR (p:=s.n=l.length∧s.n≤maxLen∧(0<l.length→s.p.isSome=true)) (fun w h=>⟨h.len_,h.max_,h.some_⟩) fun ⟨hl,hm,hp⟩=>?_
  simp only [maxLen] at hm
  repeat' (first|refine gs ?_|(refine gp ?_ ?_<;>intro hx_ this)|fail)
  · apply ab;apply ae;rfl;rfl
    rw [fewV,Zc aa,Zj]
  refine ao (ι:=X6 l.length (fewBad l)) (fun i=>⟨[(0,s.v),(3,.int .i64 i.k)],[],fun w=>Chains w s l⟩) (fun i=>l.length-i.k) (X6.zero _ _) (ai al (aj _) fun _ h=>h) fun i=>?_
  have hik:=i.hk
  repeat' (first|refine gs ?_|(refine gp ?_ ?_<;>intro hx_ this)|fail)
  · have hlt:i.k<l.length:=by omega
    have hp':=hp aa
    obtain ⟨c,hc⟩:∃ c,l[i.k]?=some c:=⟨_,Zb hlt⟩
    have hcm:=Z6 hc
    have hfb:fewBad l i.k=!shortV c:=by simp only [fewBad,Zo,hc,Qe]
    refine ld (p:=c.acts.n=c.actsL.length∧c.acts.n≤maxLen∧(0<c.actsL.length→c.acts.p.isSome=true)) (fun w h=>⟨(h.2 c hcm).len_,(h.2 c hcm).max_,(h.2 c hcm).some_⟩) fun ⟨hl2,hm2,hp2⟩=>?_
    simp only [maxLen] at hm2
    repeat' (first|refine gs ?_|(refine aD (q:=i.k*6) ?_)|(refine dX ?_)|(refine de (q:=i.k*6+1) (u:=c.acts.v) (hF:=fun w h=>(Chains.get h hc).2.2 1 _ rfl) ?_)|(refine gp ?_ ?_<;>intro hx_ this)|fail)
    · apply ab;apply ae;rfl;rfl
      rw [fewV,cw hlt (by rw [hfb,shortV,Zc (by omega)];rfl),Zk]
    refine ao (ι:=X6 c.actsL.length (shortBad c.actsL)) (fun j=>⟨[(0,s.v),(3,.int .i64 i.k),(4,.int .i64 j.k)],[],fun w=>Chains w s l⟩) (fun j=>c.actsL.length-j.k) (X6.zero _ _) (ai al (aj _) fun _ h=>h) fun j=>?_
    have hjk:=j.hk
    repeat' (first|refine gs ?_|(refine aD (q:=i.k*6) ?_)|(refine dX ?_)|(refine de (q:=i.k*6+1) (u:=c.acts.v) (hF:=fun w h=>(Chains.get h hc).2.2 1 _ rfl) ?_)|(refine gp ?_ ?_<;>intro hx_ this)|fail)
    · have hjl:j.k<c.actsL.length:=by omega
      have hp3:=hp2 aa
      obtain ⟨x,hx⟩:∃ x,c.actsL[j.k]?=some x:=⟨_,Zb hjl⟩
      have hB:shortBad c.actsL j.k=(decide (8<x.to.n)||decide (8<x.wraps.n)||decide (600<x.text.size)||decide (600<x.body.data.size)):=by simp only [shortBad,Zo,hx,Qe]
      repeat' (first|refine gs ?_|refine gs1 fun _=>?_|(refine aD (q:=j.k*20) ?_)|(refine aM (cs:=x.cells) (hF:=fun w h=>Acts.get (h.2 c hcm) hx) ?_)|(refine gp ?_ ?_<;>intro hx_ this)|fail)
      all_goals first
        | (apply ab;apply ae;rfl;rfl
           have hb:shortBad c.actsL j.k=true:=by
             rw [hB];simp only [Bool.or_eq_true,Zw];simp only [Zw,Qd] at *;omega
           rw [fewV,cw hlt (by rw [hfb,shortV,cw hjl hb,Zk];rfl),Zk])
        | (have hb:shortBad c.actsL j.k=false:=by
             rw [hB];simp only [Ql,Qd];simp only [Zw,Qd] at *;omega
           exact ⟨j.next hjl hb,(by show c.actsL.length-(j.k+1)<c.actsL.length-j.k;omega),ai al (Z2 _ (aj _)) fun _ h=>h⟩)
    · have hsv:shortV c=true:=by rw [shortV,j.all aa,Zd (by omega)];rfl
      exact ⟨i.next hlt (by rw [hfb,hsv];rfl),(by show l.length-(i.k+1)<l.length-i.k;omega),ai al (aj _) fun _ h=>h⟩
  · apply ab;apply ae;rfl;rfl
    rw [fewV,i.all aa,Zd (by omega)]
    rfl
theorem gK (w:World) {cs:Array Value} {off:Nat} {v:Value} (h:cs[off]?=some v):(part 3 cs off).run prog w=.ok v w:=by
 simp [part,isAgg,run_underlying underlying3,h]
theorem xW (w:World) (d:Nat) (a b:Int):(Op.equalIn (d+1) 3 (.int .i64 a) (.int .i64 b)).run prog w=.ok (decide (a=b)) w:=by
 rw [run_equalIn_int w d _ .i64 .i64 a b underlying3]
 rfl
theorem q7 (w:World) (d:Nat) (a:Ej):(Op.equalIn (d+2) 64 a.v a.v).run prog w=.ok true w:=by
 have p0:∀ x:Ej,(part 3 x.cells.toArray 0).run prog w=.ok (.int .i64 (x.likes:Int)) w:=fun x=>gK w rfl
 have p1:∀ x:Ej,(part 3 x.cells.toArray 1).run prog w=.ok (.int .i64 (x.boosts:Int)) w:=fun x=>gK w rfl
 have p2:∀ x:Ej,(part 3 x.cells.toArray 2).run prog w=.ok (.int .i64 (x.replies:Int)) w:=fun x=>gK w rfl
 unfold Ej.v
 rw [run_equalIn_agg _ _ _ _ _ ac ac]
 simp only [Program.fieldsOf,underlying64]
 simp [Op.eqFields,p0,p1,p2,xW]
section
variable {N:Nat} {av bor:List Nat} {w0:World} {x y:Operand} {t2:TypeId} {ty:TypeId} {st:St}
theorem yv (a:Ej) (hx:ev st.env x=some a.v) (hy:ev st.env y=some a.v):Sy.Yields prog N av bor w0 st (.binOp .eql 64 x y t2) ty (.bool true):=Sy.Yields.mk fun A w ok d pos af g=>by
 have h1:=run_eqGuard_agg (P:=prog) w .eql 64 x y a.cells.toArray a.cells.toArray ac
 have h2:=run_eql_struct (P:=prog) w 64 a.cells.toArray a.cells.toArray
 have h3:=q7 w 9998 a
 simp only [Ej.v] at hx hy h3
 simp [execOp,ok.eval hx,ok.eval hy,h1,h2,h3]
end
def sx28:ByteArray:=⟨#[120]⟩
def smP28:ByteArray:=⟨#[48,49,50,51,52,53,54,55,56,57,48,49,50,51,52,53,54,55,56,57,48,49,50,51,52,53,54,55,56,57,48,49]⟩
def smA28:Xa:={ Xa.zero with author:=idA,kind:=0,text:=sx28,n:=1 }
def smB28:Xa:={ Xa.zero with author:=idA,seq:=1,prev:=smP28,kind:=1,text:=sx28 }
def smL28:List Xa:=[smA28,smB28]
def smC28 (b:Nat):Xb:=⟨idA,⟨some ⟨b,0,none⟩,2,2⟩,⟨none,0,0⟩,⟨#[]⟩,0,false,smL28⟩
def smK28 (id:ByteArray):Xa:={ Xa.zero with kind:=5,object:=id }
def smO28:Xa:={ Xa.zero with kind:=4,object:=sx28 }
def smM28 (id:ByteArray):List Xa:=[smK28 id,smK28 id,smO28]
def smD28 (id:ByteArray) (b:Nat):Xb:=⟨idB,⟨some ⟨b,0,none⟩,3,3⟩,⟨none,0,0⟩,⟨#[]⟩,0,false,smM28 id⟩
def smI28:ByteArray:=digV smB28
theorem ya (a:Xa):(digV a).size=0∨(digV a).size=32:=by
 rw [digV]
 cases seqB (bytesV a) ⟨#[]⟩ with
 | true=>rw [Zf];exact .inl rfl
 | false=>rw [Ze];exact .inr (jQ _)
theorem vd:seqB smI28 sx28=false:=by
 cases h:seqB smI28 sx28 with
 | false=>rfl
 | true =>
  have h1:=seqB_iff.1 h
  have h2:=ya smB28
  rw [show digV smB28=smI28 from rfl,h1] at h2
  rcases h2 with h2|h2<;>cases h2
theorem Fg:seqB sx28 smI28=false:=by
 cases h:seqB sx28 smI28 with
 | false=>rfl
 | true=>rw [←vd,seqB_iff.1 h];exact (cG _).symm
theorem smPostC (b:Nat):postsV (smC28 b)=[newP idA 1 smB28]:=by kernel_rfl
theorem smPostD (id:ByteArray) (b:Nat):postsV (smD28 id b)=[]:=by kernel_rfl
theorem smHasC5 (id:ByteArray) (b:Nat):hasV (smC28 b) 5 id=false:=by kernel_rfl
theorem smHasC4 (id:ByteArray) (b:Nat):hasV (smC28 b) 4 id=false:=by kernel_rfl
theorem smHasD5 (id:ByteArray) (b:Nat):hasV (smD28 id b) 5 id=true:=by
 have e:seqB id id=true:=cG id
 have h1:hasM (smD28 id b) 5 id 1=bif seqB id id then [(0,.bool true)] else []:=by kernel_rfl
 rw [e] at h1
 have h2:hasM (smD28 id b) 5 id 2=bif seqB id id then mput (hasM (smD28 id b) 5 id 1) 1 (.bool true) else hasM (smD28 id b) 5 id 1:=by kernel_rfl
 rw [e,h1] at h2
 have h3:hasM (smD28 id b) 5 id 3=hasM (smD28 id b) 5 id 2:=by kernel_rfl
 show decide (0<(hasM (smD28 id b) 5 id 3).length)=true
 rw [h3,h2]
 kernel_rfl
theorem smHasD4 {id:ByteArray} (h:seqB sx28 id=false) (b:Nat):hasV (smD28 id b) 4 id=false:=by
 have h1:hasM (smD28 id b) 4 id 3=bif seqB sx28 id then [(2,.bool true)] else []:=by kernel_rfl
 rw [h] at h1
 show decide (0<(hasM (smD28 id b) 4 id 3).length)=false
 rw [h1]
 rfl
theorem smBlock (id:ByteArray) (b b2:Nat):admV [smC28 b,smD28 id b2] idB idA=true:=by kernel_rfl
theorem smLive (b b2:Nat):liveV [smC28 b,smD28 smI28 b2] smI28=some (newP idA 1 smB28):=by
 have h:findPV [smC28 b,smD28 smI28 b2] smI28=some (newP idA 1 smB28):=by
  rw [findPV,List.flatMap_cons,List.flatMap_cons,smPostC,smPostD]
  show List.find? _ (newP idA 1 smB28::_)=_
  rw [List.find?_cons_of_pos (by show seqB (digV smB28) smI28=true;exact cG _)]
 rw [liveV,h]
 rfl
theorem smDead (b b2:Nat):liveV [smC28 b,smD28 smI28 b2] sx28=none:=by
 have h:findPV [smC28 b,smD28 smI28 b2] sx28=none:=by
  rw [findPV,List.flatMap_cons,List.flatMap_cons,smPostC,smPostD]
  show List.find? _ [newP idA 1 smB28]=_
  rw [List.find?_cons_of_neg (by show ¬ seqB smI28 sx28=true;rw [vd];decide)]
  rfl
 rw [liveV,h]
theorem smAct5 (b b2:Nat):actorsV [smC28 b,smD28 smI28 b2] (newP idA 1 smB28) 5=[idB]:=by
 have h:actF [smC28 b,smD28 smI28 b2] (newP idA 1 smB28) 5 2=[idB]:=by
  have h1:actF [smC28 b,smD28 smI28 b2] (newP idA 1 smB28) 5 1=[]:=by
   have h0:actF [smC28 b,smD28 smI28 b2] (newP idA 1 smB28) 5 1=bif (bif hasV (smC28 b) 5 smI28 then admV [smC28 b,smD28 smI28 b2] idA idA else false) then [idA] else []:=by kernel_rfl
   rw [h0,smHasC5];rfl
  have h2:actF [smC28 b,smD28 smI28 b2] (newP idA 1 smB28) 5 2=bif cntB [smC28 b,smD28 smI28 b2] (newP idA 1 smB28) 5 (actF [smC28 b,smD28 smI28 b2] (newP idA 1 smB28) 5 1) (smD28 smI28 b2) then sput (actF [smC28 b,smD28 smI28 b2] (newP idA 1 smB28) 5 1) idB else actF [smC28 b,smD28 smI28 b2] (newP idA 1 smB28) 5 1:=by kernel_rfl
  rw [h2,h1]
  have h3:cntB [smC28 b,smD28 smI28 b2] (newP idA 1 smB28) 5 [] (smD28 smI28 b2)=true:=by
   have h4:cntB [smC28 b,smD28 smI28 b2] (newP idA 1 smB28) 5 [] (smD28 smI28 b2)=bif hasV (smD28 smI28 b2) 5 smI28 then admV [smC28 b,smD28 smI28 b2] idB idA else false:=by kernel_rfl
   rw [h4,smHasD5,smBlock];rfl
  rw [h3]
  rfl
 show sortB (actF _ _ _ 2)=_
 rw [h]
 exact (o9 (List.nodup_cons.2 ⟨Qk,List.nodup_nil⟩)).ext (List.pairwise_singleton _ _) fun x=>mem_sortB
theorem smAct4 (b b2:Nat):actorsV [smC28 b,smD28 smI28 b2] (newP idA 1 smB28) 4=[]:=by
 have h1:actF [smC28 b,smD28 smI28 b2] (newP idA 1 smB28) 4 1=[]:=by
  have h0:actF [smC28 b,smD28 smI28 b2] (newP idA 1 smB28) 4 1=bif (bif hasV (smC28 b) 4 smI28 then admV [smC28 b,smD28 smI28 b2] idA idA else false) then [idA] else []:=by kernel_rfl
  rw [h0,smHasC4];rfl
 have h2:actF [smC28 b,smD28 smI28 b2] (newP idA 1 smB28) 4 2=bif cntB [smC28 b,smD28 smI28 b2] (newP idA 1 smB28) 4 (actF [smC28 b,smD28 smI28 b2] (newP idA 1 smB28) 4 1) (smD28 smI28 b2) then sput (actF [smC28 b,smD28 smI28 b2] (newP idA 1 smB28) 4 1) idB else actF [smC28 b,smD28 smI28 b2] (newP idA 1 smB28) 4 1:=by kernel_rfl
 have h3:cntB [smC28 b,smD28 smI28 b2] (newP idA 1 smB28) 4 [] (smD28 smI28 b2)=false:=by
  have h4:cntB [smC28 b,smD28 smI28 b2] (newP idA 1 smB28) 4 [] (smD28 smI28 b2)=bif hasV (smD28 smI28 b2) 4 smI28 then admV [smC28 b,smD28 smI28 b2] idB idA else false:=by kernel_rfl
  rw [h4,smHasD4 Fg];rfl
 show sortB (actF _ _ _ 2)=_
 rw [h2,h1,h3,Ze]
 simp [sortB]
theorem smTally (b b2:Nat):tallyV [smC28 b,smD28 smI28 b2] smI28=⟨1,0,0⟩:=by
 rw [tallyV,smLive]
 show Ej.mk (actorsV _ _ 5).length (actorsV _ _ 4).length _=_
 rw [smAct5,smAct4,List.flatMap_cons,List.flatMap_cons,smPostC,smPostD]
 rfl
theorem smTallyX (b b2:Nat):tallyV [smC28 b,smD28 smI28 b2] sx28=⟨0,0,0⟩:=by rw [tallyV,smDead]
theorem smTally0 (id:ByteArray):tallyV [] id=⟨0,0,0⟩:=rfl
theorem smWho5 (b b2:Nat):whoV [smC28 b,smD28 smI28 b2] smI28 5=[idB]:=by
 rw [whoV,smLive]
 exact smAct5 b b2
theorem smWho7 (l:List Xb) (id:ByteArray):whoV l id 7=[]:=rfl
theorem smWho0 (id:ByteArray):whoV [] id 5=[]:=rfl
theorem smChainsNil (w:World):Chains w ⟨none,0,0⟩ []:=⟨cj w 6,fun c h=>by cases h⟩
theorem qt {a:Xa} (h:a.wrapsL=[]) (h2:a.toL=[]) (h3:a.to=⟨none,0,0⟩) (h4:a.wraps=⟨none,0,0⟩) (w:World):a.at_ w:=⟨by rw [h3,h2];exact cj w 1,by rw [h4,h];exact cj w 5⟩
theorem zY {w:World}:∀ a∈smL28,a.at_ w:=by
 intro a ha
 simp only [smL28,ZI,Qk,or_false] at ha
 rcases ha with rfl|rfl<;>exact qt rfl rfl rfl rfl w
theorem zX {id:ByteArray} {w:World}:∀ a∈smM28 id,a.at_ w:=by
 intro a ha
 simp only [smM28,ZI,Qk,or_false] at ha
 rcases ha with rfl|rfl|rfl<;>exact qt rfl rfl rfl rfl w
theorem smL28_ok:Xx smL28:=by
 refine ⟨fun a ha=>?_,fun a ha=>?_⟩<;>simp only [smL28,ZI,Qk,or_false] at ha
 · rcases ha with rfl|rfl<;>exact ⟨by decide,fun w hw=>absurd hw (by show ¬ w∈[];simp),rfl,rfl⟩
 · rcases ha with rfl|rfl<;>exact ⟨by decide,by decide,by decide⟩
theorem zW (id:ByteArray):Xx (smM28 id):=by
 have z:Xa.Rng { Xa.zero with kind:=5 }:=⟨by decide,fun w hw=>absurd hw (by show ¬ w∈[];simp),rfl,rfl⟩
 have zs:Xa.Sm { Xa.zero with kind:=5 }:=⟨by decide,by decide,by decide⟩
 refine ⟨fun a ha=>?_,fun a ha=>?_⟩<;>simp only [smM28,ZI,Qk,or_false] at ha
 · rcases ha with rfl|rfl|rfl
   · exact ⟨z.1,z.2,rfl,rfl⟩
   · exact ⟨z.1,z.2,rfl,rfl⟩
   · exact ⟨by decide,fun w hw=>absurd hw (by show ¬ w∈[];simp),rfl,rfl⟩
 · rcases ha with rfl|rfl|rfl
   · exact ⟨zs.1,zs.2,zs.3⟩
   · exact ⟨zs.1,zs.2,zs.3⟩
   · exact ⟨by decide,by decide,by decide⟩
theorem smChains {I:ByteArray} {b b2 b3:Nat} {w:World} (h1:(cel b 46 (smL28.map Xa.cells).flatten).F w) (h2:(cel b2 46 ((smM28 I).map Xa.cells).flatten).F w) (h3:(cel b3 35 ((smC28 b).cells++(smD28 I b2).cells)).F w):Chains w ⟨some ⟨b3,0,none⟩,2,2⟩ [smC28 b,smD28 I b2] :=
 ⟨aV (xs:=[(smC28 b).cells,(smD28 I b2).cells]) h3 rfl (by decide) (by intro r hr;simp only [ZI,Qk,or_false] at hr;rcases hr with rfl|rfl<;>rfl),fun c h=>by
  simp only [ZI,Qk,or_false] at h
  rcases h with rfl|rfl
  · exact ⟨aV h1 rfl (by decide) (ew smL28),zY⟩
  · exact ⟨aV h2 rfl (by decide) (ew (smM28 I)),zX⟩⟩
theorem tu:Pu prog 20 #[] Xi (.bool true):=by
 refine aw func20 ntmps20 fun av bor w0=>?_
 obtain ⟨I,hdI,hT,hTX,hW5⟩:∃ I,digV smB28=I∧(∀ b b2,tallyV [smC28 b,smD28 I b2] I=⟨1,0,0⟩)∧(∀ b b2,tallyV [smC28 b,smD28 I b2] sx28=⟨0,0,0⟩)∧∀ b b2,whoV [smC28 b,smD28 I b2] I 5=[idB]:=⟨smI28,rfl,smTally,smTallyX,smWho5⟩
 have hof:=jo smB28 (smL28_ok.rng smB28 (by simp [smL28])) (smL28_ok.sm smB28 (by simp [smL28]))
 repeat' (first|refine aK (cs:=smA28.cells) (hf:=by rfl) ?_|refine aK (cs:=smB28.cells) (hf:=by rfl) ?_|refine aK (cs:=(smK28 I).cells) (hf:=by rfl) ?_|refine aK (cs:=smO28.cells) (hf:=by rfl) ?_|(refine cA (size:=20) (vs:=[.agg smA28.cells.toArray,.agg smB28.cells.toArray]) (css:=(smL28.map Xa.cells).flatten) (hsz:=by rfl) (hcs:=by rfl) fun bR=>?_;refine bI ?_)|refine aK (cs:=(smC28 bR).cells) (hf:=by rfl) ?_|(refine cA (size:=20) (vs:=[.agg (smK28 I).cells.toArray,.agg (smK28 I).cells.toArray,.agg smO28.cells.toArray]) (css:=((smM28 I).map Xa.cells).flatten) (hsz:=by rfl) (hcs:=by rfl) fun bM=>?_;refine bI ?_)|refine aK (cs:=(smD28 I bM).cells) (hf:=by rfl) ?_|(refine cA (size:=6) (vs:=[(smC28 bR).v,(smD28 I bM).v]) (css:=(smC28 bR).cells++(smD28 I bM).cells) (hsz:=by rfl) (hcs:=by rfl) fun bE=>?_;refine bI ?_)|(refine cd (hc:=hof) (hX:=fun w h=>qt rfl rfl rfl rfl w) fun v1 X1 h1=>?_;obtain ⟨a1,rfl,hd1,hra1,hw1⟩:=h1)|(refine ag (hc:=(show Pu prog 18 #[itemV 0 a1] (fun w=>Xa.at_ w a1∧Xi w) (.string I) from (hd1.trans hdI)▸ik a1 hra1)) (hX:=fun w h=>⟨hw1 w h.2,h.1.1⟩) ?_)|refine gs ?_|refine gs1 fun _=>?_|(refine aD (q:=20) (p:=some ⟨bR,0,none⟩) (m:=2) (c:=2) (i:=1) (h1:=by decide) (hp:=rfl) (hq:=rfl) ?_)|(refine aM (cs:=smB28.cells) (hF:=fun w h=>Xf.row (aV h.2 rfl (by decide) (ew smL28)) 1 smB28.cells rfl) ?_)|fail)
 rename_i b1 b3
 refine oV (st':=⟨[(2,.string I),(3,.pointer (some ⟨b3,0,none⟩)),(4,.slice (some ⟨bE,0,none⟩) 2 2)],[cel b3 35 (smD28 I bM).cells],fun w=>Xi w∧Chains w ⟨some ⟨bE,0,none⟩,2,2⟩ [smC28 bR,smD28 I bM]⟩) ?_ ?_
 · exact ai al (Z3 _ (Z2 _ (aj _))) fun w h=>⟨h.1.1.1.1,smChains h.1.1.1.2 h.1.2 h.2⟩
 have ho:∀ c∈[smC28 bR,smD28 I bM],Xx c.actsL:=fun c hc=>by
  simp only [ZI,Qk,or_false] at hc
  rcases hc with rfl|rfl
  · exact smL28_ok
  · exact zW I
 have hl:∀ c∈[smC28 bR,smD28 I bM],c.actsL.length≤1000∧c.id.size≤maxLen:=fun c hc=>by
  simp only [ZI,Qk,or_false] at hc
  rcases hc with rfl|rfl
  · exact ⟨(by decide:(2:Nat)≤1000),(by decide:idA.size≤maxLen)⟩
  · exact ⟨(by decide:(3:Nat)≤1000),(by decide:idB.size≤maxLen)⟩
 have hno:∀ c∈([]:List Xb),False:=fun c hc=>by cases hc
 have t0:=gG ⟨none,0,0⟩ [] I (fun c h=>(hno c h).elim) (fun c h=>(hno c h).elim) (fun c h=>(hno c h).elim) (by decide)
 rw [smTally0] at t0
 have t1:=gG ⟨some ⟨bE,0,none⟩,2,2⟩ _ I ho (fun c h=>(hl c h).1) (fun c h=>(hl c h).2) (by decide:(2:Nat)≤1000)
 rw [hT] at t1
 have t2:=gG ⟨some ⟨bE,0,none⟩,2,2⟩ _ sx28 ho (fun c h=>(hl c h).1) (fun c h=>(hl c h).2) (by decide:(2:Nat)≤1000)
 rw [hTX] at t2
 have w0':=lD ⟨none,0,0⟩ [] I 5 (fun c h=>(hno c h).elim) (fun c h=>(hno c h).elim) (fun c h=>(hno c h).elim) (by decide)
 rw [smWho0] at w0'
 have w5:=lD ⟨some ⟨bE,0,none⟩,2,2⟩ _ I 5 ho (fun c h=>ZY (hl c h).1 (by decide)) (fun c h=>(hl c h).2) (by decide:(2:Nat)≤1000000)
 rw [hW5] at w5
 have w7:=lD ⟨some ⟨bE,0,none⟩,2,2⟩ [smC28 bR,smD28 I bM] I 7 ho (fun c h=>ZY (hl c h).1 (by decide)) (fun c h=>(hl c h).2) (by decide:(2:Nat)≤1000000)
 rw [smWho7] at w7
 have hs:∀ r q:Xl,Pu prog 17 #[r.v,q.v] (fun w=>Strs w r [idB]∧Strs w q [idB]) (.bool true):=fun r q=>by
  have h:=oo r q [idB] [idB]
  rw [sB] at h
  exact h
 (refine aq ⟨[0,2],[(1,⟨[3,4,5],[(6,⟨[7,8,9,10,11,12,14],[(13,⟨[15,16,17,18,19,21,22],[(20,⟨[],[(23,⟨[],[(24,⟨[25,26,27,28],[(29,⟨[30,31,32,33,34,36],[(35,⟨[37,38,39],[]⟩)]⟩)]⟩)]⟩)]⟩),(23,⟨[],[(20,⟨[],[(24,⟨[25,26,27,28],[(29,⟨[30,31,32,33,34,36],[(35,⟨[37,38,39],[]⟩)]⟩)]⟩)]⟩)]⟩)]⟩)]⟩)]⟩)]⟩ [cel b3 35 (smD28 I bM).cells] (fun w=>Xi w∧Chains w ⟨some ⟨bE,0,none⟩,2,2⟩ [smC28 bR,smD28 I bM]) (h:=?_))
 all_goals repeat' (first|refine ax (hsub:=by exact aI) (hy:=by first|(apply lr true;rfl;rfl;exact Zd (by first|exact congrArg Int.ofNat hn1|exact congrArg Int.ofNat hn3))|(apply yv ⟨0,0,0⟩;rfl;rfl)|(apply yv ⟨1,0,0⟩;rfl;rfl)) ?_|(refine ag (hc:=t0) (hX:=fun w h=>⟨smChainsNil w,h.1⟩) ?_)|((refine cd (hc:=w0') (hX:=fun w h=>⟨smChainsNil w,h.1⟩) fun v1 X1 h1=>?_;obtain ⟨s1,rfl,hn1,hw1'⟩:=h1))|(refine ag (hc:=t1) (hX:=fun w h=>⟨h.1.2,h.1.1⟩) ?_)|((refine cd (hc:=w5) (hX:=fun w h=>⟨h.1.2,h.1.1⟩) fun v2 X2 h2=>?_;obtain ⟨s2,rfl,hn2,hw2⟩:=h2))|((refine cd (hc:=w5) (hX:=fun w h=>⟨h.1.1.2,h.1.1.1⟩) fun v2 X2 h2=>?_;obtain ⟨s2,rfl,hn2,hw2⟩:=h2))|(refine ag (hc:=hs s2 ⟨some ⟨bq,0,none⟩,1,1⟩) (hX:=fun w h=>⟨hw2 w h.1.2,kq (l:=[idB]) h.2 (by decide)⟩) ?_)|(refine ag (hc:=hs s2 ⟨some ⟨bq,0,none⟩,1,1⟩) (hX:=fun w h=>⟨hw2 w h.2,kq (l:=[idB]) h.1.2 (by decide)⟩) ?_)|((refine cd (hc:=w7) (hX:=fun w h=>⟨h.1.1.1.2,h.1.1.1.1⟩) fun v3 X3 h3=>?_;obtain ⟨s3,rfl,hn3,hw3⟩:=h3))|(refine ag (hc:=t2) (hX:=fun w h=>⟨h.1.1.1.1.2,h.1.1.1.1.1⟩) ?_)|refine gdz ?_|refine ax (hsub:=by exact aI) (hy:=by (apply dv;rfl;rfl)) ?_|refine aA ?_ (h':=?_)|exact aB|(refine eD (len:=1) (vs:=[encB idB]) fun bq=>?_;refine bI ?_)|fail)
 all_goals
  repeat' (first|refine gs ?_|fail)
  apply ab;apply ae;rfl;rfl
  rfl
theorem fE (l:List Xb) (p:Xd) (kind:Int):Asc (actorsV l p kind):=o9 (nw l p kind _)
structure LawI (n:Nat) where
 k:Nat
 hk:k≤n
structure GivI (l:List Xb) (x id:ByteArray) (kd:Int) where
 k:Nat
 hk:k≤l.length
 g:Bool
 hg:∀ j c,j<k→l[j]?=some c→c.id=x→∀ a∈c.actsL,a.kind=kd→a.object=id→g=true
structure GinI (L:List Xa) (id:ByteArray) (kd:Int) (B:Bool→Prop) where
 k:Nat
 hk:k≤L.length
 g:Bool
 hB:B g
 hg:∀ j a,j<k→L[j]?=some a→a.kind=kd→a.object=id→g=true
section
variable {P:Program} {N:Nat} {av bor:List Nat} {w0:World} {ty:TypeId}
theorem yy {st:St} {x:Operand} {t t2 e b':TypeId} [hs:X7 P t e 1 b'] [he:Xt P e .u8] [h2:X8 P t2] {b n:Nat} {ns:List Int} (hx:ev st.env x=some (.slice (some ⟨b,0,none⟩) n n)) (hm:cel b e (u8s ns)∈st.loc) (hn:ns.length=n) (hn2:n≤maxLen) :
  Sy.Yields P N av bor w0 st (.convert t t2 x) ty (.string (ofInts ns)):=Sy.Yields.mk fun A w ok d pos af g=>by
 have hh:w.heap[b]?=some (.cells (u8s ns).toArray e (0,0)):=(ok.gam.here _ hm).now
 have ho:ORow w e 1 (.slice (some ⟨b,0,none⟩) n n) n (u8s ns):=kD hh (by simp [u8s,hn]) hn2
 have hl:(u8s ns).length=n:=by have:=ho.1;omega
 rcases ho.2 with ⟨h,_⟩|⟨g,cap,cur,fz,hv,hg,hnc,hcm,hcs,htake,hfz⟩
 · cases h
 · cases hv
   have hlc:=run_loadCells_list (P:=P) w ⟨b,0,none⟩ (u8s ns) (fun j u hj=>by
    have hadd:(⟨b,0,none⟩:Addr).add j=⟨b,j,none⟩:=by unfold Addr.add;split<;>simp_all
    rw [hadd,cell_of_row w b j cur e fz hg]
    rw [←htake,QH] at hj
    split at hj
    · simpa using hj
    · cases hj)
   rw [hl] at hlc
   have h3:=run_bytesToString (P:=P) w ⟨b,0,none⟩ n n ns hlc
   have h4:=run_convert_bytes_string (P:=P) w t t2 e (some ⟨b,0,none⟩) n n (cB hs.out).1 he.out h2.out
   rw [h3] at h4
   simp [execOp,ok.eval hx,h4,ofInts]
end
section
variable {P:Program} {N:Nat} {av bor:List Nat} {w0:World} {st:St} {ty:TypeId} {x y z:Operand} {t t2:TypeId}
theorem B5 {e size b':Nat} [hI:X7 P t e size b'] {s:Xl} {kk kk':IntKind} {i j:Int} (hx:ev st.env x=some s.v) (hy:ev st.env y=some (.int kk i)) (hz:ev st.env z=some (.int kk' j)) (h0:0≤i) (h1:i≤j) (h2:j≤(s.c:Int)) :
  Sy.Yields P N av bor w0 st (.slice t x (some y) (some z) none) ty (.slice (s.from size i.toNat).p (j.toNat-i.toNat) (s.c-i.toNat)):=Sy.Yields.mk fun A w ok d pos af g=>by
 obtain ⟨p,m,c⟩:=s
 obtain ⟨hu,inf,hi,hs,hb⟩:=cB hI.out
 have hsz:=Sy.run_sizeOf (P:=P) (w:=w) (t:=e) (n:=size) (by simp [hi,hs])
 have hx':ev st.env x=some (.slice p m c):=hx
 have h2':j≤(c:Int):=h2
 have hj:0≤j:=by omega
 obtain ⟨j,rfl⟩:=Int.eq_ofNat_of_zero_le hj
 have h2'':j≤c:=by omega
 simp [execOp,ok.eval hx',ok.eval hy,ok.eval hz,Instr.sliceAt,run_underlying hu,Instr.slice,Instr.sliceBounds,run_sliceBound,h0,h1,h2',h2'',hsz,Xl.from]
end
section
variable {P:Program} {N:Nat} {av bor:List Nat} {w0:World} {st:St} {ty:TypeId} {x:Operand} {t:TypeId}
theorem dU {e m i c:Nat} [h:Xw P t] {A:Option Addr} {vs:List Value} {u:Value} (hx:ev st.env x=some (elP A i)) (hm:orow e 1 (.slice A m c) m vs∈st.loc) (hn:m=vs.length) (hi:vs[i]?=some u) :
  Sy.Yields P N av bor w0 st (.load t x) ty u:=Sy.Yields.mk fun B w ok d pos af g=>by
 have e1:(vs.map fun v=>[v]).flatten=vs:=by
  clear hm hn hi
  induction vs with
  | nil=>rfl
  | cons v vs ih=>rw [Z1,Qb,ih];rfl
 have ho:=(ok.gam.here _ hm).now
 have hr:Xf w 1 ⟨A,m,c⟩ (vs.map fun v=>[v]):=bm (e:=e) (by rw [e1];exact ho) (by rw [ZF];exact hn) fun r hr=>by
  obtain ⟨v,_,rfl⟩:=QJ.1 hr
  rfl
 obtain ⟨h1,hp,hc⟩:=Xf.row hr i [u] (by rw [Z7,hi];rfl)
 have hc0:=hc 0 u rfl
 rw [Nat.mul_one,ZT] at hc0
 obtain ⟨a,rfl⟩:=QO.1 hp
 simp [execOp,ok.eval hx,elP,Instr.loadAt,Instr.sureAddr,loadVar,(bO h.out w).1,hc0.2 a rfl]
end
section
variable {P:Program} {N:Nat} {av bor:List Nat} {w0:World} {ops:Array Oper} {rest:List Oper} {kk:St→Prop} {E:Env} {loc:List Xm} {X:World→Prop} {x y:Operand} {t t2:TypeId}
variable {n:Nat} {ty:TypeId} {pos:String} {af:Array Edge} {g:Option (Nat×Bool)} {bb want:Bool}
theorem zL {k:IntKind} {a b:Int} [hI:Xt P t k] (h:Sw P N av bor w0 ops rest ⟨(n,.bool false)::E,loc,X⟩ kk) (hx:ev E x=some (.int k a):=by rfl) (hy:ev E y=some (.int k b):=by rfl) (hab:¬ a<b:=by first|omega|decide) (hg:gdB ops E g=some (bb,want):=by rfl) (hbb:bb=want:=by exact ar) (hd:Nat.blt n N=true:=by rfl) :
  Sw P N av bor w0 ops (⟨some n,.binOp .lss t x y t2,ty,pos,af,g⟩::rest) ⟨E,loc,X⟩ kk:=eG (hx:=hx) (hy:=hy) (hg:=hg) (hbb:=hbb) (hd:=hd) (h:=by
   have e:∀ u,u=Value.bool false→Sw P N av bor w0 ops rest ⟨(n,u)::E,loc,X⟩ kk:=fun u hu=>hu▸h
   exact e _ (by simp [hab]))
theorem zK {k:IntKind} {a b:Int} [hI:Xt P t k] (h:Sw P N av bor w0 ops rest ⟨(n,.bool true)::E,loc,X⟩ kk) (hx:ev E x=some (.int k a):=by rfl) (hy:ev E y=some (.int k b):=by rfl) (hab:a<b:=by first|omega|decide) (hg:gdB ops E g=some (bb,want):=by rfl) (hbb:bb=want:=by exact ar) (hd:Nat.blt n N=true:=by rfl) :
  Sw P N av bor w0 ops (⟨some n,.binOp .lss t x y t2,ty,pos,af,g⟩::rest) ⟨E,loc,X⟩ kk:=eG (hx:=hx) (hy:=hy) (hg:=hg) (hbb:=hbb) (hd:=hd) (h:=by
   have e:∀ u,u=Value.bool true→Sw P N av bor w0 ops rest ⟨(n,u)::E,loc,X⟩ kk:=fun u hu=>hu▸h
   exact e _ (by simp [hab]))
end
end Go.Proofs.YtaolfiikahlmkaaGreatDoor
namespace Go.Proofs
open Go.Shelf
def Tryz.len64_ren:Go.Shelf.Ren:=⟨fun|129=>172|n=>n,fun|53=>218|3=>3|4=>4|46=>156|5=>5|9=>9|n=>n,fun|n=>n⟩
theorem Tryz.len64:Go.Proofs.Lays.n129 Tryz.prog Tryz.len64_ren:={
 mixed:=by kernel_rfl
 f129:=Tryz.func172.trans (congrArg some (by kernel_rfl))
 t3:=Tryz.underlying3
 a3:=Tryz.isAgg3
 z3:=Tryz.sizeOf3
 v3:=Tryz.zeroValue3
 t4:=Tryz.underlying4
 a4:=Tryz.isAgg4
 z4:=Tryz.sizeOf4
 v4:=Tryz.zeroValue4
 t5:=Tryz.underlying5
 a5:=Tryz.isAgg5
 z5:=Tryz.sizeOf5
 v5:=Tryz.zeroValue5
 t9:=Tryz.underlying9
 a9:=Tryz.isAgg9
 z9:=Tryz.sizeOf9
 v9:=Tryz.zeroValue9
 t46:=Tryz.underlying156
 a46:=Tryz.isAgg156
 z46:=Tryz.sizeOf156
 v46:=Tryz.zeroValue156
 t53:=Tryz.underlying218
 a53:=Tryz.isAgg218
 z53:=Tryz.sizeOf218
 v53:=Tryz.zeroValue218 }
def Tryz.mul64_ren:Go.Shelf.Ren:=⟨fun|264=>266|n=>n,fun|53=>218|46=>156|n=>n,fun|n=>n⟩
theorem Tryz.mul64:Go.Proofs.Lays.n264 Tryz.prog Tryz.mul64_ren:={
 mixed:=by kernel_rfl
 f264:=Tryz.func266.trans (congrArg some (by kernel_rfl))
 t46:=Tryz.underlying156
 a46:=Tryz.isAgg156
 z46:=Tryz.sizeOf156
 v46:=Tryz.zeroValue156
 t53:=Tryz.underlying218
 a53:=Tryz.isAgg218
 z53:=Tryz.sizeOf218
 v53:=Tryz.zeroValue218 }
def Tryz.join_ren:Go.Shelf.Ren:=⟨fun|156=>223|165=>263|166=>264|169=>265|240=>289|241=>290|276=>308|277=>309|n=>n,fun|31=>39|9=>9|3=>3|4=>4|0=>0|20=>20|72=>282|76=>286|70=>280|37=>158|75=>285|127=>310|164=>321|5=>5|80=>288|n=>n,fun|n=>n⟩
theorem Tryz.join:Go.Proofs.Lays.n156 Tryz.prog Tryz.join_ren:={
 mixed:=by kernel_rfl
 f156:=Tryz.func223.trans (congrArg some (by kernel_rfl))
 f165:=Tryz.func263.trans (congrArg some (by kernel_rfl))
 f166:=Tryz.func264.trans (congrArg some (by kernel_rfl))
 f169:=Tryz.func265.trans (congrArg some (by kernel_rfl))
 f240:=Tryz.func289.trans (congrArg some (by kernel_rfl))
 f241:=Tryz.func290.trans (congrArg some (by kernel_rfl))
 f276:=Tryz.func308.trans (congrArg some (by kernel_rfl))
 f277:=Tryz.func309.trans (congrArg some (by kernel_rfl))
 t0:=Tryz.underlying0
 a0:=Tryz.isAgg0
 z0:=Tryz.sizeOf0
 v0:=Tryz.zeroValue0
 t3:=Tryz.underlying3
 a3:=Tryz.isAgg3
 z3:=Tryz.sizeOf3
 v3:=Tryz.zeroValue3
 t4:=Tryz.underlying4
 a4:=Tryz.isAgg4
 z4:=Tryz.sizeOf4
 v4:=Tryz.zeroValue4
 t9:=Tryz.underlying9
 a9:=Tryz.isAgg9
 z9:=Tryz.sizeOf9
 v9:=Tryz.zeroValue9
 t20:=Tryz.underlying20
 a20:=Tryz.isAgg20
 z20:=Tryz.sizeOf20
 v20:=Tryz.zeroValue20
 t31:=Tryz.underlying39
 a31:=Tryz.isAgg39
 z31:=Tryz.sizeOf39
 v31:=Tryz.zeroValue39
 t37:=Tryz.underlying158
 a37:=Tryz.isAgg158
 z37:=Tryz.sizeOf158
 v37:=Tryz.zeroValue158
 t70:=Tryz.underlying280
 a70:=Tryz.isAgg280
 z70:=Tryz.sizeOf280
 v70:=Tryz.zeroValue280
 t72:=Tryz.underlying282
 a72:=Tryz.isAgg282
 z72:=Tryz.sizeOf282
 v72:=Tryz.zeroValue282
 t75:=Tryz.underlying285
 a75:=Tryz.isAgg285
 z75:=Tryz.sizeOf285
 v75:=Tryz.zeroValue285
 t76:=Tryz.underlying286
 a76:=Tryz.isAgg286
 z76:=Tryz.sizeOf286
 v76:=Tryz.zeroValue286
 t127:=Tryz.underlying310
 a127:=Tryz.isAgg310
 z127:=Tryz.sizeOf310
 v127:=Tryz.zeroValue310
 t164:=Tryz.underlying321
 a164:=Tryz.isAgg321
 z164:=Tryz.sizeOf321
 v164:=Tryz.zeroValue321 }
end Go.Proofs
namespace Go.Proofs.YtaolfiikahlmkaaGreatDoor
open Go Go.Proofs Sy Go.Shelf Tryz
theorem mG {P:Program} {f:FuncId} {args:Array Value} {X:World→Prop} {v:Value} (h:∀ w,Calls P f args w fun e w'=>e=.returned v∧w'=w):Pu P f args X v:=by
 unfold Pu
 exact Ct.mk fun w av G=>(h w).mono fun e w' ⟨he,hw⟩=>⟨v,[],X,he,⟨rfl,rfl⟩,by subst hw;exact G⟩
theorem r5 (x:Nat) (hx:x<18446744073709551616):Pu prog 172 #[.int .u64 (x:Int)] (fun _=>True) (.int .i64 (Lib.bitLen x)) :=
 mG fun w=>by
  have h:=Any.bits_Len64 Tryz.len64 (x:Int) w aa aa
  rw [ZZ] at h
  exact h
theorem AV (x y:Nat) (hx:x<18446744073709551616) (hy:y<18446744073709551616):Pu prog 266 #[.int .u64 (x:Int),.int .u64 (y:Int)] (fun _=>True) (.tuple #[.int .u64 ((x*y/18446744073709551616:Nat):Int),.int .u64 ((x*y%18446744073709551616:Nat):Int)]) :=
 mG fun w=>Any.bits_Mul64 Tryz.mul64 x y hx hy w
theorem Dz (d:Nat) (hd:d=8∨d=16):Pu prog 310 #[.int .u64 ((2305843009213693952-d/8:Nat):Int)] (fun _=>True) (.int .i64 3):=by
 refine aw func310 ntmps310 fun av bor w0=>?_
 have h:=r5 (2305843009213693952-d/8) aa
 have e:Lib.bitLen (2305843009213693952-d/8)=61:=by rcases hd with rfl|rfl<;>kernel_rfl
 rw [e] at h
 repeat' (first|(refine ag (hc:=h) ?_)|refine gs ?_|fail)
 apply ab;apply ae;rfl;rfl
 rfl
namespace Sy
section
variable {P:Program} {N:Nat} {av bor:List Nat} {w0:World} {st:St} {K:Exit→St→Prop}
theorem sH {ι:Type} {id:Nat} (M:ι→St) {x y:Code} (h1:Cw P N av bor w0 x st (blk id (thn (fun s=>∃ i,∀ a w,Ok N av bor w0 s a w→Ok N av bor w0 (M i) a w) K))) (h2:∀ i,Cw P N av bor w0 y (M i) K) :
  Cw P N av bor w0 x st (blk id (thn (fun s=>Cw P N av bor w0 y s K) K)):=vJ (fun e s h=>by
 cases e with
 | normal =>
  obtain ⟨i,hi⟩:=h
  exact oV hi (h2 i)
 | exit id' =>
  by_cases e:id'=id
  · simp only [blk,ZO e] at h ⊢
    obtain ⟨i,hi⟩:=h
    exact oV hi (h2 i)
  · simp only [blk,ZP e] at h ⊢
    exact h
 | _=>exact h) h1
end
end Sy
theorem cV (x:Int) (h:0≤x∧x<18446744073709551616):IntKind.u64.wrap x=x:=by
 rw [IntKind.wrap_u64]
 omega
theorem yJ (x:Int):IntKind.u64.wrap x=x%18446744073709551616:=IntKind.wrap_u64 x
def Eqq (a b:Int):Prop:=a=b
def Hid (p:Prop):Prop:=p
theorem uH (a b c:Int):IntKind.u64.wrap (IntKind.u64.wrap (IntKind.u64.wrap a+b)-IntKind.u64.wrap c)=(a+b-c)%18446744073709551616:=by
 simp only [yJ]
 omega
theorem uj {V M Q z:Nat} (h:V=M*Q+z) (hz:z<M):V/M=Q∧V%M=z:=by
 subst h
 exact ⟨by rw [Nat.mul_add_div aa,Nat.div_eq_of_lt hz,ZT],by rw [Nat.mul_add_mod,ZD hz]⟩
theorem and32 (a:Nat) (ha:a<18446744073709551616):bitsV .and .u64 (a:Int) 4294967295=((a%4294967296:Nat):Int):=by
 show IntKind.u64.wrap ((((BitVec.ofInt 64 (a:Int)) &&& (BitVec.ofInt 64 4294967295)).toNat:Nat):Int)=_
 have e:(BitVec.ofInt 64 4294967295).toNat=4294967295:=by decide
 rw [BitVec.toNat_and,e,Qm,Qp,ZD (show a<2 ^ 64 from ha),show (4294967295:Nat)=2 ^ 32-1 by decide,Nat.and_two_pow_sub_one_eq_mod,cV _ (by omega)]
theorem shl3 (a:Nat):shlV .u64 (a:Int) 3=((a*8%18446744073709551616:Nat):Int):=by
 show IntKind.u64.wrap ((a:Int)*2 ^ (min (3:Int).toNat 64))=_
 rw [show (2:Int) ^ (min (3:Int).toNat 64)=8 by kernel_rfl,yJ]
 omega
theorem Aa (a:Nat) {c:Int} (p:Nat) (hp:(2:Int) ^ (min c.toNat 64)=(p:Int)):shrV .u64 (a:Int) c=((a/p:Nat):Int):=by
 show (a:Int).fdiv (2 ^ (min c.toNat 64))=_
 rw [hp,←Int.ofNat_fdiv]
theorem or3 (a b:Nat) (ha:a<2305843009213693952) (hb:b<8):bitsV .or .u64 ((a*8:Nat):Int) (b:Int)=((a*8+b:Nat):Int):=by
 show IntKind.u64.wrap ((((BitVec.ofInt 64 ((a*8:Nat):Int)) ||| (BitVec.ofInt 64 (b:Int))).toNat:Nat):Int)=_
 rw [Qm,Qm,BitVec.toNat_or,Qp,Qp,ZD (show a*8<2 ^ 64 by omega),ZD (show b<2 ^ 64 by omega)]
 have e:a*8 ||| b=a*8+b:=by
  have h:=Nat.shiftLeft_add_eq_or_of_lt (i:=3) (b:=b) hb a
  rw [Nat.shiftLeft_eq] at h
  exact h.symm
 rw [e,cV _ (by omega)]
theorem Am (a b:Nat) (ha:a<18446744073709551616) (hb:0<b):IntKind.u64.wrap ((a:Int).tdiv (b:Int))=((a/b:Nat):Int):=by
 have h:(a:Int).tdiv (b:Int)=((a/b:Nat):Int):=by rw [Int.natCast_ediv,Qq (by omega)]
 have:=Nat.div_le_self a b
 rw [h]
 generalize a/b=c at *
 rw [cV _ (by omega)]
theorem mB (a b:Nat):(a:Int).tmod (b:Int)=((a%b:Nat):Int):=by rw [Int.natCast_emod,Int.tmod_eq_emod_of_nonneg (by omega)]
theorem eP {u v p r:Nat} (isum:(p+1)*4294967295+r=u) (hu:u<18446744073709551608) (hv:v<4294967296) (h:4294967296≤p+1∨4294967296*r+v<(p+1)*4294967288):u*4294967296+v<(p+1)*18446744073709551608:=by
 rcases h with h|h
 · exact Nat.lt_of_lt_of_le (show u*4294967296+v<4294967296*18446744073709551608 by omega) (QB 18446744073709551608 h)
 · have e:(p+1)*18446744073709551608=(p+1)*4294967295*4294967296+(p+1)*4294967288:=by rw [Nat.mul_assoc,←Nat.mul_add]
   rw [e,←isum,QF,ZH]
   exact Nat.add_lt_add_left (by rw [Nat.mul_comm r];exact h) _
theorem jB {u v p r:Nat} (isum:(p+1)*4294967295+r=u) (hr:4294967296≤r+4294967295) (itop:p+1≤4294967297):p*18446744073709551608≤u*4294967296+v:=by
 have e:p*18446744073709551608=p*4294967295*4294967296+p*4294967288:=by rw [Nat.mul_assoc,←Nat.mul_add]
 have h1:p*4294967288≤4294967296*4294967296:=Nat.mul_le_mul aa (by decide)
 have hu':u=p*4294967295+(r+4294967295):=by
  rw [←isum,Nat.succ_mul,ZH,ZS 4294967295 r]
 rw [hu',QF,e,ZH]
 exact Nat.add_le_add_left (ZY h1 (ZY (QB 4294967296 hr) (Nat.le_add_right _ _))) _
structure DivIP (u v:Nat) where
 q:Nat
 r:Nat
 sum:q*4294967295+r=u
 big:u*4294967296+v<(q+1)*18446744073709551608
 top:q≤4294967297
 lim:r<4294967296
structure DivEP (u v:Nat) where
 q:Nat
 lo:q*18446744073709551608≤u*4294967296+v
 hi:u*4294967296+v<(q+1)*18446744073709551608
set_option maxRecDepth 20000 in
theorem div64P (hi lo:Nat) (hhi:hi<2305843009213693951) (hlo:lo<18446744073709551616) :
  Pu prog 291 #[.int .u64 (hi:Int),.int .u64 (lo:Int),.int .u64 2305843009213693951] (fun _=>True)
   (.tuple #[.int .u64 (((hi*18446744073709551616+lo)/2305843009213693951:Nat):Int),.int .u64 (((hi*18446744073709551616+lo)%2305843009213693951:Nat):Int)]):=by
 refine aw func291 ntmps291 fun av bor w0=>?_
 have hz:=Dz 8 (by decide)
 repeat' (first|(refine ag (hc:=hz) ?_)|refine gs ?_|(refine gp ?_ ?_<;>intro hx_ this)|fail)
 · exfalso;omega
 · exfalso;omega
 · have h0:hi=0:=by omega
   subst h0
   have e1:IntKind.u64.wrap ((lo:Int).tdiv 2305843009213693951)=((lo/2305843009213693951:Nat):Int):=Am lo 2305843009213693951 hlo (by decide)
   have e2:(lo:Int).tmod 2305843009213693951=((lo%2305843009213693951:Nat):Int):=mB lo 2305843009213693951
   (refine aq ⟨[0,1,2,3,4,5,6,7],[]⟩ [] (fun _=>True) (h:=?_))
   all_goals repeat' (first|refine gd ?_|refine ax (hy:=by first|(apply nT (c:=((lo/2305843009213693951:Nat):Int));rfl;rfl;decide;exact e1)|(apply qx (c:=((lo%2305843009213693951:Nat):Int));rfl;rfl;decide;exact e2)) ?_|fail)
   all_goals
    repeat' (first|refine gs ?_|fail)
    apply ab;apply fU;rfl;rfl;rfl
    rw [Nat.zero_mul,ZU]
 · have e3:IntKind.u64.wrap 3=3:=by kernel_rfl
   have e61:IntKind.u64.wrap (64-3)=61:=by kernel_rfl
   have ey:shlV .u64 2305843009213693951 3=18446744073709551608:=by kernel_rfl
   have ey1:shrV .u64 18446744073709551608 32=4294967295:=by kernel_rfl
   have ey0:bitsV .and .u64 18446744073709551608 4294967295=4294967288:=by kernel_rfl
   have eh:shlV .u64 (hi:Int) 3=((hi*8:Nat):Int):=by rw [shl3,ZD (by omega)]
   have el:shrV .u64 (lo:Int) 61=((lo/2305843009213693952:Nat):Int):=Aa lo _ ac
   have eo:bitsV .or .u64 ((hi*8:Nat):Int) ((lo/2305843009213693952:Nat):Int)=((hi*8+lo/2305843009213693952:Nat):Int):=or3 hi _ aa aa
   have e10:shlV .u64 (lo:Int) 3=((lo*8%18446744073709551616:Nat):Int):=shl3 lo
   have hU:(hi*18446744073709551616+lo)*8=(hi*8+lo/2305843009213693952)*18446744073709551616+lo*8%18446744073709551616:=by omega
   have hu:hi*8+lo/2305843009213693952<18446744073709551608:=by omega
   have hv:lo*8%18446744073709551616<18446744073709551616:=Qc _ (by decide)
   simp only [e3,e61,ey,ey1,ey0,eh,el,eo,e10]
   clear e3 e61 ey ey1 ey0 eh el eo e10
   generalize hi*8+lo/2305843009213693952=u at *
   generalize lo*8%18446744073709551616=v at *
   have e1:shrV .u64 (v:Int) 32=((v/4294967296:Nat):Int):=Aa v _ ac
   have e0:bitsV .and .u64 (v:Int) 4294967295=((v%4294967296:Nat):Int):=and32 v hv
   obtain ⟨v1,v0,hv1,hv0,hvv,hv1l,hv0l⟩:∃ v1 v0:Nat,v/4294967296=v1∧v%4294967296=v0∧v=v1*4294967296+v0∧v1<4294967296∧v0<4294967296:=⟨_,_,rfl,rfl,by omega,by omega,by omega⟩
   simp only [e1,e0,hv1,hv0]
   clear e1 e0 hv1 hv0
   subst hvv
   obtain ⟨V,hV⟩:∃ V,hi*18446744073709551616+lo=V:=⟨_,rfl⟩
   rw [hV] at hU ⊢
   have hUh:Hid (V*8=u*18446744073709551616+(v1*4294967296+v0)):=hU
   clear hU hV hv hhi hlo
   have hq1:Eqq (IntKind.u64.wrap ((u:Int).tdiv 4294967295)) ((u/4294967295:Nat):Int):=Am u 4294967295 aa (by decide)
   repeat' (first|refine mj (hb:=by decide) (hc:=hq1) ?_|refine fI (hc:=cV _ aa) (h:=?_)|refine gg (hc:=cV _ aa) (h:=?_)|refine gs ?_|fail)
   refine sH (ι:=DivEP u v1) (fun i=>⟨[(2,.int .u64 18446744073709551608),(8,.int .u64 3),(9,.int .u64 4294967295),(10,.int .u64 4294967288),(11,.int .u64 (u:Nat)),(13,.int .u64 (v1:Int)),(14,.int .u64 (v0:Int)),(15,.int .u64 (i.q:Nat))],[],fun _=>True⟩) ?_ fun i=>?_
   · refine ao (ι:=DivIP u v1) (fun i=>⟨[(2,.int .u64 18446744073709551608),(8,.int .u64 3),(9,.int .u64 4294967295),(10,.int .u64 4294967288),(11,.int .u64 (u:Nat)),(13,.int .u64 (v1:Int)),(14,.int .u64 (v0:Int)),(15,.int .u64 (i.q:Nat)),(16,.int .u64 (i.r:Nat))],[],fun _=>True⟩) (fun i=>4294967296-i.r) ⟨u/4294967295,u%4294967295,by omega,by omega,by omega,by omega⟩
      (ai ⟨rfl,rfl,rfl,rfl,rfl,rfl,rfl,rfl,by show some (Value.int .u64 ((u:Int)-((u/4294967295:Nat):Int)*4294967295))=some (Value.int .u64 ((u%4294967295:Nat):Int));congr 2;omega,trivial⟩ (Zu _) fun _ h=>h) fun i=>?_
     obtain ⟨q,r,isum,ibig,itop,ilim⟩:=i
     simp only
     repeat' (first|refine fI (hc:=cV _ aa) (h:=?_)|refine gg (hc:=cV _ aa) (h:=?_)|refine d6 (hc:=cV _ aa) (h:=?_)|refine gs ?_|(refine gp ?_ ?_<;>intro hx_ this)|fail)
     · cases q with
       | zero=>exfalso;omega
       | succ p =>
        have f2:u*4294967296+v1<(p+1)*18446744073709551608:=eP isum hu hv1l (Or.inl aa)
        have f3:((p+1:Nat):Int)-1=(p:Int):=by omega
        have f1:p*18446744073709551608≤u*4294967296+v1:=jB isum aa itop
        exact ⟨⟨p,f1,f2⟩,ai ⟨rfl,rfl,rfl,rfl,rfl,rfl,rfl,by show some (Value.int .u64 (((p+1:Nat):Int)-1))=some (Value.int .u64 (p:Int));rw [f3],trivial⟩ (Zu _) fun _ h=>h⟩
     · cases q with
       | zero=>exfalso;omega
       | succ p =>
        have f2:u*4294967296+v1<(p+1)*18446744073709551608:=eP isum hu hv1l (Or.inl aa)
        have f3:((p+1:Nat):Int)-1=(p:Int):=by omega
        have g1:p*4294967295+(r+4294967295)=u:=by rw [←isum,Nat.succ_mul,ZH,ZS 4294967295 r]
        have g3:p≤4294967297:=by omega
        have g4:r+4294967295<4294967296:=by omega
        have g5:4294967296-(r+4294967295)<4294967296-r:=by omega
        exact ⟨⟨p,r+4294967295,g1,f2,g3,g4⟩,g5,ai ⟨rfl,rfl,rfl,rfl,rfl,rfl,rfl,by show some (Value.int .u64 (((p+1:Nat):Int)-1))=some (Value.int .u64 (p:Int));rw [f3],rfl,trivial⟩ (Zu _) fun _ h=>h⟩
     · cases q with
       | zero=>exfalso;omega
       | succ p =>
        have f2:u*4294967296+v1<(p+1)*18446744073709551608:=eP isum hu hv1l (Or.inr aa)
        have f3:((p+1:Nat):Int)-1=(p:Int):=by omega
        have f1:p*18446744073709551608≤u*4294967296+v1:=jB isum aa itop
        exact ⟨⟨p,f1,f2⟩,ai ⟨rfl,rfl,rfl,rfl,rfl,rfl,rfl,by show some (Value.int .u64 (((p+1:Nat):Int)-1))=some (Value.int .u64 (p:Int));rw [f3],trivial⟩ (Zu _) fun _ h=>h⟩
     · cases q with
       | zero=>exfalso;omega
       | succ p =>
        have f2:u*4294967296+v1<(p+1)*18446744073709551608:=eP isum hu hv1l (Or.inr aa)
        have f3:((p+1:Nat):Int)-1=(p:Int):=by omega
        have g1:p*4294967295+(r+4294967295)=u:=by rw [←isum,Nat.succ_mul,ZH,ZS 4294967295 r]
        have g3:p≤4294967297:=by omega
        have g4:r+4294967295<4294967296:=by omega
        have g5:4294967296-(r+4294967295)<4294967296-r:=by omega
        exact ⟨⟨p,r+4294967295,g1,f2,g3,g4⟩,g5,ai ⟨rfl,rfl,rfl,rfl,rfl,rfl,rfl,by show some (Value.int .u64 (((p+1:Nat):Int)-1))=some (Value.int .u64 (p:Int));rw [f3],rfl,trivial⟩ (Zu _) fun _ h=>h⟩
     · exact ⟨⟨q,by omega,by omega⟩,ai al (Zu _) fun _ h=>h⟩
   · obtain ⟨q1,q1lo,q1hi⟩:=i
     simp only
     obtain ⟨x,hx,hxY⟩:∃ x:Nat,u*4294967296+v1=q1*18446744073709551608+x∧x<18446744073709551608:=⟨u*4294967296+v1-q1*18446744073709551608,by omega,by omega⟩
     have h17:Eqq (IntKind.u64.wrap (IntKind.u64.wrap (IntKind.u64.wrap ((u:Int)*4294967296)+(v1:Int))-IntKind.u64.wrap ((q1:Int)*18446744073709551608))) (x:Int):=by
      unfold Eqq
      rw [uH,show (u:Int)*4294967296+(v1:Int)-(q1:Int)*18446744073709551608=(x:Int) by omega]
      omega
     have hq0:Eqq (IntKind.u64.wrap ((x:Int).tdiv 4294967295)) ((x/4294967295:Nat):Int):=Am x 4294967295 aa (by decide)
     have hq1l:q1<4294967296:=by omega
     repeat' (first|refine gg (hc:=h17) (h:=?_)|refine fI (hc:=rfl) (h:=?_)|refine d6 (hc:=rfl) (h:=?_)|refine gs ?_|fail)
     clear h17
     repeat' (first|refine mj (hb:=by decide) (hc:=hq0) ?_|refine fI (hc:=cV _ aa) (h:=?_)|refine gg (hc:=cV _ aa) (h:=?_)|refine gs ?_|fail)
     have hxh:Hid (u*4294967296+v1=q1*18446744073709551608+x):=hx
     clear hx q1lo q1hi hu
     refine sH (ι:=DivEP x v0) (fun i=>⟨[(2,.int .u64 18446744073709551608),(8,.int .u64 3),(14,.int .u64 (v0:Int)),(15,.int .u64 (q1:Nat)),(17,.int .u64 (x:Nat)),(18,.int .u64 (i.q:Nat))],[],fun _=>True⟩) ?_ fun i=>?_
     · refine ao (ι:=DivIP x v0) (fun i=>⟨[(2,.int .u64 18446744073709551608),(8,.int .u64 3),(9,.int .u64 4294967295),(10,.int .u64 4294967288),(14,.int .u64 (v0:Int)),(15,.int .u64 (q1:Nat)),(17,.int .u64 (x:Nat)),(18,.int .u64 (i.q:Nat)),(16,.int .u64 (i.r:Nat))],[],fun _=>True⟩) (fun i=>4294967296-i.r) ⟨x/4294967295,x%4294967295,by omega,by omega,by omega,by omega⟩
        (ai ⟨rfl,rfl,rfl,rfl,rfl,rfl,rfl,rfl,by show some (Value.int .u64 ((x:Int)-((x/4294967295:Nat):Int)*4294967295))=some (Value.int .u64 ((x%4294967295:Nat):Int));congr 2;omega,trivial⟩ (Zu _) fun _ h=>h) fun i=>?_
       obtain ⟨q,r,isum,ibig,itop,ilim⟩:=i
       simp only
       repeat' (first|refine fI (hc:=cV _ aa) (h:=?_)|refine gg (hc:=cV _ aa) (h:=?_)|refine d6 (hc:=cV _ aa) (h:=?_)|refine gs ?_|(refine gp ?_ ?_<;>intro hx_ this)|fail)
       · cases q with
         | zero=>exfalso;omega
         | succ p =>
          have f2:x*4294967296+v0<(p+1)*18446744073709551608:=eP isum hxY hv0l (Or.inl aa)
          have f3:((p+1:Nat):Int)-1=(p:Int):=by omega
          have f1:p*18446744073709551608≤x*4294967296+v0:=jB isum aa itop
          exact ⟨⟨p,f1,f2⟩,ai ⟨rfl,rfl,rfl,rfl,rfl,by show some (Value.int .u64 (((p+1:Nat):Int)-1))=some (Value.int .u64 (p:Int));rw [f3],trivial⟩ (Zu _) fun _ h=>h⟩
       · cases q with
         | zero=>exfalso;omega
         | succ p =>
          have f2:x*4294967296+v0<(p+1)*18446744073709551608:=eP isum hxY hv0l (Or.inl aa)
          have f3:((p+1:Nat):Int)-1=(p:Int):=by omega
          have g1:p*4294967295+(r+4294967295)=x:=by rw [←isum,Nat.succ_mul,ZH,ZS 4294967295 r]
          have g3:p≤4294967297:=by omega
          have g4:r+4294967295<4294967296:=by omega
          have g5:4294967296-(r+4294967295)<4294967296-r:=by omega
          exact ⟨⟨p,r+4294967295,g1,f2,g3,g4⟩,g5,ai ⟨rfl,rfl,rfl,rfl,rfl,rfl,rfl,by show some (Value.int .u64 (((p+1:Nat):Int)-1))=some (Value.int .u64 (p:Int));rw [f3],rfl,trivial⟩ (Zu _) fun _ h=>h⟩
       · cases q with
         | zero=>exfalso;omega
         | succ p =>
          have f2:x*4294967296+v0<(p+1)*18446744073709551608:=eP isum hxY hv0l (Or.inr aa)
          have f3:((p+1:Nat):Int)-1=(p:Int):=by omega
          have f1:p*18446744073709551608≤x*4294967296+v0:=jB isum aa itop
          exact ⟨⟨p,f1,f2⟩,ai ⟨rfl,rfl,rfl,rfl,rfl,by show some (Value.int .u64 (((p+1:Nat):Int)-1))=some (Value.int .u64 (p:Int));rw [f3],trivial⟩ (Zu _) fun _ h=>h⟩
       · cases q with
         | zero=>exfalso;omega
         | succ p =>
          have f2:x*4294967296+v0<(p+1)*18446744073709551608:=eP isum hxY hv0l (Or.inr aa)
          have f3:((p+1:Nat):Int)-1=(p:Int):=by omega
          have g1:p*4294967295+(r+4294967295)=x:=by rw [←isum,Nat.succ_mul,ZH,ZS 4294967295 r]
          have g3:p≤4294967297:=by omega
          have g4:r+4294967295<4294967296:=by omega
          have g5:4294967296-(r+4294967295)<4294967296-r:=by omega
          exact ⟨⟨p,r+4294967295,g1,f2,g3,g4⟩,g5,ai ⟨rfl,rfl,rfl,rfl,rfl,rfl,rfl,by show some (Value.int .u64 (((p+1:Nat):Int)-1))=some (Value.int .u64 (p:Int));rw [f3],rfl,trivial⟩ (Zu _) fun _ h=>h⟩
       · exact ⟨⟨q,by omega,by omega⟩,ai al (Zu _) fun _ h=>h⟩
     · obtain ⟨q0,q0lo,q0hi⟩:=i
       simp only
       obtain ⟨y,hy,hyY⟩:∃ y:Nat,x*4294967296+v0=q0*18446744073709551608+y∧y<18446744073709551608:=⟨x*4294967296+v0-q0*18446744073709551608,by omega,by omega⟩
       have h132:Eqq (IntKind.u64.wrap (IntKind.u64.wrap (IntKind.u64.wrap ((x:Int)*4294967296)+(v0:Int))-IntKind.u64.wrap ((q0:Int)*18446744073709551608))) (y:Int):=by
        unfold Eqq
        rw [uH,show (x:Int)*4294967296+(v0:Int)-(q0:Int)*18446744073709551608=(y:Int) by omega]
        omega
       have hq1:Eqq (IntKind.u64.wrap (IntKind.u64.wrap ((q1:Int)*4294967296)+(q0:Int))) ((q1:Int)*4294967296+(q0:Int)):=by unfold Eqq;rw [cV ((q1:Int)*4294967296) aa,cV _ (by omega)]
       repeat' (first|refine gg (hc:=h132) (h:=?_)|refine gs ?_|fail)
       have h3:Eqq (shrV .u64 (y:Int) 3) ((y/8:Nat):Int):=Aa y 8 ac
       have hx:u*4294967296+v1=q1*18446744073709551608+x:=hxh
       have hU:V*8=u*18446744073709551616+(v1*4294967296+v0):=hUh
       obtain ⟨hA,hB⟩:=uj (V:=V) (M:=2305843009213693951) (Q:=q1*4294967296+q0) (z:=y/8) aa aa
       apply ab;apply fU;rfl;rfl;rfl
       unfold Eqq at h3 hq1
       rw [hA,hB,h3,hq1,Int.natCast_add,Int.natCast_mul]
       rfl
structure DivIN (u v:Nat) where
 q:Nat
 r:Nat
 sum:q*4294967295+r=u
 big:u*4294967296+v<(q+1)*18446744073709551600
 top:q≤4294967297
 lim:r<4294967296
structure DivEN (u v:Nat) where
 q:Nat
 lo:q*18446744073709551600≤u*4294967296+v
 hi:u*4294967296+v<(q+1)*18446744073709551600
end Go.Proofs.YtaolfiikahlmkaaGreatDoor
namespace Go.Proofs.YtaolfiikahlmkaaGreatDoor
open Go Go.Proofs Sy Go.Shelf Tryz
theorem FF (hi lo M:Nat):(hi%M*18446744073709551616+lo)%M=(hi*18446744073709551616+lo)%M:=by
 rw [Nat.add_mod,Nat.mul_mod,Nat.mod_mod,←Nat.mul_mod,←Nat.add_mod]
theorem rem64P (hi lo:Nat) (hlo:lo<18446744073709551616) :
  Pu prog 267 #[.int .u64 (hi:Int),.int .u64 (lo:Int),.int .u64 2305843009213693951] (fun _=>True) (.int .u64 (((hi*18446744073709551616+lo)%2305843009213693951:Nat):Int)):=by
 refine aw func267 ntmps267 fun av bor w0=>?_
 have hr:Eqq ((hi:Int).tmod 2305843009213693951) ((hi%2305843009213693951:Nat):Int):=mB hi 2305843009213693951
 have hd:=div64P (hi%2305843009213693951) lo (Qc _ (by decide)) hlo
 rw [FF] at hd
 repeat' (first|refine fH (hb:=by decide) (hc:=hr) ?_|(refine ag (hc:=hd) ?_)|refine gs ?_|fail)
 apply ab;apply ae;rfl;rfl
 rfl
theorem iz (a m:Nat) (hm:0<m) (hm2:m<4611686018427387904):Pu prog 224 #[.int .i64 (a:Int),.int .i64 (m:Int)] (fun _=>True) (.int .i64 ((a%m:Nat):Int)):=by
 refine aw func224 ntmps224 fun av bor w0=>?_
 have hr:Eqq ((a:Int).tmod (m:Int)) ((a%m:Nat):Int):=mB a m
 repeat' (first|refine fH (hb:=by omega) (hc:=hr) ?_|refine gs ?_|(refine gp ?_ ?_<;>intro hx_ this)|fail)
 · exfalso;omega
 · apply ab;apply ae;rfl;rfl
   rfl
theorem Du (a b:Nat):Pu prog 226 #[.int .i64 (a:Int),.int .i64 (b:Int),.int .i64 2305843009213693951] (fun _=>True) (.int .i64 ((a*b%2305843009213693951:Nat):Int)):=by
 refine aw func226 ntmps226 fun av bor w0=>?_
 have h1:=iz a 2305843009213693951 (by decide) (by decide)
 have h2:=iz b 2305843009213693951 (by decide) (by decide)
 have hx:=Qc a (show 0<2305843009213693951 by decide)
 have hy:=Qc b (show 0<2305843009213693951 by decide)
 have hab:a*b%2305843009213693951=(a%2305843009213693951)*(b%2305843009213693951)%2305843009213693951:=Nat.mul_mod a b _
 rw [hab]
 generalize a%2305843009213693951=x at *
 generalize b%2305843009213693951=y at *
 have h3:=AV x y aa aa
 have h4:=rem64P (x*y/18446744073709551616) (x*y%18446744073709551616) (Qc _ (by decide))
 have e:x*y/18446744073709551616*18446744073709551616+x*y%18446744073709551616=x*y:=Nat.div_add_mod' _ _
 rw [e] at h4
 have cx:Eqq (IntKind.u64.wrap (x:Int)) (x:Int):=cV _ aa
 have cy:Eqq (IntKind.u64.wrap (y:Int)) (y:Int):=cV _ aa
 have hz:=Qc (x*y) (show 0<2305843009213693951 by decide)
 have cm:Eqq (IntKind.u64.wrap 2305843009213693951) 2305843009213693951:=by unfold Eqq;kernel_rfl
 generalize x*y%2305843009213693951=z at *
 have cz:Eqq (IntKind.i64.wrap (z:Int)) (z:Int):=IntWalk.i64_in _ aa
 unfold Eqq at cx cy cm cz
 rw [←cx,←cy] at h3
 rw [←cm] at h4
 repeat' (first|(refine ag (hc:=h1) ?_)|(refine ag (hc:=h2) ?_)|(refine ag (hc:=h3) ?_)|(refine ag (hc:=h4) ?_)|refine gs ?_|fail)
 apply ab;apply ae;rfl;rfl
 rfl
theorem uA (a b:Nat):Pu prog 188 #[.int .i64 (a:Int),.int .i64 (b:Int)] (fun _=>True) (.int .i64 ((a*b%2305843009213693951:Nat):Int)):=by
 refine aw func188 ntmps188 fun av bor w0=>?_
 repeat' (first|(refine ag (hc:=Du a b) ?_)|refine gs ?_|fail)
 apply ab;apply ae;rfl;rfl
 rfl
def expF (a e:Nat):Nat→Nat×Nat
 | 0=>(1,a%2305843009213693951)
 | i+1=>(bif decide (e/2 ^ i%2=1) then (expF a e i).1*(expF a e i).2%2305843009213693951 else (expF a e i).1,(expF a e i).2*(expF a e i).2%2305843009213693951)
def expV (a e:Nat):Nat:=(expF a e (Lib.bitLen e)).1
theorem Gk (e i:Nat) (hi:i≤64):shrV .i64 (e:Int) (i:Int)=((e/2 ^ i:Nat):Int):=by
 show (e:Int).fdiv (2 ^ (min (i:Int).toNat 64))=_
 rw [ZZ,Nat.min_eq_left hi,show (2:Int) ^ i=((2 ^ i:Nat):Int) by rw [Int.natCast_pow];rfl,←Int.ofNat_fdiv]
theorem Gs (x:Nat) (hx:x<9223372036854775808):bitsV .and .i64 (x:Int) 1=((x%2:Nat):Int):=by
 show IntKind.i64.wrap ((((BitVec.ofInt 64 (x:Int)) &&& (BitVec.ofInt 64 1)).toNat:Nat):Int)=_
 have e:(BitVec.ofInt 64 1).toNat=1:=by decide
 rw [BitVec.toNat_and,e,Qm,Qp,ZD (show x<2 ^ 64 by omega),Nat.and_one_is_mod]
 exact IntWalk.i64_in _ aa
theorem jE:∀ f x:Nat,Lib.bitLenAux f x≤f
 | 0,_=>ZX _
 | f+1,x=>by
  rw [Lib.bitLenAux]
  split
  · omega
  · have:=jE f (x/2)
    omega
theorem Bv (a e:Nat) (he:e<9223372036854775808):Pu prog 136 #[.int .i64 (a:Int),.int .i64 (e:Int)] (fun _=>True) (.int .i64 (expV a e:Nat)):=by
 refine aw func136 ntmps136 fun av bor w0=>?_
 have h1:=iz a 2305843009213693951 (by decide) (by decide)
 have h2:=r5 e aa
 have ce:Eqq (IntKind.u64.wrap (e:Int)) (e:Int):=cV _ aa
 unfold Eqq at ce
 rw [←ce] at h2
 repeat' (first|(refine ag (hc:=h1) ?_)|(refine ag (hc:=h2) ?_)|refine gs ?_|(refine gp ?_ ?_<;>intro hx_ this)|fail)
 · exfalso;omega
 · have hbl:Lib.bitLen e≤64:=jE 64 e
   refine ao (ι:=Kth (Lib.bitLen e)) (fun i=>⟨[(1,.int .i64 (e:Int)),(5,.int .i64 ((expF a e i.k).1:Nat)),(6,.int .i64 ((expF a e i.k).2:Nat)),(16,.int .i64 (Lib.bitLen e:Nat)),(17,.int .i64 i.k)],[],fun _=>True⟩) (fun i=>Lib.bitLen e-i.k) ⟨0,Z4 _⟩ (ai al (Zu _) fun _ h=>h) fun i=>?_
   have hik:=i.hk
   have hm1:=uA (expF a e i.k).1 (expF a e i.k).2
   have hm2:=uA (expF a e i.k).2 (expF a e i.k).2
   have hb:bitsV .and .i64 (shrV .i64 (e:Int) ((i.k:Nat):Int)) 1=((e/2 ^ i.k%2:Nat):Int):=by
    rw [Gk e i.k aa,Gs _ (Nat.lt_of_le_of_lt (Nat.div_le_self _ _) he)]
   have hs:expF a e (i.k+1)=(bif decide (e/2 ^ i.k%2=1) then (expF a e i.k).1*(expF a e i.k).2%2305843009213693951 else (expF a e i.k).1,(expF a e i.k).2*(expF a e i.k).2%2305843009213693951):=rfl
   generalize hp:expF a e i.k=p at *
   repeat' (first|(refine ag (hc:=hm1) ?_)|(refine ag (hc:=hm2) ?_)|refine gs ?_|(refine gp ?_ ?_<;>intro hx_ this)|fail)
   · have hc:e/2 ^ i.k%2=1:=by
      rw [hb] at hx_
      have:=bz hx_
      omega
     rw [Zd hc,Zf] at hs
     exact ⟨(⟨i.k+1,by omega⟩:Kth (Lib.bitLen e)),(by show Lib.bitLen e-(i.k+1)<Lib.bitLen e-i.k;omega),ai ⟨rfl,by rw [hs];rfl,by rw [hs];rfl,rfl,rfl,trivial⟩ (Zu _) fun _ h=>h⟩
   · have hc:¬ e/2 ^ i.k%2=1:=by
      rw [hb] at hx_
      have:=co hx_
      omega
     rw [Zc hc,Ze] at hs
     exact ⟨(⟨i.k+1,by omega⟩:Kth (Lib.bitLen e)),(by show Lib.bitLen e-(i.k+1)<Lib.bitLen e-i.k;omega),ai ⟨rfl,by rw [hs];rfl,by rw [hs];rfl,rfl,rfl,trivial⟩ (Zu _) fun _ h=>h⟩
   · have hk:i.k=Lib.bitLen e:=by omega
     apply ab;apply ae;rfl;rfl
     rw [expV,←hk,hp]
end Go.Proofs.YtaolfiikahlmkaaGreatDoor
