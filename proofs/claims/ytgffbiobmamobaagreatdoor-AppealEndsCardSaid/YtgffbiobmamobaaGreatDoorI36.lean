/- Joined. -/
import Derived.Test.YtgffbiobmamobaaGreatDoorI0
import Derived.Test.YtgffbiobmamobaaGreatDoorI16
import Derived.Test.YtgffbiobmamobaaGreatDoorI35
import Derived.Test.YtgffbiobmamobaaGreatDoorI14
import Derived.Test.YtgffbiobmamobaaGreatDoorI8
import Derived.Test.YtgffbiobmamobaaGreatDoorI9
import Derived.Test.YtgffbiobmamobaaGreatDoorI2
import Derived.Laws.StructEq
set_option linter.unusedVariables false
set_option linter.unusedSimpArgs false
set_option maxHeartbeats 16000000
namespace Go.Proofs.YtgffbiobmamobaaGreatDoor
open Go Go.Proofs Sy
theorem kG (L:List Xd):∀ cs∈L.map Xd.cells,cs.all (·.oneCell')=true:=by
 intro r hr
 obtain ⟨a,_,rfl⟩:=List.mem_map.1 hr
 rfl
def AllPAt (l:List Xa) (u:Value) (X:World→Prop):Prop:=∃ (s:Xi) (P:List Xd),u=s.v∧(P.map Xd.can).Perm (l.flatMap postsV)∧P.length≤1000000∧∀ w,X w→Xe w 11 s (P.map Xd.cells)
def Behind (w:World) (P:List Xd):Prop:=∀ p∈P,Strs w p.to p.toL∧Ints w p.ed p.edL
def AllAtS (l:List Xa) (u:Value) (X:World→Prop):Prop:=∃ (s:Xi) (P:List Xd),u=s.v∧(P.map Xd.can).Perm (l.flatMap postsV)∧P.length≤1000000∧∀ w,X w→Xe w 11 s (P.map Xd.cells)∧Behind w P
theorem AllAtS.weak {l:List Xa} {u:Value} {X:World→Prop} (h:AllAtS l u X):AllPAt l u X:=by
 obtain ⟨s,P,h1,h2,h3,h4⟩:=h
 exact ⟨s,P,h1,h2,h3,fun w hw=>(h4 w hw).1⟩
theorem Behind.nil {w:World}:Behind w []:=fun p hp=>(List.not_mem_nil hp).elim
theorem Behind.app {w:World} {P Q:List Xd} (h:Behind w P) (k:Behind w Q):Behind w (P++Q):=fun p hp=>(List.mem_append.1 hp).elim (h p) (k p)
structure AllI (l:List Xa) where
 k:Nat
 hk:k≤l.length
 P:List Xd
 hP:P.map Xd.can=(l.take k).flatMap postsV
 hm:P.length≤k*1000
 n:Nat
 hn:n=P.length
 xs:List Value
 hxs:xs=(P.map Xd.cells).flatten
 A:Option Addr
 c:Nat
theorem xQ (s:Xi) (l:List Xa) (hok:∀ c∈l,Xx c.actsL) (hlen:∀ c∈l,c.actsL.length≤1000) (hll:l.length≤1000):Mk Tryz.prog 19 #[s.v] (fun w=>Chains w s l∧Xg w) (AllAtS l):=by
 refine bS Tryz.func19 Tryz.ntmps19 fun av bor w0=>?_
 refine aD (p:=s.n=l.length∧s.n≤maxLen∧(0<l.length→s.p.isSome=true)) (fun w h=>⟨h.1.len_,h.1.max_,h.1.some_⟩) fun ⟨hl,hm,hp⟩=>?_
 simp only [maxLen] at hm
 refine bQ 116 11 ?_
 repeat' (first|refine gs ?_|refine gs1 fun _=>?_|fail)
 refine az (ι:=AllI l) (fun i=>⟨[(3,.slice i.A i.n i.c),(6,s.v),(7,.int .i64 (s.n:Nat)),(8,.int .i64 (i.k:Nat))],[orow 116 11 (.slice i.A i.n i.c) i.n i.xs],fun w=>(Chains w s l∧Xg w)∧Behind w i.P⟩) (fun i=>l.length-i.k) ⟨0,Nat.zero_le _,[],rfl,Nat.zero_le _,0,rfl,[],rfl,none,0⟩ (ak an (al _) fun _ h=>⟨h,Behind.nil⟩) fun i=>?_
 obtain ⟨k,hk,P,hP,hPm,n,hn,xs,hxs,A,cp⟩:=i
 simp only
 repeat' (first|refine gs ?_|refine gs1 fun _=>?_|(refine gp ?_ ?_<;>intro hx_ this)|fail)
 · have hlt:k<l.length:=by omega
   have hp':=hp ac
   obtain ⟨c,hc⟩:∃ c,l[k]?=some c:=⟨_,List.getElem?_eq_getElem hlt⟩
   have hcm:=List.mem_of_getElem? hc
   have hcl:=hlen c hcm
   have hof:=wg c (hok c hcm) ac
   repeat' (first|refine gs ?_|refine gs1 fun _=>?_|(refine aA (q:=k*6) ?_)|(refine aY (cs:=c.cells) (hF:=fun w h=>Chains.get h.1.1 hc) ?_)|(refine gp ?_ ?_<;>intro hx_ this)|fail)
   refine aT (hc:=hof) (hX:=fun w h=>⟨h.1.1.2 c hcm,h.1.2⟩) fun v1 X1 h1=>?_
   obtain ⟨s1,Q,rfl,hQ,hQl,hw⟩:=h1
   refine gG (p:=s1.n=Q.length) (fun w h=>by simpa using Xe.len (hw w h.2).1) fun hl1=>?_
   have hnl:n+s1.n≤1000000:=by omega
   refine aH (size:=11) (news:=(Q.map Xd.cells).flatten) (q:=s1.n) rfl rfl rfl rfl (fun _=>At.there _ (At.here _)) (fun w G=>cO (hw w G.keep.now.2).1 (kG Q)) ac (by simp only [maxLen];omega) rfl ?_ rfl ?_
   · (first|with_reducible rfl|with_reducible assumption|with_reducible exact Bool.not_false|with_reducible exact Bool.not_true)
   intro A2 c2
   repeat' (first|refine gs ?_|refine gs1 fun _=>?_|(refine gp ?_ ?_<;>intro hx_ this)|fail)
   exact ⟨(⟨k+1,hlt,P++Q,by rw [List.map_append,hP,hQ,List.take_add_one,hc,Option.toList_some,List.flatMap_append,List.flatMap_cons,List.flatMap_nil,List.append_nil],by rw [List.length_append];omega,n+s1.n,by rw [List.length_append,hn,hl1],xs++(Q.map Xd.cells).flatten,by rw [hxs,List.map_append,List.flatten_append],A2,c2⟩:AllI l),(by show l.length-(k+1)<l.length-k;omega),ak an (List.Sublist.cons _ (al _)) fun w h=>⟨h.1.1,h.1.2.app (hw w h.2).2⟩⟩
 · have hkE:k=l.length:=by omega
   subst hn hxs
   have hPb:P.length≤1000000:=by omega
   have hst:=sortStable_ct ⟨A,P.length,cp⟩ P rfl hPb
   repeat' (first|refine gs ?_|refine gs1 fun _=>?_|(refine fF (hc:=hst) (h:=fun Q hQ=>?_))|(refine gp ?_ ?_<;>intro hx_ this)|fail)
   exact ae (aj rfl rfl) ⟨⟨A,P.length,cp⟩,Q,rfl,by
    have h1:=hQ.map Xd.can
    rw [hP,hkE,List.take_length] at h1
    exact h1,by rw [hQ.length_eq];exact hPb,fun w h=>⟨aM (h.2 _ ay) (by rw [List.length_map];exact hQ.length_eq.symm) (cells11 Q),fun p hp=>h.1.2 p (hQ.mem_iff.1 hp)⟩⟩
theorem zr (s:Xi) (l:List Xa) (hok:∀ c∈l,Xx c.actsL) (hlen:∀ c∈l,c.actsL.length≤1000) (hll:l.length≤1000):Mk Tryz.prog 19 #[s.v] (fun w=>Chains w s l∧Xg w) (AllPAt l):=rO (xQ s l hok hlen hll) fun u X h=>h.weak
end Go.Proofs.YtgffbiobmamobaaGreatDoor
namespace Go.Proofs.YtgffbiobmamobaaGreatDoor
open Go Go.Proofs Sy
section
variable {P:Program} {N:Nat} {av bor:List Nat} {w0:World} {ops:Array Oper} {rest:List Oper} {kk:St→Prop} {E:Env} {loc:List Xl} {X:World→Prop} {x y:Operand} {t t2:TypeId}
variable {n:Nat} {ty:TypeId} {pos:String} {af:Array Edge} {g:Option (Nat×Bool)} {bb want:Bool}
end
def admV (l:List Xa) (a au:ByteArray):Bool:=bif seqB a au then true else !blockedV l a au
def hasM (c:Xa) (kind:Int) (id:ByteArray):Nat→List (Int×Value)
 | 0=>[]
 | i+1 =>
  let x:=c.actsL.getD i Xc.zero
  let m:=bif decide (x.kind=kind)&&seqB x.object id then mput (hasM c kind id i) (i:Int) (.bool true) else hasM c kind id i
  bif decide (x.kind=6)&&decide (0<m.length) then (match idxV c.actsL x.object with
   | some j=>mdel m (j:Int)
   | none=>m) else m
def hasV (c:Xa) (kind:Int) (id:ByteArray):Bool:=decide (0<(hasM c kind id c.actsL.length).length)
structure HasI (c:Xa) (kind:Int) (id:ByteArray) where
 k:Nat
 hk:k≤c.actsL.length
 M:List (Int×Value)
 hM:M=hasM c kind id k
end Go.Proofs.YtgffbiobmamobaaGreatDoor
namespace Go.Proofs.YtgffbiobmamobaaGreatDoor
open Go Go.Proofs Sy Go.Shelf Go.Maps Go.Sort
def cntB (l:List Xa) (p:Xd) (kind:Int) (ks:List ByteArray) (c:Xa):Bool:=bif hasS ks c.id then false else bif hasV c kind p.id then admV l c.id p.author else false
def actF (l:List Xa) (p:Xd) (kind:Int):Nat→List ByteArray
 | 0=>[]
 | i+1=>bif cntB l p kind (actF l p kind i) (l.getD i Xa.zero) then sput (actF l p kind i) (l.getD i Xa.zero).id else actF l p kind i
structure ActI (l:List Xa) (p:Xd) (kind:Int) where
 k:Nat
 hk:k≤l.length
 M:List ByteArray
 hM:M=actF l p kind k
end Go.Proofs.YtgffbiobmamobaaGreatDoor
namespace Go.Proofs.YtgffbiobmamobaaGreatDoor
open Go Go.Proofs Sy
section
variable {P:Program} {N:Nat} {av bor:List Nat} {w0:World} {ops:Array Oper} {rest:List Oper} {kk:St→Prop} {E:Env} {loc:List Xl} {X:World→Prop} {x y:Operand} {t t2:TypeId}
variable {n:Nat} {ty:TypeId} {pos:String} {af:Array Edge} {g:Option (Nat×Bool)} {bb want:Bool}
end
structure TalD where
 likes:Nat
 boosts:Nat
 replies:Nat
structure TalI (Q:List Xd) (B:Xd→Bool) where
 k:Nat
 hk:k≤Q.length
 n:Nat
 hn:n=(Q.take k).countP B
end Go.Proofs.YtgffbiobmamobaaGreatDoor
namespace Go.Proofs.YtgffbiobmamobaaGreatDoor
open Go Go.Proofs Sy
section
variable {N:Nat} {av bor:List Nat} {w0:World} {x y:Operand} {t2:TypeId} {ty:TypeId} {st:St}
end
end Go.Proofs.YtgffbiobmamobaaGreatDoor
namespace Go.Proofs.YtgffbiobmamobaaGreatDoor
open Go Go.Proofs Sy
end Go.Proofs.YtgffbiobmamobaaGreatDoor
