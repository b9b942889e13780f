/- Joined. -/
import Derived.Test.YtggionfjlgfihaaGreatDoorI0
import Derived.Test.YtggionfjlgfihaaGreatDoorI11
import Derived.Test.YtggionfjlgfihaaGreatDoorI43
import Derived.Test.YtggionfjlgfihaaGreatDoorI14
import Derived.Test.YtggionfjlgfihaaGreatDoorI1
set_option linter.unusedVariables false
set_option linter.unusedSimpArgs false
set_option maxHeartbeats 16000000
namespace Go.Proofs.YtggionfjlgfihaaGreatDoor
open Go Go.Proofs Sy
theorem kZ (L:List Xc):∀ cs∈L.map Xc.cells,cs.all (·.oneCell')=true:=by
 intro r hr
 obtain ⟨a,_,rfl⟩:=List.mem_map.1 hr
 rfl
def Behind (w:World) (P:List Xc):Prop:=∀ p∈P,Strs w p.to p.toL∧Ints w p.ed p.edL
def AllAtS (l:List Xd) (u:Value) (X:World→Prop):Prop:=∃ (s:Xj) (P:List Xc),u=s.v∧(P.map Xc.can).Perm (l.flatMap postsV)∧P.length≤1000000∧∀ w,X w→Xe w 11 s (P.map Xc.cells)∧Behind w P
theorem Behind.nil {w:World}:Behind w []:=fun p hp=>(List.not_mem_nil hp).elim
theorem Behind.app {w:World} {P Q:List Xc} (h:Behind w P) (k:Behind w Q):Behind w (P++Q):=fun p hp=>(List.mem_append.1 hp).elim (h p) (k p)
structure AllI (l:List Xd) where
 k:Nat
 hk:k≤l.length
 P:List Xc
 hP:P.map Xc.can=(l.take k).flatMap postsV
 hm:P.length≤k*1000
 n:Nat
 hn:n=P.length
 xs:List Value
 hxs:xs=(P.map Xc.cells).flatten
 A:Option Addr
 c:Nat
def AllAtO (l:List Xd) (u:Value) (X:World→Prop):Prop:=∃ (s:Xj) (P:List Xc),u=s.v∧(P.map Xc.can).Perm (l.flatMap postsV)∧P.length≤19∧SrP.Ord P P.length∧∀ w,X w→Xe w 11 s (P.map Xc.cells)∧Behind w P
theorem AllAtO.weak {l:List Xd} {u:Value} {X:World→Prop} (h:AllAtO l u X):AllAtS l u X:=by
 obtain ⟨s,P,h1,h2,h3,_,h4⟩:=h
 exact ⟨s,P,h1,h2,by omega,h4⟩
theorem ox (s:Xj) (l:List Xd) (hok:∀ c∈l,Xt c.actsL) (hlen:∀ c∈l,c.actsL.length≤1000) (hll:l.length≤1000) (hcnt:(l.flatMap postsV).length≤19):Mk Tryz.prog 10 #[s.v] (fun w=>Chains w s l∧Xf w) (AllAtO l):=by
 refine cC Tryz.func10 Tryz.ntmps10 fun av bor w0=>?_
 refine aH (p:=s.n=l.length∧s.n≤maxLen∧(0<l.length→s.p.isSome=true)) (fun w h=>⟨h.1.len_,h.1.max_,h.1.some_⟩) fun ⟨hl,hm,hp⟩=>?_
 simp only [maxLen] at hm
 refine bA 54 11 ?_
 repeat' (first|refine gs ?_|refine gs1 fun _=>?_|fail)
 refine am (ι:=AllI l) (fun i=>⟨[(3,.slice i.A i.n i.c),(6,s.v),(7,.int .i64 (s.n:Nat)),(8,.int .i64 (i.k:Nat))],[orow 54 11 (.slice i.A i.n i.c) i.n i.xs],fun w=>(Chains w s l∧Xf w)∧Behind w i.P⟩) (fun i=>l.length-i.k) ⟨0,Nat.zero_le _,[],rfl,Nat.zero_le _,0,rfl,[],rfl,none,0⟩ (ae al (aj _) fun _ h=>⟨h,Behind.nil⟩) fun i=>?_
 obtain ⟨k,hk,P,hP,hPm,n,hn,xs,hxs,A,cp⟩:=i
 simp only
 repeat' (first|refine gs ?_|refine gs1 fun _=>?_|(refine gp ?_ ?_<;>intro hx_ this)|fail)
 · have hlt:k<l.length:=by omega
   have hp':=hp aa
   obtain ⟨c,hc⟩:∃ c,l[k]?=some c:=⟨_,List.getElem?_eq_getElem hlt⟩
   have hcm:=List.mem_of_getElem? hc
   have hcl:=hlen c hcm
   have hof:=wY c (hok c hcm) aa
   repeat' (first|refine gs ?_|refine gs1 fun _=>?_|(refine aE (q:=k*6) ?_)|(refine aS (cs:=c.cells) (hF:=fun w h=>Chains.get h.1.1 hc) ?_)|(refine gp ?_ ?_<;>intro hx_ this)|fail)
   refine bm (hc:=hof) (hX:=fun w h=>⟨h.1.1.2 c hcm,h.1.2⟩) fun v1 X1 h1=>?_
   obtain ⟨s1,Q,rfl,hQ,hQl,hw⟩:=h1
   refine iB (p:=s1.n=Q.length) (fun w h=>by simpa using Xe.len (hw w h.2).1) fun hl1=>?_
   have hnl:n+s1.n≤1000000:=by omega
   refine aC (size:=11) (news:=(Q.map Xc.cells).flatten) (q:=s1.n) rfl rfl rfl rfl (fun _=>At.there _ (At.here _)) (fun w G=>eL (hw w G.keep.now.2).1 (kZ Q)) aa (by simp only [maxLen];omega) rfl ?_ rfl ?_
   · (first|with_reducible rfl|with_reducible assumption|with_reducible exact Bool.not_false|with_reducible exact Bool.not_true)
   intro A2 c2
   repeat' (first|refine gs ?_|refine gs1 fun _=>?_|(refine gp ?_ ?_<;>intro hx_ this)|fail)
   exact ⟨(⟨k+1,hlt,P++Q,by rw [List.map_append,hP,hQ,List.take_add_one,hc,Option.toList_some,List.flatMap_append,List.flatMap_cons,List.flatMap_nil,List.append_nil],by rw [List.length_append];omega,n+s1.n,by rw [List.length_append,hn,hl1],xs++(Q.map Xc.cells).flatten,by rw [hxs,List.map_append,List.flatten_append],A2,c2⟩:AllI l),(by show l.length-(k+1)<l.length-k;omega),ae al (List.Sublist.cons _ (aj _)) fun w h=>⟨h.1.1,h.1.2.app (hw w h.2).2⟩⟩
 · have hkE:k=l.length:=by omega
   subst hn hxs
   have hPb:P.length≤1000000:=by omega
   have hPc:P.length≤19:=by
    have h1:=congrArg List.length hP
    rw [hkE,List.take_length,List.length_map] at h1
    omega
   have hst:=SrP.sortStable_ct ⟨A,P.length,cp⟩ P rfl hPc
   repeat' (first|(refine aZ (pre:=[postR ⟨A,P.length,cp⟩ P]) (fr:=[]) (first:=#[]) (caps:=#[]) (hc:=hst) (hX:=fun _ _=>trivial) (h:=?_);rintro v R X' ⟨rfl,Q,⟨hQ,hO⟩,rfl⟩)|refine gs ?_|refine gs1 fun _=>?_|(refine gp ?_ ?_<;>intro hx_ this)|fail)
   exact ab (ai rfl rfl) ⟨⟨A,P.length,cp⟩,Q,rfl,by
    have h1:=hQ.map Xc.can
    rw [hP,hkE,List.take_length] at h1
    exact h1,by rw [hQ.length_eq];exact hPc,hO,fun w h=>⟨aV (h.2 _ ap) (by rw [List.length_map];exact hQ.length_eq.symm) (cells11 Q),fun p hp=>h.1.1.2 p (hQ.mem_iff.1 hp)⟩⟩
structure SmaI (n:Nat) where
 k:Nat
 hk:k≤n
theorem nF (s t:Xj) (P Q:List Xc) (h:P.map Xc.can=Q.map Xc.can):Pu Tryz.prog 11 #[s.v,t.v] (fun w=>(Xe w 11 s (P.map Xc.cells)∧Behind w P)∧(Xe w 11 t (Q.map Xc.cells)∧Behind w Q)) (.bool true):=by
 refine ar Tryz.func11 Tryz.ntmps11 fun av bor w0=>?_
 have hPQ:P.length=Q.length:=by simpa using congrArg List.length h
 refine aH (p:=(s.n=P.length∧s.n≤maxLen∧(0<P.length→s.p.isSome=true))∧(t.n=Q.length∧t.n≤maxLen∧(0<Q.length→t.p.isSome=true))) (fun w h=>⟨⟨by simpa using Xe.len h.1.1,Nat.le_trans (Xe.cap h.1.1) (Xe.max h.1.1),fun h0=>(Xe.row h.1.1 0 P[0].cells (by simp [List.getElem?_eq_getElem h0])).2.1⟩,by simpa using Xe.len h.2.1,Nat.le_trans (Xe.cap h.2.1) (Xe.max h.2.1),fun h0=>(Xe.row h.2.1 0 Q[0].cells (by simp [List.getElem?_eq_getElem h0])).2.1⟩) fun ⟨⟨hl,hm,hp⟩,⟨hl',hm',hp'⟩⟩=>?_
 simp only [maxLen] at hm hm'
 repeat' (first|refine dP ?_|refine gs ?_|(refine gp ?_ ?_<;>intro hx_ this)|fail)
 refine am (ι:=SmaI P.length) (fun i=>⟨[(0,s.v),(1,t.v),(5,.int .i64 (i.k:Nat))],[],fun w=>(Xe w 11 s (P.map Xc.cells)∧Behind w P)∧(Xe w 11 t (Q.map Xc.cells)∧Behind w Q)⟩) (fun i=>P.length-i.k) ⟨0,Nat.zero_le _⟩ (ae al (aj _) fun _ h=>h) fun i=>?_
 obtain ⟨k,hk⟩:=i
 simp only
 by_cases hlt:k<P.length
 · have hp1:=hp aa
   have hp2:=hp' aa
   obtain ⟨p,hx⟩:∃ p,P[k]?=some p:=⟨_,List.getElem?_eq_getElem hlt⟩
   obtain ⟨q,hy⟩:∃ q,Q[k]?=some q:=⟨_,List.getElem?_eq_getElem aa⟩
   have hpq:p.can=q.can:=by
    have h1:=congrArg (fun l=>l[k]?) h
    simp only [List.getElem?_map,hx,hy] at h1
    exact Option.some.inj h1
   have hsm:=mr p q hpq
   have hpm:=List.mem_of_getElem? hx
   have hqm:=List.mem_of_getElem? hy
   repeat' (first|refine aO ?_ (bj true rfl rfl (decide_eq_true aa))|refine gs ?_|(refine gp ?_ ?_<;>intro hx_ this)|fail)
   (refine bE ⟨[0,1,2,3,4,5,6,7],[(8,⟨[9],[]⟩)]⟩ (h:=?_))
   all_goals repeat' (first|refine ax (hy:=by first|(apply g7 true;rfl;rfl)) ?_|(refine ag (hc:=hsm) (hX:=fun w h=>⟨h.1.2 p hpm,h.2.2 q hqm⟩) ?_)|refine gd ?_|refine ax (hy:=by first|(apply aG (q:=k*11);rfl;rfl;omega;omega;assumption;omega)|(apply dN (cs:=p.cells);rfl;exact fun w h=>Xe.row h.1.1 k p.cells (by rw [List.getElem?_map,hx];rfl))|(apply dN (cs:=q.cells);rfl;exact fun w h=>Xe.row h.2.1 k q.cells (by rw [List.getElem?_map,hy];rfl))) ?_|refine ay ?_ (h':=?_)|exact az|(refine gq ?_ ?_<;>intro hx_ this)|fail)
   all_goals
    repeat' (first|refine gs ?_|(refine gp ?_ ?_<;>intro hx_ this)|fail)
    all_goals first
     | exact ⟨(⟨k+1,hlt⟩:SmaI P.length),(by show P.length-(k+1)<P.length-k;omega),ae al (aj _) fun _ h=>h⟩
 · repeat' (first|refine aO ?_ (bj false rfl rfl (decide_eq_false aa))|refine gs ?_|(refine gp ?_ ?_<;>intro hx_ this)|fail)
   all_goals first
    | exact ab (ai rfl rfl) rfl
end Go.Proofs.YtggionfjlgfihaaGreatDoor
