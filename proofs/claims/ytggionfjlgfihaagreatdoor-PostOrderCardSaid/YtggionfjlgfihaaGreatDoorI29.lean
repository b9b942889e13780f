/- Joined. -/
import Derived.Test.YtggionfjlgfihaaGreatDoorI0
import Derived.Test.YtggionfjlgfihaaGreatDoorI11
import Derived.Test.YtggionfjlgfihaaGreatDoorI28
import Derived.Test.YtggionfjlgfihaaGreatDoorI8
import Derived.Test.YtggionfjlgfihaaGreatDoorI14
import Derived.Test.YtggionfjlgfihaaGreatDoorI7
import Derived.Test.YtggionfjlgfihaaGreatDoorI9
set_option linter.unusedVariables false
set_option linter.unusedSimpArgs false
set_option maxHeartbeats 16000000
namespace Go.Proofs.YtggionfjlgfihaaGreatDoor
open Go Go.Proofs Sy
def intV (n:Int):Value:=.int .i64 n
def histV (l:List Xd) (p:Xc) (r:ByteArray):List Int:=bif p.gone then [] else match findC l p.author with
 | none=>[]
 | some c=>((p.pos:Int)::p.edL).filter fun i=>mayV c i r
structure ChOk (c:Xd):Prop where
 acts:Xt c.actsL
 len:c.actsL.length≤1000000
 to:∀ x∈c.actsL,x.to.n≤1000000
def IntsAt (l:List Int) (u:Value) (X:World→Prop):Prop:=∃ s:Xj,u=s.v∧∀ w,X w→Ints w s l
theorem jO {w:World} {e n c:Nat} {A:Option Addr} {l:List Int} (h:ORow w e 1 (.slice A n c) n (l.map intV)) (hn:n=l.length):Ints w ⟨A,n,c⟩ l:=by
 have e1:(l.map fun n=>[(.int .i64 n:Value)]).flatten=l.map intV:=by
  clear h hn
  induction l with
  | nil=>rfl
  | cons a l ih=>rw [List.map_cons,List.flatten_cons,ih];rfl
 rw [←e1] at h
 exact aV h (by rw [List.length_map,hn]) fun r hr=>by
  obtain ⟨n,_,rfl⟩:=List.mem_map.1 hr
  rfl
theorem wI {p:Xc} {b:Bool} (h:p.gone=b):p.v=.agg #[.string p.id,.string p.author,.int .i64 (p.pos:Nat),.int .i64 p.kind,.int .i64 p.scope,.string p.group,p.to.v,.string p.object,.int .i64 p.time,p.ed.v,.bool b]:=by rw [Xc.v,Xc.cells,h]
theorem xM {l:List Xd} {k:ByteArray} {c:Xd} (h:findC l k=some c):c∈l:=List.mem_of_find?_eq_some h
structure HisI (m:Nat) where
 k:Nat
 hk:k≤m
 A:Option Addr
 c:Nat
theorem oH {α:Type} (f:α→Bool) (a:α) (L:List α) {k:Nat} {x:α} (hx:L[k]?=some x):((a::L).take (k+2)).filter f=((a::L).take (k+1)).filter f++bif f x then [x] else []:=by
 have e:(a::L).take (k+2)=(a::L).take (k+1)++[x]:=by
  rw [List.take_add_one (i:=k+1),List.getElem?_cons_succ,hx];rfl
 rw [e,List.filter_append]
 cases h:f x<;>simp [h]
theorem rq (s:Xj) (l:List Xd) (p:Xc) (r:ByteArray) (hok:∀ c∈l,ChOk c) (hel:p.edL.length≤1000000) :
  Mk Tryz.prog 57 #[s.v,p.v,.string r] (fun w=>(Chains w s l∧Ints w p.ed p.edL)∧Xf w) (IntsAt (histV l p r)):=by
 refine cC Tryz.func57 Tryz.ntmps57 fun av bor w0=>?_
 cases hg:p.gone with
 | true =>
  have e:histV l p r=[]:=by rw [histV,hg];rfl
  rw [e]
  rw [wI hg]
  repeat' (first|refine gs ?_|refine gs1 fun _=>?_|(refine gp ?_ ?_<;>intro hx_ this)|fail)
  all_goals exact ab (ai rfl rfl) ⟨⟨none,0,0⟩,rfl,fun w _=>aJ w 1⟩
 | false =>
  refine aH (p:=p.ed.n=p.edL.length∧p.ed.n≤maxLen∧(0<p.edL.length→p.ed.p.isSome=true)) (fun w h=>⟨h.1.2.len_,Nat.le_trans (Xe.cap h.1.2) (Xe.max h.1.2),h.1.2.some_⟩) fun ⟨hn,hm,hp⟩=>?_
  simp only [maxLen] at hm
  have hfi:=zx s l p.author
  cases hf:findC l p.author with
  | none =>
   rw [hf] at hfi
   replace hfi:Pu Tryz.prog 108 #[s.v,.string p.author] (fun w=>Chains w s l) (.tuple #[Xd.zero.v,.bool false]):=hfi
   have e:histV l p r=[]:=by rw [histV,hg,hf];rfl
   rw [e]
   clear e
   rw [wI hg]
   repeat' (first|(refine ag (hc:=hfi) (hX:=fun w h=>h.1.1) ?_)|refine gs ?_|refine gs1 fun _=>?_|(refine gp ?_ ?_<;>intro hx_ this)|fail)
   all_goals exact ab (ai rfl rfl) ⟨⟨none,0,0⟩,rfl,fun w _=>aJ w 1⟩
  | some c =>
   rw [hf] at hfi
   replace hfi:Pu Tryz.prog 108 #[s.v,.string p.author] (fun w=>Chains w s l) (.tuple #[c.v,.bool true]):=hfi
   have hcm:=xM hf
   have hco:=hok c hcm
   have e:histV l p r=((p.pos:Int)::p.edL).filter fun i=>mayV c i r:=by rw [histV,hg,hf];rfl
   rw [e]
   clear e
   have hmay:=fun i=>AP c hco.acts hco.len hco.to i r
   rw [wI hg]
   refine bA 3 1 ?_
   repeat' (first|(refine ag (hc:=hfi) (hX:=fun w h=>h.1.1) ?_)|refine gs ?_|refine gs1 fun _=>?_|(refine gp ?_ ?_<;>intro hx_ this)|fail)
   rename_i b1 b2
   generalize hcs:(Value.agg #[.string p.id,.string p.author,.int .i64 (p.pos:Nat),.int .i64 p.kind,.int .i64 p.scope,.string p.group,p.to.v,.string p.object,.int .i64 p.time,p.ed.v,.bool false])=pv
   have hF1:∀ k x,p.edL[k]?=some x→(((p.pos:Int)::p.edL).take (k+1+1)).filter (fun i=>mayV c i r)=(((p.pos:Int)::p.edL).take (k+1)).filter (fun i=>mayV c i r)++bif mayV c x r then [x] else []:=fun k x hx=>oH (fun i=>mayV c i r) _ _ hx
   have hFl:∀ k,((((p.pos:Int)::p.edL).take (k+1)).filter fun i=>mayV c i r).length≤1000001:=fun k=>by
    have h1:=List.length_filter_le (fun i=>mayV c i r) (((p.pos:Int)::p.edL).take (k+1))
    have h2:=List.length_take_le (k+1) ((p.pos:Int)::p.edL)
    have h3:((p.pos:Int)::p.edL).length=p.edL.length+1:=rfl
    have h4:=List.length_take_le' (k+1) ((p.pos:Int)::p.edL)
    omega
   have hFe:(((p.pos:Int)::p.edL).take (p.edL.length+1)).filter (fun i=>mayV c i r)=((p.pos:Int)::p.edL).filter fun i=>mayV c i r:=by rw [List.take_of_length_le (by simp)]
   have hF0:(((p.pos:Int)::p.edL).take (0+1)).filter (fun i=>mayV c i r)=bif mayV c p.pos r then [(p.pos:Int)] else []:=by
    show [(p.pos:Int)].filter _=_
    cases h:mayV c p.pos r<;>simp [h]
   have hd:=hmay p.pos
   generalize hFF:(fun k:Nat=>(((p.pos:Int)::p.edL).take (k+1)).filter fun i=>mayV c i r)=F at *
   have hF:∀ k,(((p.pos:Int)::p.edL).take (k+1)).filter (fun i=>mayV c i r)=F k:=fun k=>congrFun hFF k
   rw [←hFe]
   simp only [hF] at *
   cases h0:mayV c p.pos r
   · rw [h0] at hd hF0
     simp only [cond_true,cond_false] at hF0
     subst hcs
     repeat' (first|(refine ag (hc:=hd) (hX:=fun w h=>⟨h.1.1.2 c hcm,h.2⟩) ?_)|refine gs ?_|refine gs1 fun _=>?_|(refine gp ?_ ?_<;>intro hx_ this)|fail)
     refine am (ι:=HisI p.edL.length) (fun i=>⟨[(2,.string r),(4,.pointer (some ⟨b1,0,none⟩)),(7,.pointer (some ⟨b2,0,none⟩)),(9,.slice i.A (F i.k).length i.c),(34,p.ed.v),(35,.int .i64 (p.ed.n:Nat)),(36,.int .i64 (i.k:Nat))],[cel b2 67 c.cells,cel b1 54 [.string p.id,.string p.author,.int .i64 (p.pos:Nat),.int .i64 p.kind,.int .i64 p.scope,.string p.group,p.to.v,.string p.object,.int .i64 p.time,p.ed.v,.bool false],orow 3 1 (.slice i.A (F i.k).length i.c) (F i.k).length ((F i.k).map intV)],fun w=>(Chains w s l∧Ints w p.ed p.edL)∧Xf w⟩) (fun i=>p.edL.length-i.k) ⟨0,Nat.zero_le _,none,0⟩ (ae (by simp only [hF0,List.length_nil,List.length_cons];exact ⟨rfl,rfl,rfl,rfl,rfl,rfl,rfl,trivial⟩) (by simp only [hF0,List.length_nil,List.length_cons,List.map_nil,List.map_cons];exact aj _) fun _ h=>h) fun i=>?_
     have hik:=i.hk
     obtain ⟨k,hk,A,cp⟩:=i
     simp only at hik ⊢
     repeat' (first|refine gs ?_|refine gs1 fun _=>?_|(refine gp ?_ ?_<;>intro hx_ this)|fail)
     · have hlt:k<p.edL.length:=by omega
       have hp':=hp aa
       obtain ⟨x,hx⟩:∃ x,p.edL[k]?=some x:=⟨_,List.getElem?_eq_getElem hlt⟩
       have hxD:p.edL.getD k 0=x:=by rw [List.getD_eq_getElem?_getD,hx];rfl
       have hfl:=hFl k
       have hst:=hF1 k x hx
       have hdx:=hmay x
       generalize hac:F k=acc at *
       cases hmx:mayV c x r
       · rw [hmx] at hdx hst
         simp only [cond_false,List.append_nil] at hst
         repeat' (first|(refine ag (hc:=hdx) (hX:=fun w h=>⟨h.1.1.2 c hcm,h.2⟩) ?_)|refine gs ?_|refine gs1 fun _=>?_|(refine aE (q:=k) ?_)|(refine cg (u:=.int .i64 x) (hF:=fun w h=>hxD▸Ints.get h.1.2 hlt) ?_)|(refine gp ?_ ?_<;>intro hx_ this)|fail)
         exact ⟨(⟨k+1,hlt,A,cp⟩:HisI p.edL.length),(by show p.edL.length-(k+1)<p.edL.length-k;omega),ae (by simp only [hst];exact ⟨rfl,rfl,rfl,rfl,rfl,rfl,rfl,trivial⟩) (by simp only [hst];exact aj _) fun _ h=>h⟩
       · rw [hmx] at hdx hst
         simp only [cond_true] at hst
         repeat' (first|(refine ag (hc:=hdx) (hX:=fun w h=>⟨h.1.1.2 c hcm,h.2⟩) ?_)|(refine aC (size:=1) (news:=[intV x]) (q:=1) rfl rfl rfl rfl (fun _=>At.there _ (At.there _ (At.there _ (At.here _)))) (fun w G=>aU G ap rfl rfl 1) aa (by simp only [maxLen];omega) rfl ?_ rfl ?_;(first|with_reducible rfl|with_reducible assumption|with_reducible exact Bool.not_false|with_reducible exact Bool.not_true);intro A2 c2)|refine gs ?_|refine gs1 fun _=>?_|(refine aE (q:=k) ?_)|(refine cg (u:=.int .i64 x) (hF:=fun w h=>hxD▸Ints.get h.1.2 hlt) ?_)|(refine gp ?_ ?_<;>intro hx_ this)|fail)
         exact ⟨(⟨k+1,hlt,A2,c2⟩:HisI p.edL.length),(by show p.edL.length-(k+1)<p.edL.length-k;omega),ae (by simp only [hst,List.length_append,List.length_cons,List.length_nil,Nat.zero_add];exact ⟨rfl,rfl,rfl,rfl,rfl,rfl,rfl,trivial⟩) (by simp only [hst,List.length_append,List.length_cons,List.length_nil,Nat.zero_add,List.map_append,List.map_cons,List.map_nil];exact List.Sublist.cons _ (aj _)) fun _ h=>h⟩
     · have hkE:k=p.edL.length:=by omega
       subst hkE
       exact ab (ai rfl rfl) ⟨⟨A,(F p.edL.length).length,cp⟩,rfl,fun w h=>jO (h.2 (orow 3 1 (.slice A (F p.edL.length).length cp) (F p.edL.length).length ((F p.edL.length).map intV)) (.tail _ (.tail _ (.head _)))) rfl⟩
   · rw [h0] at hd hF0
     simp only [cond_true,cond_false] at hF0
     subst hcs
     repeat' (first|(refine ag (hc:=hd) (hX:=fun w h=>⟨h.1.1.2 c hcm,h.2⟩) ?_)|(refine aC (size:=1) (news:=[intV p.pos]) (q:=1) rfl rfl rfl rfl (fun _=>At.there _ (At.there _ (At.there _ (At.here _)))) (fun w G=>aU G ap rfl rfl 1) aa (by simp only [maxLen];omega) rfl ?_ rfl ?_;(first|with_reducible rfl|with_reducible assumption|with_reducible exact Bool.not_false|with_reducible exact Bool.not_true);intro A2 c2)|refine gs ?_|refine gs1 fun _=>?_|(refine gp ?_ ?_<;>intro hx_ this)|fail)
     refine am (ι:=HisI p.edL.length) (fun i=>⟨[(2,.string r),(4,.pointer (some ⟨b1,0,none⟩)),(7,.pointer (some ⟨b2,0,none⟩)),(9,.slice i.A (F i.k).length i.c),(34,p.ed.v),(35,.int .i64 (p.ed.n:Nat)),(36,.int .i64 (i.k:Nat))],[cel b2 67 c.cells,cel b1 54 [.string p.id,.string p.author,.int .i64 (p.pos:Nat),.int .i64 p.kind,.int .i64 p.scope,.string p.group,p.to.v,.string p.object,.int .i64 p.time,p.ed.v,.bool false],orow 3 1 (.slice i.A (F i.k).length i.c) (F i.k).length ((F i.k).map intV)],fun w=>(Chains w s l∧Ints w p.ed p.edL)∧Xf w⟩) (fun i=>p.edL.length-i.k) ⟨0,Nat.zero_le _,A2,c2⟩ (ae (by simp only [hF0,List.length_nil,List.length_cons];exact ⟨rfl,rfl,rfl,rfl,rfl,rfl,rfl,trivial⟩) (by simp only [hF0,List.length_nil,List.length_cons,List.map_nil,List.map_cons];exact List.Sublist.cons _ (aj _)) fun _ h=>h) fun i=>?_
     have hik:=i.hk
     obtain ⟨k,hk,A,cp⟩:=i
     simp only at hik ⊢
     repeat' (first|refine gs ?_|refine gs1 fun _=>?_|(refine gp ?_ ?_<;>intro hx_ this)|fail)
     · have hlt:k<p.edL.length:=by omega
       have hp':=hp aa
       obtain ⟨x,hx⟩:∃ x,p.edL[k]?=some x:=⟨_,List.getElem?_eq_getElem hlt⟩
       have hxD:p.edL.getD k 0=x:=by rw [List.getD_eq_getElem?_getD,hx];rfl
       have hfl:=hFl k
       have hst:=hF1 k x hx
       have hdx:=hmay x
       generalize hac:F k=acc at *
       cases hmx:mayV c x r
       · rw [hmx] at hdx hst
         simp only [cond_false,List.append_nil] at hst
         repeat' (first|(refine ag (hc:=hdx) (hX:=fun w h=>⟨h.1.1.2 c hcm,h.2⟩) ?_)|refine gs ?_|refine gs1 fun _=>?_|(refine aE (q:=k) ?_)|(refine cg (u:=.int .i64 x) (hF:=fun w h=>hxD▸Ints.get h.1.2 hlt) ?_)|(refine gp ?_ ?_<;>intro hx_ this)|fail)
         exact ⟨(⟨k+1,hlt,A,cp⟩:HisI p.edL.length),(by show p.edL.length-(k+1)<p.edL.length-k;omega),ae (by simp only [hst];exact ⟨rfl,rfl,rfl,rfl,rfl,rfl,rfl,trivial⟩) (by simp only [hst];exact aj _) fun _ h=>h⟩
       · rw [hmx] at hdx hst
         simp only [cond_true] at hst
         repeat' (first|(refine ag (hc:=hdx) (hX:=fun w h=>⟨h.1.1.2 c hcm,h.2⟩) ?_)|(refine aC (size:=1) (news:=[intV x]) (q:=1) rfl rfl rfl rfl (fun _=>At.there _ (At.there _ (At.there _ (At.here _)))) (fun w G=>aU G ap rfl rfl 1) aa (by simp only [maxLen];omega) rfl ?_ rfl ?_;(first|with_reducible rfl|with_reducible assumption|with_reducible exact Bool.not_false|with_reducible exact Bool.not_true);intro A2 c2)|refine gs ?_|refine gs1 fun _=>?_|(refine aE (q:=k) ?_)|(refine cg (u:=.int .i64 x) (hF:=fun w h=>hxD▸Ints.get h.1.2 hlt) ?_)|(refine gp ?_ ?_<;>intro hx_ this)|fail)
         exact ⟨(⟨k+1,hlt,A2,c2⟩:HisI p.edL.length),(by show p.edL.length-(k+1)<p.edL.length-k;omega),ae (by simp only [hst,List.length_append,List.length_cons,List.length_nil,Nat.zero_add];exact ⟨rfl,rfl,rfl,rfl,rfl,rfl,rfl,trivial⟩) (by simp only [hst,List.length_append,List.length_cons,List.length_nil,Nat.zero_add,List.map_append,List.map_cons,List.map_nil];exact List.Sublist.cons _ (aj _)) fun _ h=>h⟩
     · have hkE:k=p.edL.length:=by omega
       subst hkE
       exact ab (ai rfl rfl) ⟨⟨A,(F p.edL.length).length,cp⟩,rfl,fun w h=>jO (h.2 (orow 3 1 (.slice A (F p.edL.length).length cp) (F p.edL.length).length ((F p.edL.length).map intV)) (.tail _ (.tail _ (.head _)))) rfl⟩
def lastV (l:List Xd) (p:Xc) (r:ByteArray):Value:=.tuple #[.int .i64 ((histV l p r).getLast?.getD 0),.bool (histV l p r).getLast?.isSome]
theorem zp (s:Xj) (l:List Xd) (p:Xc) (r:ByteArray) (hok:∀ c∈l,ChOk c) (hel:p.edL.length≤1000000) :
  Pu Tryz.prog 21 #[s.v,p.v,.string r] (fun w=>(Chains w s l∧Ints w p.ed p.edL)∧Xf w) (lastV l p r):=by
 refine ar Tryz.func21 Tryz.ntmps21 fun av bor w0=>?_
 have hh:=rq s l p r hok hel
 rw [lastV]
 generalize histV l p r=H at *
 repeat' (first|refine gs ?_|refine gs1 fun _=>?_|fail)
 refine bm (hc:=hh) fun v1 X1 h1=>?_
 obtain ⟨s1,rfl,hs1⟩:=h1
 refine iB (p:=s1.n=H.length∧s1.n≤maxLen∧(0<H.length→s1.p.isSome=true)) (fun w h=>⟨(hs1 w h.2).len_,Nat.le_trans (Xe.cap (hs1 w h.2)) (Xe.max (hs1 w h.2)),(hs1 w h.2).some_⟩) fun ⟨hn,hm,hp⟩=>?_
 simp only [maxLen] at hm
 by_cases h0:H.length=0
 · have e:H=[]:=List.length_eq_zero_iff.1 h0
   subst e
   repeat' (first|refine bp ?_|refine bo ?_|refine gs ?_|refine gs1 fun _=>?_|(refine gp ?_ ?_<;>intro hx_ this)|fail)
   exact ab (dy rfl rfl rfl) rfl
 · have hlt:H.length-1<H.length:=by omega
   have hp':=hp aa
   have e:H.getLast?=some (H.getD (H.length-1) 0):=by
    rw [List.getLast?_eq_getElem?,List.getD_eq_getElem?_getD,List.getElem?_eq_getElem hlt];rfl
   rw [e]
   repeat' (first|refine bp ?_|refine bo ?_|refine gs ?_|refine gs1 fun _=>?_|(refine aE (q:=H.length-1) ?_)|(refine cg (u:=.int .i64 (H.getD (H.length-1) 0)) (hF:=fun w h=>Ints.get (hs1 w h.2) hlt) ?_)|(refine gp ?_ ?_<;>intro hx_ this)|fail)
   exact ab (dy rfl rfl rfl) rfl
end Go.Proofs.YtggionfjlgfihaaGreatDoor
namespace Go.Proofs.YtggionfjlgfihaaGreatDoor
open Go Go.Proofs Sy
section
variable {P:Program} {N:Nat} {av bor:List Nat} {w0:World} {E:Env} {loc:List Xk} {X:World→Prop}
theorem ng {k:IntKind} {a b:Int} {st:St} {t t2 ty:TypeId} {x y:Operand} [hI:Xw P t k] (v:Bool) (hx:ev st.env x=some (.int k a)) (hy:ev st.env y=some (.int k b)) (hv:decide (b<a)=v):Sy.Yields P N av bor w0 st (.binOp .gtr t x y t2) ty (.bool v):=hv▸jA hx hy
end
end Go.Proofs.YtggionfjlgfihaaGreatDoor
namespace Go.Proofs.YtggionfjlgfihaaGreatDoor
open Go Go.Proofs Sy
structure RowA (n:Nat) where
 k:Nat
 hk:k≤n
 A:Option Addr
 c:Nat
theorem U8s.part {w:World} {s:Xj} {l:List Nat} (h:U8s w s l) {i n:Nat} (hi:i+n≤l.length):U8s w ⟨(s.from 1 i).p,n,s.c-i⟩ ((l.drop i).take n):=by
 have h1:=Xe.drop h (n:=i) (by rw [List.length_map];omega)
 rw [←List.map_drop] at h1
 have h2:=Xe.take h1 (n:=n) (by rw [List.length_map,List.length_drop];omega)
 rw [←List.map_take] at h2
 exact h2
section
variable {P:Program} {N:Nat} {av bor:List Nat} {w0:World} {st:St} {ty:TypeId} {x y z:Operand} {t t2:TypeId} {a b:Nat}
end
structure ShaI (L:List Nat) (m:Nat) where
 k:Nat
 hk:k≤m
 s:Xj
 S:S8
 lt:S.Lt
 run:runN (m-k) S (L.drop (64*k))=runN m iniN L
structure Xa.Str (a:Xa):Prop where
 author:a.author.size≤maxLen
 target:a.target.size≤maxLen
 group:a.group.size≤maxLen
 text:a.text.size≤maxLen
 to:∀ x∈a.toL,x.size≤maxLen
end Go.Proofs.YtggionfjlgfihaaGreatDoor
namespace Go.Proofs.YtggionfjlgfihaaGreatDoor
open Go Go.Proofs Sy
section
variable {N:Nat} {av bor:List Nat} {w0:World} {ops:Array Oper} {rest:List Oper} {kk:St→Prop} {E:Env} {loc:List Xk} {X:World→Prop} {n:Nat} {ty t2:TypeId} {pos:String} {af:Array Edge} {g:Option (Nat×Bool)} {bb want:Bool} {x y:Operand} {a b c d:Int}
end
end Go.Proofs.YtggionfjlgfihaaGreatDoor

namespace Go.Proofs.YtggionfjlgfihaaGreatDoor
open Go Go.Proofs Sy
theorem CellAt.same {w:World} {p:Option Addr} {q:Nat} {u v:Value} (h1:CellAt w p q u) (h2:CellAt w p q v):u=v:=by
 obtain ⟨a,ha⟩:=Option.isSome_iff_exists.1 h1.1
 have:=(h1.2 a ha).symm.trans (h2.2 a ha)
 exact Option.some.inj this
theorem Strs.same {w:World} {s:Xj} {l m:List ByteArray} (h1:Strs w s l) (h2:Strs w s m):l=m:=by
 have hl:l.length=m.length:=h1.len_.symm.trans h2.len_
 apply List.ext_getElem hl
 intro i i1 i2
 have a1:=h1.at_ (List.getElem?_eq_getElem i1)
 have a2:=h2.at_ (List.getElem?_eq_getElem i2)
 exact Value.string.inj (CellAt.same a1 a2)
section
variable {H:Type} {enc:TypeId×Value→H} {P:Program} {w:World} {base:Nat} {spare:Nat→Bool} {held:Bool}
theorem Xj.v_inj {s t:Xj} (h:s.v=t.v):s=t:=by
 obtain ⟨p,n,c⟩:=s
 obtain ⟨p',n',c'⟩:=t
 simp only [Xj.v,Value.slice.injEq] at h
 obtain ⟨rfl,rfl,rfl⟩:=h
 rfl
theorem yl {fuel:Nat} {a:Xa} {x:DataW H×List MemPlace} (h:DataW.trod enc Tryz.prog w base spare held fuel 37 a.cells=some x) (ha:a.at_ w):a.Str:=by
 obtain ⟨n0,y0,h0⟩:=aN (i:=0) (off:=0) (k:=1) (t':=9) Tryz.underlying37 h rfl rfl rfl ac
 obtain ⟨n6,y6,h6⟩:=aN (i:=6) (off:=6) (k:=1) (t':=9) Tryz.underlying37 h rfl rfl rfl ac
 obtain ⟨n8,y8,h8⟩:=aN (i:=8) (off:=8) (k:=1) (t':=9) Tryz.underlying37 h rfl rfl rfl ac
 obtain ⟨n9,y9,h9⟩:=aN (i:=9) (off:=9) (k:=1) (t':=30) Tryz.underlying37 h rfl rfl rfl ac
 obtain ⟨n10,y10,h10⟩:=aN (i:=10) (off:=10) (k:=1) (t':=9) Tryz.underlying37 h rfl rfl rfl ac
 obtain ⟨s0,e0,b0⟩:=bt h0
 obtain ⟨s6,e6,b6⟩:=bt h6
 obtain ⟨s8,e8,b8⟩:=bt h8
 obtain ⟨s9,l9,e9,r9,b9⟩:=g0 h9
 obtain ⟨s10,e10,b10⟩:=bt h10
 simp [Xa.cells] at e0 e6 e8 e9 e10
 have e9':=Xj.v_inj e9
 subst e0;subst e6;subst e8;subst e10
 rw [←e9'] at r9
 have e:=Strs.same ha.1 r9
 exact ⟨b0,b6,b8,b10,by rw [e];exact b9⟩
theorem ut {fuel:Nat} {cs:List Value} {x:DataW H×List MemPlace} (h:DataW.trod enc Tryz.prog w base spare held fuel 37 cs=some x):∃ a:Xa,cs=a.cells∧a.at_ w∧a.Rng∧a.target.size≤maxLen∧a.Str:=by
 obtain ⟨a,e,h1,h2,h3⟩:=wX h
 subst e
 exact ⟨a,rfl,h1,h2,h3,yl h h1⟩
end
end Go.Proofs.YtggionfjlgfihaaGreatDoor
namespace Go.Proofs.YtggionfjlgfihaaGreatDoor
open Go Go.Proofs Sy Go.RowKit Go.Deep Go.ChangeShapes
structure Xg.Str (c:Xg):Prop where
 actor:c.actor.size≤maxLen
 prev:c.prev.size≤maxLen
 rng:c.base<9223372036854775808∧c.gen<9223372036854775808∧c.home<9223372036854775808∧c.pub<9223372036854775808∧c.time<9223372036854775808∧c.e<9223372036854775808∧c.s<9223372036854775808
structure Xi.Str (b:Xi):Prop where
 actor:b.actor.size≤maxLen
 claim:b.claim.size≤maxLen
 rng:b.server<9223372036854775808∧b.gen<9223372036854775808∧b.time<9223372036854775808∧b.e<9223372036854775808∧b.s<9223372036854775808
structure Xr.Str (d:Xr):Prop where
 actor:d.actor.size≤maxLen
 object:d.object.size≤maxLen
 text:d.text.size≤maxLen
 to:∀ x∈d.toL,x.size≤maxLen
 rng:d.server<9223372036854775808∧d.number<9223372036854775808∧d.kind<9223372036854775808∧d.n<9223372036854775808∧d.from_<9223372036854775808∧d.until_<9223372036854775808∧d.e<9223372036854775808∧d.s<9223372036854775808
structure Xb.Str (i:Xb):Prop where
 act:i.act.Str
 rng:i.act.Rng
 claim:i.claim.Str
 ballot:i.ballot.Str
 dec:i.dec.Str
section
variable {H:Type} {enc:TypeId×Value→H} {P:Program} {w:World} {base:Nat} {spare:Nat→Bool} {held:Bool}
theorem q8 {fuel:Nat} {cs:List Value} {x:DataW H×List MemPlace} (h:DataW.trod enc Tryz.prog w base spare held fuel 39 cs=some x):∃ a:Xg,cs=a.cells∧a.Str:=by
 have hl:=gx Tryz.underlying39 (k:=9) ac h
 obtain ⟨n0,y0,h0⟩:=aN (i:=0) (off:=0) (k:=1) (t':=9) Tryz.underlying39 h rfl rfl rfl ac
 obtain ⟨n1,y1,h1⟩:=aN (i:=1) (off:=1) (k:=1) (t':=3) Tryz.underlying39 h rfl rfl rfl ac
 obtain ⟨n2,y2,h2⟩:=aN (i:=2) (off:=2) (k:=1) (t':=9) Tryz.underlying39 h rfl rfl rfl ac
 obtain ⟨n3,y3,h3⟩:=aN (i:=3) (off:=3) (k:=1) (t':=3) Tryz.underlying39 h rfl rfl rfl ac
 obtain ⟨n4,y4,h4⟩:=aN (i:=4) (off:=4) (k:=1) (t':=3) Tryz.underlying39 h rfl rfl rfl ac
 obtain ⟨n5,y5,h5⟩:=aN (i:=5) (off:=5) (k:=1) (t':=3) Tryz.underlying39 h rfl rfl rfl ac
 obtain ⟨n6,y6,h6⟩:=aN (i:=6) (off:=6) (k:=1) (t':=3) Tryz.underlying39 h rfl rfl rfl ac
 obtain ⟨n7,y7,h7⟩:=aN (i:=7) (off:=7) (k:=2) (t':=35) Tryz.underlying39 h rfl rfl rfl ac
 match cs,hl with
 | [c0,c1,c2,c3,c4,c5,c6,c7,c8],_ =>
  obtain ⟨s0,e0,b0⟩:=bt h0
  obtain ⟨s1,e1,b1⟩:=aY h1
  obtain ⟨s2,e2,b2⟩:=bt h2
  obtain ⟨s3,e3,b3⟩:=aY h3
  obtain ⟨s4,e4,b4⟩:=aY h4
  obtain ⟨s5,e5,b5⟩:=aY h5
  obtain ⟨s6,e6,b6⟩:=aY h6
  obtain ⟨s7,t7,e7,b7,bb7⟩:=iG h7
  simp at e0 e1 e2 e3 e4 e5 e6 e7
  exact ⟨⟨s0,s1,s2,s3,s4,s5,s6,s7,t7⟩,by simp [Xg.cells,e0,e1,e2,e3,e4,e5,e6,e7],⟨b0,b2,b1,b3,b4,b5,b6,b7,bb7⟩⟩
theorem pt {fuel:Nat} {cs:List Value} {x:DataW H×List MemPlace} (h:DataW.trod enc Tryz.prog w base spare held fuel 41 cs=some x):∃ a:Xi,cs=a.cells∧a.Str:=by
 have hl:=gx Tryz.underlying41 (k:=7) ac h
 obtain ⟨n0,y0,h0⟩:=aN (i:=0) (off:=0) (k:=1) (t':=3) Tryz.underlying41 h rfl rfl rfl ac
 obtain ⟨n1,y1,h1⟩:=aN (i:=1) (off:=1) (k:=1) (t':=9) Tryz.underlying41 h rfl rfl rfl ac
 obtain ⟨n2,y2,h2⟩:=aN (i:=2) (off:=2) (k:=1) (t':=3) Tryz.underlying41 h rfl rfl rfl ac
 obtain ⟨n3,y3,h3⟩:=aN (i:=3) (off:=3) (k:=1) (t':=9) Tryz.underlying41 h rfl rfl rfl ac
 obtain ⟨n4,y4,h4⟩:=aN (i:=4) (off:=4) (k:=1) (t':=3) Tryz.underlying41 h rfl rfl rfl ac
 obtain ⟨n5,y5,h5⟩:=aN (i:=5) (off:=5) (k:=2) (t':=35) Tryz.underlying41 h rfl rfl rfl ac
 match cs,hl with
 | [c0,c1,c2,c3,c4,c5,c6],_ =>
  obtain ⟨s0,e0,b0⟩:=aY h0
  obtain ⟨s1,e1,b1⟩:=bt h1
  obtain ⟨s2,e2,b2⟩:=aY h2
  obtain ⟨s3,e3,b3⟩:=bt h3
  obtain ⟨s4,e4,b4⟩:=aY h4
  obtain ⟨s5,t5,e5,b5,bb5⟩:=iG h5
  simp at e0 e1 e2 e3 e4 e5
  exact ⟨⟨s0,s1,s2,s3,s4,s5,t5⟩,by simp [Xi.cells,e0,e1,e2,e3,e4,e5],⟨b1,b3,b0,b2,b4,b5,bb5⟩⟩
theorem wW {fuel:Nat} {cs:List Value} {x:DataW H×List MemPlace} (h:DataW.trod enc Tryz.prog w base spare held fuel 43 cs=some x):∃ a:Xr,cs=a.cells∧Xr.at_ w a∧a.Str:=by
 have hl:=gx Tryz.underlying43 (k:=12) ac h
 obtain ⟨n0,y0,h0⟩:=aN (i:=0) (off:=0) (k:=1) (t':=3) Tryz.underlying43 h rfl rfl rfl ac
 obtain ⟨n1,y1,h1⟩:=aN (i:=1) (off:=1) (k:=1) (t':=3) Tryz.underlying43 h rfl rfl rfl ac
 obtain ⟨n2,y2,h2⟩:=aN (i:=2) (off:=2) (k:=1) (t':=3) Tryz.underlying43 h rfl rfl rfl ac
 obtain ⟨n3,y3,h3⟩:=aN (i:=3) (off:=3) (k:=1) (t':=9) Tryz.underlying43 h rfl rfl rfl ac
 obtain ⟨n4,y4,h4⟩:=aN (i:=4) (off:=4) (k:=1) (t':=9) Tryz.underlying43 h rfl rfl rfl ac
 obtain ⟨n5,y5,h5⟩:=aN (i:=5) (off:=5) (k:=1) (t':=9) Tryz.underlying43 h rfl rfl rfl ac
 obtain ⟨n6,y6,h6⟩:=aN (i:=6) (off:=6) (k:=1) (t':=30) Tryz.underlying43 h rfl rfl rfl ac
 obtain ⟨n7,y7,h7⟩:=aN (i:=7) (off:=7) (k:=1) (t':=3) Tryz.underlying43 h rfl rfl rfl ac
 obtain ⟨n8,y8,h8⟩:=aN (i:=8) (off:=8) (k:=1) (t':=3) Tryz.underlying43 h rfl rfl rfl ac
 obtain ⟨n9,y9,h9⟩:=aN (i:=9) (off:=9) (k:=1) (t':=3) Tryz.underlying43 h rfl rfl rfl ac
 obtain ⟨n10,y10,h10⟩:=aN (i:=10) (off:=10) (k:=2) (t':=35) Tryz.underlying43 h rfl rfl rfl ac
 match cs,hl with
 | [c0,c1,c2,c3,c4,c5,c6,c7,c8,c9,c10,c11],_ =>
  obtain ⟨s0,e0,b0⟩:=aY h0
  obtain ⟨s1,e1,b1⟩:=aY h1
  obtain ⟨s2,e2,b2⟩:=aY h2
  obtain ⟨s3,e3,b3⟩:=bt h3
  obtain ⟨s4,e4,b4⟩:=bt h4
  obtain ⟨s5,e5,b5⟩:=bt h5
  obtain ⟨s6,l6,e6,r6,b6⟩:=g0 h6
  obtain ⟨s7,e7,b7⟩:=aY h7
  obtain ⟨s8,e8,b8⟩:=aY h8
  obtain ⟨s9,e9,b9⟩:=aY h9
  obtain ⟨s10,t10,e10,b10,bb10⟩:=iG h10
  simp at e0 e1 e2 e3 e4 e5 e6 e7 e8 e9 e10
  exact ⟨⟨s0,s1,s2,s3,s4,s5,s6,s7,s8,s9,s10,t10,l6⟩,by simp [Xr.cells,e0,e1,e2,e3,e4,e5,e6,e7,e8,e9,e10],r6,⟨b3,b4,b5,b6,b0,b1,b2,b7,b8,b9,b10,bb10⟩⟩
theorem ur {fuel:Nat} {cs:List Value} {x:DataW H×List MemPlace} (h:DataW.trod enc Tryz.prog w base spare held fuel 45 cs=some x):∃ a:Xb,cs=a.cells∧Xb.at_ w a∧a.Str:=by
 have hl:=gx Tryz.underlying45 (k:=49) ac h
 obtain ⟨n0,y0,h0⟩:=aN (i:=0) (off:=0) (k:=1) (t':=3) Tryz.underlying45 h rfl rfl rfl ac
 obtain ⟨n1,y1,h1⟩:=aN (i:=1) (off:=1) (k:=20) (t':=37) Tryz.underlying45 h rfl rfl rfl ac
 obtain ⟨n2,y2,h2⟩:=aN (i:=2) (off:=21) (k:=9) (t':=39) Tryz.underlying45 h rfl rfl rfl ac
 obtain ⟨n3,y3,h3⟩:=aN (i:=3) (off:=30) (k:=7) (t':=41) Tryz.underlying45 h rfl rfl rfl ac
 obtain ⟨n4,y4,h4⟩:=aN (i:=4) (off:=37) (k:=12) (t':=43) Tryz.underlying45 h rfl rfl rfl ac
 obtain ⟨a0,e0,_⟩:=aY h0
 obtain ⟨a1,e1,q1,r1,_,s1⟩:=ut h1
 obtain ⟨a2,e2,s2⟩:=q8 h2
 obtain ⟨a3,e3,s3⟩:=pt h3
 obtain ⟨a4,e4,q4,s4⟩:=wW h4
 refine ⟨⟨a0,a1,a2,a3,a4⟩,?_,⟨q1,q4⟩,⟨s1,r1,s2,s3,s4⟩⟩
 have h5:cs=cs.take 1++((cs.drop 1).take 20++((cs.drop 21).take 9++((cs.drop 30).take 7++(cs.drop 37).take 12))):=by
  have t1:(cs.drop 37).take 12=cs.drop 37:=List.take_of_length_le (by rw [List.length_drop];omega)
  rw [t1,show cs.drop 37=(cs.drop 30).drop 7 from by rw [List.drop_drop],List.take_append_drop,show cs.drop 30=(cs.drop 21).drop 9 from by rw [List.drop_drop],List.take_append_drop,show cs.drop 21=(cs.drop 1).drop 20 from by rw [List.drop_drop],List.take_append_drop,List.take_append_drop]
 rw [List.drop_zero] at e0
 rw [h5,e0,e1,e2,e3,e4]
 simp [Xb.cells]
theorem q7 {fuel:Nat} {cs:List Value} {x:DataW H×List MemPlace} (h:DataW.trod enc Tryz.prog w base spare held fuel 22 cs=some x):∃ (s:Xj) (l:List Xb),cs=[s.v]∧Items w s l∧∀ i∈l,i.Str:=by
 haveI:Inhabited Xb:=⟨Xb.zero⟩
 obtain ⟨s,l,h1,h2,h3⟩:=gQ (α:=Xb) Tryz.underlying22 (size:=49) ac Xb.cells (fun a=>Xb.at_ w a∧a.Str) (fun n cs y hy=>ur hy) h
 exact ⟨s,l,h1,⟨h2,fun a ha=>(h3 a ha).1⟩,fun a ha=>(h3 a ha).2⟩
end
end Go.Proofs.YtggionfjlgfihaaGreatDoor
namespace Go.Proofs.YtggionfjlgfihaaGreatDoor
open Go Go.Proofs Sy Go.Shelf
namespace Rf4
end Rf4
namespace Rf4
section
variable {P:Program} {N:Nat} {av bor:List Nat} {w0:World} {st:St} {ty:TypeId} {x y:Operand} {t t2:TypeId}
end
end Rf4
end Go.Proofs.YtggionfjlgfihaaGreatDoor
