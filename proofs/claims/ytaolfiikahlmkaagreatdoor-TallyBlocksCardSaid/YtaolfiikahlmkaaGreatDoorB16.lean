/- Joined. -/
import Derived.Test.YtaolfiikahlmkaaGreatDoorB15
import Derived.Laws.StructEq
set_option linter.unusedVariables false
set_option linter.unusedSimpArgs false
set_option maxHeartbeats 16000000
namespace Go.Proofs.YtaolfiikahlmkaaGreatDoor
open Go Go.Proofs Sy Tryz
section
variable {P:Program} {N:Nat} {av bor:List Nat} {w0:World} {ops:Array Oper} {rest:List Oper} {kk:St→Prop} {E:Env} {loc:List Xl} {X:World→Prop} {x y:Operand} {t t2:TypeId}
variable {n:Nat} {ty:TypeId} {pos:String} {af:Array Edge} {g:Option (Nat×Bool)} {bb want:Bool}
theorem ti {k:IntKind} {a b:Int} (h:Sw P N av bor w0 ops rest ⟨(n,.bool true)::E,loc,X⟩ kk) (hx:ev E x=some (.int k a):=by rfl) (hy:ev E y=some (.int k b):=by rfl) (hab:¬ a=b:=by first|omega|decide) (hg:gdB ops E g=some (bb,want):=by rfl) (hbb:bb=want:=by exact aw) (hd:Nat.blt n N=true:=by rfl) :
  Sw P N av bor w0 ops (⟨some n,.binOp .neq t x y t2,ty,pos,af,g⟩::rest) ⟨E,loc,X⟩ kk:=rp (hx:=hx) (hy:=hy) (hg:=hg) (hbb:=hbb) (hd:=hd) (h:=by
   have e:∀ u,u=Value.bool true→Sw P N av bor w0 ops rest ⟨(n,u)::E,loc,X⟩ kk:=fun u hu=>hu▸h
   exact e _ (by simp [hab]))
end
instance:Xu prog 64 3:=⟨aj⟩
theorem FR (l:List Xb) (p:Xd) (kind:Int) (ks:List ByteArray) (c:Xb):cntB l p.can kind ks c=cntB l p kind ks c:=rfl
theorem vr (l:List Xb) (p:Xd) (kind:Int):∀ i,actF l p.can kind i=actF l p kind i
 | 0=>rfl
 | i+1=>by rw [actF,actF,vr l p kind i,FR]
theorem gj (l:List Xb) (p:Xd) (kind:Int):actorsV l p.can kind=actorsV l p kind:=by rw [actorsV,actorsV,vr]
theorem gg (l:List Xb) (p:Xd) (kind:Int):(actorsV l p kind).length≤l.length:=by
 have h:=px l p kind l.length
 rw [actorsV]
 simpa [sortB] using h
def liveV (l:List Xb) (id:ByteArray):Option Xd:=match findPV l id with
 | some p=>bif p.gone then none else some p
 | none=>none
theorem qC {l:List Xb} {id:ByteArray} (h:(!(findPV l id).isSome)=true):liveV l id=none:=by
 rw [liveV]
 cases hf:findPV l id with
 | none=>rfl
 | some p=>rw [hf] at h;cases h
theorem qD {l:List Xb} {id:ByteArray} {p:Xd} (hp:p.can=(findPV l id).getD Xd.zero) (h:(!(findPV l id).isSome)=false) (hg:p.gone=true):liveV l id=none:=by
 rw [liveV]
 cases hf:findPV l id with
 | none=>rfl
 | some q =>
  rw [hf] at hp
  obtain rfl:p.can=q:=hp
  show (bif p.gone then none else some p.can)=none
  rw [hg,Zg]
theorem qB {l:List Xb} {id:ByteArray} {p:Xd} (hp:p.can=(findPV l id).getD Xd.zero) (h:(!(findPV l id).isSome)=false) (hg:p.gone=false):liveV l id=some p.can:=by
 rw [liveV]
 cases hf:findPV l id with
 | none=>rw [hf] at h;cases h
 | some q =>
  rw [hf] at hp
  obtain rfl:p.can=q:=hp
  show (bif p.gone then none else some p.can)=some p.can
  rw [hg,Zf]
def whoV (l:List Xb) (id:ByteArray) (kind:Int):List ByteArray:=bif decide (kind=5)||decide (kind=4) then (match liveV l id with
 | some p=>actorsV l p kind
 | none=>[]) else []
theorem q9 (s:Xk) (l:List Xb) (id:ByteArray) (kind:Int) (hok:∀ c∈l,Xw c.actsL) (hlen:∀ c∈l,c.actsL.length≤1000000) (hids:∀ c∈l,c.id.size≤maxLen) (hll:l.length≤1000000) :
  Mk prog 23 #[s.v,.string id,.int .i64 kind] (fun w=>Chains w s l∧Xe w) fun u X'=>∃ so:Xk,u=so.v∧so.n=(whoV l id kind).length∧∀ w,X' w→Strs w so (whoV l id kind):=by
 refine dm func23 ntmps23 fun av bor w0=>?_
 have hnil:∀ w,Strs w ⟨none,0,0⟩ []:=fun w=>bz w 1
 by_cases hk:kind=5∨kind=4
 · have hkb:(decide (kind=5)||decide (kind=4))=true:=by rcases hk with h|h<;>simp [h]
   rw [whoV,hkb,Zg]
   rcases hk with rfl|rfl
   all_goals
    repeat' (first|refine fA ?_|refine ti ?_|apply aJ|apply QQ|apply QR|refine aW ?_|refine aO ?_|refine bD ?_|refine bU ?_|refine bm ?_|refine bj ?_|refine aX ?_|refine gl ?_|refine dO ?_|refine bo ?_|refine gz ?_|refine aY fun _=>?_|refine aS ?_|refine QU ?_|refine QV ?_|apply QT|apply ck|(refine bF (hc:=oU s l id hok hlen) fun v1 X1 h1=>?_;obtain ⟨p,rfl,hp⟩:=h1)|(refine bF (hc:=fN s l p _ hok hlen hids hll) fun v2 X2 h2=>?_;obtain ⟨so,rfl,hn,hw⟩:=h2)|((fail_if_success (refine cr ?_));refine bx (ht:=?_) (hf:=?_);all_goals (intro hx_;skip))|(refine dN (ht:=?_) (hf:=?_);all_goals (intro hx_;skip)))
   all_goals first
    | (rw [qC (by assumption)];exact ab (ag rfl rfl) ⟨⟨none,0,0⟩,rfl,rfl,fun w _=>hnil w⟩)
    | (rw [qD (by assumption) (by assumption) (by assumption)];exact ab (ag rfl rfl) ⟨⟨none,0,0⟩,rfl,rfl,fun w _=>hnil w⟩)
    | (rw [qB (by assumption) (by assumption) (by assumption)];exact ab (ag rfl rfl) ⟨so,rfl,by rw [hn,←gj],fun w h=>by simp only [gj];exact hw w h.1.2⟩)
 · have hkb:(decide (kind=5)||decide (kind=4))=false:=by simp only [not_or] at hk;simp [hk]
   rw [whoV,hkb,Zf]
   repeat' (first|refine ti ?_|apply aJ|apply QQ|apply QR|refine aW ?_|refine aO ?_|refine bj ?_|refine QU ?_|apply ck|fail)
   exact ab (ag rfl rfl) ⟨⟨none,0,0⟩,rfl,rfl,fun w _=>hnil w⟩
def repB (l:List Xb) (id au:ByteArray) (q:Xd):Bool:=decide (q.kind=2)&&seqB q.object id&&!q.gone&&admV l q.author au
structure Eq where
 likes:Nat
 boosts:Nat
 replies:Nat
def Eq.cells (t:Eq):List Value:=[.int .i64 (t.likes:Nat),.int .i64 (t.boosts:Nat),.int .i64 (t.replies:Nat)]
def Eq.v (t:Eq):Value:=.agg t.cells.toArray
def tallyV (l:List Xb) (id:ByteArray):Eq:=match liveV l id with
 | some p=>⟨(actorsV l p 5).length,(actorsV l p 4).length,(l.flatMap postsV).countP (repB l id p.author)⟩
 | none=>⟨0,0,0⟩
structure TalI (Q:List Xd) (B:Xd→Bool) where
 k:Nat
 hk:k≤Q.length
 n:Nat
 hn:n=(Q.take k).countP B
theorem jH (s:Xk) (l:List Xb) (id:ByteArray) (hok:∀ c∈l,Xw c.actsL) (hlen:∀ c∈l,c.actsL.length≤1000) (hids:∀ c∈l,c.id.size≤maxLen) (hll:l.length≤1000) :
  Pu prog 22 #[s.v,.string id] (fun w=>Chains w s l∧Xe w) (tallyV l id).v:=by
 refine ax func22 ntmps22 fun av bor w0=>?_
 have hlen2:∀ c∈l,c.actsL.length≤1000000:=fun c hc=>ZW (hlen c hc) (by decide)
 have hll2:l.length≤1000000:=by omega
 repeat' (first|apply aJ|apply QQ|apply QR|refine aW ?_|refine aO ?_|refine bD ?_|refine bU ?_|refine bj ?_|refine aX ?_|refine gl ?_|refine dO ?_|refine gz ?_|refine aY fun _=>?_|refine aS ?_|refine QU ?_|apply QT|apply ck|(refine bF (hc:=oU s l id hok hlen2) fun v1 X1 h1=>?_;obtain ⟨p,rfl,hp⟩:=h1)|(refine aG ?_)|((fail_if_success (refine cr ?_));refine bx (ht:=?_) (hf:=?_);all_goals (intro hx_;skip))|(refine dN (ht:=?_) (hf:=?_);all_goals (intro hx_;skip)))
 · rw [tallyV,qC (by assumption)]
   exact ab (bV rfl rfl aM (by rfl)) rfl
 · rw [tallyV,qD hp (by assumption) (by assumption)]
   exact ab (bV rfl rfl aM (by rfl)) rfl
 rename_i b4 b5 hx1
 have hV:tallyV l id=⟨(actorsV l p 5).length,(actorsV l p 4).length,(l.flatMap postsV).countP (repB l id p.author)⟩:=by
  rw [tallyV,qB hp hx1 (by assumption)]
  show Eq.mk (actorsV l p.can 5).length (actorsV l p.can 4).length _=_
  rw [gj,gj]
  rfl
 rw [hV]
 have h5:=gg l p 5
 have h4:=gg l p 4
 generalize hL:(actorsV l p 5).length=L at *
 generalize hB:(actorsV l p 4).length=Bn at *
 refine ib (ι:=Nat) (fun b7=>⟨[(0,s.v),(1,.string id),(4,.pointer (some ⟨b4,0,none⟩)),(5,.pointer (some ⟨b5,0,none⟩)),(7,.pointer (some ⟨b7,0,none⟩))],[cel b7 64 (Eq.cells ⟨L,Bn,0⟩),cel b5 68 p.cells,cel b4 64 (Eq.cells ⟨0,0,0⟩)],fun w=>Chains w s l∧Xe w⟩) ?_ fun b7=>?_
 · (refine kv [cel b5 68 p.cells,cel b4 64 (Eq.cells ⟨0,0,0⟩)] (fun w=>(Chains w s l∧Xe w)∧X1 w) aj ?_)
   all_goals refine dA 0 ?_<;>refine dA 1 ?_<;>refine dA 4 ?_<;>refine dA 5 ?_<;>(refine sC 2 9 (h:=?_) (h':=?_);(focus (((refine bF (hc:=fN s l p 5 hok hlen2 hids hll2) (hX:=fun w h=>by exact h.1) fun v2 X2 h2=>?_;obtain ⟨so2,rfl,hn2,hw2⟩:=h2);apply aJ;refine eV ?_);all_goals ((refine dA 3 ?_);all_goals (refine sC 6 9 (h:=?_) (h':=?_);(focus (((refine bF (hc:=fN s l p 4 hok hlen2 hids hll2) (hX:=fun w h=>by exact h.1.1) fun v3 X3 h3=>?_;obtain ⟨so3,rfl,hn3,hw3⟩:=h3);apply aJ;refine eV ?_);all_goals ((refine dA 7 ?_);all_goals (refine dA 8 (hy:=by (apply dt;rfl;rfl)) ?_);all_goals (refine cX 9 ?_;(refine aY fun _=>?_);apply aJ;refine eV ?_);all_goals (refine cX 10 ?_;(refine aS ?_);apply aJ;refine eV ?_);all_goals (refine gc (h:=?_)))));rotate_right;(focus (((refine aY fun _=>?_);apply aJ;refine eV ?_);all_goals ((refine cX 6 ?_;(refine bF (hc:=fN s l p 4 hok hlen2 hids hll2) (hX:=fun w h=>by exact h.1.1) fun v3 X3 h3=>?_;obtain ⟨so3,rfl,hn3,hw3⟩:=h3);apply aJ;refine eV ?_);all_goals (refine dA 7 ?_);all_goals (refine dA 8 (hy:=by (apply dt;rfl;rfl)) ?_);all_goals (refine cX 10 ?_;(refine aS ?_);apply aJ;refine eV ?_);all_goals (refine gc (h:=?_)))))))));rotate_right;(focus (((refine aY fun _=>?_);apply aJ;refine eV ?_);all_goals ((refine cX 2 ?_;(refine bF (hc:=fN s l p 5 hok hlen2 hids hll2) (hX:=fun w h=>by exact h.1) fun v2 X2 h2=>?_;obtain ⟨so2,rfl,hn2,hw2⟩:=h2);apply aJ;refine eV ?_);all_goals (refine dA 3 ?_);all_goals (refine cX 6 ?_;(refine bF (hc:=fN s l p 4 hok hlen2 hids hll2) (hX:=fun w h=>by exact h.1.1) fun v3 X3 h3=>?_;obtain ⟨so3,rfl,hn3,hw3⟩:=h3);apply aJ;refine eV ?_);all_goals (refine dA 7 ?_);all_goals (refine dA 8 (hy:=by (apply dt;rfl;rfl)) ?_);all_goals (refine cX 10 ?_;(refine aS ?_);apply aJ;refine eV ?_);all_goals (refine gc (h:=?_))))))
   all_goals exact ⟨_,fun a w ok=>ai (by exact ⟨rfl,rfl,rfl,rfl,rfl,trivial⟩) (by (rw [←hL,←hB,←hn2,←hn3];exact ak _)) (fun w h=>by exact h.1.1.1) _ _ ok⟩
 repeat' (first|apply aJ|apply QQ|apply QR|refine aW ?_|refine ii ?_|apply QS|(refine bF (hc:=yY s l hok hlen hll) fun v4 X4 h4=>?_;obtain ⟨s1,Q,rfl,hQ,hQl,hw⟩:=h4))
 refine aQ (p:=s1.n=Q.length∧s1.n≤maxLen∧(0<Q.length→s1.p.isSome=true)) (fun w h=>⟨by simpa using Xf.len (hw w h.2),ZW (Xf.cap (hw w h.2)) (Xf.max (hw w h.2)),fun h0=>(Xf.row (hw w h.2) 0 Q[0].cells (by simp [Zc h0])).2.1⟩) fun ⟨hl1,hm1,hp1⟩=>?_
 simp only [maxLen] at hm1
 refine aq (ι:=TalI Q (repB l id p.author)) (fun i=>⟨[(0,s.v),(1,.string id),(4,.pointer (some ⟨b4,0,none⟩)),(5,.pointer (some ⟨b5,0,none⟩)),(7,.pointer (some ⟨b7,0,none⟩)),(33,s1.v),(34,.int .i64 (s1.n:Nat)),(35,.int .i64 (i.k:Nat))],[cel b7 64 [.int .i64 (L:Nat),.int .i64 (Bn:Nat),.int .i64 (i.n:Nat)],cel b5 68 p.cells,cel b4 64 (Eq.cells ⟨0,0,0⟩)],fun w=>(Chains w s l∧Xe w)∧X4 w⟩) (fun i=>Q.length-i.k) ⟨0,Z2 _,0,rfl⟩ (ai am (ak _) fun _ h=>h) fun i=>?_
 obtain ⟨k,hk,n,hn⟩:=i
 simp only
 have hnm:n≤1000000:=by have:=List.countP_le_length (p:=repB l id p.author) (l:=Q.take k);rw [←hn,Qg] at this;omega
 repeat' (first|apply aJ|apply QQ|apply QR|refine bm ?_|refine eX ?_|refine aS ?_|apply QT|apply QS|apply ck|apply iY|(refine dN (ht:=?_) (hf:=?_);all_goals (intro hx_;first|have:=bA hx_|have:=cw hx_)))
 · have hlt:k<Q.length:=by omega
   have hp':=hp1 aa
   obtain ⟨q,hq⟩:∃ q,Q[k]?=some q:=⟨_,Zc hlt⟩
   have htk:(Q.take (k+1)).countP (repB l id p.author)=n+(bif repB l id p.author q then 1 else 0):=by
    rw [Qe,hq,List.countP_append,←hn,Qs,List.countP_cons,List.countP_nil]
    cases repB l id p.author q<;>rfl
   have had:=mn s l q.author p hok
   have hno:repB l id p.author q=false→(Q.take (k+1)).countP (repB l id p.author)=n:=fun h=>by rw [htk,h];rfl
   by_cases h2:q.kind=2
   · cases ho:seqB q.object id with
     | false =>
      repeat' (first|refine aF ?_|refine dp _ (hv:=ho) (h:=?_)|apply aJ|apply QQ|apply QR|refine aW ?_|refine bD ?_|refine bU ?_|refine bj ?_|refine aX ?_|refine ef (h:=?_)|refine bo ?_|refine aY fun _=>?_|refine aS ?_|refine QV ?_|apply QT|(refine aD (q:=k*11) ?_)|(refine aN (cs:=q.cells) (hF:=fun w h=>Xf.row (hw w h.2) k q.cells (by simp [hq])) ?_)|fail)
      exact ⟨(⟨k+1,hlt,n,(hno (by rw [repB,ho];simp)).symm⟩:TalI Q _),(by show Q.length-(k+1)<Q.length-k;omega),ai am (Z0 _ (ak _)) fun _ h=>h⟩
     | true =>
      cases ha:admV l q.author p.author with
      | false =>
       rw [ha] at had
       repeat' (first|refine aF ?_|refine dp _ (hv:=ho) (h:=?_)|apply aJ|apply QQ|apply QR|refine aW ?_|refine bD ?_|refine bU ?_|refine bm ?_|refine bj ?_|refine aX ?_|refine gl ?_|refine ef (h:=?_)|refine bo ?_|refine aY fun _=>?_|refine aS ?_|refine QV ?_|apply QT|(refine aD (q:=k*11) ?_)|(refine aN (cs:=q.cells) (hF:=fun w h=>Xf.row (hw w h.2) k q.cells (by simp [hq])) ?_)|(refine ae (hc:=had) ?_)|((fail_if_success (refine cr ?_));refine bx (ht:=?_) (hf:=?_);all_goals (intro hx_;skip))|fail)
       all_goals exact ⟨(⟨k+1,hlt,n,(hno (by rw [repB,ha];simp)).symm⟩:TalI Q _),(by show Q.length-(k+1)<Q.length-k;omega),ai am (Z0 _ (ak _)) fun _ h=>h⟩
      | true =>
       rw [ha] at had
       repeat' (first|refine aF ?_|refine dp _ (hv:=ho) (h:=?_)|apply aJ|apply QQ|apply QR|refine aW ?_|refine bD ?_|refine bU ?_|refine bm ?_|refine bj ?_|refine aX ?_|refine gl ?_|refine ef (h:=?_)|refine bo ?_|refine aY fun _=>?_|refine cj ?_|refine aS ?_|refine QU ?_|refine QV ?_|apply QT|(refine aD (q:=k*11) ?_)|(refine aN (cs:=q.cells) (hF:=fun w h=>Xf.row (hw w h.2) k q.cells (by simp [hq])) ?_)|(refine ae (hc:=had) ?_)|((fail_if_success (refine cr ?_));refine bx (ht:=?_) (hf:=?_);all_goals (intro hx_;skip))|fail)
       all_goals first
        | exact ⟨(⟨k+1,hlt,n,(hno (by rw [repB,(show q.gone=true from by simpa using hx_)];simp)).symm⟩:TalI Q _),(by show Q.length-(k+1)<Q.length-k;omega),ai am (Z0 _ (ak _)) fun _ h=>h⟩
        | exact ⟨(⟨k+1,hlt,n+1,by rw [htk,repB,ho,ha,Ze h2,(show q.gone=false from by simpa using hx_)];rfl⟩:TalI Q _),(by show Q.length-(k+1)<Q.length-k;omega),ai am (Z0 _ (ak _)) fun _ h=>h⟩
   · repeat' (first|refine aI ?_|apply aJ|apply QQ|apply QR|refine aW ?_|refine bD ?_|refine bU ?_|refine aX ?_|refine ef (h:=?_)|refine bo ?_|refine aY fun _=>?_|refine aS ?_|refine QV ?_|apply QT|(refine aD (q:=k*11) ?_)|(refine aN (cs:=q.cells) (hF:=fun w h=>Xf.row (hw w h.2) k q.cells (by simp [hq])) ?_)|fail)
     exact ⟨(⟨k+1,hlt,n,(hno (by rw [repB,Zd h2];rfl)).symm⟩:TalI Q _),(by show Q.length-(k+1)<Q.length-k;omega),ai am (Z0 _ (ak _)) fun _ h=>h⟩
 · have hkE:k=Q.length:=by omega
   have hfin:(l.flatMap postsV).countP (repB l id p.author)=n:=by
    rw [←hQ.countP_eq,List.countP_map,hn,hkE,Qf]
    rfl
   rw [hfin]
   exact ab (bV rfl rfl aM (by rfl)) rfl
end Go.Proofs.YtaolfiikahlmkaaGreatDoor
namespace Go.Proofs.YtaolfiikahlmkaaGreatDoor
open Go Go.Proofs Sy Tryz
theorem As (s r:Xk) (l m:List ByteArray):Pu prog 17 #[s.v,r.v] (fun w=>Strs w s l∧Strs w r m) (.bool (eqL l m)):=by
 refine ax func17 ntmps17 fun av bor w0=>?_
 refine aQ (p:=(s.n=l.length∧s.n≤maxLen∧(0<l.length→s.p.isSome=true))∧(r.n=m.length∧r.n≤maxLen∧(0<m.length→r.p.isSome=true))) (fun w h=>⟨⟨h.1.len_,ZW (Xf.cap h.1) (Xf.max h.1),h.1.some_⟩,⟨h.2.len_,ZW (Xf.cap h.2) (Xf.max h.2),h.2.some_⟩⟩) fun ⟨⟨hl,hm,hp⟩,⟨hl',hm',hp'⟩⟩=>?_
 simp only [maxLen] at hm hm'
 repeat' (first|refine gs ?_|(refine gp ?_ ?_<;>intro hx_ this)|fail)
 · apply ab;apply ag;rfl;rfl
   have:¬ l.length=m.length:=by
    have h1:¬ (s.n:Int)=(r.n:Int):=by simpa using hx_
    omega
   simp only [eqL,Zd this,Zk]
 have hlm:l.length=m.length:=by
  have h1:(s.n:Int)=(r.n:Int):=by simpa using hx_
  omega
 refine aq (ι:=X6 l.length (eqBad l m)) (fun i=>⟨[(0,s.v),(1,r.v),(5,.int .i64 i.k)],[],fun w=>Strs w s l∧Strs w r m⟩) (fun i=>l.length-i.k) (X6.zero _ _) (ai (by repeat (first|exact trivial|refine ⟨rfl,?_⟩)) (ak _) fun _ h=>h) fun i=>?_
 have hik:=i.hk
 repeat' (first|refine gs ?_|(refine gp ?_ ?_<;>intro hx_ this)|fail)
 · have hlt:i.k<l.length:=by omega
   have hlt':i.k<m.length:=by omega
   have hp1:=hp aa
   have hp2:=hp' aa
   (refine bc ⟨[0,1,2,3,4,5,6,7,8],[]⟩ (h:=?_))
   all_goals repeat' (first|refine gd ?_|refine ay (hy:=by first|(apply aB (q:=i.k);rfl;rfl;omega;omega;assumption;omega)|(apply dH;rfl;exact fun w h=>Strs.get h.1 hlt)|(apply dH;rfl;exact fun w h=>Strs.get h.2 hlt')) ?_|fail)
   repeat' (first|refine gs ?_|(refine gp ?_ ?_<;>intro hx_ this)|fail)
   · apply ab;apply ag;rfl;rfl
     rw [eqL,cG hlt (by assumption),Zl]
   · exact ⟨i.next hlt (by assumption),(by show l.length-(i.k+1)<l.length-i.k;omega),ai (by repeat (first|exact trivial|refine ⟨rfl,?_⟩)) (ak _) fun _ h=>h⟩
 · apply ab;apply ag;rfl;rfl
   rw [eqL,i.all aa,Ze hlm]
   rfl
def fewBad (l:List Xb) (k:Nat):Bool:=!shortV (l.getD k Xb.zero)
def fewV (l:List Xb):Bool:=decide (l.length≤6)&&allB l.length (fewBad l)
theorem Fa (s:Xk) (l:List Xb):Pu prog 21 #[s.v] (fun w=>Chains w s l) (.bool (fewV l)):=by
  refine ax func21 ntmps21 fun av bor w0=>?_
  refine aQ (p:=s.n=l.length∧s.n≤maxLen∧(0<l.length→s.p.isSome=true)) (fun w h=>⟨h.len_,h.max_,h.some_⟩) fun ⟨hl,hm,hp⟩=>?_
  simp only [maxLen] at hm
  repeat' (first|refine gs ?_|(refine gp ?_ ?_<;>intro hx_ this)|fail)
  · apply ab;apply ag;rfl;rfl
    rw [fewV,Zd aa,Zk]
  refine aq (ι:=X6 l.length (fewBad l)) (fun i=>⟨[(0,s.v),(3,.int .i64 i.k)],[],fun w=>Chains w s l⟩) (fun i=>l.length-i.k) (X6.zero _ _) (ai am (ak _) fun _ h=>h) fun i=>?_
  have hik:=i.hk
  repeat' (first|refine gs ?_|(refine gp ?_ ?_<;>intro hx_ this)|fail)
  · have hlt:i.k<l.length:=by omega
    have hp':=hp aa
    obtain ⟨c,hc⟩:∃ c,l[i.k]?=some c:=⟨_,Zc hlt⟩
    have hcm:=Z4 hc
    have hfb:fewBad l i.k=!shortV c:=by simp only [fewBad,Zp,hc,Qc]
    refine iR (p:=c.acts.n=c.actsL.length∧c.acts.n≤maxLen∧(0<c.actsL.length→c.acts.p.isSome=true)) (fun w h=>⟨(h.2 c hcm).len_,(h.2 c hcm).max_,(h.2 c hcm).some_⟩) fun ⟨hl2,hm2,hp2⟩=>?_
    simp only [maxLen] at hm2
    repeat' (first|refine gs ?_|(refine aD (q:=i.k*6) ?_)|(refine d6 ?_)|(refine cB (q:=i.k*6+1) (u:=c.acts.v) (hF:=fun w h=>(Chains.get h hc).2.2 1 _ rfl) ?_)|(refine gp ?_ ?_<;>intro hx_ this)|fail)
    · apply ab;apply ag;rfl;rfl
      rw [fewV,cG hlt (by rw [hfb,shortV,Zd (by omega)];rfl),Zl]
    refine aq (ι:=X6 c.actsL.length (shortBad c.actsL)) (fun j=>⟨[(0,s.v),(3,.int .i64 i.k),(4,.int .i64 j.k)],[],fun w=>Chains w s l⟩) (fun j=>c.actsL.length-j.k) (X6.zero _ _) (ai am (ak _) fun _ h=>h) fun j=>?_
    have hjk:=j.hk
    repeat' (first|refine gs ?_|(refine aD (q:=i.k*6) ?_)|(refine d6 ?_)|(refine cB (q:=i.k*6+1) (u:=c.acts.v) (hF:=fun w h=>(Chains.get h hc).2.2 1 _ rfl) ?_)|(refine gp ?_ ?_<;>intro hx_ this)|fail)
    · have hjl:j.k<c.actsL.length:=by omega
      have hp3:=hp2 aa
      obtain ⟨x,hx⟩:∃ x,c.actsL[j.k]?=some x:=⟨_,Zc hjl⟩
      have hB:shortBad c.actsL j.k=(decide (8<x.to.n)||decide (8<x.wraps.n)||decide (600<x.text.size)||decide (600<x.body.data.size)):=by simp only [shortBad,Zp,hx,Qc]
      repeat' (first|refine gs ?_|refine gs1 fun _=>?_|(refine aD (q:=j.k*20) ?_)|(refine aN (cs:=x.cells) (hF:=fun w h=>Acts.get (h.2 c hcm) hx) ?_)|(refine gp ?_ ?_<;>intro hx_ this)|fail)
      all_goals first
        | (apply ab;apply ag;rfl;rfl
           have hb:shortBad c.actsL j.k=true:=by
             rw [hB];simp only [Bool.or_eq_true,Zv];simp only [Zv,Qb] at *;omega
           rw [fewV,cG hlt (by rw [hfb,shortV,cG hjl hb,Zl];rfl),Zl])
        | (have hb:shortBad c.actsL j.k=false:=by
             rw [hB];simp only [Qj,Qb];simp only [Zv,Qb] at *;omega
           exact ⟨j.next hjl hb,(by show c.actsL.length-(j.k+1)<c.actsL.length-j.k;omega),ai am (Z0 _ (ak _)) fun _ h=>h⟩)
    · have hsv:shortV c=true:=by rw [shortV,j.all aa,Ze (by omega)];rfl
      exact ⟨i.next hlt (by rw [hfb,hsv];rfl),(by show l.length-(i.k+1)<l.length-i.k;omega),ai am (ak _) fun _ h=>h⟩
  · apply ab;apply ag;rfl;rfl
    rw [fewV,i.all aa,Ze (by omega)]
    rfl
theorem im (w:World) {cs:Array Value} {off:Nat} {v:Value} (h:cs[off]?=some v):(part 3 cs off).run prog w=.ok v w:=by
 simp [part,isAgg,run_underlying underlying3,h]
theorem Bs (w:World) (d:Nat) (a b:Int):(Op.equalIn (d+1) 3 (.int .i64 a) (.int .i64 b)).run prog w=.ok (decide (a=b)) w:=by
 rw [run_equalIn_int w d _ .i64 .i64 a b underlying3]
 rfl
theorem tA (w:World) (d:Nat) (a:Eq):(Op.equalIn (d+2) 64 a.v a.v).run prog w=.ok true w:=by
 have p0:∀ x:Eq,(part 3 x.cells.toArray 0).run prog w=.ok (.int .i64 (x.likes:Int)) w:=fun x=>im w rfl
 have p1:∀ x:Eq,(part 3 x.cells.toArray 1).run prog w=.ok (.int .i64 (x.boosts:Int)) w:=fun x=>im w rfl
 have p2:∀ x:Eq,(part 3 x.cells.toArray 2).run prog w=.ok (.int .i64 (x.replies:Int)) w:=fun x=>im w rfl
 unfold Eq.v
 rw [run_equalIn_agg _ _ _ _ _ aj aj]
 simp only [Program.fieldsOf,underlying64]
 simp [Op.eqFields,p0,p1,p2,Bs]
section
variable {N:Nat} {av bor:List Nat} {w0:World} {x y:Operand} {t2:TypeId} {ty:TypeId} {st:St}
theorem vB (a:Eq) (hx:ev st.env x=some a.v) (hy:ev st.env y=some a.v):Sy.Yields prog N av bor w0 st (.binOp .eql 64 x y t2) ty (.bool true):=Sy.Yields.mk fun A w ok d pos af g=>by
 have h1:=run_eqGuard_agg (P:=prog) w .eql 64 x y a.cells.toArray a.cells.toArray aj
 have h2:=run_eql_struct (P:=prog) w 64 a.cells.toArray a.cells.toArray
 have h3:=tA w 9998 a
 simp only [Eq.v] at hx hy h3
 simp [execOp,ok.eval hx,ok.eval hy,h1,h2,h3]
end
def sx28:ByteArray:=⟨#[120]⟩
def smP28:ByteArray:=⟨#[48,49,50,51,52,53,54,55,56,57,48,49,50,51,52,53,54,55,56,57,48,49,50,51,52,53,54,55,56,57,48,49]⟩
def smA28:Xa:={ Xa.zero with author:=idA,kind:=0,text:=sx28,n:=1 }
def smB28:Xa:={ Xa.zero with author:=idA,seq:=1,prev:=smP28,kind:=1,text:=sx28 }
def smL28:List Xa:=[smA28,smB28]
def smC28 (b:Nat):Xb:=⟨idA,⟨some ⟨b,0,none⟩,2,2⟩,⟨none,0,0⟩,⟨#[]⟩,0,false,smL28⟩
def smK28 (id:ByteArray):Xa:={ Xa.zero with kind:=5,object:=id }
def smO28:Xa:={ Xa.zero with kind:=4,object:=sx28 }
def smM28 (id:ByteArray):List Xa:=[smK28 id,smK28 id,smO28]
def smD28 (id:ByteArray) (b:Nat):Xb:=⟨idB,⟨some ⟨b,0,none⟩,3,3⟩,⟨none,0,0⟩,⟨#[]⟩,0,false,smM28 id⟩
def smI28:ByteArray:=digV smB28
theorem By (a:Xa):(digV a).size=0∨(digV a).size=32:=by
 rw [digV]
 cases seqB (bytesV a) ⟨#[]⟩ with
 | true=>rw [Zg];exact .inl rfl
 | false=>rw [Zf];exact .inr (kT _)
theorem xV:seqB smI28 sx28=false:=by
 cases h:seqB smI28 sx28 with
 | false=>rfl
 | true =>
  have h1:=seqB_iff.1 h
  have h2:=By smB28
  rw [show digV smB28=smI28 from rfl,h1] at h2
  rcases h2 with h2|h2<;>cases h2
theorem Jk:seqB sx28 smI28=false:=by
 cases h:seqB sx28 smI28 with
 | false=>rfl
 | true=>rw [←xV,seqB_iff.1 h];exact (bP _).symm
theorem smPostC (b:Nat):postsV (smC28 b)=[newP idA 1 smB28]:=by kernel_rfl
theorem smPostD (id:ByteArray) (b:Nat):postsV (smD28 id b)=[]:=by kernel_rfl
theorem smHasC5 (id:ByteArray) (b:Nat):hasV (smC28 b) 5 id=false:=by kernel_rfl
theorem smHasC4 (id:ByteArray) (b:Nat):hasV (smC28 b) 4 id=false:=by kernel_rfl
theorem smHasD5 (id:ByteArray) (b:Nat):hasV (smD28 id b) 5 id=true:=by
 have e:seqB id id=true:=bP id
 have h1:hasM (smD28 id b) 5 id 1=bif seqB id id then [(0,.bool true)] else []:=by kernel_rfl
 rw [e] at h1
 have h2:hasM (smD28 id b) 5 id 2=bif seqB id id then mput (hasM (smD28 id b) 5 id 1) 1 (.bool true) else hasM (smD28 id b) 5 id 1:=by kernel_rfl
 rw [e,h1] at h2
 have h3:hasM (smD28 id b) 5 id 3=hasM (smD28 id b) 5 id 2:=by kernel_rfl
 show decide (0<(hasM (smD28 id b) 5 id 3).length)=true
 rw [h3,h2]
 kernel_rfl
theorem smHasD4 {id:ByteArray} (h:seqB sx28 id=false) (b:Nat):hasV (smD28 id b) 4 id=false:=by
 have h1:hasM (smD28 id b) 4 id 3=bif seqB sx28 id then [(2,.bool true)] else []:=by kernel_rfl
 rw [h] at h1
 show decide (0<(hasM (smD28 id b) 4 id 3).length)=false
 rw [h1]
 rfl
theorem smBlock (id:ByteArray) (b b2:Nat):admV [smC28 b,smD28 id b2] idB idA=true:=by kernel_rfl
theorem smLive (b b2:Nat):liveV [smC28 b,smD28 smI28 b2] smI28=some (newP idA 1 smB28):=by
 have h:findPV [smC28 b,smD28 smI28 b2] smI28=some (newP idA 1 smB28):=by
  rw [findPV,List.flatMap_cons,List.flatMap_cons,smPostC,smPostD]
  show List.find? _ (newP idA 1 smB28::_)=_
  rw [List.find?_cons_of_pos (by show seqB (digV smB28) smI28=true;exact bP _)]
 rw [liveV,h]
 rfl
theorem smDead (b b2:Nat):liveV [smC28 b,smD28 smI28 b2] sx28=none:=by
 have h:findPV [smC28 b,smD28 smI28 b2] sx28=none:=by
  rw [findPV,List.flatMap_cons,List.flatMap_cons,smPostC,smPostD]
  show List.find? _ [newP idA 1 smB28]=_
  rw [List.find?_cons_of_neg (by show ¬ seqB smI28 sx28=true;rw [xV];decide)]
  rfl
 rw [liveV,h]
theorem smAct5 (b b2:Nat):actorsV [smC28 b,smD28 smI28 b2] (newP idA 1 smB28) 5=[idB]:=by
 have h:actF [smC28 b,smD28 smI28 b2] (newP idA 1 smB28) 5 2=[idB]:=by
  have h1:actF [smC28 b,smD28 smI28 b2] (newP idA 1 smB28) 5 1=[]:=by
   have h0:actF [smC28 b,smD28 smI28 b2] (newP idA 1 smB28) 5 1=bif (bif hasV (smC28 b) 5 smI28 then admV [smC28 b,smD28 smI28 b2] idA idA else false) then [idA] else []:=by kernel_rfl
   rw [h0,smHasC5];rfl
  have h2:actF [smC28 b,smD28 smI28 b2] (newP idA 1 smB28) 5 2=bif cntB [smC28 b,smD28 smI28 b2] (newP idA 1 smB28) 5 (actF [smC28 b,smD28 smI28 b2] (newP idA 1 smB28) 5 1) (smD28 smI28 b2) then sput (actF [smC28 b,smD28 smI28 b2] (newP idA 1 smB28) 5 1) idB else actF [smC28 b,smD28 smI28 b2] (newP idA 1 smB28) 5 1:=by kernel_rfl
  rw [h2,h1]
  have h3:cntB [smC28 b,smD28 smI28 b2] (newP idA 1 smB28) 5 [] (smD28 smI28 b2)=true:=by
   have h4:cntB [smC28 b,smD28 smI28 b2] (newP idA 1 smB28) 5 [] (smD28 smI28 b2)=bif hasV (smD28 smI28 b2) 5 smI28 then admV [smC28 b,smD28 smI28 b2] idB idA else false:=by kernel_rfl
   rw [h4,smHasD5,smBlock];rfl
  rw [h3]
  rfl
 show sortB (actF _ _ _ 2)=_
 rw [h]
 exact (gN (List.nodup_cons.2 ⟨Qi,List.nodup_nil⟩)).ext (List.pairwise_singleton _ _) fun x=>mem_sortB
theorem smAct4 (b b2:Nat):actorsV [smC28 b,smD28 smI28 b2] (newP idA 1 smB28) 4=[]:=by
 have h1:actF [smC28 b,smD28 smI28 b2] (newP idA 1 smB28) 4 1=[]:=by
  have h0:actF [smC28 b,smD28 smI28 b2] (newP idA 1 smB28) 4 1=bif (bif hasV (smC28 b) 4 smI28 then admV [smC28 b,smD28 smI28 b2] idA idA else false) then [idA] else []:=by kernel_rfl
  rw [h0,smHasC4];rfl
 have h2:actF [smC28 b,smD28 smI28 b2] (newP idA 1 smB28) 4 2=bif cntB [smC28 b,smD28 smI28 b2] (newP idA 1 smB28) 4 (actF [smC28 b,smD28 smI28 b2] (newP idA 1 smB28) 4 1) (smD28 smI28 b2) then sput (actF [smC28 b,smD28 smI28 b2] (newP idA 1 smB28) 4 1) idB else actF [smC28 b,smD28 smI28 b2] (newP idA 1 smB28) 4 1:=by kernel_rfl
 have h3:cntB [smC28 b,smD28 smI28 b2] (newP idA 1 smB28) 4 [] (smD28 smI28 b2)=false:=by
  have h4:cntB [smC28 b,smD28 smI28 b2] (newP idA 1 smB28) 4 [] (smD28 smI28 b2)=bif hasV (smD28 smI28 b2) 4 smI28 then admV [smC28 b,smD28 smI28 b2] idB idA else false:=by kernel_rfl
  rw [h4,smHasD4 Jk];rfl
 show sortB (actF _ _ _ 2)=_
 rw [h2,h1,h3,Zf]
 simp [sortB]
theorem smTally (b b2:Nat):tallyV [smC28 b,smD28 smI28 b2] smI28=⟨1,0,0⟩:=by
 rw [tallyV,smLive]
 show Eq.mk (actorsV _ _ 5).length (actorsV _ _ 4).length _=_
 rw [smAct5,smAct4,List.flatMap_cons,List.flatMap_cons,smPostC,smPostD]
 rfl
theorem smTallyX (b b2:Nat):tallyV [smC28 b,smD28 smI28 b2] sx28=⟨0,0,0⟩:=by rw [tallyV,smDead]
theorem smTally0 (id:ByteArray):tallyV [] id=⟨0,0,0⟩:=rfl
theorem smWho5 (b b2:Nat):whoV [smC28 b,smD28 smI28 b2] smI28 5=[idB]:=by
 rw [whoV,smLive]
 exact smAct5 b b2
theorem smWho7 (l:List Xb) (id:ByteArray):whoV l id 7=[]:=rfl
theorem smWho0 (id:ByteArray):whoV [] id 5=[]:=rfl
theorem smChainsNil (w:World):Chains w ⟨none,0,0⟩ []:=⟨bz w 6,fun c h=>by cases h⟩
theorem sI {a:Xa} (h:a.wrapsL=[]) (h2:a.toL=[]) (h3:a.to=⟨none,0,0⟩) (h4:a.wraps=⟨none,0,0⟩) (w:World):a.at_ w:=⟨by rw [h3,h2];exact bz w 1,by rw [h4,h];exact bz w 5⟩
theorem Dm {w:World}:∀ a∈smL28,a.at_ w:=by
 intro a ha
 simp only [smL28,ZH,Qi,or_false] at ha
 rcases ha with rfl|rfl<;>exact sI rfl rfl rfl rfl w
theorem Dl {id:ByteArray} {w:World}:∀ a∈smM28 id,a.at_ w:=by
 intro a ha
 simp only [smM28,ZH,Qi,or_false] at ha
 rcases ha with rfl|rfl|rfl<;>exact sI rfl rfl rfl rfl w
theorem smL28_ok:Xw smL28:=by
 refine ⟨fun a ha=>?_,fun a ha=>?_⟩<;>simp only [smL28,ZH,Qi,or_false] at ha
 · rcases ha with rfl|rfl<;>exact ⟨by decide,fun w hw=>absurd hw (by show ¬ w∈[];simp),rfl,rfl⟩
 · rcases ha with rfl|rfl<;>exact ⟨by decide,by decide,by decide⟩
theorem Dk (id:ByteArray):Xw (smM28 id):=by
 have z:Xa.Rng { Xa.zero with kind:=5 }:=⟨by decide,fun w hw=>absurd hw (by show ¬ w∈[];simp),rfl,rfl⟩
 have zs:Xa.Sm { Xa.zero with kind:=5 }:=⟨by decide,by decide,by decide⟩
 refine ⟨fun a ha=>?_,fun a ha=>?_⟩<;>simp only [smM28,ZH,Qi,or_false] at ha
 · rcases ha with rfl|rfl|rfl
   · exact ⟨z.1,z.2,rfl,rfl⟩
   · exact ⟨z.1,z.2,rfl,rfl⟩
   · exact ⟨by decide,fun w hw=>absurd hw (by show ¬ w∈[];simp),rfl,rfl⟩
 · rcases ha with rfl|rfl|rfl
   · exact ⟨zs.1,zs.2,zs.3⟩
   · exact ⟨zs.1,zs.2,zs.3⟩
   · exact ⟨by decide,by decide,by decide⟩
theorem smChains {I:ByteArray} {b b2 b3:Nat} {w:World} (h1:(cel b 46 (smL28.map Xa.cells).flatten).F w) (h2:(cel b2 46 ((smM28 I).map Xa.cells).flatten).F w) (h3:(cel b3 35 ((smC28 b).cells++(smD28 I b2).cells)).F w):Chains w ⟨some ⟨b3,0,none⟩,2,2⟩ [smC28 b,smD28 I b2] :=
 ⟨aU (xs:=[(smC28 b).cells,(smD28 I b2).cells]) h3 rfl (by decide) (by intro r hr;simp only [ZH,Qi,or_false] at hr;rcases hr with rfl|rfl<;>rfl),fun c h=>by
  simp only [ZH,Qi,or_false] at h
  rcases h with rfl|rfl
  · exact ⟨aU h1 rfl (by decide) (eN smL28),Dm⟩
  · exact ⟨aU h2 rfl (by decide) (eN (smM28 I)),Dl⟩⟩
theorem vR:Pu prog 20 #[] Xe (.bool true):=by
 refine ax func20 ntmps20 fun av bor w0=>?_
 obtain ⟨I,hdI,hT,hTX,hW5⟩:∃ I,digV smB28=I∧(∀ b b2,tallyV [smC28 b,smD28 I b2] I=⟨1,0,0⟩)∧(∀ b b2,tallyV [smC28 b,smD28 I b2] sx28=⟨0,0,0⟩)∧∀ b b2,whoV [smC28 b,smD28 I b2] I 5=[idB]:=⟨smI28,rfl,smTally,smTallyX,smWho5⟩
 have hof:=iw smB28 (smL28_ok.rng smB28 (by simp [smL28])) (smL28_ok.sm smB28 (by simp [smL28]))
 repeat' (first|refine aG (cs:=smA28.cells) (hf:=by rfl) ?_|refine aG (cs:=smB28.cells) (hf:=by rfl) ?_|refine aG (cs:=(smK28 I).cells) (hf:=by rfl) ?_|refine aG (cs:=smO28.cells) (hf:=by rfl) ?_|(refine cN (size:=20) (vs:=[.agg smA28.cells.toArray,.agg smB28.cells.toArray]) (css:=(smL28.map Xa.cells).flatten) (hsz:=by rfl) (hcs:=by rfl) fun bR=>?_;refine bJ ?_)|refine aG (cs:=(smC28 bR).cells) (hf:=by rfl) ?_|(refine cN (size:=20) (vs:=[.agg (smK28 I).cells.toArray,.agg (smK28 I).cells.toArray,.agg smO28.cells.toArray]) (css:=((smM28 I).map Xa.cells).flatten) (hsz:=by rfl) (hcs:=by rfl) fun bM=>?_;refine bJ ?_)|refine aG (cs:=(smD28 I bM).cells) (hf:=by rfl) ?_|(refine cN (size:=6) (vs:=[(smC28 bR).v,(smD28 I bM).v]) (css:=(smC28 bR).cells++(smD28 I bM).cells) (hsz:=by rfl) (hcs:=by rfl) fun bE=>?_;refine bJ ?_)|(refine bF (hc:=hof) (hX:=fun w h=>sI rfl rfl rfl rfl w) fun v1 X1 h1=>?_;obtain ⟨a1,rfl,hd1,hra1,hw1⟩:=h1)|(refine ae (hc:=(show Pu prog 18 #[itemV 0 a1] (fun w=>Xa.at_ w a1∧Xe w) (.string I) from (hd1.trans hdI)▸gL a1 hra1)) (hX:=fun w h=>⟨hw1 w h.2,h.1.1⟩) ?_)|refine gs ?_|refine gs1 fun _=>?_|(refine aD (q:=20) (p:=some ⟨bR,0,none⟩) (m:=2) (c:=2) (i:=1) (h1:=by decide) (hp:=rfl) (hq:=rfl) ?_)|(refine aN (cs:=smB28.cells) (hF:=fun w h=>Xf.row (aU h.2 rfl (by decide) (eN smL28)) 1 smB28.cells rfl) ?_)|fail)
 rename_i b1 b3
 refine mf (st':=⟨[(2,.string I),(3,.pointer (some ⟨b3,0,none⟩)),(4,.slice (some ⟨bE,0,none⟩) 2 2)],[cel b3 35 (smD28 I bM).cells],fun w=>Xe w∧Chains w ⟨some ⟨bE,0,none⟩,2,2⟩ [smC28 bR,smD28 I bM]⟩) ?_ ?_
 · exact ai am (Z1 _ (Z0 _ (ak _))) fun w h=>⟨h.1.1.1.1,smChains h.1.1.1.2 h.1.2 h.2⟩
 have ho:∀ c∈[smC28 bR,smD28 I bM],Xw c.actsL:=fun c hc=>by
  simp only [ZH,Qi,or_false] at hc
  rcases hc with rfl|rfl
  · exact smL28_ok
  · exact Dk I
 have hl:∀ c∈[smC28 bR,smD28 I bM],c.actsL.length≤1000∧c.id.size≤maxLen:=fun c hc=>by
  simp only [ZH,Qi,or_false] at hc
  rcases hc with rfl|rfl
  · exact ⟨(by decide:(2:Nat)≤1000),(by decide:idA.size≤maxLen)⟩
  · exact ⟨(by decide:(3:Nat)≤1000),(by decide:idB.size≤maxLen)⟩
 have hno:∀ c∈([]:List Xb),False:=fun c hc=>by cases hc
 have t0:=jH ⟨none,0,0⟩ [] I (fun c h=>(hno c h).elim) (fun c h=>(hno c h).elim) (fun c h=>(hno c h).elim) (by decide)
 rw [smTally0] at t0
 have t1:=jH ⟨some ⟨bE,0,none⟩,2,2⟩ _ I ho (fun c h=>(hl c h).1) (fun c h=>(hl c h).2) (by decide:(2:Nat)≤1000)
 rw [hT] at t1
 have t2:=jH ⟨some ⟨bE,0,none⟩,2,2⟩ _ sx28 ho (fun c h=>(hl c h).1) (fun c h=>(hl c h).2) (by decide:(2:Nat)≤1000)
 rw [hTX] at t2
 have w0':=q9 ⟨none,0,0⟩ [] I 5 (fun c h=>(hno c h).elim) (fun c h=>(hno c h).elim) (fun c h=>(hno c h).elim) (by decide)
 rw [smWho0] at w0'
 have w5:=q9 ⟨some ⟨bE,0,none⟩,2,2⟩ _ I 5 ho (fun c h=>ZW (hl c h).1 (by decide)) (fun c h=>(hl c h).2) (by decide:(2:Nat)≤1000000)
 rw [hW5] at w5
 have w7:=q9 ⟨some ⟨bE,0,none⟩,2,2⟩ [smC28 bR,smD28 I bM] I 7 ho (fun c h=>ZW (hl c h).1 (by decide)) (fun c h=>(hl c h).2) (by decide:(2:Nat)≤1000000)
 rw [smWho7] at w7
 have hs:∀ r q:Xk,Pu prog 17 #[r.v,q.v] (fun w=>Strs w r [idB]∧Strs w q [idB]) (.bool true):=fun r q=>by
  have h:=As r q [idB] [idB]
  rw [Fe] at h
  exact h
 (refine ap ⟨[0,2],[(1,⟨[3,4,5],[(6,⟨[7,8,9,10,11,12,14],[(13,⟨[15,16,17,18,19,21,22],[(20,⟨[],[(23,⟨[],[(24,⟨[25,26,27,28],[(29,⟨[30,31,32,33,34,36],[(35,⟨[37,38,39],[]⟩)]⟩)]⟩)]⟩)]⟩),(23,⟨[],[(20,⟨[],[(24,⟨[25,26,27,28],[(29,⟨[30,31,32,33,34,36],[(35,⟨[37,38,39],[]⟩)]⟩)]⟩)]⟩)]⟩)]⟩)]⟩)]⟩)]⟩ [cel b3 35 (smD28 I bM).cells] (fun w=>Xe w∧Chains w ⟨some ⟨bE,0,none⟩,2,2⟩ [smC28 bR,smD28 I bM]) (h:=?_))
 all_goals repeat' (first|refine ay (hsub:=by exact aK) (hy:=by first|(apply mR true;rfl;rfl;exact Ze (by first|exact congrArg Int.ofNat hn1|exact congrArg Int.ofNat hn3))|(apply vB ⟨0,0,0⟩;rfl;rfl)|(apply vB ⟨1,0,0⟩;rfl;rfl)) ?_|(refine ae (hc:=t0) (hX:=fun w h=>⟨smChainsNil w,h.1⟩) ?_)|((refine bF (hc:=w0') (hX:=fun w h=>⟨smChainsNil w,h.1⟩) fun v1 X1 h1=>?_;obtain ⟨s1,rfl,hn1,hw1'⟩:=h1))|(refine ae (hc:=t1) (hX:=fun w h=>⟨h.1.2,h.1.1⟩) ?_)|((refine bF (hc:=w5) (hX:=fun w h=>⟨h.1.2,h.1.1⟩) fun v2 X2 h2=>?_;obtain ⟨s2,rfl,hn2,hw2⟩:=h2))|((refine bF (hc:=w5) (hX:=fun w h=>⟨h.1.1.2,h.1.1.1⟩) fun v2 X2 h2=>?_;obtain ⟨s2,rfl,hn2,hw2⟩:=h2))|(refine ae (hc:=hs s2 ⟨some ⟨bq,0,none⟩,1,1⟩) (hX:=fun w h=>⟨hw2 w h.1.2,lJ (l:=[idB]) h.2 (by decide)⟩) ?_)|(refine ae (hc:=hs s2 ⟨some ⟨bq,0,none⟩,1,1⟩) (hX:=fun w h=>⟨hw2 w h.2,lJ (l:=[idB]) h.1.2 (by decide)⟩) ?_)|((refine bF (hc:=w7) (hX:=fun w h=>⟨h.1.1.1.2,h.1.1.1.1⟩) fun v3 X3 h3=>?_;obtain ⟨s3,rfl,hn3,hw3⟩:=h3))|(refine ae (hc:=t2) (hX:=fun w h=>⟨h.1.1.1.1.2,h.1.1.1.1.1⟩) ?_)|refine gdz ?_|refine ay (hsub:=by exact aK) (hy:=by (apply dt;rfl;rfl)) ?_|refine az ?_ (h':=?_)|exact aA|(refine eC (len:=1) (vs:=[encB idB]) fun bq=>?_;refine bJ ?_)|fail)
 all_goals
  repeat' (first|refine gs ?_|fail)
  apply ab;apply ag;rfl;rfl
  rfl
theorem gk (l:List Xb) (p:Xd) (kind:Int):Asc (actorsV l p kind):=gN (pu l p kind _)
structure LawI (n:Nat) where
 k:Nat
 hk:k≤n
structure GivI (l:List Xb) (x id:ByteArray) (kd:Int) where
 k:Nat
 hk:k≤l.length
 g:Bool
 hg:∀ j c,j<k→l[j]?=some c→c.id=x→∀ a∈c.actsL,a.kind=kd→a.object=id→g=true
structure GinI (L:List Xa) (id:ByteArray) (kd:Int) (B:Bool→Prop) where
 k:Nat
 hk:k≤L.length
 g:Bool
 hB:B g
 hg:∀ j a,j<k→L[j]?=some a→a.kind=kd→a.object=id→g=true
structure WishD where
 by_:Int
 do_:Int
 who:Int
 what:Int
 text:ByteArray
 time:Int
end Go.Proofs.YtaolfiikahlmkaaGreatDoor

namespace Go.Proofs.YtaolfiikahlmkaaGreatDoor
open Go Go.Proofs Sy
theorem ky (a:Xa):digV a.can=digV a:=wP rfl rfl
theorem fq (l:List Xa) (i:Nat):(l.map Xa.can).getD i Xa.zero=(l.getD i Xa.zero).can:=by
 rw [Zp,Zp,Z5]
 cases l[i]?<;>rfl
theorem kg (l:List Xa) (d:ByteArray):idxV (l.map Xa.can) d=idxV l d:=by
 rw [idxV,idxV,List.findIdx?_map]
 exact congrArg (fun p=>l.findIdx? p) (funext fun a=>by
  show seqB (digV a.can) d=_
  rw [ky])
theorem zg (t:En) (a:Xa):undoT t a.can=undoT t a:=rfl
theorem Ag (l:List Xa) (i:Nat) (t:En) (x:Xa):stepT (l.map Xa.can) i t x.can=stepT l i t x:=by
 rw [stepT,stepT,show x.can.kind=x.kind from rfl,show x.can.target=x.target from rfl,show x.can.object=x.object from rfl,kg]
 cases idxV l x.object with
 | none=>rfl
 | some j=>simp only [fq,zg]
theorem sZ (l:List Xa):∀ n,tieF (l.map Xa.can) n=tieF l n
 | 0=>rfl
 | n+1=>by rw [tieF,tieF,sZ l n,fq,Ag]
theorem m5 (l:List Xa) (n:Int):tieV (l.map Xa.can) n=tieV l n:=by
 rw [tieV,tieV,sZ,ZE]
def nuN (id:ByteArray) (l:List Xa):Xb:=⟨id,⟨none,l.length,0⟩,⟨none,0,0⟩,⟨#[]⟩,0,false,l⟩
def canoC (c:Xb):Xb:=nuN c.id (c.actsL.map Xa.can)
def cano (l:List Xb):List Xb:=l.map canoC
theorem ED (id:ByteArray) (i:Nat) (a:Xa):newP id i a.can=newP id i a:=by
 unfold newP
 rw [ky]
 rfl
theorem ov (c:Xb):∀ i,openF (canoC c) i=openF c i
 | 0=>rfl
 | i+1=>by
  rw [openF,openF,ov c i]
  show (openF c i++bif postK ((c.actsL.map Xa.can).getD i Xa.zero).kind then [newP c.id i ((c.actsL.map Xa.can).getD i Xa.zero)] else [])=_
  rw [fq,ED]
  rfl
theorem Ai (l:List Xa) (i:Nat) (P:List Xd):stepP (l.map Xa.can) i P=stepP l i P:=by
 have e:refV (l.map Xa.can) P i=refV l P i:=by
  rw [refV,refV,fq]
  show (match idxV (l.map Xa.can) (l.getD i Xa.zero).object with|some j=>bif decide (j<i) then posP P j else none|none=>none)=_
  rw [kg]
  rfl
 rw [stepP,stepP,e,fq]
 rfl
theorem ut (c:Xb):∀ i,ofP (canoC c) i=ofP c i
 | 0=>by
  rw [ofP,ofP,ov]
  show openF c (c.actsL.map Xa.can).length=_
  rw [ZE]
 | i+1=>by
  rw [ofP,ofP,ut c i]
  exact Ai _ _ _
theorem uk (c:Xb):postsV (canoC c)=postsV c:=by
 rw [postsV,postsV,ut]
 show ofP c (c.actsL.map Xa.can).length=_
 rw [ZE]
theorem jr (l:List Xb):(cano l).flatMap postsV=l.flatMap postsV:=by
 rw [cano,List.flatMap_map]
 exact congrArg (fun f=>l.flatMap f) (funext uk)
theorem md (l:List Xb) (id:ByteArray):findPV (cano l) id=findPV l id:=by rw [findPV,findPV,jr]
theorem oG (l:List Xb) (id:ByteArray):liveV (cano l) id=liveV l id:=by rw [liveV,liveV,md]
theorem wL (l:List Xb) (id:ByteArray):findC (cano l) id=(findC l id).map canoC:=by
 rw [findC,findC,cano,List.find?_map]
 rfl
def LenOk (l:List Xb):Prop:=∀ c∈l,c.acts.n=c.actsL.length
theorem pY {l:List Xb} (h:LenOk l) (id:ByteArray):tieC (cano l) id=tieC l id:=by
 rw [tieC,tieC,chainC,chainC,wL]
 cases hf:findC l id with
 | none=>rfl
 | some c =>
  show tieV (c.actsL.map Xa.can) ((c.actsL.map Xa.can).length:Nat)=tieV c.actsL (c.acts.n:Nat)
  rw [h c (Qx hf),ZE,m5]
theorem jn {l:List Xb} (h:LenOk l) (a b:ByteArray):blockedV (cano l) a b=blockedV l a b:=by rw [blockedV,blockedV,pY h,pY h]
theorem qY {l:List Xb} (h:LenOk l) (a b:ByteArray):admV (cano l) a b=admV l a b:=by rw [admV,admV,jn h]
theorem qK (c:Xb) (k:Int) (id:ByteArray):∀ i,hasM (canoC c) k id i=hasM c k id i
 | 0=>rfl
 | i+1=>by
  have e:(canoC c).actsL.getD i Xa.zero=(c.actsL.getD i Xa.zero).can:=fq _ _
  simp only [hasM,qK c k id i,e]
  rw [show idxV (canoC c).actsL (c.actsL.getD i Xa.zero).can.object=idxV c.actsL (c.actsL.getD i Xa.zero).object from kg _ _]
  rfl
theorem qJ (c:Xb) (k:Int) (id:ByteArray):hasV (canoC c) k id=hasV c k id:=by
 rw [hasV,hasV,qK]
 show decide (0<(hasM c k id (c.actsL.map Xa.can).length).length)=_
 rw [ZE]
theorem yZ (l:List Xb) (p:Xd) (kind:Int):∀ i,i≤l.length→∀ (j:Nat) (c:Xb),j<i→l[j]?=some c→hasV c kind p.id=true→admV l c.id p.author=true→c.id∈actF l p kind i
 | 0,_,j,c,hj,_,_,_=>absurd hj (Nat.not_lt_zero _)
 | i+1,hi,j,c,hj,hc,h1,h2=>by
  rw [actF]
  rcases Nat.lt_succ_iff_lt_or_eq.1 hj with h|rfl
  · have ih:=yZ l p kind i aa j c h hc h1 h2
    cases cntB l p kind (actF l p kind i) (l.getD i Xb.zero) with
    | true=>exact mem_sput.2 (.inr ih)
    | false=>exact ih
  · have hg:l.getD j Xb.zero=c:=by rw [Zp,hc];rfl
    rw [hg]
    cases hb:cntB l p kind (actF l p kind j) c with
    | true=>exact mem_sput.2 (.inl rfl)
    | false =>
     rw [cntB] at hb
     cases hh:hasS (actF l p kind j) c.id with
     | true=>exact hasS_iff.1 hh
     | false=>rw [hh,h1,h2] at hb;cases hb
theorem ft {l:List Xb} {p:Xd} {kind:Int} {x:ByteArray}:x∈actorsV l p kind↔∃ c∈l,c.id=x∧hasV c kind p.id=true∧admV l x p.author=true:=by
 rw [actorsV,mem_sortB]
 constructor
 · exact pw l p kind l.length (ZV _) x
 · rintro ⟨c,hc,rfl,h1,h2⟩
   obtain ⟨j,hj,rfl⟩:=Qv hc
   exact yZ l p kind l.length (ZV _) j _ hj (Zc hj) h1 h2
theorem gi {l m:List Xb} {p q:Xd} {k:Int} (h:∀ x,x∈actorsV l p k↔x∈actorsV m q k):actorsV l p k=actorsV m q k:=(gk l p k).ext (gk m q k) h
theorem kH {l:List Xb} (h:LenOk l) (p:Xd) (k:Int):actorsV (cano l) p k=actorsV l p k:=gi fun x=>by
 rw [ft,ft,qY h]
 constructor
 · rintro ⟨c,hc,h1,h2,h3⟩
   obtain ⟨d,hd,rfl⟩:=QH.1 hc
   exact ⟨d,hd,h1,by rw [←qJ];exact h2,h3⟩
 · rintro ⟨c,hc,h1,h2,h3⟩
   exact ⟨canoC c,QH.2 ⟨c,hc,rfl⟩,h1,by rw [qJ];exact h2,h3⟩
theorem te {l:List Xb} (h:LenOk l) (id:ByteArray):tallyV (cano l) id=tallyV l id:=by
 have e:∀ a,repB (cano l) id a=repB l id a:=fun a=>funext fun q=>by rw [repB,repB,qY h]
 rw [tallyV,tallyV,oG]
 cases liveV l id with
 | none=>rfl
 | some p=>simp only [kH h,jr,e]
theorem zd {l:List Xb} (h:LenOk l) (id:ByteArray) (k:Int):whoV (cano l) id k=whoV l id k:=by
 rw [whoV,whoV,oG]
 cases liveV l id with
 | none=>rfl
 | some p=>simp only [kH h]
theorem fL {l:List Xb} (hn:(l.map Xb.id).Nodup) {id:ByteArray} {c:Xb}:findC l id=some c↔c∈l∧c.id=id:=by
 constructor
 · intro h
   exact ⟨Qx h,seqB_iff.1 (List.find?_some (p:=fun c:Xb=>seqB c.id id) h)⟩
 · rintro ⟨hc,rfl⟩
   induction l with
   | nil=>cases hc
   | cons a l ih =>
    rw [ZZ,List.nodup_cons] at hn
    rw [findC,List.find?_cons]
    rcases ZH.1 hc with rfl|hc
    · rw [bP]
    · have hne:seqB a.id c.id=false:=seqB_ne.2 fun e=>hn.1 (e▸QH.2 ⟨c,hc,rfl⟩)
      rw [hne]
      exact ih hn.2 hc
theorem wJ {l m:List Xb} (hn:(l.map Xb.id).Nodup) (h:l.Perm m) (id:ByteArray):findC l id=findC m id:=Option.ext fun c=>by
 have hm:(m.map Xb.id).Nodup:=(h.map _).nodup_iff.1 hn
 rw [fL hn,fL hm,h.mem_iff]
theorem jm {l m:List Xb} (hn:(l.map Xb.id).Nodup) (h:l.Perm m) (a b:ByteArray):blockedV l a b=blockedV m a b:=by
 simp only [blockedV,tieC,chainC,wJ hn h]
theorem qX {l m:List Xb} (hn:(l.map Xb.id).Nodup) (h:l.Perm m) (a b:ByteArray):admV l a b=admV m a b:=by rw [admV,admV,jm hn h]
structure Er (l:List Xb):Prop where
 ids:(l.map Xb.id).Nodup
 dig:∀ c∈l,∀ d∈l,∀ a∈c.actsL,∀ b∈d.actsL,digV a=digV b→c.id=d.id
 own:∀ c∈l,∀ (n:Nat) (x:Xa),c.actsL[n]?=some x→idxV c.actsL (digV x)=some n
theorem Er.perm {l m:List Xb} (h:Er l) (hp:l.Perm m):Er m:=⟨(hp.map _).nodup_iff.1 h.ids,fun c hc d hd=>h.dig c (hp.mem_iff.2 hc) d (hp.mem_iff.2 hd),fun c hc=>h.own c (hp.mem_iff.2 hc)⟩
theorem Er.cano {l:List Xb} (h:Er l):Er (cano l):=by
 refine ⟨?_,fun c hc d hd a ha b hb e=>?_,fun c hc n x hx=>?_⟩
 · have:(Go.Proofs.YtaolfiikahlmkaaGreatDoor.cano l).map Xb.id=l.map Xb.id:=by rw [Go.Proofs.YtaolfiikahlmkaaGreatDoor.cano,ZY];rfl
   rw [this]
   exact h.ids
 · obtain ⟨c',hc',rfl⟩:=QH.1 hc
   obtain ⟨d',hd',rfl⟩:=QH.1 hd
   obtain ⟨a',ha',rfl⟩:=QH.1 ha
   obtain ⟨b',hb',rfl⟩:=QH.1 hb
   rw [ky,ky] at e
   exact h.dig c' hc' d' hd' a' ha' b' hb' e
 · obtain ⟨c',hc',rfl⟩:=QH.1 hc
   change (c'.actsL.map Xa.can)[n]?=some x at hx
   rw [Z5] at hx
   cases hy:c'.actsL[n]? with
   | none=>rw [hy] at hx;cases hx
   | some y =>
    rw [hy] at hx
    cases hx
    rw [ky]
    show idxV (c'.actsL.map Xa.can) _=_
    rw [kg]
    exact h.own c' hc' n y hy
def PostIn (c:Xb) (p:Xd):Prop:=∃ a,c.actsL[p.pos]?=some a∧p.id=digV a∧p.author=c.id∧p.kind=a.kind
theorem uo (c:Xb):∀ i,i≤c.actsL.length→∀ p∈openF c i,PostIn c p
 | 0,_,p,hp=>by cases hp
 | i+1,hi,p,hp=>by
  rw [openF,Qw] at hp
  rcases hp with h|h
  · exact uo c i aa p h
  · have hx:c.actsL[i]?=some (c.actsL.getD i Xa.zero):=by rw [Zp,Zc (by omega)];rfl
    cases hk:postK (c.actsL.getD i Xa.zero).kind with
    | false=>rw [hk] at h;cases h
    | true =>
     rw [hk,Zg,Z3] at h
     subst h
     exact ⟨_,hx,rfl,rfl,rfl⟩
theorem yr {c:Xb} {P:List Xd} (o:Option Nat) {f:Xd→Xd} (h:∀ p∈P,PostIn c p) (hf:∀ p,PostIn c p→PostIn c (f p)):∀ p∈modP P o f,PostIn c p:=by
 cases o with
 | none=>exact h
 | some n =>
  intro p hp
  by_cases hn:n<P.length
  · rcases List.mem_or_eq_of_mem_set hp with h1|rfl
    · exact h p h1
    · refine hf _ (h _ ?_)
      rw [Zp,Zc hn]
      exact ZP hn
  · rw [modP,List.set_eq_of_length_le (by omega)] at hp
    exact h p hp
theorem Ex (c:Xb):∀ i,∀ p∈ofP c i,PostIn c p
 | 0=>uo c _ (ZV _)
 | i+1=>by
  have ih:=Ex c i
  rw [ofP,stepP]
  cases decide ((c.actsL.getD i Xa.zero).kind=13) with
  | true=>exact yr _ ih fun p h=>h
  | false =>
   cases decide ((c.actsL.getD i Xa.zero).kind=14) with
   | true =>
    refine yr _ ih fun p h=>?_
    show PostIn c (editP _ i p)
    rw [editP]
    cases editB (c.actsL.getD i Xa.zero) p with
    | true=>exact h
    | false=>exact h
   | false=>exact ih
theorem la {c:Xb} {p:Xd} (h:p∈postsV c):PostIn c p:=Ex c _ p h
theorem PostIn.mem {c:Xb} {p:Xd} (h:PostIn c p):∃ a∈c.actsL,p.id=digV a∧p.author=c.id∧p.kind=a.kind:=by
 obtain ⟨a,h1,h2⟩:=h
 exact ⟨a,Z4 h1,h2⟩
theorem vE {l:List Xb} (h:Er l) {c d:Xb} (hc:c∈l) (hd:d∈l) (e:c.id=d.id):c=d :=
 Option.some.inj ((fL h.ids (id:=d.id)).2 ⟨hc,e⟩ |>.symm.trans ((fL h.ids).2 ⟨hd,rfl⟩))
theorem AI {l:List Xb} (h:Er l) {p q:Xd} (hp:p∈l.flatMap postsV) (hq:q∈l.flatMap postsV) (e:p.id=q.id):p=q:=by
 obtain ⟨c,hc,hp⟩:=List.mem_flatMap.1 hp
 obtain ⟨d,hd,hq⟩:=List.mem_flatMap.1 hq
 obtain ⟨a,ha,pa,-⟩:=la hp
 obtain ⟨b,hb,qb,-⟩:=la hq
 have eab:digV a=digV b:=by rw [←pa,←qb,e]
 have hcd:=vE h hc hd (h.dig c hc d hd a (Z4 ha) b (Z4 hb) eab)
 subst hcd
 have h1:=h.own c hc _ _ ha
 have h2:=h.own c hc _ _ hb
 rw [eab,h2] at h1
 have epos:p.pos=q.pos:=(Option.some.inj h1).symm
 obtain ⟨i,hi,rfl⟩:=Qv hp
 obtain ⟨j,hj,rfl⟩:=Qv hq
 have:=DL (wm c).1 (Zc hi) (Zc hj) epos
 subst this
 rfl
theorem oV {l:List Xb} (h:Er l) {id:ByteArray} {p:Xd}:findPV l id=some p↔p∈l.flatMap postsV∧p.id=id:=by
 constructor
 · intro e
   exact ⟨Qx e,seqB_iff.1 (List.find?_some (p:=isPost id) e)⟩
 · rintro ⟨hp,rfl⟩
   cases hf:findPV l p.id with
   | none =>
    rw [findPV,List.find?_eq_none] at hf
    exact absurd (bP p.id) (hf p hp)
   | some q =>
    have hq:seqB q.id p.id=true:=List.find?_some (p:=isPost p.id) hf
    rw [AI h (Qx hf) hp (seqB_iff.1 hq)]
theorem mc {l m:List Xb} (h:Er l) (hp:l.Perm m) (id:ByteArray):findPV l id=findPV m id:=Option.ext fun p=>by
 rw [oV h,oV (h.perm hp),(hp.flatMap_right postsV).mem_iff]
theorem oF {l m:List Xb} (h:Er l) (hp:l.Perm m) (id:ByteArray):liveV l id=liveV m id:=by rw [liveV,liveV,mc h hp]
theorem kG {l m:List Xb} (h:Er l) (hp:l.Perm m) (p:Xd) (k:Int):actorsV l p k=actorsV m p k:=gi fun x=>by
 rw [ft,ft]
 simp only [qX h.ids hp,hp.mem_iff]
theorem td {l m:List Xb} (h:Er l) (hp:l.Perm m) (id:ByteArray):tallyV l id=tallyV m id:=by
 have e:∀ a,repB l id a=repB m id a:=fun a=>funext fun q=>by rw [repB,repB,qX h.ids hp]
 rw [tallyV,tallyV,oF h hp]
 cases liveV m id with
 | none=>rfl
 | some p=>simp only [kG h hp,e,(hp.flatMap_right postsV).countP_eq]
theorem zc {l m:List Xb} (h:Er l) (hp:l.Perm m) (id:ByteArray) (k:Int):whoV l id k=whoV m id k:=by
 rw [whoV,whoV,oF h hp]
 cases liveV m id with
 | none=>rfl
 | some p=>simp only [kG h hp]
theorem DI {L:List Int} {I:List Xc} {au:ByteArray} {c:Xb} {kl:List Xm} (q:QK L I au c kl):∀ a∈c.actsL,a∈selA au rightIt I:=by
 obtain ⟨A,sa,sk,st,fork,hA,hR,rfl,rfl⟩:=q
 rw [OfRes] at hR
 cases ho:oneA (firstL ((OfWK L.length I au).at A)) with
 | none =>
  rw [ho] at hR
  obtain ⟨rfl,rfl⟩:=hR
  exact fun a ha=>absurd ha (by simp)
 | some a =>
  rw [ho] at hR
  obtain ⟨rfl,rfl⟩:=hR
  have ha:a∈firstL ((OfWK L.length I au).at A):=by rw [fJ ho];exact Z3.2 rfl
  exact fun x hx=>hA.subset ((r4 ha).mem x hx)
theorem FJ {L:List Int} {I:List Xc} {ids:List ByteArray} {M:List ChK} (h:Es (fun id p=>QK L I id p.1 p.2) ids M):M.map (fun p=>p.1.id)=ids:=by
 induction h with
 | nil=>rfl
 | cons h1 _ ih=>rw [ZZ,ih,ji h1]
theorem iL {L:List Int} {I:List Xc} (hK:KnR L I) {l:List Xb} (h:AllK L I l):Er l:=by
 obtain ⟨M,hM,rfl⟩:=h
 have hq:∀ c∈(M.filter neK).map Prod.fst,∃ kl,QK L I c.id c kl:=fun c hc=>by
  obtain ⟨p,hp,rfl⟩:=QH.1 hc
  obtain ⟨a,ha,q⟩:=hM.right p (QL.1 hp).1
  exact ⟨p.2,by rw [ji q];exact q⟩
 refine ⟨?_,fun c hc d hd a ha b hb e=>?_,fun c hc n x hx=>?_⟩
 · rw [ZY]
   have h1:=lp I
   rw [←FJ hM] at h1
   exact h1.sublist (List.filter_sublist.map _)
 · obtain ⟨k1,q1⟩:=hq c hc
   obtain ⟨k2,q2⟩:=hq d hd
   have m1:=DI q1 a ha
   have m2:=DI q2 b hb
   have eab:=yP hK m1 m2 e
   subst eab
   obtain ⟨_,_,_,_,_,_,a1⟩:=fo m1
   obtain ⟨_,_,_,_,_,_,a2⟩:=fo m2
   exact a1.symm.trans a2
 · obtain ⟨k1,q1⟩:=hq c hc
   exact (fY hK q1).own n x hx
theorem vk {l:List Xb} (hn:(l.map Xb.id).Nodup) {x:Xb}:x∈cano l↔∃ id v,viewC l id=some v∧x=nuN id v:=by
 constructor
 · intro h
   obtain ⟨c,hc,rfl⟩:=QH.1 h
   exact ⟨c.id,_,by rw [viewC,(fL hn).2 ⟨hc,rfl⟩];rfl,rfl⟩
 · rintro ⟨id,v,hv,rfl⟩
   rw [viewC] at hv
   cases hf:findC l id with
   | none=>rw [hf] at hv;cases hv
   | some c =>
    rw [hf] at hv
    cases hv
    obtain ⟨hc,rfl⟩:=(fL hn).1 hf
    exact QH.2 ⟨c,hc,rfl⟩
theorem yT {l:List Xb} (hn:(l.map Xb.id).Nodup):(cano l).Nodup:=by
 have:(cano l).map Xb.id=l.map Xb.id:=by rw [cano,ZY];rfl
 rw [←this] at hn
 rw [List.nodup_iff_pairwise_ne,List.pairwise_map] at hn
 rw [List.nodup_iff_pairwise_ne]
 exact hn.imp fun h e=>h (congrArg Xb.id e)
theorem kw {l m:List Xb} (hl:(l.map Xb.id).Nodup) (hm:(m.map Xb.id).Nodup) {id:ByteArray} {v v':List Xa} (h0:viewC l id=some v) (h1:viewC m id=some v') (h:∀ k,k≠id→viewC m k=viewC l k) :
  (cano l).Perm (nuN id v::(cano l).filter fun c=>!seqB c.id id)∧(cano m).Perm (nuN id v'::(cano l).filter fun c=>!seqB c.id id):=by
 have hne:∀ x∈(cano l).filter (fun c=>!seqB c.id id),x.id≠id:=fun x hx e=>by
  have:=(QL.1 hx).2
  rw [e,bP] at this
  cases this
 have hnd:∀ v,(nuN id v::(cano l).filter fun c=>!seqB c.id id).Nodup:=fun v=>List.nodup_cons.2 ⟨fun hx=>hne _ hx rfl,(yT hl).sublist List.filter_sublist⟩
 have key:∀ {n:List Xb} {w:List Xa},(n.map Xb.id).Nodup→viewC n id=some w→(∀ k,k≠id→viewC n k=viewC l k)→(cano n).Perm (nuN id w::(cano l).filter fun c=>!seqB c.id id):=fun {n w} hn hw hk=>by
  refine (List.perm_ext_iff_of_nodup (yT hn) (hnd w)).2 fun x=>?_
  rw [vk hn,ZH,QL,vk hl]
  constructor
  · rintro ⟨k,u,hu,rfl⟩
    by_cases e:k=id
    · subst e
      rw [hw] at hu
      cases hu
      exact .inl rfl
    · exact .inr ⟨⟨k,u,by rw [←hk k e];exact hu,rfl⟩,by show (!seqB k id)=true;rw [seqB_ne.2 e];rfl⟩
  · rintro (rfl|⟨⟨k,u,hu,rfl⟩,hx⟩)
    · exact ⟨id,w,hw,rfl⟩
    · have e:k≠id:=fun e=>by
       change (!seqB k id)=true at hx
       rw [e,bP] at hx
       cases hx
      exact ⟨k,u,by rw [hk k e];exact hu,rfl⟩
 exact ⟨key hl h0 fun _ _=>rfl,key hm h1 h⟩
theorem HS (a:Xa) (sc:Int) (g:ByteArray) (n:Nat):gOk a.can sc g n=gOk a sc g n:=rfl
theorem oN (l:List Xa) (sc:Int) (g:ByteArray):∀ k,grantF (l.map Xa.can) sc g k=grantF l sc g k
 | 0=>rfl
 | k+1=>by rw [grantF,grantF,oN l sc g k,fq,HS]
theorem o0 (l:List Xa) (n sc:Int) (g:ByteArray):epochO (l.map Xa.can) n sc g=(epochO l n sc g).map Xa.can:=by
 rw [epochO,epochO,grantV,grantV,oN,ZE]
 cases decide ((0:Int)<((grantF l sc g (limN n l.length)).2:Nat)) with
 | false=>rfl
 | true=>rw [Zg,Zg,Z5]
theorem lC (l:List Xa) (g:ByteArray):∀ k,circF (l.map Xa.can) g k=(circF l g k).map Xa.can
 | 0=>rfl
 | k+1=>by
  rw [circF,circF,lC l g k,fq]
  show (bif decide ((l.getD k Xa.zero).kind=15)&&seqB (l.getD k Xa.zero).group g then _ else _)=_
  cases decide ((l.getD k Xa.zero).kind=15)&&seqB (l.getD k Xa.zero).group g<;>rfl
structure Em (c d:Xb):Prop where
 id:c.id=d.id
 acts:c.actsL.map Xa.can=d.actsL.map Xa.can
theorem Em.len {c d:Xb} (h:Em c d):c.actsL.length=d.actsL.length:=by
 have:=congrArg List.length h.acts
 rwa [ZE,ZE] at this
theorem Em.at_ {c d:Xb} (h:Em c d) (k:Nat):c.actsL[k]?.map Xa.can=d.actsL[k]?.map Xa.can:=by
 rw [←Z5,←Z5,h.acts]
theorem Em.tie {c d:Xb} (h:Em c d) (n:Int):tieV c.actsL n=tieV d.actsL n:=by rw [←m5 c.actsL,h.acts,m5]
theorem Em.epoch {c d:Xb} (h:Em c d) (n sc:Int) (g:ByteArray):(epochO c.actsL n sc g).map Xa.can=(epochO d.actsL n sc g).map Xa.can:=by rw [←o0,h.acts,o0]
theorem Em.circ {c d:Xb} (h:Em c d) (g:ByteArray) (k:Nat):(circF c.actsL g k).map Xa.can=(circF d.actsL g k).map Xa.can:=by rw [←lC,h.acts,lC]
theorem Hq {α:Type} {f:Xa→α} (hf:∀ a:Xa,f a.can=f a) {o p:Option Xa} (h:o.map Xa.can=p.map Xa.can):o.map f=p.map f:=by
 have e:∀ q:Option Xa,q.map f=(q.map Xa.can).map f:=fun q=>by cases q<;>simp [hf]
 rw [e o,e p,h]
theorem Em.members {c d:Xb} (h:Em c d) (n sc:Int) (g:ByteArray) (toL:List ByteArray):membersV c n sc g toL=membersV d n sc g toL:=by
 have e2:(circF c.actsL g (limN n c.actsL.length)).map (·.toL)=(circF d.actsL g (limN n d.actsL.length)).map (·.toL):=by
  rw [h.len]
  exact Hq (fun _=>rfl) (h.circ g _)
 have e3:keepM c=keepM d:=by funext bs x;simp only [keepM,h.id]
 simp only [membersV,listOf,h.tie n,e2,e3]
theorem Em.wellA {c d:Xb} (h:Em c d) (i:Int) (a:Xa):wellA c i a=wellA d i a:=by
 have e:=h.epoch i a.scope a.group
 unfold Go.Proofs.YtaolfiikahlmkaaGreatDoor.wellA
 rw [h.members]
 revert e
 cases epochO c.actsL i a.scope a.group with
 | none =>
  cases epochO d.actsL i a.scope a.group with
  | none=>exact fun _=>rfl
  | some y=>exact fun e=>by cases e
 | some x =>
  cases epochO d.actsL i a.scope a.group with
  | none=>exact fun e=>by cases e
  | some y =>
   intro e
   have e':x.can=y.can:=Option.some.inj e
   have e1:x.epoch=y.epoch:=(congrArg Xa.epoch e' :)
   have e2:x.toL=y.toL:=(congrArg Xa.toL e' :)
   simp only [e1,e2]
theorem mZ (c:Xb) (i:Int) (a:Xa):wellA c i a.can=wellA c i a:=rfl
theorem Em.well {c d:Xb} (h:Em c d) (i:Int):wellV c i=wellV d i:=by
 have e:=h.at_ i.toNat
 rw [wellV,wellV]
 revert e
 cases c.actsL[i.toNat]? with
 | none =>
  cases d.actsL[i.toNat]? with
  | none=>exact fun _=>rfl
  | some y=>exact fun e=>by cases e
 | some x =>
  cases d.actsL[i.toNat]? with
  | none=>exact fun e=>by cases e
  | some y =>
   intro e
   have e':x.can=y.can:=Option.some.inj e
   simp only
   rw [←mZ c i x,←mZ d i y,e',h.wellA]
theorem Em.rmem {c d:Xb} (h:Em c d) (i:Int):rmemV c i=rmemV d i:=by
 have e:=h.at_ i.toNat
 rw [rmemV,rmemV,h.well]
 revert e
 cases c.actsL[i.toNat]? with
 | none =>
  cases d.actsL[i.toNat]? with
  | none=>exact fun _=>rfl
  | some y=>exact fun e=>by cases e
 | some x =>
  cases d.actsL[i.toNat]? with
  | none=>exact fun e=>by cases e
  | some y =>
   intro e
   have e':x.can=y.can:=Option.some.inj e
   have e1:x.scope=y.scope:=(congrArg Xa.scope e' :)
   have e2:x.toL=y.toL:=(congrArg Xa.toL e' :)
   have e3:x.group=y.group:=(congrArg Xa.group e' :)
   simp only [e1,e2,e3,h.members]
theorem Em.kinds {c d:Xb} (h:Em c d) (i:Int):rtextV c i=rtextV d i∧pubV c i=pubV d i:=by
 have e:=h.at_ i.toNat
 rw [rtextV,rtextV,pubV,pubV]
 revert e
 cases c.actsL[i.toNat]? with
 | none =>
  cases d.actsL[i.toNat]? with
  | none=>exact fun _=>⟨rfl,rfl⟩
  | some y=>exact fun e=>by cases e
 | some x =>
  cases d.actsL[i.toNat]? with
  | none=>exact fun e=>by cases e
  | some y =>
   intro e
   have e':x.can=y.can:=Option.some.inj e
   have e1:x.scope=y.scope:=(congrArg Xa.scope e' :)
   have e2:x.kind=y.kind:=(congrArg Xa.kind e' :)
   simp only [e1,e2,and_self]
theorem Em.may {c d:Xb} (h:Em c d) (i:Int) (r:ByteArray):mayV c i r=mayV d i r:=by
 rw [mayV,mayV,(h.kinds i).1,(h.kinds i).2,h.rmem,h.id]
theorem sdel_sub {k:ByteArray}:∀ {ks:List ByteArray},(sdel ks k).Sublist ks
 | []=>ak _
 | a::ks=>by
  rw [sdel]
  cases Xj.eqb k a with
  | true=>exact List.sublist_cons_self _ _
  | false=>exact sdel_sub.cons_cons a
theorem dV {k:ByteArray} {ks:List ByteArray} (h:ks.Nodup):(sdel ks k).Nodup:=h.sublist sdel_sub
theorem iy {k x:ByteArray}:∀ {ks:List ByteArray},ks.Nodup→(x∈sdel ks k↔x≠k∧x∈ks)
 | [],_=>by simp [sdel]
 | a::ks,h=>by
  rw [List.nodup_cons] at h
  have ih:=iy (k:=k) (x:=x) h.2
  rw [sdel,eqbB]
  cases hk:seqB k a with
  | true =>
   obtain rfl:=seqB_iff.1 hk
   simp only [Zg,ZH]
   constructor
   · intro hx
     exact ⟨fun e=>h.1 (e▸hx),.inr hx⟩
   · rintro ⟨h1,h2|h2⟩
     · exact absurd h2 h1
     · exact h2
  | false =>
   have hne:=seqB_ne.1 hk
   simp only [Zf,ZH,ih]
   constructor
   · rintro (h1|⟨h1,h2⟩)
     · exact ⟨fun e=>hne (e▸h1),.inl h1⟩
     · exact ⟨h1,.inr h2⟩
   · rintro ⟨h1,h2|h2⟩
     · exact .inl h2
     · exact .inr ⟨h1,h2⟩
structure TNd (t:En):Prop where
 f:t.f.Nodup
 a:t.a.Nodup
 b:t.b.Nodup
 m:t.m.Nodup
structure MovOk (x y:List ByteArray) (id:ByteArray) (inn ch:Bool):Prop where
 asc:Asc y
 same:ch=false→x=y
 xin:ch=true→∀ z∈x,seqB z id=false→hasS y z=true
 yin:ch=true→∀ z∈y,seqB z id=false→hasS x z=true
 has:ch=true→hasS y id=inn
theorem bH {ks:List ByteArray} (h:ks.Nodup) (id:ByteArray) (inn:Bool):MovOk (sortB ks) (sortB ks) id inn false :=
 ⟨gN h,fun _=>rfl,fun e=>(by cases e),fun e=>(by cases e),fun e=>(by cases e)⟩
theorem mG {ks:List ByteArray} (h:ks.Nodup) (id:ByteArray):MovOk (sortB ks) (sortB (sput ks id)) id true true :=
 ⟨gN (eD h),fun e=>(by cases e),fun _ z hz _=>hasS_iff.2 (mem_sortB.2 (mem_sput.2 (.inr (mem_sortB.1 hz)))),
  fun _ z hz hn=>hasS_iff.2 (mem_sortB.2 ((mem_sput.1 (mem_sortB.1 hz)).resolve_left (seqB_ne.1 hn))),fun _=>hasS_iff.2 (mem_sortB.2 (mem_sput.2 (.inl rfl)))⟩
theorem gY {ks:List ByteArray} (h:ks.Nodup) (id:ByteArray):MovOk (sortB ks) (sortB (sdel ks id)) id false true :=
 ⟨gN (dV h),fun e=>(by cases e),fun _ z hz hn=>hasS_iff.2 (mem_sortB.2 ((iy h).2 ⟨seqB_ne.1 hn,mem_sortB.1 hz⟩)),
  fun _ z hz hn=>hasS_iff.2 (mem_sortB.2 ((iy h).1 (mem_sortB.1 hz)).2),fun _=>by
   cases hh:hasS (sortB (sdel ks id)) id with
   | false=>rfl
   | true=>exact absurd rfl ((iy h).1 (mem_sortB.1 (hasS_iff.1 hh))).1⟩
def foB (k:Int) (u:Bool):Bool:=bif decide (k=7) then true else bif decide (k=10) then !u else false
def acB (k:Int) (u:Bool):Bool:=bif decide (k=8) then true else bif decide (k=9)&&!u then true else decide (k=10)&&!u
structure Mov4 (t t':En) (id:ByteArray) (k:Int) (u:Bool):Prop where
 f:MovOk (sortB t.f) (sortB t'.f) id (decide (k=7)&&!u) (foB k u)
 a:MovOk (sortB t.a) (sortB t'.a) id (decide (k=8)&&!u) (acB k u)
 b:MovOk (sortB t.b) (sortB t'.b) id (decide (k=10)&&!u) (decide (k=10))
 m:MovOk (sortB t.m) (sortB t'.m) id (decide (k=11)&&!u) (decide (k=11))
theorem ux {t:En} (h:TNd t) (id:ByteArray) {k:Int} (u:Bool) (h7:k≠7) (h8:k≠8) (h9:u=true∨k≠9) (h10:k≠10) (h11:k≠11):Mov4 t t id k u:=by
 have e1:foB k u=false:=by rw [foB,Zd h7,Zd h10];rfl
 have e2:acB k u=false:=by
  rw [acB,Zd h8,Zd h10]
  rcases h9 with rfl|h9
  · simp
  · rw [Zd h9];rfl
 refine ⟨?_,?_,?_,?_⟩
 · rw [e1];exact bH h.f _ _
 · rw [e2];exact bH h.a _ _
 · rw [Zd h10];exact bH h.b _ _
 · rw [Zd h11];exact bH h.m _ _
theorem zf {t:En} (h:TNd t) (y:Xa):Mov4 t (undoT t y) y.target y.kind true∧TNd (undoT t y):=by
 by_cases h7:y.kind=7
 · have e:undoT t y={ t with f:=sdel t.f y.target }:=by rw [undoT,h7];rfl
   rw [e,h7]
   exact ⟨⟨gY h.f _,bH h.a _ _,bH h.b _ _,bH h.m _ _⟩,⟨dV h.f,h.a,h.b,h.m⟩⟩
 by_cases h8:y.kind=8
 · have e:undoT t y={ t with a:=sdel t.a y.target }:=by rw [undoT,h8];rfl
   rw [e,h8]
   exact ⟨⟨bH h.f _ _,gY h.a _,bH h.b _ _,bH h.m _ _⟩,⟨h.f,dV h.a,h.b,h.m⟩⟩
 by_cases h10:y.kind=10
 · have e:undoT t y={ t with b:=sdel t.b y.target }:=by rw [undoT,h10];rfl
   rw [e,h10]
   exact ⟨⟨bH h.f _ _,bH h.a _ _,gY h.b _,bH h.m _ _⟩,⟨h.f,h.a,dV h.b,h.m⟩⟩
 by_cases h11:y.kind=11
 · have e:undoT t y={ t with m:=sdel t.m y.target }:=by rw [undoT,h11];rfl
   rw [e,h11]
   exact ⟨⟨bH h.f _ _,bH h.a _ _,bH h.b _ _,gY h.m _⟩,⟨h.f,h.a,h.b,dV h.m⟩⟩
 have e:undoT t y=t:=by rw [undoT,Zd h7,Zd h8,Zd h10,Zd h11];rfl
 rw [e]
 exact ⟨ux h _ _ h7 h8 (.inl rfl) h10 h11,h⟩
theorem Af {l:List Xa} {i:Nat} {t:En} (h:TNd t) {x:Xa} (h6:x.kind≠6):Mov4 t (stepT l i t x) x.target x.kind false∧TNd (stepT l i t x):=by
 by_cases h7:x.kind=7
 · have e:stepT l i t x={ t with f:=sput t.f x.target }:=by rw [stepT,h7];rfl
   rw [e,h7]
   exact ⟨⟨mG h.f _,bH h.a _ _,bH h.b _ _,bH h.m _ _⟩,⟨eD h.f,h.a,h.b,h.m⟩⟩
 by_cases h8:x.kind=8
 · have e:stepT l i t x={ t with a:=sput t.a x.target }:=by rw [stepT,h8];rfl
   rw [e,h8]
   exact ⟨⟨bH h.f _ _,mG h.a _,bH h.b _ _,bH h.m _ _⟩,⟨h.f,eD h.a,h.b,h.m⟩⟩
 by_cases h9:x.kind=9
 · have e:stepT l i t x={ t with a:=sdel t.a x.target }:=by rw [stepT,h9];rfl
   rw [e,h9]
   exact ⟨⟨bH h.f _ _,gY h.a _,bH h.b _ _,bH h.m _ _⟩,⟨h.f,dV h.a,h.b,h.m⟩⟩
 by_cases h10:x.kind=10
 · have e:stepT l i t x={ t with b:=sput t.b x.target,f:=sdel t.f x.target,a:=sdel t.a x.target }:=by rw [stepT,h10];rfl
   rw [e,h10]
   exact ⟨⟨gY h.f _,gY h.a _,mG h.b _,bH h.m _ _⟩,⟨dV h.f,dV h.a,eD h.b,h.m⟩⟩
 by_cases h11:x.kind=11
 · have e:stepT l i t x={ t with m:=sput t.m x.target }:=by rw [stepT,h11];rfl
   rw [e,h11]
   exact ⟨⟨bH h.f _ _,bH h.a _ _,bH h.b _ _,mG h.m _⟩,⟨h.f,h.a,h.b,eD h.m⟩⟩
 have e:stepT l i t x=t:=by rw [stepT,Zd h7,Zd h8,Zd h9,Zd h10,Zd h11,Zd h6];rfl
 rw [e]
 exact ⟨ux h _ _ h7 h8 (.inr h9) h10 h11,h⟩
theorem p8 {l:List Xa} {i:Nat} {t:En} {x:Xa} (h6:x.kind=6):stepT l i t x=match idxV l x.object with|some j=>bif decide ((j:Int)<(i:Int)) then undoT t (l.getD j Xa.zero) else t|none=>t:=by
 rw [stepT,h6]
 rfl
theorem Dd {l:List Xa} {i:Nat} {t:En} (h:TNd t) (x:Xa):TNd (stepT l i t x):=by
 by_cases h6:x.kind=6
 · rw [p8 h6]
   cases idxV l x.object with
   | none=>exact h
   | some j =>
    show TNd (bif decide ((j:Int)<(i:Int)) then undoT t (l.getD j Xa.zero) else t)
    cases decide ((j:Int)<(i:Int)) with
    | true=>exact (zf h _).2
    | false=>exact h
 · exact (Af h h6).2
theorem xw (l:List Xa):∀ n,TNd (tieF l n)
 | 0=>⟨List.nodup_nil,List.nodup_nil,List.nodup_nil,List.nodup_nil⟩
 | n+1=>Dd (xw l n) _
structure MM (t t':En) (id:ByteArray) (f1 f2 a1 a2 b1 b2 m1 m2:Bool):Prop where
 f:MovOk (sortB t.f) (sortB t'.f) id f1 f2
 a:MovOk (sortB t.a) (sortB t'.a) id a1 a2
 b:MovOk (sortB t.b) (sortB t'.b) id b1 b2
 m:MovOk (sortB t.m) (sortB t'.m) id m1 m2
theorem xg (l:List Xa) (a:Xa):Agree l.length l (l++[a]):=⟨fun k hk=>(ZF hk).symm,ZV _,by rw [Zz];omega⟩
theorem gJ (l:List Xa) (a:Xa):(l++[a]).getD l.length Xa.zero=a:=by
 rw [Zp,ZT (ZV _),Nat.sub_self];rfl
theorem iz (l:List Xa) (a:Xa):(l++[a]).length=l.length+1:=by rw [Zz];rfl
theorem Ci (l:List Xa) (a:Xa):tieV (l++[a]) ((l.length+1:Nat):Int)=stepT (l++[a]) l.length (tieV l (l.length:Nat)) a:=by
 rw [tieV,tieV,uI (by rw [iz];omega),uI (ZV _),tieF,gJ,m6 (xg l a) _ (ZV _)]
section
variable {id:ByteArray} {l:List Xa} {a:Xa} {sc:Int} {g:ByteArray} {toL:List ByteArray}
end
theorem EL {l m:List ByteArray} (hl:Asc l) (hm:Asc m) {x:ByteArray} (hx:x∈l) (h:∀ y,y∈m↔y∈l∧y≠x):m.length+1=l.length:=by
 have hp:(x::m).Perm l:=by
  refine (List.perm_ext_iff_of_nodup (List.nodup_cons.2 ⟨fun hh=>((h x).1 hh).2 rfl,hm.nodup⟩) hl.nodup).2 fun y=>?_
  rw [ZH,h y]
  constructor
  · rintro (rfl|h)
    · exact hx
    · exact h.1
  · intro hy
    by_cases e:y=x
    · exact .inl e
    · exact .inr ⟨hy,e⟩
 have:=hp.length_eq
 rwa [ZA] at this
structure More (c d:Xb) (a:Xa):Prop where
 id:d.id=c.id
 acts:d.actsL.map Xa.can=c.actsL.map Xa.can++[a.can]
section
variable {c d:Xb} {a:Xa} {sc:Int} {g:ByteArray} {toL:List ByteArray}
end
end Go.Proofs.YtaolfiikahlmkaaGreatDoor

namespace Go.Proofs.YtaolfiikahlmkaaGreatDoor
open Go Go.Proofs Sy
structure Ei where
 actor:ByteArray
 reason:ByteArray
 by_:ByteArray
 until_:Int
structure Xz where
 l:Ei
 at_:Int
def eqLD (a b:Ei):Bool:=seqB a.actor b.actor&&(seqB a.reason b.reason&&(seqB a.by_ b.by_&&decide (a.until_=b.until_)))
def eqED (a b:Xz):Bool:=eqLD a.l b.l&&decide (a.at_=b.at_)
theorem Ff {a b:Ei}:eqLD a b=true↔a=b:=by
 cases a;cases b
 simp only [eqLD,Zq,seqB_iff,Zv,Ei.mk.injEq]
theorem eqED_iff {a b:Xz}:eqED a b=true↔a=b:=by
 cases a;cases b
 simp only [eqED,Zq,Ff,Zv,Xz.mk.injEq]
section
variable {N:Nat} {av bor:List Nat} {w0:World} {ops:Array Oper} {rest:List Oper} {k:St→Prop} {E:Env} {loc:List Xl} {X:World→Prop} {x y:Operand} {t2:TypeId}
variable {n:Nat} {ty:TypeId} {pos:String} {af:Array Edge} {g:Option (Nat×Bool)} {bb want:Bool} {st:St}
end
def betV (a b:Xz):Bool:=bif !decide (a.l.until_=b.l.until_) then decide (b.l.until_<a.l.until_) else bif !seqB a.l.by_ b.l.by_ then ltB a.l.by_ b.l.by_ else decide (b.at_<a.at_)
end Go.Proofs.YtaolfiikahlmkaaGreatDoor
namespace Go.Proofs.YtaolfiikahlmkaaGreatDoor
open Go Go.Proofs Sy Go.Shelf Go.Maps Go.Sort
def Ei.zero:Ei:=⟨⟨#[]⟩,⟨#[]⟩,⟨#[]⟩,0⟩
def hasL (l:List Ei) (a:ByteArray):Option Ei:=l.find? fun e=>seqB e.actor a
end Go.Proofs.YtaolfiikahlmkaaGreatDoor
namespace Go.Proofs.YtaolfiikahlmkaaGreatDoor
open Go Go.Proofs Sy Go.Sort
def entA (k:ByteArray) (l:List Xa) (j:Nat):Xz:=⟨⟨(l.getD j Xa.zero).target,(l.getD j Xa.zero).text,k,(l.getD j Xa.zero).n⟩,j⟩
def foundF (l:List Xa):Nat→List Nat
 | 0=>[]
 | i+1=>bif decide ((l.getD i Xa.zero).kind=23) then foundF l i++[i] else bif decide ((l.getD i Xa.zero).kind=6) then (match idxV l (l.getD i Xa.zero).object with|some j=>(foundF l i).erase j|none=>foundF l i) else foundF l i
def entsV (l:List Xb) (k:ByteArray):List Xz:=match findC l k with
 | some c=>(foundF c.actsL c.actsL.length).map (entA k c.actsL)
 | none=>[]
def hasK (ks:List ByteArray) (k:ByteArray):Bool:=ks.any fun y=>Xj.eqb k y
def bestStep (now:Int) (b:List (ByteArray×Xz)) (e:Xz):List (ByteArray×Xz) :=
 bif decide (e.l.until_≤now) then b else
  match mget b e.l.actor with
  | none=>mput b e.l.actor e
  | some old=>bif (!eqED e old)&&betV e old then mput b e.l.actor e else b
def bestF (l:List Xb) (now:Int) (ks:List ByteArray):Nat→List ByteArray×List (ByteArray×Xz)
 | 0=>([],[])
 | i+1=>bif hasK (bestF l now ks i).1 (ks.getD i .empty) then bestF l now ks i else (sput (bestF l now ks i).1 (ks.getD i .empty),(entsV l (ks.getD i .empty)).foldl (bestStep now) (bestF l now ks i).2)
def Xz.zero:Xz:=⟨Ei.zero,0⟩
def ofV (l:List Xb) (ks:List ByteArray) (now:Int):List Ei:=(sortB ((bestF l now ks ks.length).2.map (·.1))).map fun a=>((mget (bestF l now ks ks.length).2 a).getD Xz.zero).l
section
variable {N:Nat} {av bor:List Nat} {w0:World} {ops:Array Oper} {rest:List Oper} {k:St→Prop} {E:Env} {loc:List Xl} {X:World→Prop} {x:Operand} {st:St}
variable {n:Nat} {ty:TypeId} {pos:String} {af:Array Edge} {g:Option (Nat×Bool)} {bb want:Bool}
end
theorem uA {β:Type}:∀ {b:List (ByteArray×β)} {a:ByteArray},a∈b.map (·.1)→∃ e,mget b a=some e
 | [],a,h=>by cases h
 | (k',v')::r,a,h=>by
  simp only [mget]
  cases hk:Xj.eqb a k' with
  | true=>exact ⟨v',rfl⟩
  | false =>
   simp only [ZZ,ZH] at h
   rcases h with rfl|h
   · rw [(Xj.eqb_iff a a).2 rfl] at hk;cases hk
   · exact uA h
structure BBnd (m:Nat) (b:List (ByteArray×Xz)):Prop where
 len:b.length≤m
 size:∀ p∈b,p.1.size≤maxLen
end Go.Proofs.YtaolfiikahlmkaaGreatDoor
namespace Go.Proofs.YtaolfiikahlmkaaGreatDoor
open Go Go.Proofs Sy
theorem iI {a b:Xz}:betV a b=true↔b.l.until_<a.l.until_∨(a.l.until_=b.l.until_∧(ltB a.l.by_ b.l.by_=true∨(a.l.by_=b.l.by_∧b.at_<a.at_))):=by
 unfold betV
 by_cases h:a.l.until_=b.l.until_
 · rw [Ze h]
   simp only [Zo,Zf]
   cases hs:seqB a.l.by_ b.l.by_ with
   | true =>
    have e:=seqB_iff.1 hs
    simp only [Zo,Zf,Zv]
    constructor
    · intro h1;exact .inr ⟨h,.inr ⟨e,h1⟩⟩
    · rintro (h1|⟨_,h1|h1⟩)
      · omega
      · rw [e,dk] at h1;cases h1
      · exact h1.2
   | false =>
    have e:=seqB_ne.1 hs
    simp only [Zm,Zg]
    constructor
    · intro h1;exact .inr ⟨h,.inl h1⟩
    · rintro (h1|⟨_,h1|h1⟩)
      · omega
      · exact h1
      · exact absurd h1.1 e
 · rw [Zd h]
   simp only [Zm,Zg,Zv]
   constructor
   · intro h1;exact .inl h1
   · rintro (h1|h1)
     · exact h1
     · exact absurd h1.1 h
theorem xc {a b:Xz} (h:betV a b=true) (k:betV b a=true):False:=by
 rw [iI] at h k
 rcases h with h|⟨h,h2⟩
 · rcases k with k|⟨k,_⟩<;>omega
 · rcases k with k|⟨k,k2⟩
   · omega
   · rcases h2 with h2|⟨h2,h3⟩
     · rcases k2 with k2|⟨k2,_⟩
       · rw [iU h2] at k2;cases k2
       · rw [k2,dk] at h2;cases h2
     · rcases k2 with k2|⟨k2,k3⟩
       · rw [h2,dk] at k2;cases k2
       · omega
theorem xa {a b c:Xz} (h:betV a b=true) (k:betV b c=true):betV a c=true:=by
 rw [iI] at *
 rcases h with h|⟨h,h2⟩
 · rcases k with k|⟨k,_⟩<;>exact .inl aa
 · rcases k with k|⟨k,k2⟩
   · exact .inl aa
   · refine .inr ⟨by omega,?_⟩
     rcases h2 with h2|⟨h2,h3⟩
     · rcases k2 with k2|⟨k2,_⟩
       · exact .inl (fK h2 k2)
       · exact .inl (k2▸h2)
     · rcases k2 with k2|⟨k2,k3⟩
       · exact .inl (h2▸k2)
       · exact .inr ⟨h2.trans k2,by omega⟩
theorem xb {a b:Xz} (h:¬ betV a b=true) (k:¬ betV b a=true):a.l.by_=b.l.by_∧a.at_=b.at_:=by
 rw [iI] at *
 simp only [not_or,not_and] at h k
 have hu:a.l.until_=b.l.until_:=by omega
 have h2:=h.2 hu
 have k2:=k.2 hu.symm
 have e:a.l.by_=b.l.by_:=ll (by simpa using h2.1) (by simpa using k2.1)
 exact ⟨e,by have:=h2.2 e;have:=k2.2 e.symm;omega⟩
theorem jA {l:List Xb} {k:ByteArray} {e:Xz} (h:e∈entsV l k):∃ c j,findC l k=some c∧j∈foundF c.actsL c.actsL.length∧e=entA k c.actsL j:=by
 unfold entsV at h
 cases hf:findC l k with
 | none=>rw [hf] at h;cases h
 | some c =>
  rw [hf] at h
  obtain ⟨j,hj,rfl⟩:=QH.1 h
  exact ⟨c,j,rfl,hj,rfl⟩
theorem Fj {l:List Xb} {k:ByteArray} {e:Xz} (h:e∈entsV l k):e.l.by_=k:=by
 obtain ⟨c,j,_,_,rfl⟩:=jA h
 rfl
theorem Fi {l:List Xb} {k k':ByteArray} {e e':Xz} (h:e∈entsV l k) (h':e'∈entsV l k') (hb:e.l.by_=e'.l.by_) (ha:e.at_=e'.at_):e=e':=by
 have hk:k=k':=by rw [←Fj h,←Fj h',hb]
 subst hk
 obtain ⟨c,j,hc,_,rfl⟩:=jA h
 obtain ⟨c',j',hc',_,rfl⟩:=jA h'
 rw [hc] at hc'
 cases hc'
 have:(j:Int)=(j':Int):=ha
 rw [show j=j' by omega]
def Best (S:Xz→Prop) (a:ByteArray) (e:Xz):Prop:=S e∧e.l.actor=a∧∀ e',S e'→e'.l.actor=a→e'=e∨betV e e'=true
theorem Best.uniq {S:Xz→Prop} {a:ByteArray} {e e':Xz} (h:Best S a e) (h':Best S a e'):e=e':=by
 rcases h.2.2 e' h'.1 h'.2.1 with h1|h1
 · exact h1.symm
 · rcases h'.2.2 e h.1 h.2.1 with h2|h2
   · exact h2
   · exact (xc h1 h2).elim
theorem li {β:Type}:∀ (b:List (ByteArray×β)) (k a:ByteArray) (v:β),mget (mput b k v) a=if a=k then some v else mget b a
 | [],k,a,v=>by
  by_cases h:a=k
  · simp only [mput,mget,(Xj.eqb_iff a k).2 h,Zg,ZN h]
  · have:Xj.eqb a k=false:=by rw [←ZD,Xj.eqb_iff];exact h
    simp only [mput,mget,this,Zf,ZO h]
 | (k',v')::r,k,a,v=>by
  have ih:=li r k a v
  simp only [mput]
  cases hk:Xj.eqb k k' with
  | true =>
   have e:=(Xj.eqb_iff k k').1 hk
   subst e
   by_cases h:a=k
   · simp only [Zg,mget,(Xj.eqb_iff a k).2 h,ZN h]
   · have:Xj.eqb a k=false:=by rw [←ZD,Xj.eqb_iff];exact h
     simp only [Zg,mget,this,Zf,ZO h]
  | false =>
   simp only [Zf,mget]
   cases ha:Xj.eqb a k' with
   | true =>
    have e:=(Xj.eqb_iff a k').1 ha
    subst e
    have hne:¬ a=k:=fun e=>by rw [e,(Xj.eqb_iff k k).2 rfl] at hk;cases hk
    simp only [Zg,ZO hne]
   | false=>simp only [Zf,ih]
theorem uB {β:Type}:∀ (b:List (ByteArray×β)) (k a:ByteArray) (v:β),a∈(mput b k v).map (·.1)↔a=k∨a∈b.map (·.1)
 | [],k,a,v=>by simp [mput]
 | (k',v')::r,k,a,v=>by
  have ih:=uB r k a v
  simp only [mput]
  cases hk:Xj.eqb k k' with
  | true =>
   have e:=(Xj.eqb_iff k k').1 hk
   subst e
   simp
  | false =>
   simp only [Zf,ZZ,ZH,ih]
   constructor
   · rintro (h|h|h)
     · exact .inr (.inl h)
     · exact .inl h
     · exact .inr (.inr h)
   · rintro (h|h|h)
     · exact .inr (.inl h)
     · exact .inl h
     · exact .inr (.inr h)
theorem oz {β:Type}:∀ (b:List (ByteArray×β)) (k:ByteArray) (v:β),(b.map (·.1)).Nodup→((mput b k v).map (·.1)).Nodup
 | [],k,v,_=>by simp [mput]
 | (k',v')::r,k,v,h=>by
  simp only [ZZ,List.nodup_cons] at h
  have ih:=oz r k v h.2
  simp only [mput]
  cases hk:Xj.eqb k k' with
  | true =>
   have e:=(Xj.eqb_iff k k').1 hk
   subst e
   simp only [Zg,ZZ,List.nodup_cons]
   exact h
  | false =>
   simp only [Zf,ZZ,List.nodup_cons]
   refine ⟨fun hm=>?_,ih⟩
   rcases (uB r k k' v).1 hm with e|e
   · rw [e,(Xj.eqb_iff k k).2 rfl] at hk;cases hk
   · exact h.1 e
theorem qx {β:Type}:∀ {b:List (ByteArray×β)} {a:ByteArray} {e:β},mget b a=some e→a∈b.map (·.1)
 | [],a,e,h=>by cases h
 | (k',v')::r,a,e,h=>by
  simp only [mget] at h
  cases hk:Xj.eqb a k' with
  | true=>rw [(Xj.eqb_iff a k').1 hk];simp
  | false=>rw [hk] at h;simp only [ZZ,ZH];exact .inr (qx h)
structure Inv (l:List Xb) (S:Xz→Prop) (b:List (ByteArray×Xz)):Prop where
 wf:∀ e,S e→∃ k,e∈entsV l k
 nodup:(b.map (·.1)).Nodup
 best:∀ a e,mget b a=some e→Best S a e
 all:∀ e,S e→∃ e',mget b e.l.actor=some e'
theorem Inv.congr {l:List Xb} {S S':Xz→Prop} {b:List (ByteArray×Xz)} (h:Inv l S b) (hs:∀ e,S e↔S' e):Inv l S' b:=by
 have:S=S':=funext fun e=>propext (hs e)
 subst this
 exact h
theorem ES {l:List Xb} {S:Xz→Prop} {b:List (ByteArray×Xz)} {now:Int} {e:Xz} {k:ByteArray} (h:Inv l S b) (he:e∈entsV l k):Inv l (fun x=>S x∨(x=e∧now<e.l.until_)) (bestStep now b e):=by
 unfold bestStep
 by_cases hu:e.l.until_≤now
 · rw [Ze hu,Zg]
   exact h.congr fun x=>⟨.inl,fun hx=>hx.elim id fun hx=>by omega⟩
 · rw [Zd hu,Zf]
   have hu':now<e.l.until_:=by omega
   have hS:(fun x=>S x∨(x=e∧now<e.l.until_))=fun x=>S x∨x=e:=funext fun x=>propext ⟨fun hx=>hx.imp id And.left,fun hx=>hx.imp id fun hx=>⟨hx,hu'⟩⟩
   rw [hS]
   have hwf:∀ x,S x∨x=e→∃ k,x∈entsV l k:=fun x hx=>hx.elim (h.wf x) fun hx=>⟨k,hx▸he⟩
   have put:(∀ x,S x→x.l.actor=e.l.actor→x=e∨betV e x=true)→Inv l (fun x=>S x∨x=e) (mput b e.l.actor e):=fun hb=>by
    refine ⟨hwf,oz b _ _ h.nodup,fun a x hx=>?_,fun x hx=>?_⟩
    · rw [li] at hx
      by_cases ha:a=e.l.actor
      · rw [ZN ha] at hx
        cases hx
        refine ⟨.inr rfl,ha.symm,fun e' h1 h2=>?_⟩
        rcases h1 with h1|h1
        · exact hb e' h1 (h2.trans ha)
        · exact .inl h1
      · rw [ZO ha] at hx
        have h1:=h.best a x hx
        refine ⟨.inl h1.1,h1.2.1,fun e' h2 h3=>?_⟩
        rcases h2 with h2|h2
        · exact h1.2.2 e' h2 h3
        · subst h2;exact absurd h3.symm ha
    · rw [li]
      by_cases ha:x.l.actor=e.l.actor
      · rw [ZN ha];exact ⟨_,rfl⟩
      · rw [ZO ha]
        rcases hx with hx|hx
        · exact h.all x hx
        · subst hx;exact absurd rfl ha
   cases ho:mget b e.l.actor with
   | none =>
    refine put fun x hx ha=>?_
    obtain ⟨e',h1⟩:=h.all x hx
    rw [ha,ho] at h1
    cases h1
   | some old =>
    have hbo:=h.best _ _ ho
    simp only
    cases hc:((!eqED e old)&&betV e old) with
    | true =>
     have hb:=(Zq _ _).mp hc
     refine put fun x hx ha=>?_
     rcases hbo.2.2 x hx ha with h1|h1
     · rw [h1];exact .inr hb.2
     · exact .inr (xa hb.2 h1)
    | false =>
     simp only [Zf]
     have hoe:old=e∨betV old e=true:=by
      by_cases h1:betV old e=true
      · exact .inr h1
      · by_cases h2:betV e old=true
        · rw [h2,Zi] at hc
          have:eqED e old=true:=by simpa using hc
          exact .inl (eqED_iff.1 this).symm
        · obtain ⟨k',hk'⟩:=h.wf old hbo.1
          have h3:=xb h1 h2
          exact .inl (Fi hk' he h3.1 h3.2)
     refine ⟨hwf,h.nodup,fun a x hx=>?_,fun x hx=>?_⟩
     · have h1:=h.best a x hx
       refine ⟨.inl h1.1,h1.2.1,fun e' h2 h3=>?_⟩
       rcases h2 with h2|h2
       · exact h1.2.2 e' h2 h3
       · subst h2
         rw [←h3,ho] at hx
         cases hx
         rcases hoe with h4|h4
         · exact .inl h4.symm
         · exact .inr h4
     · rcases hx with hx|hx
       · exact h.all x hx
       · subst hx;exact ⟨old,ho⟩
theorem uM {l:List Xb} {now:Int} {k:ByteArray}:∀ (E:List Xz) {S:Xz→Prop} {b:List (ByteArray×Xz)},Inv l S b→(∀ e∈E,e∈entsV l k)→Inv l (fun x=>S x∨(x∈E∧now<x.l.until_)) (E.foldl (bestStep now) b)
 | [],S,b,h,_=>h.congr fun x=>⟨.inl,fun hx=>hx.elim id fun hx=>by cases hx.1⟩
 | e::E,S,b,h,he=>by
  have h1:=ES (now:=now) h (he e ao)
  have h2:=uM (now:=now) E h1 fun x hx=>he x (Zu _ hx)
  refine h2.congr fun x=>?_
  simp only [ZH]
  constructor
  · rintro ((h|⟨rfl,h⟩)|⟨h,h'⟩)
    · exact .inl h
    · exact .inr ⟨.inl rfl,h⟩
    · exact .inr ⟨.inr h,h'⟩
  · rintro (h|⟨rfl|h,h'⟩)
    · exact .inl (.inl h)
    · exact .inl (.inr ⟨rfl,h'⟩)
    · exact .inr ⟨h,h'⟩
def Cand (l:List Xb) (ks:List ByteArray) (now:Int) (e:Xz):Prop:=(∃ k∈ks,e∈entsV l k)∧now<e.l.until_
theorem hasK_iff {ks:List ByteArray} {k:ByteArray}:hasK ks k=true↔k∈ks:=by
 rw [hasK,List.any_eq_true]
 constructor
 · rintro ⟨y,hy,h⟩
   rw [(Xj.eqb_iff k y).1 h];exact hy
 · intro h
   exact ⟨k,h,(Xj.eqb_iff k k).2 rfl⟩
theorem AW {ks:List ByteArray} {k a:ByteArray}:a∈sput ks k↔a=k∨a∈ks:=by
 induction ks with
 | nil=>simp [sput]
 | cons y ks ih =>
  simp only [sput]
  cases hk:Xj.eqb k y with
  | true=>rw [(Xj.eqb_iff k y).1 hk];simp
  | false =>
   simp only [Zf,ZH,ih]
   constructor
   · rintro (h|h|h)
     · exact .inr (.inl h)
     · exact .inl h
     · exact .inr (.inr h)
   · rintro (h|h|h)
     · exact .inr (.inl h)
     · exact .inl h
     · exact .inr (.inr h)
theorem uN (l:List Xb) (now:Int) (ks:List ByteArray):∀ i,i≤ks.length→(∀ k,k∈(bestF l now ks i).1↔k∈ks.take i)∧Inv l (Cand l (ks.take i) now) (bestF l now ks i).2
 | 0,_=>⟨fun k=>(by simp [bestF]),{ wf:=fun e h=>(by obtain ⟨⟨k,hk,_⟩,_⟩:=h;simp at hk),nodup:=(by simp [bestF]),best:=fun a e h=>(by cases h),all:=fun e h=>(by obtain ⟨⟨k,hk,_⟩,_⟩:=h;simp at hk) }⟩
 | i+1,hi=>by
  obtain ⟨ih1,ih2⟩:=uN l now ks i aa
  have hx:ks.getD i .empty=ks[i]:=by rw [Zp,Zc (by omega)];rfl
  have ht:ks.take (i+1)=ks.take i++[ks[i]]:=by rw [Qe,Zc (by omega)];rfl
  simp only [bestF,hx,ht]
  generalize ks[i]=k0 at *
  cases hh:hasK (bestF l now ks i).1 k0 with
  | true =>
   have hin:k0∈ks.take i:=(ih1 k0).1 (hasK_iff.1 hh)
   simp only [Zg]
   refine ⟨fun k=>?_,ih2.congr fun e=>?_⟩
   · rw [ih1,Qw,Z3]
     exact ⟨.inl,fun h=>h.elim id fun h=>h▸hin⟩
   · unfold Cand
     simp only [Qw,Z3]
     exact ⟨fun ⟨⟨k,h1,h2⟩,h3⟩=>⟨⟨k,.inl h1,h2⟩,h3⟩,fun ⟨⟨k,h1,h2⟩,h3⟩=>⟨⟨k,h1.elim id fun h=>h▸hin,h2⟩,h3⟩⟩
  | false =>
   simp only [Zf]
   refine ⟨fun k=>?_,(uM (now:=now) (k:=k0) (entsV l k0) ih2 fun e he=>he).congr fun e=>?_⟩
   · rw [AW,ih1,Qw,Z3]
     exact Or.comm
   · unfold Cand
     simp only [Qw,Z3]
     constructor
     · rintro (⟨⟨k,h1,h2⟩,h3⟩|⟨h2,h3⟩)
       · exact ⟨⟨k,.inl h1,h2⟩,h3⟩
       · exact ⟨⟨k0,.inr rfl,h2⟩,h3⟩
     · rintro ⟨⟨k,h1|rfl,h2⟩,h3⟩
       · exact .inl ⟨⟨k,h1,h2⟩,h3⟩
       · exact .inr ⟨h2,h3⟩
theorem ET (l:List Xb) (now:Int) (ks:List ByteArray):Inv l (Cand l ks now) (bestF l now ks ks.length).2:=by
 have:=(uN l now ks ks.length (ZV _)).2
 rwa [Qf] at this
def Lst (l:List Xb) (ks:List ByteArray) (now:Int) (x:Ei):Prop:=∃ e,Best (Cand l ks now) x.actor e∧e.l=x
theorem mem_ofV {l:List Xb} {ks:List ByteArray} {now:Int} {x:Ei}:x∈ofV l ks now↔Lst l ks now x:=by
 have hI:=ET l now ks
 unfold ofV
 rw [QH]
 constructor
 · rintro ⟨a,ha,rfl⟩
   obtain ⟨e,he⟩:=uA (mem_sortB.1 ha)
   have hb:=hI.best a e he
   rw [he]
   refine ⟨e,?_,rfl⟩
   show Best _ e.l.actor e
   rw [hb.2.1]
   exact hb
 · rintro ⟨e,hb,rfl⟩
   obtain ⟨e',he'⟩:=hI.all e hb.1
   have hb':=hI.best _ e' he'
   have:e=e':=hb.uniq hb'
   subst this
   exact ⟨e.l.actor,mem_sortB.2 (qx he'),by rw [he'];rfl⟩
theorem Lst.uniq {l:List Xb} {ks:List ByteArray} {now:Int} {x y:Ei} (hx:Lst l ks now x) (hy:Lst l ks now y) (h:x.actor=y.actor):x=y:=by
 obtain ⟨e,he,rfl⟩:=hx
 obtain ⟨e',he',rfl⟩:=hy
 rw [h] at he
 rw [he.uniq he']
theorem hasL_iff {l:List Xb} {ks:List ByteArray} {now:Int} {x:Ei} {a:ByteArray}:hasL (ofV l ks now) a=some x↔Lst l ks now x∧x.actor=a:=by
 constructor
 · intro h
   have h1:=List.find?_some h
   exact ⟨mem_ofV.1 (Qx h),seqB_iff.1 h1⟩
 · rintro ⟨h,rfl⟩
   cases hf:hasL (ofV l ks now) x.actor with
   | none =>
    rw [hasL,List.find?_eq_none] at hf
    exact absurd (bP x.actor) (hf x (mem_ofV.2 h))
   | some y =>
    have h1:=mem_ofV.1 (Qx hf)
    have h2:=List.find?_some hf
    rw [h.uniq h1 (seqB_iff.1 h2).symm]
theorem listed {l:List Xb} {ks:List ByteArray} {now:Int} {e:Xz} (h:Cand l ks now e):∃ x,Lst l ks now x∧x.actor=e.l.actor∧e.l.until_≤x.until_∧(x.until_=e.l.until_→ltB e.l.by_ x.by_=false):=by
 have hI:=ET l now ks
 obtain ⟨e',he'⟩:=hI.all e h
 have hb:=hI.best _ e' he'
 refine ⟨e'.l,⟨e',by rw [hb.2.1];exact hb,rfl⟩,hb.2.1,?_,fun hu=>?_⟩
 · rcases hb.2.2 e h rfl with h1|h1
   · rw [h1];exact Int.le_refl _
   · rw [iI] at h1;omega
 · rcases hb.2.2 e h rfl with h1|h1
   · rw [h1];exact dk _
   · rw [iI] at h1
     rcases h1 with h1|⟨_,h1|h1⟩
     · omega
     · exact iU h1
     · rw [h1.1];exact dk _
theorem Lst.after {l:List Xb} {ks:List ByteArray} {now:Int} {x:Ei} (h:Lst l ks now x):now<x.until_:=by
 obtain ⟨e,he,rfl⟩:=h
 exact he.1.2
theorem gdApp {l r:List Xa} {i:Nat} (h:i<l.length):(l++r).getD i Xa.zero=l.getD i Xa.zero:=by
 rw [Zp,Zp,ZF h]
def UndOk (l:List Xa):Prop:=∀ i,i<l.length→(l.getD i Xa.zero).kind=6→(idxV l (l.getD i Xa.zero).object).isSome=true
theorem kj {l r:List Xa} {d:ByteArray} (h:(idxV l d).isSome=true):idxV (l++r) d=idxV l d:=by
 rw [idxV,List.findIdx?_append]
 rw [idxV] at h ⊢
 cases hf:l.findIdx? fun a=>seqB (digV a) d with
 | none=>rw [hf] at h;cases h
 | some j=>rfl
theorem pW {l:List Xa} (h:UndOk l):UndOk (l.map Xa.can):=fun i hi hk=>by
 rw [ZE] at hi
 rw [In] at hk ⊢
 rw [wT]
 exact h i hi hk
theorem JD {L:List Int} {I:List Xc} {au:ByteArray} {c:Xb} {kl:List Xm} (q:QK L I au c kl):∀ x∈c.actsL,x∈selA au rightIt I:=by
 obtain ⟨A,sa,sk,st,fork,hA,hR,rfl,rfl⟩:=q
 rw [OfRes] at hR
 cases ho:oneA (firstL ((OfWK L.length I au).at A)) with
 | none =>
  rw [ho] at hR
  obtain ⟨rfl,rfl⟩:=hR
  exact fun x hx=>absurd hx (by simp)
 | some a =>
  rw [ho] at hR
  obtain ⟨rfl,rfl⟩:=hR
  have ha:a∈firstL ((OfWK L.length I au).at A):=by rw [fJ ho];exact Z3.2 rfl
  exact fun x hx=>hA.subset ((r4 ha).mem x hx)
theorem sU {L:List Int} {I:List Xc} (h:KnR L I) {au:ByteArray} {c:Xb} {kl:List Xm} (q:QK L I au c kl):UndOk c.actsL:=fun i hi hk=>by
 have G:=fY h q
 have hx:c.actsL[i]?=some (c.actsL.getD i Xa.zero):=by rw [Zp,Zc hi];rfl
 generalize c.actsL.getD i Xa.zero=x at *
 by_cases h0:i=0
 · subst h0
   obtain ⟨it,_,rfl,k0,hr,_⟩:=fo (JD q x (Z4 hx))
   have h1:=iq k0 hr
   have h2:=G.seq 0 _ hx
   simp only [rightB,Zq] at h1
   have h3:=h1.1.1.1.1.2
   rw [placedB,Ze aa,Zg,Zq,Zv] at h3
   rw [h3.1] at hk
   exact absurd hk (by decide)
 · have hf:=G.fit i x aa hx ⟨c.id,⟨none,i,0⟩,⟨none,0,0⟩,x.prev,0,false,c.actsL.take i⟩ rfl rfl rfl rfl
   have hs:(idxV (c.actsL.take i) x.object).isSome=true:=by
    cases ho:idxV (c.actsL.take i) x.object with
    | some j=>rfl
    | none =>
     rw [fitsV] at hf
     change (bif _ then false else bif _ then false else bif decide (x.kind=6) then atK _ (idxV (c.actsL.take i) x.object) undoK else _)=true at hf
     rw [ho,Ze hk,Zg,atK] at hf
     cases hb:!rightB x||!seqB x.author c.id||!decide (x.seq=((i:Nat):Int))||!seqB x.prev x.prev with
     | true =>
      change (bif (!rightB x||!seqB x.author c.id||!decide (x.seq=((i:Nat):Int))||!seqB x.prev x.prev) then false else _)=true at hf
      rw [hb] at hf;cases hf
     | false =>
      change (bif (!rightB x||!seqB x.author c.id||!decide (x.seq=((i:Nat):Int))||!seqB x.prev x.prev) then false else bif (decide (x.kind=0) != decide (((i:Nat):Int)=0)) then false else false)=true at hf
      rw [hb,Zf] at hf
      cases hc:decide (x.kind=0) != decide (((i:Nat):Int)=0)<;>rw [hc] at hf<;>cases hf
   have e:=kj (r:=c.actsL.drop i) hs
   rw [Qq] at e
   rw [e]
   exact hs
structure OneMore (l l':List Xb) (ks:List ByteArray) (id:ByteArray) (e0:Xz):Prop where
 mem:id∈ks
 far:∀ k,k≠id→entsV l' k=entsV l k
 own:entsV l' id=entsV l id++[e0]
theorem OneMore.cand {l l':List Xb} {ks:List ByteArray} {id:ByteArray} {e0:Xz} (h:OneMore l l' ks id e0) {now:Int} {e:Xz}:Cand l' ks now e↔Cand l ks now e∨(e=e0∧now<e0.l.until_):=by
 constructor
 · rintro ⟨⟨k,hk,he⟩,hu⟩
   by_cases hki:k=id
   · subst hki
     rw [h.own] at he
     rcases Qw.1 he with he|he
     · exact .inl ⟨⟨k,hk,he⟩,hu⟩
     · rw [Z3.1 he] at hu ⊢
       exact .inr ⟨rfl,hu⟩
   · rw [h.far k hki] at he
     exact .inl ⟨⟨k,hk,he⟩,hu⟩
 · rintro (⟨⟨k,hk,he⟩,hu⟩|⟨rfl,hu⟩)
   · by_cases hki:k=id
     · subst hki
       exact ⟨⟨k,hk,by rw [h.own];exact QA _ he⟩,hu⟩
     · exact ⟨⟨k,hk,by rw [h.far k hki];exact he⟩,hu⟩
   · exact ⟨⟨id,h.mem,by rw [h.own];exact Qr _ (Z3.2 rfl)⟩,hu⟩
theorem pf {l:List Xb} {ks:List ByteArray} {now:Int} {e:Xz} (h:Cand l ks now e):∃ x,hasL (ofV l ks now) e.l.actor=some x∧e.l.until_≤x.until_:=by
 obtain ⟨x,h1,h2,h3,_⟩:=listed h
 exact ⟨x,hasL_iff.2 ⟨h1,h2⟩,h3⟩
theorem OneMore.first {l l':List Xb} {ks:List ByteArray} {id:ByteArray} {e0:Xz} (h:OneMore l l' ks id e0) {now:Int} (h0:0≤e0.l.until_) :
  (hasL (ofV l' ks now) e0.l.actor).isSome=((hasL (ofV l ks now) e0.l.actor).isSome||decide (now<e0.l.until_)) ∧
  ∀ x,hasL (ofV l' ks now) e0.l.actor=some x→e0.l.until_≤x.until_∧((hasL (ofV l ks now) e0.l.actor).getD Ei.zero).until_≤x.until_:=by
 have hold:∀ y,hasL (ofV l ks now) e0.l.actor=some y→∃ x,hasL (ofV l' ks now) e0.l.actor=some x∧y.until_≤x.until_:=fun y hy=>by
  obtain ⟨⟨e,he,rfl⟩,ha⟩:=hasL_iff.1 hy
  obtain ⟨x,hx,hu⟩:=pf (h.cand.2 (.inl he.1))
  rw [ha] at hx
  exact ⟨x,hx,hu⟩
 have hnew:now<e0.l.until_→∃ x,hasL (ofV l' ks now) e0.l.actor=some x∧e0.l.until_≤x.until_:=fun hu=>pf (h.cand.2 (.inr ⟨rfl,hu⟩))
 constructor
 · cases hw:hasL (ofV l ks now) e0.l.actor with
   | some y =>
    obtain ⟨x,hx,_⟩:=hold y hw
    rw [hx]
    rfl
   | none =>
    by_cases hu:now<e0.l.until_
    · obtain ⟨x,hx,_⟩:=hnew hu
      rw [hx,Ze hu]
      rfl
    · rw [Zd hu]
      cases hx:hasL (ofV l' ks now) e0.l.actor with
      | none=>rfl
      | some x =>
       obtain ⟨⟨e,he,rfl⟩,ha⟩:=hasL_iff.1 hx
       rcases h.cand.1 he.1 with h1|⟨_,h1⟩
       · obtain ⟨y,hy,_⟩:=pf h1
         rw [ha,hw] at hy
         cases hy
       · exact absurd h1 hu
 · intro x hx
   have hafter:now<x.until_:=(hasL_iff.1 hx).1.after
   have h1:e0.l.until_≤x.until_:=by
    by_cases hu:now<e0.l.until_
    · obtain ⟨x',hx',hu'⟩:=hnew hu
      rw [hx] at hx'
      cases hx'
      exact hu'
    · omega
   refine ⟨h1,?_⟩
   cases hw:hasL (ofV l ks now) e0.l.actor with
   | none=>exact Int.le_trans h0 h1
   | some y =>
    obtain ⟨x',hx',hu'⟩:=hold y hw
    rw [hx] at hx'
    cases hx'
    exact hu'
theorem k9 {id:ByteArray} {v:List Xa} {a:Xa} (h:postK a.kind=false) (h13:a.kind≠13) (h14:a.kind≠14):postsV (nuN id (v++[a]))=postsV (nuN id v):=by
 rw [growsV (c:=nuN id v) (d:=nuN id (v++[a])) (a:=a) rfl rfl,Zd h13,Zd h14,newT,h,Zf,Zf,Zf,ZI]
theorem oB {β:Type}:∀ (b:List (Int×β)) (k:Int) (v:β),(∀ e∈b,e.1≠k)→mput b k v=b++[(k,v)]
 | [],_,_,_=>rfl
 | (k',v')::r,k,v,h=>by
  have h1:k'≠k:=h (k',v') ao
  rw [mput,show Xj.eqb k k'=false from Zd fun e=>h1 e.symm,Zf,oB r k v fun e he=>h e (Zu _ he)]
  rfl
theorem qy {β:Type}:∀ (b r:List (Int×β)) (k:Int),(∀ e∈b,e.1≠k)→mdel (b++r) k=b++mdel r k
 | [],r,k,_=>rfl
 | (k',v')::b,r,k,h=>by
  have h1:k'≠k:=h (k',v') ao
  rw [ZJ,mdel,show Xj.eqb k k'=false from Zd fun e=>h1 e.symm,Zf,qy b r k fun e he=>h e (Zu _ he)]
  rfl
theorem uD {β:Type}:∀ (b:List (Int×β)) (k:Int),∀ e∈mdel b k,e∈b
 | [],_,e,h=>h
 | (k',v')::r,k,e,h=>by
  rw [mdel] at h
  cases hb:Xj.eqb k k' with
  | true=>rw [hb] at h;exact Zu _ h
  | false =>
   rw [hb] at h
   rcases ZH.1 h with rfl|h
   · exact ao
   · exact Zu _ (uD r k e h)
def likeS (k:Int) (d:ByteArray) (i:Nat) (x:Xa) (M:List (Int×Value)):List (Int×Value):=bif decide (x.kind=k)&&seqB x.object d then mput M (i:Int) (.bool true) else M
def undS (l:List Xa) (x:Xa) (m:List (Int×Value)):List (Int×Value):=bif decide (x.kind=6)&&decide (0<m.length) then (match idxV l x.object with
 | some j=>mdel m (j:Int)
 | none=>m) else m
theorem iW (c:Xb) (k:Int) (d:ByteArray) (i:Nat):hasM c k d (i+1)=undS c.actsL (c.actsL.getD i Xa.zero) (likeS k d i (c.actsL.getD i Xa.zero) (hasM c k d i)):=rfl
theorem Ce {l:List Xa} {x:Xa} {m:List (Int×Value)}:∀ e∈undS l x m,e∈m:=by
 intro e h
 rw [undS] at h
 cases hb:decide (x.kind=6)&&decide (0<m.length) with
 | false=>rw [hb] at h;exact h
 | true =>
  rw [hb,Zg] at h
  cases hi:idxV l x.object with
  | none=>rw [hi] at h;exact h
  | some j=>rw [hi] at h;exact uD _ _ _ h
theorem km (c:Xb) (k:Int) (d:ByteArray):∀ i,∀ e∈hasM c k d i,∃ j:Nat,e.1=(j:Int)∧j<i∧(c.actsL.getD j Xa.zero).kind=k∧(c.actsL.getD j Xa.zero).object=d
 | 0,e,h=>by cases h
 | i+1,e,h=>by
  rw [iW] at h
  have h1:=Ce e h
  rw [likeS] at h1
  cases hb:decide ((c.actsL.getD i Xa.zero).kind=k)&&seqB (c.actsL.getD i Xa.zero).object d with
  | false =>
   rw [hb] at h1
   obtain ⟨j,a,b,r⟩:=km c k d i e h1
   exact ⟨j,a,by omega,r⟩
  | true =>
   rw [hb,Zg,oB _ _ _ fun e he=>by
    obtain ⟨j,a,b,-⟩:=km c k d i e he
    omega,Qw,Z3] at h1
   rcases h1 with h1|rfl
   · obtain ⟨j,a,b,r⟩:=km c k d i e h1
     exact ⟨j,a,by omega,r⟩
   · rw [Zq,Zv,seqB_iff] at hb
     exact ⟨i,rfl,Nat.lt_succ_self _,hb.1,hb.2⟩
theorem uP {id:ByteArray} {l:List Xa} (r:List Xa) (k:Int) (d:ByteArray) (hu:UndOk l):∀ i,i≤l.length→hasM (nuN id (l++r)) k d i=hasM (nuN id l) k d i
 | 0,_=>rfl
 | i+1,hi=>by
  rw [iW,iW,uP r k d hu i (by omega)]
  show undS (l++r) ((l++r).getD i Xa.zero) (likeS k d i ((l++r).getD i Xa.zero) _)=undS l (l.getD i Xa.zero) (likeS k d i (l.getD i Xa.zero) _)
  rw [gdApp (by omega)]
  unfold undS
  by_cases h6:(l.getD i Xa.zero).kind=6
  · rw [kj (hu i aa h6)]
  · rw [Zd h6,Zk,Zf,Zf]
def lk (id:ByteArray) (l:List Xa) (k:Int) (d:ByteArray):List (Int×Value):=hasM (nuN id l) k d l.length
theorem mI (id:ByteArray) (l:List Xa) (k:Int) (d:ByteArray):hasV (nuN id l) k d=decide (0<(lk id l k d).length):=rfl
theorem JJ {id:ByteArray} {l:List Xa} {k:Int} {d:ByteArray}:∀ e∈lk id l k d,∃ j:Nat,e.1=(j:Int)∧j<l.length∧(l.getD j Xa.zero).kind=k∧(l.getD j Xa.zero).object=d:=km _ _ _ _
theorem EK {id:ByteArray} {l:List Xa} (hu:UndOk l) (a:Xa) (k:Int) (d:ByteArray):lk id (l++[a]) k d=undS (l++[a]) a (likeS k d l.length a (lk id l k d)):=by
 rw [lk,iz,iW,uP [a] k d hu _ (ZV _)]
 show undS (l++[a]) ((l++[a]).getD l.length Xa.zero) (likeS k d l.length ((l++[a]).getD l.length Xa.zero) _)=_
 rw [gJ]
 rfl
section
variable {id:ByteArray} {l:List Xa} {a:Xa} {k:Int} {d:ByteArray}
theorem EJ (hu:UndOk l) (ha:a.kind≠k) (h6:a.kind≠6):lk id (l++[a]) k d=lk id l k d:=by
 rw [EK hu,undS,Zd h6,Zk,Zf,likeS,Zd ha,Zk,Zf]
theorem HG (hu:UndOk l) (ha:a.kind=6) (h6:k≠6) {j:Nat} (hj:idxV (l++[a]) a.object=some j):lk id (l++[a]) k d=mdel (lk id l k d) (j:Int):=by
 rw [EK hu,likeS,Zd (show ¬ a.kind=k by omega),Zk,Zf,undS,Ze ha,Zh,hj]
 cases hb:decide (0<(lk id l k d).length) with
 | true=>rfl
 | false =>
  have:lk id l k d=[]:=Z6 (by have:=cw hb;omega)
  rw [this]
  rfl
theorem HH (hu:UndOk l) (ha:a.kind=6) (h6:k≠6) {j:Nat} (hj:idxV (l++[a]) a.object=some j) (hk:(l.getD j Xa.zero).kind≠k):lk id (l++[a]) k d=lk id l k d:=by
 rw [HG hu ha h6 hj]
 have:=qy (lk id l k d) [] (j:Int) fun e he h=>by
  obtain ⟨i,h1,h2,h3,-⟩:=JJ e he
  have:i=j:=by omega
  subst this
  exact hk h3
 rwa [ZI,show mdel ([]:List (Int×Value)) (j:Int)=[] from rfl,ZI] at this
theorem vF (hu:UndOk l) (h:a.kind=6→(idxV (l++[a]) a.object).isSome=true):UndOk (l++[a]):=fun i hi h6=>by
 rw [iz] at hi
 by_cases hl:i<l.length
 · rw [gdApp hl] at h6 ⊢
   rw [kj (hu i hl h6)]
   exact hu i hl h6
 · have:i=l.length:=by omega
   subst this
   rw [gJ] at h6 ⊢
   exact h h6
end
def tieE (v:List Xa):En:=tieV v (v.length:Nat)
theorem pX (l:List Xa) (a:Xa):tieE (l++[a])=stepT (l++[a]) l.length (tieE l) a:=by
 rw [tieE,iz]
 exact Ci l a
theorem zj {l:List Xa} {u x:Xa} (hu:u.kind=6) {j:Nat} (hj:idxV (l++[u]) u.object=some j) (hl:j<l.length) (hx:l.getD j Xa.zero=x):tieE (l++[u])=undoT (tieE l) x:=by
 rw [pX,p8 hu,hj]
 simp only
 rw [Ze aa,Zg,gdApp hl,hx]
theorem m7 {l:List Xa} {b:Xa} (h:b.kind=10) (y:ByteArray):y∈(tieE (l++[b])).b↔y=b.target∨y∈(tieE l).b:=by
 rw [pX,stepT,h]
 exact mem_sput
theorem ri {l:List Xa} {b u:Xa} (h:b.kind=10) (hu:u.kind=6) (hj:idxV (l++[b]++[u]) u.object=some l.length) (hn:b.target∉(tieE l).b) (y:ByteArray):y∈(tieE (l++[b]++[u])).b↔y∈(tieE l).b:=by
 rw [zj hu hj (by rw [iz];omega) (gJ l b),undoT,h]
 show y∈sdel (tieE (l++[b])).b b.target↔_
 have hnd:(tieE (l++[b])).b.Nodup:=(xw (l++[b]) _).b
 rw [iy hnd,m7 h]
 constructor
 · rintro ⟨h1,h2⟩
   exact h2.resolve_left h1
 · intro h
   exact ⟨fun e=>hn (e▸h),.inr h⟩
section
variable {id:ByteArray} {v v':List Xa} {R:List Xb}
theorem fI (id:ByteArray) (v:List Xa) (R:List Xb):tieC (nuN id v::R) id=tieE v:=by
 have h:findC (nuN id v::R) id=some (nuN id v):=by
  rw [findC,List.find?_cons]
  show (match seqB id id with|true=>some (nuN id v)|false=>_)=_
  rw [bP]
 rw [tieC,chainC,h]
 rfl
theorem wI {c:Xb} {x:ByteArray} (h:x≠c.id):findC (c::R) x=findC R x:=by
 rw [findC,List.find?_cons,seqB_ne.2 fun e=>h e.symm]
 rfl
theorem iO {c:Xb} {x:ByteArray} (h:x≠c.id):tieC (c::R) x=tieC R x:=by
 rw [tieC,tieC,chainC,chainC,wI h]
theorem iX (h:postsV (nuN id v')=postsV (nuN id v)):(nuN id v'::R).flatMap postsV=(nuN id v::R).flatMap postsV:=by
 rw [List.flatMap_cons,List.flatMap_cons,h]
theorem AZ (h:postsV (nuN id v')=postsV (nuN id v)) (d:ByteArray):liveV (nuN id v'::R) d=liveV (nuN id v::R) d:=by
 rw [liveV,liveV,findPV,findPV,iX h]
theorem kI {c:Xb} {p:Xd} {k:Int} {x:ByteArray}:x∈actorsV (c::R) p k↔((x=c.id∧hasV c k p.id=true)∨∃ e∈R,e.id=x∧hasV e k p.id=true)∧admV (c::R) x p.author=true:=by
 rw [ft]
 constructor
 · rintro ⟨e,he,h1,h2,h3⟩
   rcases ZH.1 he with rfl|he
   · exact ⟨.inl ⟨h1.symm,h2⟩,h3⟩
   · exact ⟨.inr ⟨e,he,h1,h2⟩,h3⟩
 · rintro ⟨⟨rfl,h2⟩|⟨e,he,h1,h2⟩,h3⟩
   · exact ⟨c,ao,rfl,h2,h3⟩
   · exact ⟨e,Zu _ he,h1,h2,h3⟩
end
structure LikeS (id:ByteArray) (v v':List Xa) (d:ByteArray):Prop where
 posts:postsV (nuN id v')=postsV (nuN id v)
 tie:tieE v'=tieE v
 boost:hasV (nuN id v') 4 d=hasV (nuN id v) 4 d
section
variable {id:ByteArray} {v v':List Xa} {R:List Xb} {d:ByteArray}
end
structure BlockS (id:ByteArray) (v v':List Xa) (t:ByteArray):Prop where
 posts:postsV (nuN id v')=postsV (nuN id v)
 tie:∀ y,y∈(tieE v').b↔y=t∨y∈(tieE v).b
 has:∀ k d,k=4∨k=5→hasV (nuN id v') k d=hasV (nuN id v) k d
section
variable {id t:ByteArray} {v v':List Xa} {R:List Xb} {d:ByteArray}
theorem gb {l:List Xb} {x y:ByteArray}:blockedV l x y=true↔y∈(tieC l x).b∨x∈(tieC l y).b:=by rw [blockedV,Bool.or_eq_true,hasS_iff,hasS_iff]
theorem m8 (S:BlockS id v v' t) (x y:ByteArray):y∈(tieC (nuN id v'::R) x).b↔(x=id∧y=t)∨y∈(tieC (nuN id v::R) x).b:=by
 by_cases e:x=id
 · subst e
   rw [fI,fI,S.tie]
   simp only [true_and]
 · rw [iO (show x≠(nuN id v').id from e),iO (show x≠(nuN id v).id from e)]
   simp only [e,false_and,false_or]
theorem qW (S:BlockS id v v' t) {au ot:ByteArray} (hb:id=au∧t=ot∨id=ot∧t=au) (hne:ot≠au) (x:ByteArray):admV (nuN id v'::R) x au=(admV (nuN id v::R) x au&&!seqB x ot):=by
 rw [admV,admV]
 cases hx:seqB x au with
 | true =>
  rw [Zg,Zg,seqB_ne.2 fun e=>hne (e.symm.trans (seqB_iff.1 hx))]
  rfl
 | false =>
  have hxa:=seqB_ne.1 hx
  rw [Zf,Zf,←Bool.not_or]
  congr 1
  rw [Bool.eq_iff_iff,Bool.or_eq_true,gb,gb,m8 S,m8 S,seqB_iff]
  rcases hb with ⟨rfl,rfl⟩|⟨rfl,rfl⟩
  · constructor
    · rintro ((⟨h,-⟩|h)|(⟨-,h⟩|h))
      · exact absurd h hxa
      · exact .inl (.inl h)
      · exact .inr h
      · exact .inl (.inr h)
    · rintro ((h|h)|h)
      · exact .inl (.inr h)
      · exact .inr (.inr h)
      · exact .inr (.inl ⟨rfl,h⟩)
  · constructor
    · rintro ((⟨h,-⟩|h)|(⟨h,-⟩|h))
      · exact .inr h
      · exact .inl (.inl h)
      · exact absurd h.symm hne
      · exact .inl (.inr h)
    · rintro ((h|h)|h)
      · exact .inl (.inr h)
      · exact .inr (.inr h)
      · exact .inl (.inl ⟨h,rfl⟩)
theorem kF (S:BlockS id v v' t) {p:Xd} {ot:ByteArray} (hb:id=p.author∧t=ot∨id=ot∧t=p.author) (hne:ot≠p.author) {k:Int} (hk:k=4∨k=5) (x:ByteArray):x∈actorsV (nuN id v'::R) p k↔x∈actorsV (nuN id v::R) p k∧x≠ot:=by
 rw [kI,kI,qW S hb hne,S.has k _ hk,Zq,Bool.not_eq_true',seqB_ne,and_assoc]
 exact Iff.rfl
theorem mo (S:BlockS id v v' t) {p:Xd} {ot:ByteArray} (hb:id=p.author∧t=ot∨id=ot∧t=p.author) (hne:ot≠p.author) {k:Int} (hk:k=4∨k=5) :
  (actorsV (nuN id v'::R) p k).length+(bif hasS (actorsV (nuN id v::R) p k) ot then 1 else 0)=(actorsV (nuN id v::R) p k).length:=by
 cases hh:hasS (actorsV (nuN id v::R) p k) ot with
 | true=>exact EL (gk _ _ _) (gk _ _ _) (hasS_iff.1 hh) fun y=>kF S hb hne hk y
 | false =>
  rw [Zf,ZR,gi (m:=nuN id v::R) (q:=p) (k:=k) fun x=>by
   rw [kF S hb hne hk]
   exact ⟨fun h=>h.1,fun h=>⟨h,fun e=>hasS_false.1 hh (e▸h)⟩⟩]
def repO (d ot:ByteArray) (q:Xd):Bool:=decide (q.kind=2)&&seqB q.object d&&!q.gone&&seqB q.author ot
theorem tZ (d:ByteArray) (S:BlockS id v v' t) {au ot:ByteArray} (hb:id=au∧t=ot∨id=ot∧t=au) (hne:ot≠au) (h0:blockedV (nuN id v::R) ot au=false):∀ P:List Xd,
  P.countP (repB (nuN id v'::R) d au)+P.countP (repO d ot)=P.countP (repB (nuN id v::R) d au)
 | []=>rfl
 | q::P=>by
  have ih:=tZ d S hb hne h0 P
  have h1:repB (nuN id v'::R) d au q=(repB (nuN id v::R) d au q&&!seqB q.author ot):=by rw [repB,repB,qW S hb hne];exact (Bool.and_assoc _ _ _).symm
  have h2:repO d ot q=(repB (nuN id v::R) d au q&&seqB q.author ot):=by
   rw [repO,repB]
   cases hq:seqB q.author ot with
   | false=>rw [Zl,Zl]
   | true =>
    have e:=seqB_iff.1 hq
    have:admV (nuN id v::R) q.author au=true:=by rw [e,admV,seqB_ne.2 hne,h0];rfl
    rw [this,Zi,Zi]
  rw [List.countP_cons,List.countP_cons,List.countP_cons,h1,h2]
  cases repB (nuN id v::R) d au q<;>cases seqB q.author ot<;>simp<;>omega
theorem sx (hp:postsV (nuN id v')=postsV (nuN id v)) (ht:∀ y,y∈(tieE v').b↔y∈(tieE v).b) (hh:∀ k d,k=4∨k=5→hasV (nuN id v') k d=hasV (nuN id v) k d):tallyV (nuN id v'::R) d=tallyV (nuN id v::R) d:=by
 have hc:∀ x y,y∈(tieC (nuN id v'::R) x).b↔y∈(tieC (nuN id v::R) x).b:=fun x y=>by
  by_cases e:x=id
  · subst e
    rw [fI,fI,ht]
  · rw [iO (show x≠(nuN id v').id from e),iO (show x≠(nuN id v).id from e)]
 have hb:∀ x y,blockedV (nuN id v'::R) x y=blockedV (nuN id v::R) x y:=fun x y=>by rw [Bool.eq_iff_iff,gb,gb,hc,hc]
 have ha:∀ x y,admV (nuN id v'::R) x y=admV (nuN id v::R) x y:=fun x y=>by rw [admV,admV,hb]
 have hr:∀ a,repB (nuN id v'::R) d a=repB (nuN id v::R) d a:=fun a=>funext fun q=>by rw [repB,repB,ha]
 have hac:∀ (p:Xd) (k:Int),k=4∨k=5→actorsV (nuN id v'::R) p k=actorsV (nuN id v::R) p k:=fun p k hk=>gi fun x=>by
  rw [kI,kI,ha,hh k _ hk]
  exact Iff.rfl
 rw [tallyV,tallyV,AZ hp]
 cases liveV (nuN id v::R) d with
 | none=>rfl
 | some p=>simp only [hac p 5 (.inr rfl),hac p 4 (.inl rfl),iX hp,hr]
end
section
variable {c:Xb} {R:List Xb} {d:ByteArray}
end
theorem JA {k:Ed} {c:Xb} {x:Xa} (hx:x.Rng) (hc:c.acts.n≤1000):(sgA k c x).Rng :=
 tG ⟨⟨by show (c.acts.n:Int)<_;omega,hx.ints.2.1,by show (1:Int)<_;decide,hx.ints.2.2.2⟩,hx.wints,hx.to_len,hx.wraps_len⟩
theorem Kj {k:Ed} {c:Xb} {x:Xa} (hs:x.Sm):(sgA k c x).Sm:=xU ⟨hs.to,hs.wraps,hs.target⟩
theorem FO (L:List Int) (I:List Xc) (it:Xc):(addK L I it).length≤I.length+1:=by
 rw [addK]
 cases canAdd L I it with
 | false=>exact Nat.le_succ _
 | true =>
  have:=(jd digIt it I).length_eq
  rw [ZA] at this
  exact Nat.le_of_eq this
theorem Dq {L:List Int} {I:List Xc} (h:KnR L I) {au:ByteArray} {c n:Xb} {kl kl':List Xm} (q:QK L I au c kl) (h0:0<c.actsL.length) (hcn:c.acts.n=c.actsL.length) (hnn:n.acts.n=n.actsL.length) {k:Ed} {x:Xa} {s3 s4:Xk}
  (e3:s3.n=(sgA k c x).to.n) (e4:s4.n=(sgA k c x).wraps.n) (q':QK L (addK L I (ofActI ((sgA k c x).re s3 s4))) c.id n kl') (hl:(n.acts.n:Int)=(c.acts.n:Int)+1) :
  SignD L I c n k { x with time:=1 } (sgA k c x)∧QK L (addK L I (ofActI ((sgA k c x).re s3 s4))) au n kl':=by
 rw [ji q] at q'
 exact ⟨(vT h q h0 hcn e3 e4 q' aa).1,q'⟩
theorem SignD.author {L:List Int} {I:List Xc} {c n:Xb} {k:Ed} {x b:Xa} (h:SignD L I c n k x b):b.author=c.id:=by rw [h.sig];rfl
theorem SignD.kind {L:List Int} {I:List Xc} {c n:Xb} {k:Ed} {x b:Xa} (h:SignD L I c n k x b):b.kind=x.kind:=by rw [h.sig];rfl
theorem SignD.object {L:List Int} {I:List Xc} {c n:Xb} {k:Ed} {x b:Xa} (h:SignD L I c n k x b):b.object=x.object:=by rw [h.sig];rfl
theorem SignD.target {L:List Int} {I:List Xc} {c n:Xb} {k:Ed} {x b:Xa} (h:SignD L I c n k x b):b.target=x.target:=by rw [h.sig];rfl
end Go.Proofs.YtaolfiikahlmkaaGreatDoor
