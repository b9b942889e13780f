/- Joined. -/
import Derived.Test.YtaolfiikahlmkaaGreatDoorL15
import Derived.Laws.StructEq
set_option linter.unusedVariables false
set_option linter.unusedSimpArgs false
set_option maxHeartbeats 16000000
namespace Go.Proofs.YtaolfiikahlmkaaGreatDoor
open Go Go.Proofs Sy Tryz
section
variable {P:Program} {N:Nat} {av bor:List Nat} {w0:World} {ops:Array Oper} {rest:List Oper} {kk:St→Prop} {E:Env} {loc:List Xl} {X:World→Prop} {x y:Operand} {t t2:TypeId}
variable {n:Nat} {ty:TypeId} {pos:String} {af:Array Edge} {g:Option (Nat×Bool)} {bb want:Bool}
theorem tn {k:IntKind} {a b:Int} (h:Sw P N av bor w0 ops rest ⟨(n,.bool true)::E,loc,X⟩ kk) (hx:ev E x=some (.int k a):=by rfl) (hy:ev E y=some (.int k b):=by rfl) (hab:¬ a=b:=by first|omega|decide) (hg:gdB ops E g=some (bb,want):=by rfl) (hbb:bb=want:=by exact aw) (hd:Nat.blt n N=true:=by rfl) :
  Sw P N av bor w0 ops (⟨some n,.binOp .neq t x y t2,ty,pos,af,g⟩::rest) ⟨E,loc,X⟩ kk:=rr (hx:=hx) (hy:=hy) (hg:=hg) (hbb:=hbb) (hd:=hd) (h:=by
   have e:∀ u,u=Value.bool true→Sw P N av bor w0 ops rest ⟨(n,u)::E,loc,X⟩ kk:=fun u hu=>hu▸h
   exact e _ (by simp [hab]))
end
instance:Xu prog 64 3:=⟨ai⟩
theorem F4 (l:List Xb) (p:Xd) (kind:Int) (ks:List ByteArray) (c:Xb):cntB l p.can kind ks c=cntB l p kind ks c:=rfl
theorem vy (l:List Xb) (p:Xd) (kind:Int):∀ i,actF l p.can kind i=actF l p kind i
 | 0=>rfl
 | i+1=>by rw [actF,actF,vy l p kind i,F4]
theorem gm (l:List Xb) (p:Xd) (kind:Int):actorsV l p.can kind=actorsV l p kind:=by rw [actorsV,actorsV,vy]
theorem gl (l:List Xb) (p:Xd) (kind:Int):(actorsV l p kind).length≤l.length:=by
 have h:=pz l p kind l.length
 rw [actorsV]
 simpa [sortB] using h
def liveV (l:List Xb) (id:ByteArray):Option Xd:=match findPV l id with
 | some p=>bif p.gone then none else some p
 | none=>none
theorem lj {l:List Xb} {id:ByteArray} (h:(!(findPV l id).isSome)=true):liveV l id=none:=by
 rw [liveV]
 cases hf:findPV l id with
 | none=>rfl
 | some p=>rw [hf] at h;cases h
theorem ll {l:List Xb} {id:ByteArray} {p:Xd} (hp:p.can=(findPV l id).getD Xd.zero) (h:(!(findPV l id).isSome)=false) (hg:p.gone=true):liveV l id=none:=by
 rw [liveV]
 cases hf:findPV l id with
 | none=>rfl
 | some q =>
  rw [hf] at hp
  obtain rfl:p.can=q:=hp
  show (bif p.gone then none else some p.can)=none
  rw [hg,Zg]
theorem li {l:List Xb} {id:ByteArray} {p:Xd} (hp:p.can=(findPV l id).getD Xd.zero) (h:(!(findPV l id).isSome)=false) (hg:p.gone=false):liveV l id=some p.can:=by
 rw [liveV]
 cases hf:findPV l id with
 | none=>rw [hf] at h;cases h
 | some q =>
  rw [hf] at hp
  obtain rfl:p.can=q:=hp
  show (bif p.gone then none else some p.can)=some p.can
  rw [hg,Zf]
def whoV (l:List Xb) (id:ByteArray) (kind:Int):List ByteArray:=bif decide (kind=5)||decide (kind=4) then (match liveV l id with
 | some p=>actorsV l p kind
 | none=>[]) else []
theorem rf (s:Xk) (l:List Xb) (id:ByteArray) (kind:Int) (hok:∀ c∈l,Xx c.actsL) (hlen:∀ c∈l,c.actsL.length≤1000000) (hids:∀ c∈l,c.id.size≤maxLen) (hll:l.length≤1000000) :
  Mk prog 23 #[s.v,.string id,.int .i64 kind] (fun w=>Chains w s l∧Xe w) fun u X'=>∃ so:Xk,u=so.v∧so.n=(whoV l id kind).length∧∀ w,X' w→Strs w so (whoV l id kind):=by
 refine dj func23 ntmps23 fun av bor w0=>?_
 have hnil:∀ w,Strs w ⟨none,0,0⟩ []:=fun w=>bD w 1
 by_cases hk:kind=5∨kind=4
 · have hkb:(decide (kind=5)||decide (kind=4))=true:=by rcases hk with h|h<;>simp [h]
   rw [whoV,hkb,Zg]
   rcases hk with rfl|rfl
   all_goals
    repeat' (first|refine fA ?_|refine tn ?_|apply aI|apply QQ|apply QR|refine aV ?_|refine aO ?_|refine bF ?_|refine bT ?_|refine aZ ?_|refine bj ?_|refine aT ?_|refine fX ?_|refine dM ?_|refine bo ?_|refine gC ?_|refine aX fun _=>?_|refine aS ?_|refine QU ?_|refine QV ?_|apply QT|apply cg|(refine bA (hc:=oV s l id hok hlen) fun v1 X1 h1=>?_;obtain ⟨p,rfl,hp⟩:=h1)|(refine bA (hc:=fR s l p _ hok hlen hids hll) fun v2 X2 h2=>?_;obtain ⟨so,rfl,hn,hw⟩:=h2)|((fail_if_success (refine ck ?_));refine bx (ht:=?_) (hf:=?_);all_goals (intro hx_;skip))|(refine dL (ht:=?_) (hf:=?_);all_goals (intro hx_;skip)))
   all_goals first
    | (rw [lj (by assumption)];exact ab (ag rfl rfl) ⟨⟨none,0,0⟩,rfl,rfl,fun w _=>hnil w⟩)
    | (rw [ll (by assumption) (by assumption) (by assumption)];exact ab (ag rfl rfl) ⟨⟨none,0,0⟩,rfl,rfl,fun w _=>hnil w⟩)
    | (rw [li (by assumption) (by assumption) (by assumption)];exact ab (ag rfl rfl) ⟨so,rfl,by rw [hn,←gm],fun w h=>by simp only [gm];exact hw w h.1.2⟩)
 · have hkb:(decide (kind=5)||decide (kind=4))=false:=by simp only [not_or] at hk;simp [hk]
   rw [whoV,hkb,Zf]
   repeat' (first|refine tn ?_|apply aI|apply QQ|apply QR|refine aV ?_|refine aO ?_|refine bj ?_|refine QU ?_|apply cg|fail)
   exact ab (ag rfl rfl) ⟨⟨none,0,0⟩,rfl,rfl,fun w _=>hnil w⟩
def repB (l:List Xb) (id au:ByteArray) (q:Xd):Bool:=decide (q.kind=2)&&seqB q.object id&&!q.gone&&admV l q.author au
structure Ek where
 likes:Nat
 boosts:Nat
 replies:Nat
def Ek.cells (t:Ek):List Value:=[.int .i64 (t.likes:Nat),.int .i64 (t.boosts:Nat),.int .i64 (t.replies:Nat)]
def Ek.v (t:Ek):Value:=.agg t.cells.toArray
def tallyV (l:List Xb) (id:ByteArray):Ek:=match liveV l id with
 | some p=>⟨(actorsV l p 5).length,(actorsV l p 4).length,(l.flatMap postsV).countP (repB l id p.author)⟩
 | none=>⟨0,0,0⟩
structure TalI (Q:List Xd) (B:Xd→Bool) where
 k:Nat
 hk:k≤Q.length
 n:Nat
 hn:n=(Q.take k).countP B
theorem jF (s:Xk) (l:List Xb) (id:ByteArray) (hok:∀ c∈l,Xx c.actsL) (hlen:∀ c∈l,c.actsL.length≤1000) (hids:∀ c∈l,c.id.size≤maxLen) (hll:l.length≤1000) :
  Pu prog 22 #[s.v,.string id] (fun w=>Chains w s l∧Xe w) (tallyV l id).v:=by
 refine ax func22 ntmps22 fun av bor w0=>?_
 have hlen2:∀ c∈l,c.actsL.length≤1000000:=fun c hc=>ZW (hlen c hc) (by decide)
 have hll2:l.length≤1000000:=by omega
 repeat' (first|apply aI|apply QQ|apply QR|refine aV ?_|refine aO ?_|refine bF ?_|refine bT ?_|refine bj ?_|refine aT ?_|refine fX ?_|refine dM ?_|refine gC ?_|refine aX fun _=>?_|refine aS ?_|refine QU ?_|apply QT|apply cg|(refine bA (hc:=oV s l id hok hlen2) fun v1 X1 h1=>?_;obtain ⟨p,rfl,hp⟩:=h1)|(refine aG ?_)|((fail_if_success (refine ck ?_));refine bx (ht:=?_) (hf:=?_);all_goals (intro hx_;skip))|(refine dL (ht:=?_) (hf:=?_);all_goals (intro hx_;skip)))
 · rw [tallyV,lj (by assumption)]
   exact ab (bU rfl rfl aM (by rfl)) rfl
 · rw [tallyV,ll hp (by assumption) (by assumption)]
   exact ab (bU rfl rfl aM (by rfl)) rfl
 rename_i b4 b5 hx1
 have hV:tallyV l id=⟨(actorsV l p 5).length,(actorsV l p 4).length,(l.flatMap postsV).countP (repB l id p.author)⟩:=by
  rw [tallyV,li hp hx1 (by assumption)]
  show Ek.mk (actorsV l p.can 5).length (actorsV l p.can 4).length _=_
  rw [gm,gm]
  rfl
 rw [hV]
 have h5:=gl l p 5
 have h4:=gl l p 4
 generalize hL:(actorsV l p 5).length=L at *
 generalize hB:(actorsV l p 4).length=Bn at *
 refine fH (ι:=Nat) (fun b7=>⟨[(0,s.v),(1,.string id),(4,.pointer (some ⟨b4,0,none⟩)),(5,.pointer (some ⟨b5,0,none⟩)),(7,.pointer (some ⟨b7,0,none⟩))],[cel b7 64 (Ek.cells ⟨L,Bn,0⟩),cel b5 68 p.cells,cel b4 64 (Ek.cells ⟨0,0,0⟩)],fun w=>Chains w s l∧Xe w⟩) ?_ fun b7=>?_
 · (refine kx [cel b5 68 p.cells,cel b4 64 (Ek.cells ⟨0,0,0⟩)] (fun w=>(Chains w s l∧Xe w)∧X1 w) ai ?_)
   all_goals refine dw 0 ?_<;>refine dw 1 ?_<;>refine dw 4 ?_<;>refine dw 5 ?_<;>(refine sG 2 9 (h:=?_) (h':=?_);(focus (((refine bA (hc:=fR s l p 5 hok hlen2 hids hll2) (hX:=fun w h=>by exact h.1) fun v2 X2 h2=>?_;obtain ⟨so2,rfl,hn2,hw2⟩:=h2);apply aI;refine eS ?_);all_goals ((refine dw 3 ?_);all_goals (refine sG 6 9 (h:=?_) (h':=?_);(focus (((refine bA (hc:=fR s l p 4 hok hlen2 hids hll2) (hX:=fun w h=>by exact h.1.1) fun v3 X3 h3=>?_;obtain ⟨so3,rfl,hn3,hw3⟩:=h3);apply aI;refine eS ?_);all_goals ((refine dw 7 ?_);all_goals (refine dw 8 (hy:=by (apply di;rfl;rfl)) ?_);all_goals (refine cT 9 ?_;(refine aX fun _=>?_);apply aI;refine eS ?_);all_goals (refine cT 10 ?_;(refine aS ?_);apply aI;refine eS ?_);all_goals (refine gk (h:=?_)))));rotate_right;(focus (((refine aX fun _=>?_);apply aI;refine eS ?_);all_goals ((refine cT 6 ?_;(refine bA (hc:=fR s l p 4 hok hlen2 hids hll2) (hX:=fun w h=>by exact h.1.1) fun v3 X3 h3=>?_;obtain ⟨so3,rfl,hn3,hw3⟩:=h3);apply aI;refine eS ?_);all_goals (refine dw 7 ?_);all_goals (refine dw 8 (hy:=by (apply di;rfl;rfl)) ?_);all_goals (refine cT 10 ?_;(refine aS ?_);apply aI;refine eS ?_);all_goals (refine gk (h:=?_)))))))));rotate_right;(focus (((refine aX fun _=>?_);apply aI;refine eS ?_);all_goals ((refine cT 2 ?_;(refine bA (hc:=fR s l p 5 hok hlen2 hids hll2) (hX:=fun w h=>by exact h.1) fun v2 X2 h2=>?_;obtain ⟨so2,rfl,hn2,hw2⟩:=h2);apply aI;refine eS ?_);all_goals (refine dw 3 ?_);all_goals (refine cT 6 ?_;(refine bA (hc:=fR s l p 4 hok hlen2 hids hll2) (hX:=fun w h=>by exact h.1.1) fun v3 X3 h3=>?_;obtain ⟨so3,rfl,hn3,hw3⟩:=h3);apply aI;refine eS ?_);all_goals (refine dw 7 ?_);all_goals (refine dw 8 (hy:=by (apply di;rfl;rfl)) ?_);all_goals (refine cT 10 ?_;(refine aS ?_);apply aI;refine eS ?_);all_goals (refine gk (h:=?_))))))
   all_goals exact ⟨_,fun a w ok=>aj (by exact ⟨rfl,rfl,rfl,rfl,rfl,trivial⟩) (by (rw [←hL,←hB,←hn2,←hn3];exact ak _)) (fun w h=>by exact h.1.1.1) _ _ ok⟩
 repeat' (first|apply aI|apply QQ|apply QR|refine aV ?_|refine ii ?_|apply QS|(refine bA (hc:=Iw s l hok hlen hll) fun v4 X4 h4=>?_;obtain ⟨s1,Q,rfl,hQ,hQl,hw⟩:=h4))
 refine aR (p:=s1.n=Q.length∧s1.n≤maxLen∧(0<Q.length→s1.p.isSome=true)) (fun w h=>⟨by simpa using Xf.len (hw w h.2),ZW (Xf.cap (hw w h.2)) (Xf.max (hw w h.2)),fun h0=>(Xf.row (hw w h.2) 0 Q[0].cells (by simp [Zc h0])).2.1⟩) fun ⟨hl1,hm1,hp1⟩=>?_
 simp only [maxLen] at hm1
 refine aq (ι:=TalI Q (repB l id p.author)) (fun i=>⟨[(0,s.v),(1,.string id),(4,.pointer (some ⟨b4,0,none⟩)),(5,.pointer (some ⟨b5,0,none⟩)),(7,.pointer (some ⟨b7,0,none⟩)),(33,s1.v),(34,.int .i64 (s1.n:Nat)),(35,.int .i64 (i.k:Nat))],[cel b7 64 [.int .i64 (L:Nat),.int .i64 (Bn:Nat),.int .i64 (i.n:Nat)],cel b5 68 p.cells,cel b4 64 (Ek.cells ⟨0,0,0⟩)],fun w=>(Chains w s l∧Xe w)∧X4 w⟩) (fun i=>Q.length-i.k) ⟨0,Z2 _,0,rfl⟩ (aj am (ak _) fun _ h=>h) fun i=>?_
 obtain ⟨k,hk,n,hn⟩:=i
 simp only
 have hnm:n≤1000000:=by have:=List.countP_le_length (p:=repB l id p.author) (l:=Q.take k);rw [←hn,Qg] at this;omega
 repeat' (first|apply aI|apply QQ|apply QR|refine aZ ?_|refine eV ?_|refine aS ?_|apply QT|apply QS|apply cg|apply kv|(refine dL (ht:=?_) (hf:=?_);all_goals (intro hx_;first|have:=bz hx_|have:=cu hx_)))
 · have hlt:k<Q.length:=by omega
   have hp':=hp1 aa
   obtain ⟨q,hq⟩:∃ q,Q[k]?=some q:=⟨_,Zc hlt⟩
   have htk:(Q.take (k+1)).countP (repB l id p.author)=n+(bif repB l id p.author q then 1 else 0):=by
    rw [Qe,hq,List.countP_append,←hn,Qs,List.countP_cons,List.countP_nil]
    cases repB l id p.author q<;>rfl
   have had:=ms s l q.author p hok
   have hno:repB l id p.author q=false→(Q.take (k+1)).countP (repB l id p.author)=n:=fun h=>by rw [htk,h];rfl
   by_cases h2:q.kind=2
   · cases ho:seqB q.object id with
     | false =>
      repeat' (first|refine aE ?_|refine dk _ (hv:=ho) (h:=?_)|apply aI|apply QQ|apply QR|refine aV ?_|refine bF ?_|refine bT ?_|refine bj ?_|refine aT ?_|refine d5 (h:=?_)|refine bo ?_|refine aX fun _=>?_|refine aS ?_|refine QV ?_|apply QT|(refine aF (q:=k*11) ?_)|(refine aN (cs:=q.cells) (hF:=fun w h=>Xf.row (hw w h.2) k q.cells (by simp [hq])) ?_)|fail)
      exact ⟨(⟨k+1,hlt,n,(hno (by rw [repB,ho];simp)).symm⟩:TalI Q _),(by show Q.length-(k+1)<Q.length-k;omega),aj am (Z0 _ (ak _)) fun _ h=>h⟩
     | true =>
      cases ha:admV l q.author p.author with
      | false =>
       rw [ha] at had
       repeat' (first|refine aE ?_|refine dk _ (hv:=ho) (h:=?_)|apply aI|apply QQ|apply QR|refine aV ?_|refine bF ?_|refine bT ?_|refine aZ ?_|refine bj ?_|refine aT ?_|refine fX ?_|refine d5 (h:=?_)|refine bo ?_|refine aX fun _=>?_|refine aS ?_|refine QV ?_|apply QT|(refine aF (q:=k*11) ?_)|(refine aN (cs:=q.cells) (hF:=fun w h=>Xf.row (hw w h.2) k q.cells (by simp [hq])) ?_)|(refine ae (hc:=had) ?_)|((fail_if_success (refine ck ?_));refine bx (ht:=?_) (hf:=?_);all_goals (intro hx_;skip))|fail)
       all_goals exact ⟨(⟨k+1,hlt,n,(hno (by rw [repB,ha];simp)).symm⟩:TalI Q _),(by show Q.length-(k+1)<Q.length-k;omega),aj am (Z0 _ (ak _)) fun _ h=>h⟩
      | true =>
       rw [ha] at had
       repeat' (first|refine aE ?_|refine dk _ (hv:=ho) (h:=?_)|apply aI|apply QQ|apply QR|refine aV ?_|refine bF ?_|refine bT ?_|refine aZ ?_|refine bj ?_|refine aT ?_|refine fX ?_|refine d5 (h:=?_)|refine bo ?_|refine aX fun _=>?_|refine cf ?_|refine aS ?_|refine QU ?_|refine QV ?_|apply QT|(refine aF (q:=k*11) ?_)|(refine aN (cs:=q.cells) (hF:=fun w h=>Xf.row (hw w h.2) k q.cells (by simp [hq])) ?_)|(refine ae (hc:=had) ?_)|((fail_if_success (refine ck ?_));refine bx (ht:=?_) (hf:=?_);all_goals (intro hx_;skip))|fail)
       all_goals first
        | exact ⟨(⟨k+1,hlt,n,(hno (by rw [repB,(show q.gone=true from by simpa using hx_)];simp)).symm⟩:TalI Q _),(by show Q.length-(k+1)<Q.length-k;omega),aj am (Z0 _ (ak _)) fun _ h=>h⟩
        | exact ⟨(⟨k+1,hlt,n+1,by rw [htk,repB,ho,ha,Ze h2,(show q.gone=false from by simpa using hx_)];rfl⟩:TalI Q _),(by show Q.length-(k+1)<Q.length-k;omega),aj am (Z0 _ (ak _)) fun _ h=>h⟩
   · repeat' (first|refine aJ ?_|apply aI|apply QQ|apply QR|refine aV ?_|refine bF ?_|refine bT ?_|refine aT ?_|refine d5 (h:=?_)|refine bo ?_|refine aX fun _=>?_|refine aS ?_|refine QV ?_|apply QT|(refine aF (q:=k*11) ?_)|(refine aN (cs:=q.cells) (hF:=fun w h=>Xf.row (hw w h.2) k q.cells (by simp [hq])) ?_)|fail)
     exact ⟨(⟨k+1,hlt,n,(hno (by rw [repB,Zd h2];rfl)).symm⟩:TalI Q _),(by show Q.length-(k+1)<Q.length-k;omega),aj am (Z0 _ (ak _)) fun _ h=>h⟩
 · have hkE:k=Q.length:=by omega
   have hfin:(l.flatMap postsV).countP (repB l id p.author)=n:=by
    rw [←hQ.countP_eq,List.countP_map,hn,hkE,Qf]
    rfl
   rw [hfin]
   exact ab (bU rfl rfl aM (by rfl)) rfl
end Go.Proofs.YtaolfiikahlmkaaGreatDoor
namespace Go.Proofs.YtaolfiikahlmkaaGreatDoor
open Go Go.Proofs Sy Tryz
theorem AA (s r:Xk) (l m:List ByteArray):Pu prog 17 #[s.v,r.v] (fun w=>Strs w s l∧Strs w r m) (.bool (eqL l m)):=by
 refine ax func17 ntmps17 fun av bor w0=>?_
 refine aR (p:=(s.n=l.length∧s.n≤maxLen∧(0<l.length→s.p.isSome=true))∧(r.n=m.length∧r.n≤maxLen∧(0<m.length→r.p.isSome=true))) (fun w h=>⟨⟨h.1.len_,ZW (Xf.cap h.1) (Xf.max h.1),h.1.some_⟩,⟨h.2.len_,ZW (Xf.cap h.2) (Xf.max h.2),h.2.some_⟩⟩) fun ⟨⟨hl,hm,hp⟩,⟨hl',hm',hp'⟩⟩=>?_
 simp only [maxLen] at hm hm'
 repeat' (first|refine gs ?_|(refine gp ?_ ?_<;>intro hx_ this)|fail)
 · apply ab;apply ag;rfl;rfl
   have:¬ l.length=m.length:=by
    have h1:¬ (s.n:Int)=(r.n:Int):=by simpa using hx_
    omega
   simp only [eqL,Zd this,Zk]
 have hlm:l.length=m.length:=by
  have h1:(s.n:Int)=(r.n:Int):=by simpa using hx_
  omega
 refine aq (ι:=Ea l.length (eqBad l m)) (fun i=>⟨[(0,s.v),(1,r.v),(5,.int .i64 i.k)],[],fun w=>Strs w s l∧Strs w r m⟩) (fun i=>l.length-i.k) (Ea.zero _ _) (aj (by repeat (first|exact trivial|refine ⟨rfl,?_⟩)) (ak _) fun _ h=>h) fun i=>?_
 have hik:=i.hk
 repeat' (first|refine gs ?_|(refine gp ?_ ?_<;>intro hx_ this)|fail)
 · have hlt:i.k<l.length:=by omega
   have hlt':i.k<m.length:=by omega
   have hp1:=hp aa
   have hp2:=hp' aa
   (refine bc ⟨[0,1,2,3,4,5,6,7,8],[]⟩ (h:=?_))
   all_goals repeat' (first|refine gd ?_|refine ay (hy:=by first|(apply aB (q:=i.k);rfl;rfl;omega;omega;assumption;omega)|(apply dF;rfl;exact fun w h=>Strs.get h.1 hlt)|(apply dF;rfl;exact fun w h=>Strs.get h.2 hlt')) ?_|fail)
   repeat' (first|refine gs ?_|(refine gp ?_ ?_<;>intro hx_ this)|fail)
   · apply ab;apply ag;rfl;rfl
     rw [eqL,cE hlt (by assumption),Zl]
   · exact ⟨i.next hlt (by assumption),(by show l.length-(i.k+1)<l.length-i.k;omega),aj (by repeat (first|exact trivial|refine ⟨rfl,?_⟩)) (ak _) fun _ h=>h⟩
 · apply ab;apply ag;rfl;rfl
   rw [eqL,i.all aa,Ze hlm]
   rfl
def fewBad (l:List Xb) (k:Nat):Bool:=!shortV (l.getD k Xb.zero)
def fewV (l:List Xb):Bool:=decide (l.length≤6)&&allB l.length (fewBad l)
theorem Fo (s:Xk) (l:List Xb):Pu prog 21 #[s.v] (fun w=>Chains w s l) (.bool (fewV l)):=by
  refine ax func21 ntmps21 fun av bor w0=>?_
  refine aR (p:=s.n=l.length∧s.n≤maxLen∧(0<l.length→s.p.isSome=true)) (fun w h=>⟨h.len_,h.max_,h.some_⟩) fun ⟨hl,hm,hp⟩=>?_
  simp only [maxLen] at hm
  repeat' (first|refine gs ?_|(refine gp ?_ ?_<;>intro hx_ this)|fail)
  · apply ab;apply ag;rfl;rfl
    rw [fewV,Zd aa,Zk]
  refine aq (ι:=Ea l.length (fewBad l)) (fun i=>⟨[(0,s.v),(3,.int .i64 i.k)],[],fun w=>Chains w s l⟩) (fun i=>l.length-i.k) (Ea.zero _ _) (aj am (ak _) fun _ h=>h) fun i=>?_
  have hik:=i.hk
  repeat' (first|refine gs ?_|(refine gp ?_ ?_<;>intro hx_ this)|fail)
  · have hlt:i.k<l.length:=by omega
    have hp':=hp aa
    obtain ⟨c,hc⟩:∃ c,l[i.k]?=some c:=⟨_,Zc hlt⟩
    have hcm:=Z4 hc
    have hfb:fewBad l i.k=!shortV c:=by simp only [fewBad,Zp,hc,Qc]
    refine ef (p:=c.acts.n=c.actsL.length∧c.acts.n≤maxLen∧(0<c.actsL.length→c.acts.p.isSome=true)) (fun w h=>⟨(h.2 c hcm).len_,(h.2 c hcm).max_,(h.2 c hcm).some_⟩) fun ⟨hl2,hm2,hp2⟩=>?_
    simp only [maxLen] at hm2
    repeat' (first|refine gs ?_|(refine aF (q:=i.k*6) ?_)|(refine gc ?_)|(refine ew (q:=i.k*6+1) (u:=c.acts.v) (hF:=fun w h=>(Chains.get h hc).2.2 1 _ rfl) ?_)|(refine gp ?_ ?_<;>intro hx_ this)|fail)
    · apply ab;apply ag;rfl;rfl
      rw [fewV,cE hlt (by rw [hfb,shortV,Zd (by omega)];rfl),Zl]
    refine aq (ι:=Ea c.actsL.length (shortBad c.actsL)) (fun j=>⟨[(0,s.v),(3,.int .i64 i.k),(4,.int .i64 j.k)],[],fun w=>Chains w s l⟩) (fun j=>c.actsL.length-j.k) (Ea.zero _ _) (aj am (ak _) fun _ h=>h) fun j=>?_
    have hjk:=j.hk
    repeat' (first|refine gs ?_|(refine aF (q:=i.k*6) ?_)|(refine gc ?_)|(refine ew (q:=i.k*6+1) (u:=c.acts.v) (hF:=fun w h=>(Chains.get h hc).2.2 1 _ rfl) ?_)|(refine gp ?_ ?_<;>intro hx_ this)|fail)
    · have hjl:j.k<c.actsL.length:=by omega
      have hp3:=hp2 aa
      obtain ⟨x,hx⟩:∃ x,c.actsL[j.k]?=some x:=⟨_,Zc hjl⟩
      have hB:shortBad c.actsL j.k=(decide (8<x.to.n)||decide (8<x.wraps.n)||decide (600<x.text.size)||decide (600<x.body.data.size)):=by simp only [shortBad,Zp,hx,Qc]
      repeat' (first|refine gs ?_|refine gs1 fun _=>?_|(refine aF (q:=j.k*20) ?_)|(refine aN (cs:=x.cells) (hF:=fun w h=>Acts.get (h.2 c hcm) hx) ?_)|(refine gp ?_ ?_<;>intro hx_ this)|fail)
      all_goals first
        | (apply ab;apply ag;rfl;rfl
           have hb:shortBad c.actsL j.k=true:=by
             rw [hB];simp only [Bool.or_eq_true,Zv];simp only [Zv,Qb] at *;omega
           rw [fewV,cE hlt (by rw [hfb,shortV,cE hjl hb,Zl];rfl),Zl])
        | (have hb:shortBad c.actsL j.k=false:=by
             rw [hB];simp only [Qj,Qb];simp only [Zv,Qb] at *;omega
           exact ⟨j.next hjl hb,(by show c.actsL.length-(j.k+1)<c.actsL.length-j.k;omega),aj am (Z0 _ (ak _)) fun _ h=>h⟩)
    · have hsv:shortV c=true:=by rw [shortV,j.all aa,Ze (by omega)];rfl
      exact ⟨i.next hlt (by rw [hfb,hsv];rfl),(by show l.length-(i.k+1)<l.length-i.k;omega),aj am (ak _) fun _ h=>h⟩
  · apply ab;apply ag;rfl;rfl
    rw [fewV,i.all aa,Ze (by omega)]
    rfl
theorem im (w:World) {cs:Array Value} {off:Nat} {v:Value} (h:cs[off]?=some v):(part 3 cs off).run prog w=.ok v w:=by
 simp [part,isAgg,run_underlying underlying3,h]
theorem BA (w:World) (d:Nat) (a b:Int):(Op.equalIn (d+1) 3 (.int .i64 a) (.int .i64 b)).run prog w=.ok (decide (a=b)) w:=by
 rw [run_equalIn_int w d _ .i64 .i64 a b underlying3]
 rfl
theorem tE (w:World) (d:Nat) (a:Ek):(Op.equalIn (d+2) 64 a.v a.v).run prog w=.ok true w:=by
 have p0:∀ x:Ek,(part 3 x.cells.toArray 0).run prog w=.ok (.int .i64 (x.likes:Int)) w:=fun x=>im w rfl
 have p1:∀ x:Ek,(part 3 x.cells.toArray 1).run prog w=.ok (.int .i64 (x.boosts:Int)) w:=fun x=>im w rfl
 have p2:∀ x:Ek,(part 3 x.cells.toArray 2).run prog w=.ok (.int .i64 (x.replies:Int)) w:=fun x=>im w rfl
 unfold Ek.v
 rw [run_equalIn_agg _ _ _ _ _ ai ai]
 simp only [Program.fieldsOf,underlying64]
 simp [Op.eqFields,p0,p1,p2,BA]
section
variable {N:Nat} {av bor:List Nat} {w0:World} {x y:Operand} {t2:TypeId} {ty:TypeId} {st:St}
theorem ra (a:Ek) (hx:ev st.env x=some a.v) (hy:ev st.env y=some a.v):Sy.Yields prog N av bor w0 st (.binOp .eql 64 x y t2) ty (.bool true):=Sy.Yields.mk fun A w ok d pos af g=>by
 have h1:=run_eqGuard_agg (P:=prog) w .eql 64 x y a.cells.toArray a.cells.toArray ai
 have h2:=run_eql_struct (P:=prog) w 64 a.cells.toArray a.cells.toArray
 have h3:=tE w 9998 a
 simp only [Ek.v] at hx hy h3
 simp [execOp,ok.eval hx,ok.eval hy,h1,h2,h3]
end
def sx28:ByteArray:=⟨#[120]⟩
def smP28:ByteArray:=⟨#[48,49,50,51,52,53,54,55,56,57,48,49,50,51,52,53,54,55,56,57,48,49,50,51,52,53,54,55,56,57,48,49]⟩
def smA28:Xa:={ Xa.zero with author:=idA,kind:=0,text:=sx28,n:=1 }
def smB28:Xa:={ Xa.zero with author:=idA,seq:=1,prev:=smP28,kind:=1,text:=sx28 }
def smL28:List Xa:=[smA28,smB28]
def smC28 (b:Nat):Xb:=⟨idA,⟨some ⟨b,0,none⟩,2,2⟩,⟨none,0,0⟩,⟨#[]⟩,0,false,smL28⟩
def smK28 (id:ByteArray):Xa:={ Xa.zero with kind:=5,object:=id }
def smO28:Xa:={ Xa.zero with kind:=4,object:=sx28 }
def smM28 (id:ByteArray):List Xa:=[smK28 id,smK28 id,smO28]
def smD28 (id:ByteArray) (b:Nat):Xb:=⟨idB,⟨some ⟨b,0,none⟩,3,3⟩,⟨none,0,0⟩,⟨#[]⟩,0,false,smM28 id⟩
def smI28:ByteArray:=digV smB28
theorem BG (a:Xa):(digV a).size=0∨(digV a).size=32:=by
 rw [digV]
 cases seqB (bytesV a) ⟨#[]⟩ with
 | true=>rw [Zg];exact .inl rfl
 | false=>rw [Zf];exact .inr (kS _)
theorem yb:seqB smI28 sx28=false:=by
 cases h:seqB smI28 sx28 with
 | false=>rfl
 | true =>
  have h1:=seqB_iff.1 h
  have h2:=BG smB28
  rw [show digV smB28=smI28 from rfl,h1] at h2
  rcases h2 with h2|h2<;>cases h2
theorem Jr:seqB sx28 smI28=false:=by
 cases h:seqB sx28 smI28 with
 | false=>rfl
 | true=>rw [←yb,seqB_iff.1 h];exact (bN _).symm
theorem smPostC (b:Nat):postsV (smC28 b)=[newP idA 1 smB28]:=by kernel_rfl
theorem smPostD (id:ByteArray) (b:Nat):postsV (smD28 id b)=[]:=by kernel_rfl
theorem smHasC5 (id:ByteArray) (b:Nat):hasV (smC28 b) 5 id=false:=by kernel_rfl
theorem smHasC4 (id:ByteArray) (b:Nat):hasV (smC28 b) 4 id=false:=by kernel_rfl
theorem smHasD5 (id:ByteArray) (b:Nat):hasV (smD28 id b) 5 id=true:=by
 have e:seqB id id=true:=bN id
 have h1:hasM (smD28 id b) 5 id 1=bif seqB id id then [(0,.bool true)] else []:=by kernel_rfl
 rw [e] at h1
 have h2:hasM (smD28 id b) 5 id 2=bif seqB id id then mput (hasM (smD28 id b) 5 id 1) 1 (.bool true) else hasM (smD28 id b) 5 id 1:=by kernel_rfl
 rw [e,h1] at h2
 have h3:hasM (smD28 id b) 5 id 3=hasM (smD28 id b) 5 id 2:=by kernel_rfl
 show decide (0<(hasM (smD28 id b) 5 id 3).length)=true
 rw [h3,h2]
 kernel_rfl
theorem smHasD4 {id:ByteArray} (h:seqB sx28 id=false) (b:Nat):hasV (smD28 id b) 4 id=false:=by
 have h1:hasM (smD28 id b) 4 id 3=bif seqB sx28 id then [(2,.bool true)] else []:=by kernel_rfl
 rw [h] at h1
 show decide (0<(hasM (smD28 id b) 4 id 3).length)=false
 rw [h1]
 rfl
theorem smBlock (id:ByteArray) (b b2:Nat):admV [smC28 b,smD28 id b2] idB idA=true:=by kernel_rfl
theorem smLive (b b2:Nat):liveV [smC28 b,smD28 smI28 b2] smI28=some (newP idA 1 smB28):=by
 have h:findPV [smC28 b,smD28 smI28 b2] smI28=some (newP idA 1 smB28):=by
  rw [findPV,List.flatMap_cons,List.flatMap_cons,smPostC,smPostD]
  show List.find? _ (newP idA 1 smB28::_)=_
  rw [List.find?_cons_of_pos (by show seqB (digV smB28) smI28=true;exact bN _)]
 rw [liveV,h]
 rfl
theorem smDead (b b2:Nat):liveV [smC28 b,smD28 smI28 b2] sx28=none:=by
 have h:findPV [smC28 b,smD28 smI28 b2] sx28=none:=by
  rw [findPV,List.flatMap_cons,List.flatMap_cons,smPostC,smPostD]
  show List.find? _ [newP idA 1 smB28]=_
  rw [List.find?_cons_of_neg (by show ¬ seqB smI28 sx28=true;rw [yb];decide)]
  rfl
 rw [liveV,h]
theorem smAct5 (b b2:Nat):actorsV [smC28 b,smD28 smI28 b2] (newP idA 1 smB28) 5=[idB]:=by
 have h:actF [smC28 b,smD28 smI28 b2] (newP idA 1 smB28) 5 2=[idB]:=by
  have h1:actF [smC28 b,smD28 smI28 b2] (newP idA 1 smB28) 5 1=[]:=by
   have h0:actF [smC28 b,smD28 smI28 b2] (newP idA 1 smB28) 5 1=bif (bif hasV (smC28 b) 5 smI28 then admV [smC28 b,smD28 smI28 b2] idA idA else false) then [idA] else []:=by kernel_rfl
   rw [h0,smHasC5];rfl
  have h2:actF [smC28 b,smD28 smI28 b2] (newP idA 1 smB28) 5 2=bif cntB [smC28 b,smD28 smI28 b2] (newP idA 1 smB28) 5 (actF [smC28 b,smD28 smI28 b2] (newP idA 1 smB28) 5 1) (smD28 smI28 b2) then sput (actF [smC28 b,smD28 smI28 b2] (newP idA 1 smB28) 5 1) idB else actF [smC28 b,smD28 smI28 b2] (newP idA 1 smB28) 5 1:=by kernel_rfl
  rw [h2,h1]
  have h3:cntB [smC28 b,smD28 smI28 b2] (newP idA 1 smB28) 5 [] (smD28 smI28 b2)=true:=by
   have h4:cntB [smC28 b,smD28 smI28 b2] (newP idA 1 smB28) 5 [] (smD28 smI28 b2)=bif hasV (smD28 smI28 b2) 5 smI28 then admV [smC28 b,smD28 smI28 b2] idB idA else false:=by kernel_rfl
   rw [h4,smHasD5,smBlock];rfl
  rw [h3]
  rfl
 show sortB (actF _ _ _ 2)=_
 rw [h]
 exact (qX (List.nodup_cons.2 ⟨Qi,List.nodup_nil⟩)).ext (List.pairwise_singleton _ _) fun x=>mem_sortB
theorem smAct4 (b b2:Nat):actorsV [smC28 b,smD28 smI28 b2] (newP idA 1 smB28) 4=[]:=by
 have h1:actF [smC28 b,smD28 smI28 b2] (newP idA 1 smB28) 4 1=[]:=by
  have h0:actF [smC28 b,smD28 smI28 b2] (newP idA 1 smB28) 4 1=bif (bif hasV (smC28 b) 4 smI28 then admV [smC28 b,smD28 smI28 b2] idA idA else false) then [idA] else []:=by kernel_rfl
  rw [h0,smHasC4];rfl
 have h2:actF [smC28 b,smD28 smI28 b2] (newP idA 1 smB28) 4 2=bif cntB [smC28 b,smD28 smI28 b2] (newP idA 1 smB28) 4 (actF [smC28 b,smD28 smI28 b2] (newP idA 1 smB28) 4 1) (smD28 smI28 b2) then sput (actF [smC28 b,smD28 smI28 b2] (newP idA 1 smB28) 4 1) idB else actF [smC28 b,smD28 smI28 b2] (newP idA 1 smB28) 4 1:=by kernel_rfl
 have h3:cntB [smC28 b,smD28 smI28 b2] (newP idA 1 smB28) 4 [] (smD28 smI28 b2)=false:=by
  have h4:cntB [smC28 b,smD28 smI28 b2] (newP idA 1 smB28) 4 [] (smD28 smI28 b2)=bif hasV (smD28 smI28 b2) 4 smI28 then admV [smC28 b,smD28 smI28 b2] idB idA else false:=by kernel_rfl
  rw [h4,smHasD4 Jr];rfl
 show sortB (actF _ _ _ 2)=_
 rw [h2,h1,h3,Zf]
 simp [sortB]
theorem smTally (b b2:Nat):tallyV [smC28 b,smD28 smI28 b2] smI28=⟨1,0,0⟩:=by
 rw [tallyV,smLive]
 show Ek.mk (actorsV _ _ 5).length (actorsV _ _ 4).length _=_
 rw [smAct5,smAct4,List.flatMap_cons,List.flatMap_cons,smPostC,smPostD]
 rfl
theorem smTallyX (b b2:Nat):tallyV [smC28 b,smD28 smI28 b2] sx28=⟨0,0,0⟩:=by rw [tallyV,smDead]
theorem smTally0 (id:ByteArray):tallyV [] id=⟨0,0,0⟩:=rfl
theorem smWho5 (b b2:Nat):whoV [smC28 b,smD28 smI28 b2] smI28 5=[idB]:=by
 rw [whoV,smLive]
 exact smAct5 b b2
theorem smWho7 (l:List Xb) (id:ByteArray):whoV l id 7=[]:=rfl
theorem smWho0 (id:ByteArray):whoV [] id 5=[]:=rfl
theorem smChainsNil (w:World):Chains w ⟨none,0,0⟩ []:=⟨bD w 6,fun c h=>by cases h⟩
theorem sL {a:Xa} (h:a.wrapsL=[]) (h2:a.toL=[]) (h3:a.to=⟨none,0,0⟩) (h4:a.wraps=⟨none,0,0⟩) (w:World):a.at_ w:=⟨by rw [h3,h2];exact bD w 1,by rw [h4,h];exact bD w 5⟩
theorem Dy {w:World}:∀ a∈smL28,a.at_ w:=by
 intro a ha
 simp only [smL28,ZH,Qi,or_false] at ha
 rcases ha with rfl|rfl<;>exact sL rfl rfl rfl rfl w
theorem Dx {id:ByteArray} {w:World}:∀ a∈smM28 id,a.at_ w:=by
 intro a ha
 simp only [smM28,ZH,Qi,or_false] at ha
 rcases ha with rfl|rfl|rfl<;>exact sL rfl rfl rfl rfl w
theorem smL28_ok:Xx smL28:=by
 refine ⟨fun a ha=>?_,fun a ha=>?_⟩<;>simp only [smL28,ZH,Qi,or_false] at ha
 · rcases ha with rfl|rfl<;>exact ⟨by decide,fun w hw=>absurd hw (by show ¬ w∈[];simp),rfl,rfl⟩
 · rcases ha with rfl|rfl<;>exact ⟨by decide,by decide,by decide⟩
theorem Dv (id:ByteArray):Xx (smM28 id):=by
 have z:Xa.Rng { Xa.zero with kind:=5 }:=⟨by decide,fun w hw=>absurd hw (by show ¬ w∈[];simp),rfl,rfl⟩
 have zs:Xa.Sm { Xa.zero with kind:=5 }:=⟨by decide,by decide,by decide⟩
 refine ⟨fun a ha=>?_,fun a ha=>?_⟩<;>simp only [smM28,ZH,Qi,or_false] at ha
 · rcases ha with rfl|rfl|rfl
   · exact ⟨z.1,z.2,rfl,rfl⟩
   · exact ⟨z.1,z.2,rfl,rfl⟩
   · exact ⟨by decide,fun w hw=>absurd hw (by show ¬ w∈[];simp),rfl,rfl⟩
 · rcases ha with rfl|rfl|rfl
   · exact ⟨zs.1,zs.2,zs.3⟩
   · exact ⟨zs.1,zs.2,zs.3⟩
   · exact ⟨by decide,by decide,by decide⟩
theorem smChains {I:ByteArray} {b b2 b3:Nat} {w:World} (h1:(cel b 46 (smL28.map Xa.cells).flatten).F w) (h2:(cel b2 46 ((smM28 I).map Xa.cells).flatten).F w) (h3:(cel b3 35 ((smC28 b).cells++(smD28 I b2).cells)).F w):Chains w ⟨some ⟨b3,0,none⟩,2,2⟩ [smC28 b,smD28 I b2] :=
 ⟨aU (xs:=[(smC28 b).cells,(smD28 I b2).cells]) h3 rfl (by decide) (by intro r hr;simp only [ZH,Qi,or_false] at hr;rcases hr with rfl|rfl<;>rfl),fun c h=>by
  simp only [ZH,Qi,or_false] at h
  rcases h with rfl|rfl
  · exact ⟨aU h1 rfl (by decide) (eK smL28),Dy⟩
  · exact ⟨aU h2 rfl (by decide) (eK (smM28 I)),Dx⟩⟩
theorem vV:Pu prog 20 #[] Xe (.bool true):=by
 refine ax func20 ntmps20 fun av bor w0=>?_
 obtain ⟨I,hdI,hT,hTX,hW5⟩:∃ I,digV smB28=I∧(∀ b b2,tallyV [smC28 b,smD28 I b2] I=⟨1,0,0⟩)∧(∀ b b2,tallyV [smC28 b,smD28 I b2] sx28=⟨0,0,0⟩)∧∀ b b2,whoV [smC28 b,smD28 I b2] I 5=[idB]:=⟨smI28,rfl,smTally,smTallyX,smWho5⟩
 have hof:=gM smB28 (smL28_ok.rng smB28 (by simp [smL28])) (smL28_ok.sm smB28 (by simp [smL28]))
 repeat' (first|refine aG (cs:=smA28.cells) (hf:=by rfl) ?_|refine aG (cs:=smB28.cells) (hf:=by rfl) ?_|refine aG (cs:=(smK28 I).cells) (hf:=by rfl) ?_|refine aG (cs:=smO28.cells) (hf:=by rfl) ?_|(refine cJ (size:=20) (vs:=[.agg smA28.cells.toArray,.agg smB28.cells.toArray]) (css:=(smL28.map Xa.cells).flatten) (hsz:=by rfl) (hcs:=by rfl) fun bR=>?_;refine bI ?_)|refine aG (cs:=(smC28 bR).cells) (hf:=by rfl) ?_|(refine cJ (size:=20) (vs:=[.agg (smK28 I).cells.toArray,.agg (smK28 I).cells.toArray,.agg smO28.cells.toArray]) (css:=((smM28 I).map Xa.cells).flatten) (hsz:=by rfl) (hcs:=by rfl) fun bM=>?_;refine bI ?_)|refine aG (cs:=(smD28 I bM).cells) (hf:=by rfl) ?_|(refine cJ (size:=6) (vs:=[(smC28 bR).v,(smD28 I bM).v]) (css:=(smC28 bR).cells++(smD28 I bM).cells) (hsz:=by rfl) (hcs:=by rfl) fun bE=>?_;refine bI ?_)|(refine bA (hc:=hof) (hX:=fun w h=>sL rfl rfl rfl rfl w) fun v1 X1 h1=>?_;obtain ⟨a1,rfl,hd1,hra1,hw1⟩:=h1)|(refine ae (hc:=(show Pu prog 18 #[itemV 0 a1] (fun w=>Xa.at_ w a1∧Xe w) (.string I) from (hd1.trans hdI)▸fP a1 hra1)) (hX:=fun w h=>⟨hw1 w h.2,h.1.1⟩) ?_)|refine gs ?_|refine gs1 fun _=>?_|(refine aF (q:=20) (p:=some ⟨bR,0,none⟩) (m:=2) (c:=2) (i:=1) (h1:=by decide) (hp:=rfl) (hq:=rfl) ?_)|(refine aN (cs:=smB28.cells) (hF:=fun w h=>Xf.row (aU h.2 rfl (by decide) (eK smL28)) 1 smB28.cells rfl) ?_)|fail)
 rename_i b1 b3
 refine ml (st':=⟨[(2,.string I),(3,.pointer (some ⟨b3,0,none⟩)),(4,.slice (some ⟨bE,0,none⟩) 2 2)],[cel b3 35 (smD28 I bM).cells],fun w=>Xe w∧Chains w ⟨some ⟨bE,0,none⟩,2,2⟩ [smC28 bR,smD28 I bM]⟩) ?_ ?_
 · exact aj am (Z1 _ (Z0 _ (ak _))) fun w h=>⟨h.1.1.1.1,smChains h.1.1.1.2 h.1.2 h.2⟩
 have ho:∀ c∈[smC28 bR,smD28 I bM],Xx c.actsL:=fun c hc=>by
  simp only [ZH,Qi,or_false] at hc
  rcases hc with rfl|rfl
  · exact smL28_ok
  · exact Dv I
 have hl:∀ c∈[smC28 bR,smD28 I bM],c.actsL.length≤1000∧c.id.size≤maxLen:=fun c hc=>by
  simp only [ZH,Qi,or_false] at hc
  rcases hc with rfl|rfl
  · exact ⟨(by decide:(2:Nat)≤1000),(by decide:idA.size≤maxLen)⟩
  · exact ⟨(by decide:(3:Nat)≤1000),(by decide:idB.size≤maxLen)⟩
 have hno:∀ c∈([]:List Xb),False:=fun c hc=>by cases hc
 have t0:=jF ⟨none,0,0⟩ [] I (fun c h=>(hno c h).elim) (fun c h=>(hno c h).elim) (fun c h=>(hno c h).elim) (by decide)
 rw [smTally0] at t0
 have t1:=jF ⟨some ⟨bE,0,none⟩,2,2⟩ _ I ho (fun c h=>(hl c h).1) (fun c h=>(hl c h).2) (by decide:(2:Nat)≤1000)
 rw [hT] at t1
 have t2:=jF ⟨some ⟨bE,0,none⟩,2,2⟩ _ sx28 ho (fun c h=>(hl c h).1) (fun c h=>(hl c h).2) (by decide:(2:Nat)≤1000)
 rw [hTX] at t2
 have w0':=rf ⟨none,0,0⟩ [] I 5 (fun c h=>(hno c h).elim) (fun c h=>(hno c h).elim) (fun c h=>(hno c h).elim) (by decide)
 rw [smWho0] at w0'
 have w5:=rf ⟨some ⟨bE,0,none⟩,2,2⟩ _ I 5 ho (fun c h=>ZW (hl c h).1 (by decide)) (fun c h=>(hl c h).2) (by decide:(2:Nat)≤1000000)
 rw [hW5] at w5
 have w7:=rf ⟨some ⟨bE,0,none⟩,2,2⟩ [smC28 bR,smD28 I bM] I 7 ho (fun c h=>ZW (hl c h).1 (by decide)) (fun c h=>(hl c h).2) (by decide:(2:Nat)≤1000000)
 rw [smWho7] at w7
 have hs:∀ r q:Xk,Pu prog 17 #[r.v,q.v] (fun w=>Strs w r [idB]∧Strs w q [idB]) (.bool true):=fun r q=>by
  have h:=AA r q [idB] [idB]
  rw [Fs] at h
  exact h
 (refine ap ⟨[0,2],[(1,⟨[3,4,5],[(6,⟨[7,8,9,10,11,12,14],[(13,⟨[15,16,17,18,19,21,22],[(20,⟨[],[(23,⟨[],[(24,⟨[25,26,27,28],[(29,⟨[30,31,32,33,34,36],[(35,⟨[37,38,39],[]⟩)]⟩)]⟩)]⟩)]⟩),(23,⟨[],[(20,⟨[],[(24,⟨[25,26,27,28],[(29,⟨[30,31,32,33,34,36],[(35,⟨[37,38,39],[]⟩)]⟩)]⟩)]⟩)]⟩)]⟩)]⟩)]⟩)]⟩ [cel b3 35 (smD28 I bM).cells] (fun w=>Xe w∧Chains w ⟨some ⟨bE,0,none⟩,2,2⟩ [smC28 bR,smD28 I bM]) (h:=?_))
 all_goals repeat' (first|refine ay (hsub:=by exact aK) (hy:=by first|(apply mT true;rfl;rfl;exact Ze (by first|exact congrArg Int.ofNat hn1|exact congrArg Int.ofNat hn3))|(apply ra ⟨0,0,0⟩;rfl;rfl)|(apply ra ⟨1,0,0⟩;rfl;rfl)) ?_|(refine ae (hc:=t0) (hX:=fun w h=>⟨smChainsNil w,h.1⟩) ?_)|((refine bA (hc:=w0') (hX:=fun w h=>⟨smChainsNil w,h.1⟩) fun v1 X1 h1=>?_;obtain ⟨s1,rfl,hn1,hw1'⟩:=h1))|(refine ae (hc:=t1) (hX:=fun w h=>⟨h.1.2,h.1.1⟩) ?_)|((refine bA (hc:=w5) (hX:=fun w h=>⟨h.1.2,h.1.1⟩) fun v2 X2 h2=>?_;obtain ⟨s2,rfl,hn2,hw2⟩:=h2))|((refine bA (hc:=w5) (hX:=fun w h=>⟨h.1.1.2,h.1.1.1⟩) fun v2 X2 h2=>?_;obtain ⟨s2,rfl,hn2,hw2⟩:=h2))|(refine ae (hc:=hs s2 ⟨some ⟨bq,0,none⟩,1,1⟩) (hX:=fun w h=>⟨hw2 w h.1.2,lP (l:=[idB]) h.2 (by decide)⟩) ?_)|(refine ae (hc:=hs s2 ⟨some ⟨bq,0,none⟩,1,1⟩) (hX:=fun w h=>⟨hw2 w h.2,lP (l:=[idB]) h.1.2 (by decide)⟩) ?_)|((refine bA (hc:=w7) (hX:=fun w h=>⟨h.1.1.1.2,h.1.1.1.1⟩) fun v3 X3 h3=>?_;obtain ⟨s3,rfl,hn3,hw3⟩:=h3))|(refine ae (hc:=t2) (hX:=fun w h=>⟨h.1.1.1.1.2,h.1.1.1.1.1⟩) ?_)|refine gdz ?_|refine ay (hsub:=by exact aK) (hy:=by (apply di;rfl;rfl)) ?_|refine az ?_ (h':=?_)|exact aA|(refine eA (len:=1) (vs:=[encB idB]) fun bq=>?_;refine bI ?_)|fail)
 all_goals
  repeat' (first|refine gs ?_|fail)
  apply ab;apply ag;rfl;rfl
  rfl
theorem wG {l:List Xb} {id:ByteArray} {p:Xd} (h:liveV l id=some p):findPV l id=some p:=by
 rw [liveV] at h
 cases hf:findPV l id with
 | none=>rw [hf] at h;cases h
 | some q =>
  rw [hf] at h
  change (bif q.gone then none else some q)=some p at h
  cases hg:q.gone with
  | true=>rw [hg] at h;cases h
  | false=>rw [hg] at h;exact h
theorem uK {l:List Xb} {id:ByteArray} {p:Xd} (h:liveV l id=some p):p.id=id :=
 seqB_iff.1 (List.find?_some (wG h):isPost id p=true)
theorem gu (l:List Xb) (p:Xd) (kind:Int):Asc (actorsV l p kind):=qX (px l p kind _)
structure LawI (n:Nat) where
 k:Nat
 hk:k≤n
structure GivI (l:List Xb) (x id:ByteArray) (kd:Int) where
 k:Nat
 hk:k≤l.length
 g:Bool
 hg:∀ j c,j<k→l[j]?=some c→c.id=x→∀ a∈c.actsL,a.kind=kd→a.object=id→g=true
structure GinI (L:List Xa) (id:ByteArray) (kd:Int) (B:Bool→Prop) where
 k:Nat
 hk:k≤L.length
 g:Bool
 hB:B g
 hg:∀ j a,j<k→L[j]?=some a→a.kind=kd→a.object=id→g=true
structure WishD where
 by_:Int
 do_:Int
 who:Int
 what:Int
 text:ByteArray
 time:Int
end Go.Proofs.YtaolfiikahlmkaaGreatDoor

namespace Go.Proofs.YtaolfiikahlmkaaGreatDoor
open Go Go.Proofs Sy
theorem kz (a:Xa):digV a.can=digV a:=wW rfl rfl
theorem fm (l:List Xa) (i:Nat):(l.map Xa.can).getD i Xa.zero=(l.getD i Xa.zero).can:=by
 rw [Zp,Zp,Z5]
 cases l[i]?<;>rfl
theorem kj (l:List Xa) (d:ByteArray):idxV (l.map Xa.can) d=idxV l d:=by
 rw [idxV,idxV,List.findIdx?_map]
 exact congrArg (fun p=>l.findIdx? p) (funext fun a=>by
  show seqB (digV a.can) d=_
  rw [kz])
theorem zn (t:Er) (a:Xa):undoT t a.can=undoT t a:=rfl
theorem An (l:List Xa) (i:Nat) (t:Er) (x:Xa):stepT (l.map Xa.can) i t x.can=stepT l i t x:=by
 rw [stepT,stepT,show x.can.kind=x.kind from rfl,show x.can.target=x.target from rfl,show x.can.object=x.object from rfl,kj]
 cases idxV l x.object with
 | none=>rfl
 | some j=>simp only [fm,zn]
theorem te (l:List Xa):∀ n,tieF (l.map Xa.can) n=tieF l n
 | 0=>rfl
 | n+1=>by rw [tieF,tieF,te l n,fm,An]
theorem m7 (l:List Xa) (n:Int):tieV (l.map Xa.can) n=tieV l n:=by
 rw [tieV,tieV,te,ZE]
def nuN (id:ByteArray) (l:List Xa):Xb:=⟨id,⟨none,l.length,0⟩,⟨none,0,0⟩,⟨#[]⟩,0,false,l⟩
def canoC (c:Xb):Xb:=nuN c.id (c.actsL.map Xa.can)
def cano (l:List Xb):List Xb:=l.map canoC
theorem EO (id:ByteArray) (i:Nat) (a:Xa):newP id i a.can=newP id i a:=by
 unfold newP
 rw [kz]
 rfl
theorem ov (c:Xb):∀ i,openF (canoC c) i=openF c i
 | 0=>rfl
 | i+1=>by
  rw [openF,openF,ov c i]
  show (openF c i++bif postK ((c.actsL.map Xa.can).getD i Xa.zero).kind then [newP c.id i ((c.actsL.map Xa.can).getD i Xa.zero)] else [])=_
  rw [fm,EO]
  rfl
theorem Ao (l:List Xa) (i:Nat) (P:List Xd):stepP (l.map Xa.can) i P=stepP l i P:=by
 have e:refV (l.map Xa.can) P i=refV l P i:=by
  rw [refV,refV,fm]
  show (match idxV (l.map Xa.can) (l.getD i Xa.zero).object with|some j=>bif decide (j<i) then posP P j else none|none=>none)=_
  rw [kj]
  rfl
 rw [stepP,stepP,e,fm]
 rfl
theorem uw (c:Xb):∀ i,ofP (canoC c) i=ofP c i
 | 0=>by
  rw [ofP,ofP,ov]
  show openF c (c.actsL.map Xa.can).length=_
  rw [ZE]
 | i+1=>by
  rw [ofP,ofP,uw c i]
  exact Ao _ _ _
theorem un (c:Xb):postsV (canoC c)=postsV c:=by
 rw [postsV,postsV,uw]
 show ofP c (c.actsL.map Xa.can).length=_
 rw [ZE]
theorem om (l:List Xb):(cano l).flatMap postsV=l.flatMap postsV:=by
 rw [cano,List.flatMap_map]
 exact congrArg (fun f=>l.flatMap f) (funext un)
theorem vc (l:List Xb) (id:ByteArray):findPV (cano l) id=findPV l id:=by rw [findPV,findPV,om]
theorem jr (l:List Xb) (id:ByteArray):liveV (cano l) id=liveV l id:=by rw [liveV,liveV,vc]
theorem wS (l:List Xb) (id:ByteArray):findC (cano l) id=(findC l id).map canoC:=by
 rw [findC,findC,cano,List.find?_map]
 rfl
def LenOk (l:List Xb):Prop:=∀ c∈l,c.acts.n=c.actsL.length
theorem p9 {l:List Xb} (h:LenOk l) (id:ByteArray):tieC (cano l) id=tieC l id:=by
 rw [tieC,tieC,chainC,chainC,wS]
 cases hf:findC l id with
 | none=>rfl
 | some c =>
  show tieV (c.actsL.map Xa.can) ((c.actsL.map Xa.can).length:Nat)=tieV c.actsL (c.acts.n:Nat)
  rw [h c (Qx hf),ZE,m7]
theorem pS {l:List Xb} (h:LenOk l) (a b:ByteArray):blockedV (cano l) a b=blockedV l a b:=by rw [blockedV,blockedV,p9 h,p9 h]
theorem lK {l:List Xb} (h:LenOk l) (a b:ByteArray):admV (cano l) a b=admV l a b:=by rw [admV,admV,pS h]
theorem qM (c:Xb) (k:Int) (id:ByteArray):∀ i,hasM (canoC c) k id i=hasM c k id i
 | 0=>rfl
 | i+1=>by
  have e:(canoC c).actsL.getD i Xa.zero=(c.actsL.getD i Xa.zero).can:=fm _ _
  simp only [hasM,qM c k id i,e]
  rw [show idxV (canoC c).actsL (c.actsL.getD i Xa.zero).can.object=idxV c.actsL (c.actsL.getD i Xa.zero).object from kj _ _]
  rfl
theorem qL (c:Xb) (k:Int) (id:ByteArray):hasV (canoC c) k id=hasV c k id:=by
 rw [hasV,hasV,qM]
 show decide (0<(hasM c k id (c.actsL.map Xa.can).length).length)=_
 rw [ZE]
theorem zf (l:List Xb) (p:Xd) (kind:Int):∀ i,i≤l.length→∀ (j:Nat) (c:Xb),j<i→l[j]?=some c→hasV c kind p.id=true→admV l c.id p.author=true→c.id∈actF l p kind i
 | 0,_,j,c,hj,_,_,_=>absurd hj (Nat.not_lt_zero _)
 | i+1,hi,j,c,hj,hc,h1,h2=>by
  rw [actF]
  rcases Nat.lt_succ_iff_lt_or_eq.1 hj with h|rfl
  · have ih:=zf l p kind i aa j c h hc h1 h2
    cases cntB l p kind (actF l p kind i) (l.getD i Xb.zero) with
    | true=>exact mem_sput.2 (.inr ih)
    | false=>exact ih
  · have hg:l.getD j Xb.zero=c:=by rw [Zp,hc];rfl
    rw [hg]
    cases hb:cntB l p kind (actF l p kind j) c with
    | true=>exact mem_sput.2 (.inl rfl)
    | false =>
     rw [cntB] at hb
     cases hh:hasS (actF l p kind j) c.id with
     | true=>exact hasS_iff.1 hh
     | false=>rw [hh,h1,h2] at hb;cases hb
theorem fo {l:List Xb} {p:Xd} {kind:Int} {x:ByteArray}:x∈actorsV l p kind↔∃ c∈l,c.id=x∧hasV c kind p.id=true∧admV l x p.author=true:=by
 rw [actorsV,mem_sortB]
 constructor
 · exact py l p kind l.length (ZV _) x
 · rintro ⟨c,hc,rfl,h1,h2⟩
   obtain ⟨j,hj,rfl⟩:=Qv hc
   exact zf l p kind l.length (ZV _) j _ hj (Zc hj) h1 h2
theorem fq {l m:List Xb} {p q:Xd} {k:Int} (h:∀ x,x∈actorsV l p k↔x∈actorsV m q k):actorsV l p k=actorsV m q k:=(gu l p k).ext (gu m q k) h
theorem kH {l:List Xb} (h:LenOk l) (p:Xd) (k:Int):actorsV (cano l) p k=actorsV l p k:=fq fun x=>by
 rw [fo,fo,lK h]
 constructor
 · rintro ⟨c,hc,h1,h2,h3⟩
   obtain ⟨d,hd,rfl⟩:=QH.1 hc
   exact ⟨d,hd,h1,by rw [←qL];exact h2,h3⟩
 · rintro ⟨c,hc,h1,h2,h3⟩
   exact ⟨canoC c,QH.2 ⟨c,hc,rfl⟩,h1,by rw [qL];exact h2,h3⟩
theorem tj {l:List Xb} (h:LenOk l) (id:ByteArray):tallyV (cano l) id=tallyV l id:=by
 have e:∀ a,repB (cano l) id a=repB l id a:=fun a=>funext fun q=>by rw [repB,repB,lK h]
 rw [tallyV,tallyV,jr]
 cases liveV l id with
 | none=>rfl
 | some p=>simp only [kH h,om,e]
theorem zk {l:List Xb} (h:LenOk l) (id:ByteArray) (k:Int):whoV (cano l) id k=whoV l id k:=by
 rw [whoV,whoV,jr]
 cases liveV l id with
 | none=>rfl
 | some p=>simp only [kH h]
theorem fO {l:List Xb} (hn:(l.map Xb.id).Nodup) {id:ByteArray} {c:Xb}:findC l id=some c↔c∈l∧c.id=id:=by
 constructor
 · intro h
   exact ⟨Qx h,seqB_iff.1 (List.find?_some (p:=fun c:Xb=>seqB c.id id) h)⟩
 · rintro ⟨hc,rfl⟩
   induction l with
   | nil=>cases hc
   | cons a l ih =>
    rw [ZZ,List.nodup_cons] at hn
    rw [findC,List.find?_cons]
    rcases ZH.1 hc with rfl|hc
    · rw [bN]
    · have hne:seqB a.id c.id=false:=seqB_ne.2 fun e=>hn.1 (e▸QH.2 ⟨c,hc,rfl⟩)
      rw [hne]
      exact ih hn.2 hc
theorem wQ {l m:List Xb} (hn:(l.map Xb.id).Nodup) (h:l.Perm m) (id:ByteArray):findC l id=findC m id:=Option.ext fun c=>by
 have hm:(m.map Xb.id).Nodup:=(h.map _).nodup_iff.1 hn
 rw [fO hn,fO hm,h.mem_iff]
theorem pR {l m:List Xb} (hn:(l.map Xb.id).Nodup) (h:l.Perm m) (a b:ByteArray):blockedV l a b=blockedV m a b:=by
 simp only [blockedV,tieC,chainC,wQ hn h]
theorem lJ {l m:List Xb} (hn:(l.map Xb.id).Nodup) (h:l.Perm m) (a b:ByteArray):admV l a b=admV m a b:=by rw [admV,admV,pR hn h]
structure Uniq (l:List Xb):Prop where
 ids:(l.map Xb.id).Nodup
 dig:∀ c∈l,∀ d∈l,∀ a∈c.actsL,∀ b∈d.actsL,digV a=digV b→c.id=d.id
 own:∀ c∈l,∀ (n:Nat) (x:Xa),c.actsL[n]?=some x→idxV c.actsL (digV x)=some n
theorem Uniq.perm {l m:List Xb} (h:Uniq l) (hp:l.Perm m):Uniq m:=⟨(hp.map _).nodup_iff.1 h.ids,fun c hc d hd=>h.dig c (hp.mem_iff.2 hc) d (hp.mem_iff.2 hd),fun c hc=>h.own c (hp.mem_iff.2 hc)⟩
theorem Uniq.cano {l:List Xb} (h:Uniq l):Uniq (cano l):=by
 refine ⟨?_,fun c hc d hd a ha b hb e=>?_,fun c hc n x hx=>?_⟩
 · have:(Go.Proofs.YtaolfiikahlmkaaGreatDoor.cano l).map Xb.id=l.map Xb.id:=by rw [Go.Proofs.YtaolfiikahlmkaaGreatDoor.cano,ZY];rfl
   rw [this]
   exact h.ids
 · obtain ⟨c',hc',rfl⟩:=QH.1 hc
   obtain ⟨d',hd',rfl⟩:=QH.1 hd
   obtain ⟨a',ha',rfl⟩:=QH.1 ha
   obtain ⟨b',hb',rfl⟩:=QH.1 hb
   rw [kz,kz] at e
   exact h.dig c' hc' d' hd' a' ha' b' hb' e
 · obtain ⟨c',hc',rfl⟩:=QH.1 hc
   change (c'.actsL.map Xa.can)[n]?=some x at hx
   rw [Z5] at hx
   cases hy:c'.actsL[n]? with
   | none=>rw [hy] at hx;cases hx
   | some y =>
    rw [hy] at hx
    cases hx
    rw [kz]
    show idxV (c'.actsL.map Xa.can) _=_
    rw [kj]
    exact h.own c' hc' n y hy
def PostIn (c:Xb) (p:Xd):Prop:=∃ a,c.actsL[p.pos]?=some a∧p.id=digV a∧p.author=c.id∧p.kind=a.kind
theorem ur (c:Xb):∀ i,i≤c.actsL.length→∀ p∈openF c i,PostIn c p
 | 0,_,p,hp=>by cases hp
 | i+1,hi,p,hp=>by
  rw [openF,Qw] at hp
  rcases hp with h|h
  · exact ur c i aa p h
  · have hx:c.actsL[i]?=some (c.actsL.getD i Xa.zero):=by rw [Zp,Zc (by omega)];rfl
    cases hk:postK (c.actsL.getD i Xa.zero).kind with
    | false=>rw [hk] at h;cases h
    | true =>
     rw [hk,Zg,Z3] at h
     subst h
     exact ⟨_,hx,rfl,rfl,rfl⟩
theorem yz {c:Xb} {P:List Xd} (o:Option Nat) {f:Xd→Xd} (h:∀ p∈P,PostIn c p) (hf:∀ p,PostIn c p→PostIn c (f p)):∀ p∈modP P o f,PostIn c p:=by
 cases o with
 | none=>exact h
 | some n =>
  intro p hp
  by_cases hn:n<P.length
  · rcases List.mem_or_eq_of_mem_set hp with h1|rfl
    · exact h p h1
    · refine hf _ (h _ ?_)
      rw [Zp,Zc hn]
      exact ZP hn
  · rw [modP,List.set_eq_of_length_le (by omega)] at hp
    exact h p hp
theorem EI (c:Xb):∀ i,∀ p∈ofP c i,PostIn c p
 | 0=>ur c _ (ZV _)
 | i+1=>by
  have ih:=EI c i
  rw [ofP,stepP]
  cases decide ((c.actsL.getD i Xa.zero).kind=13) with
  | true=>exact yz _ ih fun p h=>h
  | false =>
   cases decide ((c.actsL.getD i Xa.zero).kind=14) with
   | true =>
    refine yz _ ih fun p h=>?_
    show PostIn c (editP _ i p)
    rw [editP]
    cases editB (c.actsL.getD i Xa.zero) p with
    | true=>exact h
    | false=>exact h
   | false=>exact ih
theorem qu {c:Xb} {p:Xd} (h:p∈postsV c):PostIn c p:=EI c _ p h
theorem PostIn.mem {c:Xb} {p:Xd} (h:PostIn c p):∃ a∈c.actsL,p.id=digV a∧p.author=c.id∧p.kind=a.kind:=by
 obtain ⟨a,h1,h2⟩:=h
 exact ⟨a,Z4 h1,h2⟩
theorem vI {l:List Xb} (h:Uniq l) {c d:Xb} (hc:c∈l) (hd:d∈l) (e:c.id=d.id):c=d :=
 Option.some.inj ((fO h.ids (id:=d.id)).2 ⟨hc,e⟩ |>.symm.trans ((fO h.ids).2 ⟨hd,rfl⟩))
theorem AQ {l:List Xb} (h:Uniq l) {p q:Xd} (hp:p∈l.flatMap postsV) (hq:q∈l.flatMap postsV) (e:p.id=q.id):p=q:=by
 obtain ⟨c,hc,hp⟩:=List.mem_flatMap.1 hp
 obtain ⟨d,hd,hq⟩:=List.mem_flatMap.1 hq
 obtain ⟨a,ha,pa,-⟩:=qu hp
 obtain ⟨b,hb,qb,-⟩:=qu hq
 have eab:digV a=digV b:=by rw [←pa,←qb,e]
 have hcd:=vI h hc hd (h.dig c hc d hd a (Z4 ha) b (Z4 hb) eab)
 subst hcd
 have h1:=h.own c hc _ _ ha
 have h2:=h.own c hc _ _ hb
 rw [eab,h2] at h1
 have epos:p.pos=q.pos:=(Option.some.inj h1).symm
 obtain ⟨i,hi,rfl⟩:=Qv hp
 obtain ⟨j,hj,rfl⟩:=Qv hq
 have:=DV (wt c).1 (Zc hi) (Zc hj) epos
 subst this
 rfl
theorem oW {l:List Xb} (h:Uniq l) {id:ByteArray} {p:Xd}:findPV l id=some p↔p∈l.flatMap postsV∧p.id=id:=by
 constructor
 · intro e
   exact ⟨Qx e,seqB_iff.1 (List.find?_some (p:=isPost id) e)⟩
 · rintro ⟨hp,rfl⟩
   cases hf:findPV l p.id with
   | none =>
    rw [findPV,List.find?_eq_none] at hf
    exact absurd (bN p.id) (hf p hp)
   | some q =>
    have hq:seqB q.id p.id=true:=List.find?_some (p:=isPost p.id) hf
    rw [AQ h (Qx hf) hp (seqB_iff.1 hq)]
theorem va {l m:List Xb} (h:Uniq l) (hp:l.Perm m) (id:ByteArray):findPV l id=findPV m id:=Option.ext fun p=>by
 rw [oW h,oW (h.perm hp),(hp.flatMap_right postsV).mem_iff]
theorem jq {l m:List Xb} (h:Uniq l) (hp:l.Perm m) (id:ByteArray):liveV l id=liveV m id:=by rw [liveV,liveV,va h hp]
theorem kG {l m:List Xb} (h:Uniq l) (hp:l.Perm m) (p:Xd) (k:Int):actorsV l p k=actorsV m p k:=fq fun x=>by
 rw [fo,fo]
 simp only [lJ h.ids hp,hp.mem_iff]
theorem ti {l m:List Xb} (h:Uniq l) (hp:l.Perm m) (id:ByteArray):tallyV l id=tallyV m id:=by
 have e:∀ a,repB l id a=repB m id a:=fun a=>funext fun q=>by rw [repB,repB,lJ h.ids hp]
 rw [tallyV,tallyV,jq h hp]
 cases liveV m id with
 | none=>rfl
 | some p=>simp only [kG h hp,e,(hp.flatMap_right postsV).countP_eq]
theorem zj {l m:List Xb} (h:Uniq l) (hp:l.Perm m) (id:ByteArray) (k:Int):whoV l id k=whoV m id k:=by
 rw [whoV,whoV,jq h hp]
 cases liveV m id with
 | none=>rfl
 | some p=>simp only [kG h hp]
theorem DS {L:List Int} {I:List Xc} {au:ByteArray} {c:Xb} {kl:List Xm} (q:QK L I au c kl):∀ a∈c.actsL,a∈selA au rightIt I:=by
 obtain ⟨A,sa,sk,st,fork,hA,hR,rfl,rfl⟩:=q
 rw [OfRes] at hR
 cases ho:oneA (firstL ((OfWK L.length I au).at A)) with
 | none =>
  rw [ho] at hR
  obtain ⟨rfl,rfl⟩:=hR
  exact fun a ha=>absurd ha (by simp)
 | some a =>
  rw [ho] at hR
  obtain ⟨rfl,rfl⟩:=hR
  have ha:a∈firstL ((OfWK L.length I au).at A):=by rw [fL ho];exact Z3.2 rfl
  exact fun x hx=>hA.subset ((sf ha).mem x hx)
theorem FW {L:List Int} {I:List Xc} {ids:List ByteArray} {M:List ChK} (h:Et (fun id p=>QK L I id p.1 p.2) ids M):M.map (fun p=>p.1.id)=ids:=by
 induction h with
 | nil=>rfl
 | cons h1 _ ih=>rw [ZZ,ih,jf h1]
theorem eT {L:List Int} {I:List Xc} (hK:KnR L I) {l:List Xb} (h:AllK L I l):Uniq l:=by
 obtain ⟨M,hM,rfl⟩:=h
 have hq:∀ c∈(M.filter neK).map Prod.fst,∃ kl,QK L I c.id c kl:=fun c hc=>by
  obtain ⟨p,hp,rfl⟩:=QH.1 hc
  obtain ⟨a,ha,q⟩:=hM.right p (QL.1 hp).1
  exact ⟨p.2,by rw [jf q];exact q⟩
 refine ⟨?_,fun c hc d hd a ha b hb e=>?_,fun c hc n x hx=>?_⟩
 · rw [ZY]
   have h1:=lq I
   rw [←FW hM] at h1
   exact h1.sublist (List.filter_sublist.map _)
 · obtain ⟨k1,q1⟩:=hq c hc
   obtain ⟨k2,q2⟩:=hq d hd
   have m1:=DS q1 a ha
   have m2:=DS q2 b hb
   have eab:=yY hK m1 m2 e
   subst eab
   obtain ⟨_,_,_,_,_,_,a1⟩:=fj m1
   obtain ⟨_,_,_,_,_,_,a2⟩:=fj m2
   exact a1.symm.trans a2
 · obtain ⟨k1,q1⟩:=hq c hc
   exact (fG hK q1).own n x hx
theorem vr {l:List Xb} (hn:(l.map Xb.id).Nodup) {x:Xb}:x∈cano l↔∃ id v,viewC l id=some v∧x=nuN id v:=by
 constructor
 · intro h
   obtain ⟨c,hc,rfl⟩:=QH.1 h
   exact ⟨c.id,_,by rw [viewC,(fO hn).2 ⟨hc,rfl⟩];rfl,rfl⟩
 · rintro ⟨id,v,hv,rfl⟩
   rw [viewC] at hv
   cases hf:findC l id with
   | none=>rw [hf] at hv;cases hv
   | some c =>
    rw [hf] at hv
    cases hv
    obtain ⟨hc,rfl⟩:=(fO hn).1 hf
    exact QH.2 ⟨c,hc,rfl⟩
theorem zc {l:List Xb} (hn:(l.map Xb.id).Nodup):(cano l).Nodup:=by
 have:(cano l).map Xb.id=l.map Xb.id:=by rw [cano,ZY];rfl
 rw [←this] at hn
 rw [List.nodup_iff_pairwise_ne,List.pairwise_map] at hn
 rw [List.nodup_iff_pairwise_ne]
 exact hn.imp fun h e=>h (congrArg Xb.id e)
theorem vq {l m:List Xb} (hl:(l.map Xb.id).Nodup) (hm:(m.map Xb.id).Nodup) {id:ByteArray} {v v':List Xa} (h0:viewC l id=some v) (h1:viewC m id=some v') (h:∀ k,k≠id→viewC m k=viewC l k) :
  (cano l).Perm (nuN id v::(cano l).filter fun c=>!seqB c.id id)∧(cano m).Perm (nuN id v'::(cano l).filter fun c=>!seqB c.id id):=by
 have hne:∀ x∈(cano l).filter (fun c=>!seqB c.id id),x.id≠id:=fun x hx e=>by
  have:=(QL.1 hx).2
  rw [e,bN] at this
  cases this
 have hnd:∀ v,(nuN id v::(cano l).filter fun c=>!seqB c.id id).Nodup:=fun v=>List.nodup_cons.2 ⟨fun hx=>hne _ hx rfl,(zc hl).sublist List.filter_sublist⟩
 have key:∀ {n:List Xb} {w:List Xa},(n.map Xb.id).Nodup→viewC n id=some w→(∀ k,k≠id→viewC n k=viewC l k)→(cano n).Perm (nuN id w::(cano l).filter fun c=>!seqB c.id id):=fun {n w} hn hw hk=>by
  refine (List.perm_ext_iff_of_nodup (zc hn) (hnd w)).2 fun x=>?_
  rw [vr hn,ZH,QL,vr hl]
  constructor
  · rintro ⟨k,u,hu,rfl⟩
    by_cases e:k=id
    · subst e
      rw [hw] at hu
      cases hu
      exact .inl rfl
    · exact .inr ⟨⟨k,u,by rw [←hk k e];exact hu,rfl⟩,by show (!seqB k id)=true;rw [seqB_ne.2 e];rfl⟩
  · rintro (rfl|⟨⟨k,u,hu,rfl⟩,hx⟩)
    · exact ⟨id,w,hw,rfl⟩
    · have e:k≠id:=fun e=>by
       change (!seqB k id)=true at hx
       rw [e,bN] at hx
       cases hx
      exact ⟨k,u,by rw [hk k e];exact hu,rfl⟩
 exact ⟨key hl h0 fun _ _=>rfl,key hm h1 h⟩
theorem HX (a:Xa) (sc:Int) (g:ByteArray) (n:Nat):gOk a.can sc g n=gOk a sc g n:=rfl
theorem oN (l:List Xa) (sc:Int) (g:ByteArray):∀ k,grantF (l.map Xa.can) sc g k=grantF l sc g k
 | 0=>rfl
 | k+1=>by rw [grantF,grantF,oN l sc g k,fm,HX]
theorem o9 (l:List Xa) (n sc:Int) (g:ByteArray):epochO (l.map Xa.can) n sc g=(epochO l n sc g).map Xa.can:=by
 rw [epochO,epochO,grantV,grantV,oN,ZE]
 cases decide ((0:Int)<((grantF l sc g (limN n l.length)).2:Nat)) with
 | false=>rfl
 | true=>rw [Zg,Zg,Z5]
theorem lF (l:List Xa) (g:ByteArray):∀ k,circF (l.map Xa.can) g k=(circF l g k).map Xa.can
 | 0=>rfl
 | k+1=>by
  rw [circF,circF,lF l g k,fm]
  show (bif decide ((l.getD k Xa.zero).kind=15)&&seqB (l.getD k Xa.zero).group g then _ else _)=_
  cases decide ((l.getD k Xa.zero).kind=15)&&seqB (l.getD k Xa.zero).group g<;>rfl
structure Eo (c d:Xb):Prop where
 id:c.id=d.id
 acts:c.actsL.map Xa.can=d.actsL.map Xa.can
theorem Eo.len {c d:Xb} (h:Eo c d):c.actsL.length=d.actsL.length:=by
 have:=congrArg List.length h.acts
 rwa [ZE,ZE] at this
theorem Eo.at_ {c d:Xb} (h:Eo c d) (k:Nat):c.actsL[k]?.map Xa.can=d.actsL[k]?.map Xa.can:=by
 rw [←Z5,←Z5,h.acts]
theorem Eo.tie {c d:Xb} (h:Eo c d) (n:Int):tieV c.actsL n=tieV d.actsL n:=by rw [←m7 c.actsL,h.acts,m7]
theorem Eo.epoch {c d:Xb} (h:Eo c d) (n sc:Int) (g:ByteArray):(epochO c.actsL n sc g).map Xa.can=(epochO d.actsL n sc g).map Xa.can:=by rw [←o9,h.acts,o9]
theorem Eo.circ {c d:Xb} (h:Eo c d) (g:ByteArray) (k:Nat):(circF c.actsL g k).map Xa.can=(circF d.actsL g k).map Xa.can:=by rw [←lF,h.acts,lF]
theorem Hz {α:Type} {f:Xa→α} (hf:∀ a:Xa,f a.can=f a) {o p:Option Xa} (h:o.map Xa.can=p.map Xa.can):o.map f=p.map f:=by
 have e:∀ q:Option Xa,q.map f=(q.map Xa.can).map f:=fun q=>by cases q<;>simp [hf]
 rw [e o,e p,h]
theorem Eo.members {c d:Xb} (h:Eo c d) (n sc:Int) (g:ByteArray) (toL:List ByteArray):membersV c n sc g toL=membersV d n sc g toL:=by
 have e2:(circF c.actsL g (limN n c.actsL.length)).map (·.toL)=(circF d.actsL g (limN n d.actsL.length)).map (·.toL):=by
  rw [h.len]
  exact Hz (fun _=>rfl) (h.circ g _)
 have e3:keepM c=keepM d:=by funext bs x;simp only [keepM,h.id]
 simp only [membersV,listOf,h.tie n,e2,e3]
theorem Eo.wellA {c d:Xb} (h:Eo c d) (i:Int) (a:Xa):wellA c i a=wellA d i a:=by
 have e:=h.epoch i a.scope a.group
 unfold Go.Proofs.YtaolfiikahlmkaaGreatDoor.wellA
 rw [h.members]
 revert e
 cases epochO c.actsL i a.scope a.group with
 | none =>
  cases epochO d.actsL i a.scope a.group with
  | none=>exact fun _=>rfl
  | some y=>exact fun e=>by cases e
 | some x =>
  cases epochO d.actsL i a.scope a.group with
  | none=>exact fun e=>by cases e
  | some y =>
   intro e
   have e':x.can=y.can:=Option.some.inj e
   have e1:x.epoch=y.epoch:=(congrArg Xa.epoch e' :)
   have e2:x.toL=y.toL:=(congrArg Xa.toL e' :)
   simp only [e1,e2]
theorem m0 (c:Xb) (i:Int) (a:Xa):wellA c i a.can=wellA c i a:=rfl
theorem Eo.well {c d:Xb} (h:Eo c d) (i:Int):wellV c i=wellV d i:=by
 have e:=h.at_ i.toNat
 rw [wellV,wellV]
 revert e
 cases c.actsL[i.toNat]? with
 | none =>
  cases d.actsL[i.toNat]? with
  | none=>exact fun _=>rfl
  | some y=>exact fun e=>by cases e
 | some x =>
  cases d.actsL[i.toNat]? with
  | none=>exact fun e=>by cases e
  | some y =>
   intro e
   have e':x.can=y.can:=Option.some.inj e
   simp only
   rw [←m0 c i x,←m0 d i y,e',h.wellA]
theorem Eo.rmem {c d:Xb} (h:Eo c d) (i:Int):rmemV c i=rmemV d i:=by
 have e:=h.at_ i.toNat
 rw [rmemV,rmemV,h.well]
 revert e
 cases c.actsL[i.toNat]? with
 | none =>
  cases d.actsL[i.toNat]? with
  | none=>exact fun _=>rfl
  | some y=>exact fun e=>by cases e
 | some x =>
  cases d.actsL[i.toNat]? with
  | none=>exact fun e=>by cases e
  | some y =>
   intro e
   have e':x.can=y.can:=Option.some.inj e
   have e1:x.scope=y.scope:=(congrArg Xa.scope e' :)
   have e2:x.toL=y.toL:=(congrArg Xa.toL e' :)
   have e3:x.group=y.group:=(congrArg Xa.group e' :)
   simp only [e1,e2,e3,h.members]
theorem Eo.kinds {c d:Xb} (h:Eo c d) (i:Int):rtextV c i=rtextV d i∧pubV c i=pubV d i:=by
 have e:=h.at_ i.toNat
 rw [rtextV,rtextV,pubV,pubV]
 revert e
 cases c.actsL[i.toNat]? with
 | none =>
  cases d.actsL[i.toNat]? with
  | none=>exact fun _=>⟨rfl,rfl⟩
  | some y=>exact fun e=>by cases e
 | some x =>
  cases d.actsL[i.toNat]? with
  | none=>exact fun e=>by cases e
  | some y =>
   intro e
   have e':x.can=y.can:=Option.some.inj e
   have e1:x.scope=y.scope:=(congrArg Xa.scope e' :)
   have e2:x.kind=y.kind:=(congrArg Xa.kind e' :)
   simp only [e1,e2,and_self]
theorem Eo.may {c d:Xb} (h:Eo c d) (i:Int) (r:ByteArray):mayV c i r=mayV d i r:=by
 rw [mayV,mayV,(h.kinds i).1,(h.kinds i).2,h.rmem,h.id]
structure TNd (t:Er):Prop where
 f:t.f.Nodup
 a:t.a.Nodup
 b:t.b.Nodup
 m:t.m.Nodup
structure MovOk (x y:List ByteArray) (id:ByteArray) (inn ch:Bool):Prop where
 asc:Asc y
 same:ch=false→x=y
 xin:ch=true→∀ z∈x,seqB z id=false→hasS y z=true
 yin:ch=true→∀ z∈y,seqB z id=false→hasS x z=true
 has:ch=true→hasS y id=inn
def foB (k:Int) (u:Bool):Bool:=bif decide (k=7) then true else bif decide (k=10) then !u else false
def acB (k:Int) (u:Bool):Bool:=bif decide (k=8) then true else bif decide (k=9)&&!u then true else decide (k=10)&&!u
structure Mov4 (t t':Er) (id:ByteArray) (k:Int) (u:Bool):Prop where
 f:MovOk (sortB t.f) (sortB t'.f) id (decide (k=7)&&!u) (foB k u)
 a:MovOk (sortB t.a) (sortB t'.a) id (decide (k=8)&&!u) (acB k u)
 b:MovOk (sortB t.b) (sortB t'.b) id (decide (k=10)&&!u) (decide (k=10))
 m:MovOk (sortB t.m) (sortB t'.m) id (decide (k=11)&&!u) (decide (k=11))
theorem Al {l:List Xa} {i:Nat} {t:Er} {x:Xa} (h6:x.kind=6):stepT l i t x=match idxV l x.object with|some j=>bif decide ((j:Int)<(i:Int)) then undoT t (l.getD j Xa.zero) else t|none=>t:=by
 rw [stepT,h6]
 rfl
structure MM (t t':Er) (id:ByteArray) (f1 f2 a1 a2 b1 b2 m1 m2:Bool):Prop where
 f:MovOk (sortB t.f) (sortB t'.f) id f1 f2
 a:MovOk (sortB t.a) (sortB t'.a) id a1 a2
 b:MovOk (sortB t.b) (sortB t'.b) id b1 b2
 m:MovOk (sortB t.m) (sortB t'.m) id m1 m2
theorem xl (l:List Xa) (a:Xa):Agree l.length l (l++[a]):=⟨fun k hk=>(ZF hk).symm,ZV _,by rw [Zz];omega⟩
theorem lr (l:List Xa) (a:Xa):(l++[a]).getD l.length Xa.zero=a:=by
 rw [Zp,ZT (ZV _),Nat.sub_self];rfl
theorem gN (l:List Xa) (a:Xa):(l++[a]).length=l.length+1:=by rw [Zz];rfl
theorem Cu (l:List Xa) (a:Xa):tieV (l++[a]) ((l.length+1:Nat):Int)=stepT (l++[a]) l.length (tieV l (l.length:Nat)) a:=by
 rw [tieV,tieV,uL (by rw [gN];omega),uL (ZV _),tieF,lr,m8 (xl l a) _ (ZV _)]
theorem Am {l:List Xa} {i:Nat} {t:Er} {x:Xa} (h6:x.kind≠6) (h7:x.kind≠7) (h8:x.kind≠8) (h9:x.kind≠9) (h10:x.kind≠10) (h11:x.kind≠11):stepT l i t x=t:=by
 rw [stepT,Zd h6,Zd h7,Zd h8,Zd h9,Zd h10,Zd h11]
 rfl
section
variable {id:ByteArray} {l:List Xa} {a:Xa} {sc:Int} {g:ByteArray} {toL:List ByteArray}
end
theorem EU {l m:List ByteArray} (hl:Asc l) (hm:Asc m) {x:ByteArray} (hx:x∈l) (h:∀ y,y∈m↔y∈l∧y≠x):m.length+1=l.length:=by
 have hp:(x::m).Perm l:=by
  refine (List.perm_ext_iff_of_nodup (List.nodup_cons.2 ⟨fun hh=>((h x).1 hh).2 rfl,hm.nodup⟩) hl.nodup).2 fun y=>?_
  rw [ZH,h y]
  constructor
  · rintro (rfl|h)
    · exact hx
    · exact h.1
  · intro hy
    by_cases e:y=x
    · exact .inl e
    · exact .inr ⟨hy,e⟩
 have:=hp.length_eq
 rwa [ZA] at this
structure More (c d:Xb) (a:Xa):Prop where
 id:d.id=c.id
 acts:d.actsL.map Xa.can=c.actsL.map Xa.can++[a.can]
section
variable {c d:Xb} {a:Xa} {sc:Int} {g:ByteArray} {toL:List ByteArray}
end
end Go.Proofs.YtaolfiikahlmkaaGreatDoor

namespace Go.Proofs.YtaolfiikahlmkaaGreatDoor
open Go Go.Proofs Sy
structure Ej where
 actor:ByteArray
 reason:ByteArray
 by_:ByteArray
 until_:Int
structure Xz where
 l:Ej
 at_:Int
def eqLD (a b:Ej):Bool:=seqB a.actor b.actor&&(seqB a.reason b.reason&&(seqB a.by_ b.by_&&decide (a.until_=b.until_)))
def eqED (a b:Xz):Bool:=eqLD a.l b.l&&decide (a.at_=b.at_)
theorem Ft {a b:Ej}:eqLD a b=true↔a=b:=by
 cases a;cases b
 simp only [eqLD,Zq,seqB_iff,Zv,Ej.mk.injEq]
theorem eqED_iff {a b:Xz}:eqED a b=true↔a=b:=by
 cases a;cases b
 simp only [eqED,Zq,Ft,Zv,Xz.mk.injEq]
section
variable {N:Nat} {av bor:List Nat} {w0:World} {ops:Array Oper} {rest:List Oper} {k:St→Prop} {E:Env} {loc:List Xl} {X:World→Prop} {x y:Operand} {t2:TypeId}
variable {n:Nat} {ty:TypeId} {pos:String} {af:Array Edge} {g:Option (Nat×Bool)} {bb want:Bool} {st:St}
end
def betV (a b:Xz):Bool:=bif !decide (a.l.until_=b.l.until_) then decide (b.l.until_<a.l.until_) else bif !seqB a.l.by_ b.l.by_ then ltB a.l.by_ b.l.by_ else decide (b.at_<a.at_)
end Go.Proofs.YtaolfiikahlmkaaGreatDoor
namespace Go.Proofs.YtaolfiikahlmkaaGreatDoor
open Go Go.Proofs Sy Go.Shelf Go.Maps Go.Sort
def Ej.zero:Ej:=⟨⟨#[]⟩,⟨#[]⟩,⟨#[]⟩,0⟩
def hasL (l:List Ej) (a:ByteArray):Option Ej:=l.find? fun e=>seqB e.actor a
end Go.Proofs.YtaolfiikahlmkaaGreatDoor
namespace Go.Proofs.YtaolfiikahlmkaaGreatDoor
open Go Go.Proofs Sy Go.Sort
def entA (k:ByteArray) (l:List Xa) (j:Nat):Xz:=⟨⟨(l.getD j Xa.zero).target,(l.getD j Xa.zero).text,k,(l.getD j Xa.zero).n⟩,j⟩
def foundF (l:List Xa):Nat→List Nat
 | 0=>[]
 | i+1=>bif decide ((l.getD i Xa.zero).kind=23) then foundF l i++[i] else bif decide ((l.getD i Xa.zero).kind=6) then (match idxV l (l.getD i Xa.zero).object with|some j=>(foundF l i).erase j|none=>foundF l i) else foundF l i
def entsV (l:List Xb) (k:ByteArray):List Xz:=match findC l k with
 | some c=>(foundF c.actsL c.actsL.length).map (entA k c.actsL)
 | none=>[]
def hasK (ks:List ByteArray) (k:ByteArray):Bool:=ks.any fun y=>Xj.eqb k y
def bestStep (now:Int) (b:List (ByteArray×Xz)) (e:Xz):List (ByteArray×Xz) :=
 bif decide (e.l.until_≤now) then b else
  match mget b e.l.actor with
  | none=>mput b e.l.actor e
  | some old=>bif (!eqED e old)&&betV e old then mput b e.l.actor e else b
def bestF (l:List Xb) (now:Int) (ks:List ByteArray):Nat→List ByteArray×List (ByteArray×Xz)
 | 0=>([],[])
 | i+1=>bif hasK (bestF l now ks i).1 (ks.getD i .empty) then bestF l now ks i else (sput (bestF l now ks i).1 (ks.getD i .empty),(entsV l (ks.getD i .empty)).foldl (bestStep now) (bestF l now ks i).2)
def Xz.zero:Xz:=⟨Ej.zero,0⟩
def ofV (l:List Xb) (ks:List ByteArray) (now:Int):List Ej:=(sortB ((bestF l now ks ks.length).2.map (·.1))).map fun a=>((mget (bestF l now ks ks.length).2 a).getD Xz.zero).l
section
variable {N:Nat} {av bor:List Nat} {w0:World} {ops:Array Oper} {rest:List Oper} {k:St→Prop} {E:Env} {loc:List Xl} {X:World→Prop} {x:Operand} {st:St}
variable {n:Nat} {ty:TypeId} {pos:String} {af:Array Edge} {g:Option (Nat×Bool)} {bb want:Bool}
end
theorem uC {β:Type}:∀ {b:List (ByteArray×β)} {a:ByteArray},a∈b.map (·.1)→∃ e,mget b a=some e
 | [],a,h=>by cases h
 | (k',v')::r,a,h=>by
  simp only [mget]
  cases hk:Xj.eqb a k' with
  | true=>exact ⟨v',rfl⟩
  | false =>
   simp only [ZZ,ZH] at h
   rcases h with rfl|h
   · rw [(Xj.eqb_iff a a).2 rfl] at hk;cases hk
   · exact uC h
structure BBnd (m:Nat) (b:List (ByteArray×Xz)):Prop where
 len:b.length≤m
 size:∀ p∈b,p.1.size≤maxLen
end Go.Proofs.YtaolfiikahlmkaaGreatDoor
namespace Go.Proofs.YtaolfiikahlmkaaGreatDoor
open Go Go.Proofs Sy
theorem iI {a b:Xz}:betV a b=true↔b.l.until_<a.l.until_∨(a.l.until_=b.l.until_∧(ltB a.l.by_ b.l.by_=true∨(a.l.by_=b.l.by_∧b.at_<a.at_))):=by
 unfold betV
 by_cases h:a.l.until_=b.l.until_
 · rw [Ze h]
   simp only [Zo,Zf]
   cases hs:seqB a.l.by_ b.l.by_ with
   | true =>
    have e:=seqB_iff.1 hs
    simp only [Zo,Zf,Zv]
    constructor
    · intro h1;exact .inr ⟨h,.inr ⟨e,h1⟩⟩
    · rintro (h1|⟨_,h1|h1⟩)
      · omega
      · rw [e,de] at h1;cases h1
      · exact h1.2
   | false =>
    have e:=seqB_ne.1 hs
    simp only [Zm,Zg]
    constructor
    · intro h1;exact .inr ⟨h,.inl h1⟩
    · rintro (h1|⟨_,h1|h1⟩)
      · omega
      · exact h1
      · exact absurd h1.1 e
 · rw [Zd h]
   simp only [Zm,Zg,Zv]
   constructor
   · intro h1;exact .inl h1
   · rintro (h1|h1)
     · exact h1
     · exact absurd h1.1 h
theorem xg {a b:Xz} (h:betV a b=true) (k:betV b a=true):False:=by
 rw [iI] at h k
 rcases h with h|⟨h,h2⟩
 · rcases k with k|⟨k,_⟩<;>omega
 · rcases k with k|⟨k,k2⟩
   · omega
   · rcases h2 with h2|⟨h2,h3⟩
     · rcases k2 with k2|⟨k2,_⟩
       · rw [iT h2] at k2;cases k2
       · rw [k2,de] at h2;cases h2
     · rcases k2 with k2|⟨k2,k3⟩
       · rw [h2,de] at k2;cases k2
       · omega
theorem xe {a b c:Xz} (h:betV a b=true) (k:betV b c=true):betV a c=true:=by
 rw [iI] at *
 rcases h with h|⟨h,h2⟩
 · rcases k with k|⟨k,_⟩<;>exact .inl aa
 · rcases k with k|⟨k,k2⟩
   · exact .inl aa
   · refine .inr ⟨by omega,?_⟩
     rcases h2 with h2|⟨h2,h3⟩
     · rcases k2 with k2|⟨k2,_⟩
       · exact .inl (fM h2 k2)
       · exact .inl (k2▸h2)
     · rcases k2 with k2|⟨k2,k3⟩
       · exact .inl (h2▸k2)
       · exact .inr ⟨h2.trans k2,by omega⟩
theorem xf {a b:Xz} (h:¬ betV a b=true) (k:¬ betV b a=true):a.l.by_=b.l.by_∧a.at_=b.at_:=by
 rw [iI] at *
 simp only [not_or,not_and] at h k
 have hu:a.l.until_=b.l.until_:=by omega
 have h2:=h.2 hu
 have k2:=k.2 hu.symm
 have e:a.l.by_=b.l.by_:=lg (by simpa using h2.1) (by simpa using k2.1)
 exact ⟨e,by have:=h2.2 e;have:=k2.2 e.symm;omega⟩
theorem jy {l:List Xb} {k:ByteArray} {e:Xz} (h:e∈entsV l k):∃ c j,findC l k=some c∧j∈foundF c.actsL c.actsL.length∧e=entA k c.actsL j:=by
 unfold entsV at h
 cases hf:findC l k with
 | none=>rw [hf] at h;cases h
 | some c =>
  rw [hf] at h
  obtain ⟨j,hj,rfl⟩:=QH.1 h
  exact ⟨c,j,rfl,hj,rfl⟩
theorem Fw {l:List Xb} {k:ByteArray} {e:Xz} (h:e∈entsV l k):e.l.by_=k:=by
 obtain ⟨c,j,_,_,rfl⟩:=jy h
 rfl
theorem Fv {l:List Xb} {k k':ByteArray} {e e':Xz} (h:e∈entsV l k) (h':e'∈entsV l k') (hb:e.l.by_=e'.l.by_) (ha:e.at_=e'.at_):e=e':=by
 have hk:k=k':=by rw [←Fw h,←Fw h',hb]
 subst hk
 obtain ⟨c,j,hc,_,rfl⟩:=jy h
 obtain ⟨c',j',hc',_,rfl⟩:=jy h'
 rw [hc] at hc'
 cases hc'
 have:(j:Int)=(j':Int):=ha
 rw [show j=j' by omega]
def Best (S:Xz→Prop) (a:ByteArray) (e:Xz):Prop:=S e∧e.l.actor=a∧∀ e',S e'→e'.l.actor=a→e'=e∨betV e e'=true
theorem Best.uniq {S:Xz→Prop} {a:ByteArray} {e e':Xz} (h:Best S a e) (h':Best S a e'):e=e':=by
 rcases h.2.2 e' h'.1 h'.2.1 with h1|h1
 · exact h1.symm
 · rcases h'.2.2 e h.1 h.2.1 with h2|h2
   · exact h2
   · exact (xg h1 h2).elim
theorem ld {β:Type}:∀ (b:List (ByteArray×β)) (k a:ByteArray) (v:β),mget (mput b k v) a=if a=k then some v else mget b a
 | [],k,a,v=>by
  by_cases h:a=k
  · simp only [mput,mget,(Xj.eqb_iff a k).2 h,Zg,ZN h]
  · have:Xj.eqb a k=false:=by rw [←ZD,Xj.eqb_iff];exact h
    simp only [mput,mget,this,Zf,ZO h]
 | (k',v')::r,k,a,v=>by
  have ih:=ld r k a v
  simp only [mput]
  cases hk:Xj.eqb k k' with
  | true =>
   have e:=(Xj.eqb_iff k k').1 hk
   subst e
   by_cases h:a=k
   · simp only [Zg,mget,(Xj.eqb_iff a k).2 h,ZN h]
   · have:Xj.eqb a k=false:=by rw [←ZD,Xj.eqb_iff];exact h
     simp only [Zg,mget,this,Zf,ZO h]
  | false =>
   simp only [Zf,mget]
   cases ha:Xj.eqb a k' with
   | true =>
    have e:=(Xj.eqb_iff a k').1 ha
    subst e
    have hne:¬ a=k:=fun e=>by rw [e,(Xj.eqb_iff k k).2 rfl] at hk;cases hk
    simp only [Zg,ZO hne]
   | false=>simp only [Zf,ih]
theorem uD {β:Type}:∀ (b:List (ByteArray×β)) (k a:ByteArray) (v:β),a∈(mput b k v).map (·.1)↔a=k∨a∈b.map (·.1)
 | [],k,a,v=>by simp [mput]
 | (k',v')::r,k,a,v=>by
  have ih:=uD r k a v
  simp only [mput]
  cases hk:Xj.eqb k k' with
  | true =>
   have e:=(Xj.eqb_iff k k').1 hk
   subst e
   simp
  | false =>
   simp only [Zf,ZZ,ZH,ih]
   constructor
   · rintro (h|h|h)
     · exact .inr (.inl h)
     · exact .inl h
     · exact .inr (.inr h)
   · rintro (h|h|h)
     · exact .inr (.inl h)
     · exact .inl h
     · exact .inr (.inr h)
theorem oA {β:Type}:∀ (b:List (ByteArray×β)) (k:ByteArray) (v:β),(b.map (·.1)).Nodup→((mput b k v).map (·.1)).Nodup
 | [],k,v,_=>by simp [mput]
 | (k',v')::r,k,v,h=>by
  simp only [ZZ,List.nodup_cons] at h
  have ih:=oA r k v h.2
  simp only [mput]
  cases hk:Xj.eqb k k' with
  | true =>
   have e:=(Xj.eqb_iff k k').1 hk
   subst e
   simp only [Zg,ZZ,List.nodup_cons]
   exact h
  | false =>
   simp only [Zf,ZZ,List.nodup_cons]
   refine ⟨fun hm=>?_,ih⟩
   rcases (uD r k k' v).1 hm with e|e
   · rw [e,(Xj.eqb_iff k k).2 rfl] at hk;cases hk
   · exact h.1 e
theorem qB {β:Type}:∀ {b:List (ByteArray×β)} {a:ByteArray} {e:β},mget b a=some e→a∈b.map (·.1)
 | [],a,e,h=>by cases h
 | (k',v')::r,a,e,h=>by
  simp only [mget] at h
  cases hk:Xj.eqb a k' with
  | true=>rw [(Xj.eqb_iff a k').1 hk];simp
  | false=>rw [hk] at h;simp only [ZZ,ZH];exact .inr (qB h)
structure Inv (l:List Xb) (S:Xz→Prop) (b:List (ByteArray×Xz)):Prop where
 wf:∀ e,S e→∃ k,e∈entsV l k
 nodup:(b.map (·.1)).Nodup
 best:∀ a e,mget b a=some e→Best S a e
 all:∀ e,S e→∃ e',mget b e.l.actor=some e'
theorem Inv.congr {l:List Xb} {S S':Xz→Prop} {b:List (ByteArray×Xz)} (h:Inv l S b) (hs:∀ e,S e↔S' e):Inv l S' b:=by
 have:S=S':=funext fun e=>propext (hs e)
 subst this
 exact h
theorem E5 {l:List Xb} {S:Xz→Prop} {b:List (ByteArray×Xz)} {now:Int} {e:Xz} {k:ByteArray} (h:Inv l S b) (he:e∈entsV l k):Inv l (fun x=>S x∨(x=e∧now<e.l.until_)) (bestStep now b e):=by
 unfold bestStep
 by_cases hu:e.l.until_≤now
 · rw [Ze hu,Zg]
   exact h.congr fun x=>⟨.inl,fun hx=>hx.elim id fun hx=>by omega⟩
 · rw [Zd hu,Zf]
   have hu':now<e.l.until_:=by omega
   have hS:(fun x=>S x∨(x=e∧now<e.l.until_))=fun x=>S x∨x=e:=funext fun x=>propext ⟨fun hx=>hx.imp id And.left,fun hx=>hx.imp id fun hx=>⟨hx,hu'⟩⟩
   rw [hS]
   have hwf:∀ x,S x∨x=e→∃ k,x∈entsV l k:=fun x hx=>hx.elim (h.wf x) fun hx=>⟨k,hx▸he⟩
   have put:(∀ x,S x→x.l.actor=e.l.actor→x=e∨betV e x=true)→Inv l (fun x=>S x∨x=e) (mput b e.l.actor e):=fun hb=>by
    refine ⟨hwf,oA b _ _ h.nodup,fun a x hx=>?_,fun x hx=>?_⟩
    · rw [ld] at hx
      by_cases ha:a=e.l.actor
      · rw [ZN ha] at hx
        cases hx
        refine ⟨.inr rfl,ha.symm,fun e' h1 h2=>?_⟩
        rcases h1 with h1|h1
        · exact hb e' h1 (h2.trans ha)
        · exact .inl h1
      · rw [ZO ha] at hx
        have h1:=h.best a x hx
        refine ⟨.inl h1.1,h1.2.1,fun e' h2 h3=>?_⟩
        rcases h2 with h2|h2
        · exact h1.2.2 e' h2 h3
        · subst h2;exact absurd h3.symm ha
    · rw [ld]
      by_cases ha:x.l.actor=e.l.actor
      · rw [ZN ha];exact ⟨_,rfl⟩
      · rw [ZO ha]
        rcases hx with hx|hx
        · exact h.all x hx
        · subst hx;exact absurd rfl ha
   cases ho:mget b e.l.actor with
   | none =>
    refine put fun x hx ha=>?_
    obtain ⟨e',h1⟩:=h.all x hx
    rw [ha,ho] at h1
    cases h1
   | some old =>
    have hbo:=h.best _ _ ho
    simp only
    cases hc:((!eqED e old)&&betV e old) with
    | true =>
     have hb:=(Zq _ _).mp hc
     refine put fun x hx ha=>?_
     rcases hbo.2.2 x hx ha with h1|h1
     · rw [h1];exact .inr hb.2
     · exact .inr (xe hb.2 h1)
    | false =>
     simp only [Zf]
     have hoe:old=e∨betV old e=true:=by
      by_cases h1:betV old e=true
      · exact .inr h1
      · by_cases h2:betV e old=true
        · rw [h2,Zi] at hc
          have:eqED e old=true:=by simpa using hc
          exact .inl (eqED_iff.1 this).symm
        · obtain ⟨k',hk'⟩:=h.wf old hbo.1
          have h3:=xf h1 h2
          exact .inl (Fv hk' he h3.1 h3.2)
     refine ⟨hwf,h.nodup,fun a x hx=>?_,fun x hx=>?_⟩
     · have h1:=h.best a x hx
       refine ⟨.inl h1.1,h1.2.1,fun e' h2 h3=>?_⟩
       rcases h2 with h2|h2
       · exact h1.2.2 e' h2 h3
       · subst h2
         rw [←h3,ho] at hx
         cases hx
         rcases hoe with h4|h4
         · exact .inl h4.symm
         · exact .inr h4
     · rcases hx with hx|hx
       · exact h.all x hx
       · subst hx;exact ⟨old,ho⟩
theorem uR {l:List Xb} {now:Int} {k:ByteArray}:∀ (E:List Xz) {S:Xz→Prop} {b:List (ByteArray×Xz)},Inv l S b→(∀ e∈E,e∈entsV l k)→Inv l (fun x=>S x∨(x∈E∧now<x.l.until_)) (E.foldl (bestStep now) b)
 | [],S,b,h,_=>h.congr fun x=>⟨.inl,fun hx=>hx.elim id fun hx=>by cases hx.1⟩
 | e::E,S,b,h,he=>by
  have h1:=E5 (now:=now) h (he e ao)
  have h2:=uR (now:=now) E h1 fun x hx=>he x (Zu _ hx)
  refine h2.congr fun x=>?_
  simp only [ZH]
  constructor
  · rintro ((h|⟨rfl,h⟩)|⟨h,h'⟩)
    · exact .inl h
    · exact .inr ⟨.inl rfl,h⟩
    · exact .inr ⟨.inr h,h'⟩
  · rintro (h|⟨rfl|h,h'⟩)
    · exact .inl (.inl h)
    · exact .inl (.inr ⟨rfl,h'⟩)
    · exact .inr ⟨h,h'⟩
def Cand (l:List Xb) (ks:List ByteArray) (now:Int) (e:Xz):Prop:=(∃ k∈ks,e∈entsV l k)∧now<e.l.until_
theorem hasK_iff {ks:List ByteArray} {k:ByteArray}:hasK ks k=true↔k∈ks:=by
 rw [hasK,List.any_eq_true]
 constructor
 · rintro ⟨y,hy,h⟩
   rw [(Xj.eqb_iff k y).1 h];exact hy
 · intro h
   exact ⟨k,h,(Xj.eqb_iff k k).2 rfl⟩
theorem Ba {ks:List ByteArray} {k a:ByteArray}:a∈sput ks k↔a=k∨a∈ks:=by
 induction ks with
 | nil=>simp [sput]
 | cons y ks ih =>
  simp only [sput]
  cases hk:Xj.eqb k y with
  | true=>rw [(Xj.eqb_iff k y).1 hk];simp
  | false =>
   simp only [Zf,ZH,ih]
   constructor
   · rintro (h|h|h)
     · exact .inr (.inl h)
     · exact .inl h
     · exact .inr (.inr h)
   · rintro (h|h|h)
     · exact .inr (.inl h)
     · exact .inl h
     · exact .inr (.inr h)
theorem uS (l:List Xb) (now:Int) (ks:List ByteArray):∀ i,i≤ks.length→(∀ k,k∈(bestF l now ks i).1↔k∈ks.take i)∧Inv l (Cand l (ks.take i) now) (bestF l now ks i).2
 | 0,_=>⟨fun k=>(by simp [bestF]),{ wf:=fun e h=>(by obtain ⟨⟨k,hk,_⟩,_⟩:=h;simp at hk),nodup:=(by simp [bestF]),best:=fun a e h=>(by cases h),all:=fun e h=>(by obtain ⟨⟨k,hk,_⟩,_⟩:=h;simp at hk) }⟩
 | i+1,hi=>by
  obtain ⟨ih1,ih2⟩:=uS l now ks i aa
  have hx:ks.getD i .empty=ks[i]:=by rw [Zp,Zc (by omega)];rfl
  have ht:ks.take (i+1)=ks.take i++[ks[i]]:=by rw [Qe,Zc (by omega)];rfl
  simp only [bestF,hx,ht]
  generalize ks[i]=k0 at *
  cases hh:hasK (bestF l now ks i).1 k0 with
  | true =>
   have hin:k0∈ks.take i:=(ih1 k0).1 (hasK_iff.1 hh)
   simp only [Zg]
   refine ⟨fun k=>?_,ih2.congr fun e=>?_⟩
   · rw [ih1,Qw,Z3]
     exact ⟨.inl,fun h=>h.elim id fun h=>h▸hin⟩
   · unfold Cand
     simp only [Qw,Z3]
     exact ⟨fun ⟨⟨k,h1,h2⟩,h3⟩=>⟨⟨k,.inl h1,h2⟩,h3⟩,fun ⟨⟨k,h1,h2⟩,h3⟩=>⟨⟨k,h1.elim id fun h=>h▸hin,h2⟩,h3⟩⟩
  | false =>
   simp only [Zf]
   refine ⟨fun k=>?_,(uR (now:=now) (k:=k0) (entsV l k0) ih2 fun e he=>he).congr fun e=>?_⟩
   · rw [Ba,ih1,Qw,Z3]
     exact Or.comm
   · unfold Cand
     simp only [Qw,Z3]
     constructor
     · rintro (⟨⟨k,h1,h2⟩,h3⟩|⟨h2,h3⟩)
       · exact ⟨⟨k,.inl h1,h2⟩,h3⟩
       · exact ⟨⟨k0,.inr rfl,h2⟩,h3⟩
     · rintro ⟨⟨k,h1|rfl,h2⟩,h3⟩
       · exact .inl ⟨⟨k,h1,h2⟩,h3⟩
       · exact .inr ⟨h2,h3⟩
theorem E6 (l:List Xb) (now:Int) (ks:List ByteArray):Inv l (Cand l ks now) (bestF l now ks ks.length).2:=by
 have:=(uS l now ks ks.length (ZV _)).2
 rwa [Qf] at this
def Lst (l:List Xb) (ks:List ByteArray) (now:Int) (x:Ej):Prop:=∃ e,Best (Cand l ks now) x.actor e∧e.l=x
theorem mem_ofV {l:List Xb} {ks:List ByteArray} {now:Int} {x:Ej}:x∈ofV l ks now↔Lst l ks now x:=by
 have hI:=E6 l now ks
 unfold ofV
 rw [QH]
 constructor
 · rintro ⟨a,ha,rfl⟩
   obtain ⟨e,he⟩:=uC (mem_sortB.1 ha)
   have hb:=hI.best a e he
   rw [he]
   refine ⟨e,?_,rfl⟩
   show Best _ e.l.actor e
   rw [hb.2.1]
   exact hb
 · rintro ⟨e,hb,rfl⟩
   obtain ⟨e',he'⟩:=hI.all e hb.1
   have hb':=hI.best _ e' he'
   have:e=e':=hb.uniq hb'
   subst this
   exact ⟨e.l.actor,mem_sortB.2 (qB he'),by rw [he'];rfl⟩
theorem Lst.uniq {l:List Xb} {ks:List ByteArray} {now:Int} {x y:Ej} (hx:Lst l ks now x) (hy:Lst l ks now y) (h:x.actor=y.actor):x=y:=by
 obtain ⟨e,he,rfl⟩:=hx
 obtain ⟨e',he',rfl⟩:=hy
 rw [h] at he
 rw [he.uniq he']
theorem hasL_iff {l:List Xb} {ks:List ByteArray} {now:Int} {x:Ej} {a:ByteArray}:hasL (ofV l ks now) a=some x↔Lst l ks now x∧x.actor=a:=by
 constructor
 · intro h
   have h1:=List.find?_some h
   exact ⟨mem_ofV.1 (Qx h),seqB_iff.1 h1⟩
 · rintro ⟨h,rfl⟩
   cases hf:hasL (ofV l ks now) x.actor with
   | none =>
    rw [hasL,List.find?_eq_none] at hf
    exact absurd (bN x.actor) (hf x (mem_ofV.2 h))
   | some y =>
    have h1:=mem_ofV.1 (Qx hf)
    have h2:=List.find?_some hf
    rw [h.uniq h1 (seqB_iff.1 h2).symm]
theorem listed {l:List Xb} {ks:List ByteArray} {now:Int} {e:Xz} (h:Cand l ks now e):∃ x,Lst l ks now x∧x.actor=e.l.actor∧e.l.until_≤x.until_∧(x.until_=e.l.until_→ltB e.l.by_ x.by_=false):=by
 have hI:=E6 l now ks
 obtain ⟨e',he'⟩:=hI.all e h
 have hb:=hI.best _ e' he'
 refine ⟨e'.l,⟨e',by rw [hb.2.1];exact hb,rfl⟩,hb.2.1,?_,fun hu=>?_⟩
 · rcases hb.2.2 e h rfl with h1|h1
   · rw [h1];exact Int.le_refl _
   · rw [iI] at h1;omega
 · rcases hb.2.2 e h rfl with h1|h1
   · rw [h1];exact de _
   · rw [iI] at h1
     rcases h1 with h1|⟨_,h1|h1⟩
     · omega
     · exact iT h1
     · rw [h1.1];exact de _
theorem Lst.after {l:List Xb} {ks:List ByteArray} {now:Int} {x:Ej} (h:Lst l ks now x):now<x.until_:=by
 obtain ⟨e,he,rfl⟩:=h
 exact he.1.2
theorem gdApp {l r:List Xa} {i:Nat} (h:i<l.length):(l++r).getD i Xa.zero=l.getD i Xa.zero:=by
 rw [Zp,Zp,ZF h]
theorem oO (l:List Xa) (a:Xa) (r:List Xa):(l++a::r).getD l.length Xa.zero=a:=by
 rw [Zp,ZT (ZV _),Nat.sub_self]
 rfl
def UndOk (l:List Xa):Prop:=∀ i,i<l.length→(l.getD i Xa.zero).kind=6→(idxV l (l.getD i Xa.zero).object).isSome=true
theorem iB {l r:List Xa} {d:ByteArray} (h:(idxV l d).isSome=true):idxV (l++r) d=idxV l d:=by
 rw [idxV,List.findIdx?_append]
 rw [idxV] at h ⊢
 cases hf:l.findIdx? fun a=>seqB (digV a) d with
 | none=>rw [hf] at h;cases h
 | some j=>rfl
theorem kL {l:List Xa} (h:UndOk l):UndOk (l.map Xa.can):=fun i hi hk=>by
 rw [ZE] at hi
 rw [Is] at hk ⊢
 rw [pd]
 exact h i hi hk
theorem JK {L:List Int} {I:List Xc} {au:ByteArray} {c:Xb} {kl:List Xm} (q:QK L I au c kl):∀ x∈c.actsL,x∈selA au rightIt I:=by
 obtain ⟨A,sa,sk,st,fork,hA,hR,rfl,rfl⟩:=q
 rw [OfRes] at hR
 cases ho:oneA (firstL ((OfWK L.length I au).at A)) with
 | none =>
  rw [ho] at hR
  obtain ⟨rfl,rfl⟩:=hR
  exact fun x hx=>absurd hx (by simp)
 | some a =>
  rw [ho] at hR
  obtain ⟨rfl,rfl⟩:=hR
  have ha:a∈firstL ((OfWK L.length I au).at A):=by rw [fL ho];exact Z3.2 rfl
  exact fun x hx=>hA.subset ((sf ha).mem x hx)
theorem m6 {L:List Int} {I:List Xc} (h:KnR L I) {au:ByteArray} {c:Xb} {kl:List Xm} (q:QK L I au c kl):UndOk c.actsL:=fun i hi hk=>by
 have G:=fG h q
 have hx:c.actsL[i]?=some (c.actsL.getD i Xa.zero):=by rw [Zp,Zc hi];rfl
 generalize c.actsL.getD i Xa.zero=x at *
 by_cases h0:i=0
 · subst h0
   obtain ⟨it,_,rfl,k0,hr,_⟩:=fj (JK q x (Z4 hx))
   have h1:=iq k0 hr
   have h2:=G.seq 0 _ hx
   simp only [rightB,Zq] at h1
   have h3:=h1.1.1.1.1.2
   rw [placedB,Ze aa,Zg,Zq,Zv] at h3
   rw [h3.1] at hk
   exact absurd hk (by decide)
 · have hf:=G.fit i x aa hx ⟨c.id,⟨none,i,0⟩,⟨none,0,0⟩,x.prev,0,false,c.actsL.take i⟩ rfl rfl rfl rfl
   have hs:(idxV (c.actsL.take i) x.object).isSome=true:=by
    cases ho:idxV (c.actsL.take i) x.object with
    | some j=>rfl
    | none =>
     rw [fitsV] at hf
     change (bif _ then false else bif _ then false else bif decide (x.kind=6) then atK _ (idxV (c.actsL.take i) x.object) undoK else _)=true at hf
     rw [ho,Ze hk,Zg,atK] at hf
     cases hb:!rightB x||!seqB x.author c.id||!decide (x.seq=((i:Nat):Int))||!seqB x.prev x.prev with
     | true =>
      change (bif (!rightB x||!seqB x.author c.id||!decide (x.seq=((i:Nat):Int))||!seqB x.prev x.prev) then false else _)=true at hf
      rw [hb] at hf;cases hf
     | false =>
      change (bif (!rightB x||!seqB x.author c.id||!decide (x.seq=((i:Nat):Int))||!seqB x.prev x.prev) then false else bif (decide (x.kind=0) != decide (((i:Nat):Int)=0)) then false else false)=true at hf
      rw [hb,Zf] at hf
      cases hc:decide (x.kind=0) != decide (((i:Nat):Int)=0)<;>rw [hc] at hf<;>cases hf
   have e:=iB (r:=c.actsL.drop i) hs
   rw [Qq] at e
   rw [e]
   exact hs
structure OneMore (l l':List Xb) (ks:List ByteArray) (id:ByteArray) (e0:Xz):Prop where
 mem:id∈ks
 far:∀ k,k≠id→entsV l' k=entsV l k
 own:entsV l' id=entsV l id++[e0]
theorem OneMore.cand {l l':List Xb} {ks:List ByteArray} {id:ByteArray} {e0:Xz} (h:OneMore l l' ks id e0) {now:Int} {e:Xz}:Cand l' ks now e↔Cand l ks now e∨(e=e0∧now<e0.l.until_):=by
 constructor
 · rintro ⟨⟨k,hk,he⟩,hu⟩
   by_cases hki:k=id
   · subst hki
     rw [h.own] at he
     rcases Qw.1 he with he|he
     · exact .inl ⟨⟨k,hk,he⟩,hu⟩
     · rw [Z3.1 he] at hu ⊢
       exact .inr ⟨rfl,hu⟩
   · rw [h.far k hki] at he
     exact .inl ⟨⟨k,hk,he⟩,hu⟩
 · rintro (⟨⟨k,hk,he⟩,hu⟩|⟨rfl,hu⟩)
   · by_cases hki:k=id
     · subst hki
       exact ⟨⟨k,hk,by rw [h.own];exact QA _ he⟩,hu⟩
     · exact ⟨⟨k,hk,by rw [h.far k hki];exact he⟩,hu⟩
   · exact ⟨⟨id,h.mem,by rw [h.own];exact Qr _ (Z3.2 rfl)⟩,hu⟩
theorem pi {l:List Xb} {ks:List ByteArray} {now:Int} {e:Xz} (h:Cand l ks now e):∃ x,hasL (ofV l ks now) e.l.actor=some x∧e.l.until_≤x.until_:=by
 obtain ⟨x,h1,h2,h3,_⟩:=listed h
 exact ⟨x,hasL_iff.2 ⟨h1,h2⟩,h3⟩
theorem OneMore.first {l l':List Xb} {ks:List ByteArray} {id:ByteArray} {e0:Xz} (h:OneMore l l' ks id e0) {now:Int} (h0:0≤e0.l.until_) :
  (hasL (ofV l' ks now) e0.l.actor).isSome=((hasL (ofV l ks now) e0.l.actor).isSome||decide (now<e0.l.until_)) ∧
  ∀ x,hasL (ofV l' ks now) e0.l.actor=some x→e0.l.until_≤x.until_∧((hasL (ofV l ks now) e0.l.actor).getD Ej.zero).until_≤x.until_:=by
 have hold:∀ y,hasL (ofV l ks now) e0.l.actor=some y→∃ x,hasL (ofV l' ks now) e0.l.actor=some x∧y.until_≤x.until_:=fun y hy=>by
  obtain ⟨⟨e,he,rfl⟩,ha⟩:=hasL_iff.1 hy
  obtain ⟨x,hx,hu⟩:=pi (h.cand.2 (.inl he.1))
  rw [ha] at hx
  exact ⟨x,hx,hu⟩
 have hnew:now<e0.l.until_→∃ x,hasL (ofV l' ks now) e0.l.actor=some x∧e0.l.until_≤x.until_:=fun hu=>pi (h.cand.2 (.inr ⟨rfl,hu⟩))
 constructor
 · cases hw:hasL (ofV l ks now) e0.l.actor with
   | some y =>
    obtain ⟨x,hx,_⟩:=hold y hw
    rw [hx]
    rfl
   | none =>
    by_cases hu:now<e0.l.until_
    · obtain ⟨x,hx,_⟩:=hnew hu
      rw [hx,Ze hu]
      rfl
    · rw [Zd hu]
      cases hx:hasL (ofV l' ks now) e0.l.actor with
      | none=>rfl
      | some x =>
       obtain ⟨⟨e,he,rfl⟩,ha⟩:=hasL_iff.1 hx
       rcases h.cand.1 he.1 with h1|⟨_,h1⟩
       · obtain ⟨y,hy,_⟩:=pi h1
         rw [ha,hw] at hy
         cases hy
       · exact absurd h1 hu
 · intro x hx
   have hafter:now<x.until_:=(hasL_iff.1 hx).1.after
   have h1:e0.l.until_≤x.until_:=by
    by_cases hu:now<e0.l.until_
    · obtain ⟨x',hx',hu'⟩:=hnew hu
      rw [hx] at hx'
      cases hx'
      exact hu'
    · omega
   refine ⟨h1,?_⟩
   cases hw:hasL (ofV l ks now) e0.l.actor with
   | none=>exact Int.le_trans h0 h1
   | some y =>
    obtain ⟨x',hx',hu'⟩:=hold y hw
    rw [hx] at hx'
    cases hx'
    exact hu'
theorem qt {id:ByteArray} {v:List Xa} {a:Xa} (h:postK a.kind=false) (h13:a.kind≠13) (h14:a.kind≠14):postsV (nuN id (v++[a]))=postsV (nuN id v):=by
 rw [growsV (c:=nuN id v) (d:=nuN id (v++[a])) (a:=a) rfl rfl,Zd h13,Zd h14,newT,h,Zf,Zf,Zf,ZI]
theorem jo {β:Type}:∀ (b:List (Int×β)) (k:Int) (v:β),(∀ e∈b,e.1≠k)→mput b k v=b++[(k,v)]
 | [],_,_,_=>rfl
 | (k',v')::r,k,v,h=>by
  have h1:k'≠k:=h (k',v') ao
  rw [mput,show Xj.eqb k k'=false from Zd fun e=>h1 e.symm,Zf,jo r k v fun e he=>h e (Zu _ he)]
  rfl
theorem iS {β:Type}:∀ (b r:List (Int×β)) (k:Int),(∀ e∈b,e.1≠k)→mdel (b++r) k=b++mdel r k
 | [],r,k,_=>rfl
 | (k',v')::b,r,k,h=>by
  have h1:k'≠k:=h (k',v') ao
  rw [ZJ,mdel,show Xj.eqb k k'=false from Zd fun e=>h1 e.symm,Zf,iS b r k fun e he=>h e (Zu _ he)]
  rfl
theorem qC {β:Type} (k:Int) (v:β) (r:List (Int×β)):mdel ((k,v)::r) k=r:=by
 rw [mdel,show Xj.eqb k k=true from Ze rfl,Zg]
theorem uF {β:Type}:∀ (b:List (Int×β)) (k:Int),∀ e∈mdel b k,e∈b
 | [],_,e,h=>h
 | (k',v')::r,k,e,h=>by
  rw [mdel] at h
  cases hb:Xj.eqb k k' with
  | true=>rw [hb] at h;exact Zu _ h
  | false =>
   rw [hb] at h
   rcases ZH.1 h with rfl|h
   · exact ao
   · exact Zu _ (uF r k e h)
def likeS (k:Int) (d:ByteArray) (i:Nat) (x:Xa) (M:List (Int×Value)):List (Int×Value):=bif decide (x.kind=k)&&seqB x.object d then mput M (i:Int) (.bool true) else M
def undS (l:List Xa) (x:Xa) (m:List (Int×Value)):List (Int×Value):=bif decide (x.kind=6)&&decide (0<m.length) then (match idxV l x.object with
 | some j=>mdel m (j:Int)
 | none=>m) else m
theorem iV (c:Xb) (k:Int) (d:ByteArray) (i:Nat):hasM c k d (i+1)=undS c.actsL (c.actsL.getD i Xa.zero) (likeS k d i (c.actsL.getD i Xa.zero) (hasM c k d i)):=rfl
theorem Cp {l:List Xa} {x:Xa} {m:List (Int×Value)}:∀ e∈undS l x m,e∈m:=by
 intro e h
 rw [undS] at h
 cases hb:decide (x.kind=6)&&decide (0<m.length) with
 | false=>rw [hb] at h;exact h
 | true =>
  rw [hb,Zg] at h
  cases hi:idxV l x.object with
  | none=>rw [hi] at h;exact h
  | some j=>rw [hi] at h;exact uF _ _ _ h
theorem km (c:Xb) (k:Int) (d:ByteArray):∀ i,∀ e∈hasM c k d i,∃ j:Nat,e.1=(j:Int)∧j<i∧(c.actsL.getD j Xa.zero).kind=k∧(c.actsL.getD j Xa.zero).object=d
 | 0,e,h=>by cases h
 | i+1,e,h=>by
  rw [iV] at h
  have h1:=Cp e h
  rw [likeS] at h1
  cases hb:decide ((c.actsL.getD i Xa.zero).kind=k)&&seqB (c.actsL.getD i Xa.zero).object d with
  | false =>
   rw [hb] at h1
   obtain ⟨j,a,b,r⟩:=km c k d i e h1
   exact ⟨j,a,by omega,r⟩
  | true =>
   rw [hb,Zg,jo _ _ _ fun e he=>by
    obtain ⟨j,a,b,-⟩:=km c k d i e he
    omega,Qw,Z3] at h1
   rcases h1 with h1|rfl
   · obtain ⟨j,a,b,r⟩:=km c k d i e h1
     exact ⟨j,a,by omega,r⟩
   · rw [Zq,Zv,seqB_iff] at hb
     exact ⟨i,rfl,Nat.lt_succ_self _,hb.1,hb.2⟩
theorem uU {id:ByteArray} {l:List Xa} (r:List Xa) (k:Int) (d:ByteArray) (hu:UndOk l):∀ i,i≤l.length→hasM (nuN id (l++r)) k d i=hasM (nuN id l) k d i
 | 0,_=>rfl
 | i+1,hi=>by
  rw [iV,iV,uU r k d hu i (by omega)]
  show undS (l++r) ((l++r).getD i Xa.zero) (likeS k d i ((l++r).getD i Xa.zero) _)=undS l (l.getD i Xa.zero) (likeS k d i (l.getD i Xa.zero) _)
  rw [gdApp (by omega)]
  unfold undS
  by_cases h6:(l.getD i Xa.zero).kind=6
  · rw [iB (hu i aa h6)]
  · rw [Zd h6,Zk,Zf,Zf]
def lk (id:ByteArray) (l:List Xa) (k:Int) (d:ByteArray):List (Int×Value):=hasM (nuN id l) k d l.length
theorem fF (id:ByteArray) (l:List Xa) (k:Int) (d:ByteArray):hasV (nuN id l) k d=decide (0<(lk id l k d).length):=rfl
theorem wE {id:ByteArray} {l:List Xa} {k:Int} {d:ByteArray}:∀ e∈lk id l k d,∃ j:Nat,e.1=(j:Int)∧j<l.length∧(l.getD j Xa.zero).kind=k∧(l.getD j Xa.zero).object=d:=km _ _ _ _
theorem wF {id:ByteArray} {l:List Xa} (hu:UndOk l) (a:Xa) (k:Int) (d:ByteArray):lk id (l++[a]) k d=undS (l++[a]) a (likeS k d l.length a (lk id l k d)):=by
 rw [lk,gN,iV,uU [a] k d hu _ (ZV _)]
 show undS (l++[a]) ((l++[a]).getD l.length Xa.zero) (likeS k d l.length ((l++[a]).getD l.length Xa.zero) _)=_
 rw [lr]
 rfl
section
variable {id:ByteArray} {l:List Xa} {a:Xa} {k:Int} {d:ByteArray}
theorem mK (hu:UndOk l) (ha:a.kind=k) (ho:a.object=d) (h6:k≠6):lk id (l++[a]) k d=lk id l k d++[(((l.length:Nat):Int),Value.bool true)]:=by
 rw [wF hu,undS,Zd aa,Zk,Zf,likeS,Ze ha,ho,bN,Zh,Zg]
 exact jo _ _ _ fun e he=>by
  obtain ⟨j,h1,h2,-⟩:=wE e he
  omega
theorem JQ (hu:UndOk l) (ha:a.kind≠k) (h6:a.kind≠6):lk id (l++[a]) k d=lk id l k d:=by
 rw [wF hu,undS,Zd h6,Zk,Zf,likeS,Zd ha,Zk,Zf]
theorem rY (hu:UndOk l) (ha:a.kind=6) (h6:k≠6) {j:Nat} (hj:idxV (l++[a]) a.object=some j):lk id (l++[a]) k d=mdel (lk id l k d) (j:Int):=by
 rw [wF hu,likeS,Zd (show ¬ a.kind=k by omega),Zk,Zf,undS,Ze ha,Zh,hj]
 cases hb:decide (0<(lk id l k d).length) with
 | true=>rfl
 | false =>
  have:lk id l k d=[]:=Z6 (by have:=cu hb;omega)
  rw [this]
  rfl
theorem HN (hu:UndOk l) (ha:a.kind=6) (h6:k≠6) {j:Nat} (hj:idxV (l++[a]) a.object=some j) (hk:(l.getD j Xa.zero).kind≠k):lk id (l++[a]) k d=lk id l k d:=by
 rw [rY hu ha h6 hj]
 have:=iS (lk id l k d) [] (j:Int) fun e he h=>by
  obtain ⟨i,h1,h2,h3,-⟩:=wE e he
  have:i=j:=by omega
  subst this
  exact hk h3
 rwa [ZI,show mdel ([]:List (Int×Value)) (j:Int)=[] from rfl,ZI] at this
theorem dq (hu:UndOk l) (h:a.kind=6→(idxV (l++[a]) a.object).isSome=true):UndOk (l++[a]):=fun i hi h6=>by
 rw [gN] at hi
 by_cases hl:i<l.length
 · rw [gdApp hl] at h6 ⊢
   rw [iB (hu i hl h6)]
   exact hu i hl h6
 · have:i=l.length:=by omega
   subst this
   rw [lr] at h6 ⊢
   exact h h6
end
theorem oF {id:ByteArray} {v:List Xa} {a b u w:Xa} {d:ByteArray} (hu:UndOk v) (ka:a.kind=5) (oa:a.object=d) (kb:b.kind=5) (ob:b.object=d) (ku:u.kind=6) (iu:idxV (v++[a]++[b]++[u]) u.object=some v.length)
  (kw:w.kind=6) (iw:idxV (v++[a]++[b]++[u]++[w]) w.object=some (v.length+1)) :
  lk id (v++[a]++[b]++[u]) 5 d=lk id v 5 d++[(((v.length+1:Nat):Int),Value.bool true)]∧lk id (v++[a]++[b]++[u]++[w]) 5 d=lk id v 5 d:=by
 have u1:UndOk (v++[a]):=dq hu fun h=>absurd (h.symm.trans ka) (by decide)
 have u2:UndOk (v++[a]++[b]):=dq u1 fun h=>absurd (h.symm.trans kb) (by decide)
 have u3:UndOk (v++[a]++[b]++[u]):=dq u2 fun _=>by rw [iu];rfl
 have hm:∀ j:Nat,v.length≤j→∀ e∈lk id v 5 d,e.1≠(j:Int):=fun j hj e he=>by
  obtain ⟨i,h1,h2,-⟩:=wE e he
  omega
 have e2:lk id (v++[a]++[b]) 5 d=lk id v 5 d++[(((v.length:Nat):Int),Value.bool true),(((v.length+1:Nat):Int),Value.bool true)]:=by
  rw [mK u1 kb ob (by decide),mK hu ka oa (by decide),ZB,gN]
  rfl
 have e3:lk id (v++[a]++[b]++[u]) 5 d=lk id v 5 d++[(((v.length+1:Nat):Int),Value.bool true)]:=by
  rw [rY u2 ku (by decide) iu,e2,iS _ _ _ (hm _ (ZV _)),qC]
 refine ⟨e3,?_⟩
 rw [rY u3 kw (by decide) iw,e3,iS _ _ _ (hm _ (Nat.le_succ _)),qC,ZI]
def tieE (v:List Xa):Er:=tieV v (v.length:Nat)
theorem p5 (l:List Xa) (a:Xa):tieE (l++[a])=stepT (l++[a]) l.length (tieE l) a:=by
 rw [tieE,gN]
 exact Cu l a
theorem Cv {l:List Xa} {a:Xa} (h6:a.kind≠6) (h7:a.kind≠7) (h8:a.kind≠8) (h9:a.kind≠9) (h10:a.kind≠10) (h11:a.kind≠11):tieE (l++[a])=tieE l:=by rw [p5,Am h6 h7 h8 h9 h10 h11]
theorem zp {l:List Xa} {u x:Xa} (hu:u.kind=6) {j:Nat} (hj:idxV (l++[u]) u.object=some j) (hl:j<l.length) (hx:l.getD j Xa.zero=x):tieE (l++[u])=undoT (tieE l) x:=by
 rw [p5,Al hu,hj]
 simp only
 rw [Ze aa,Zg,gdApp hl,hx]
theorem zm {t:Er} {x:Xa} (h7:x.kind≠7) (h8:x.kind≠8) (h10:x.kind≠10) (h11:x.kind≠11):undoT t x=t:=by
 rw [undoT,Zd h7,Zd h8,Zd h10,Zd h11]
 rfl
section
variable {id:ByteArray} {v v':List Xa} {R:List Xb}
theorem p8 (id:ByteArray) (v:List Xa) (R:List Xb):tieC (nuN id v::R) id=tieE v:=by
 have h:findC (nuN id v::R) id=some (nuN id v):=by
  rw [findC,List.find?_cons]
  show (match seqB id id with|true=>some (nuN id v)|false=>_)=_
  rw [bN]
 rw [tieC,chainC,h]
 rfl
theorem wP {c:Xb} {x:ByteArray} (h:x≠c.id):findC (c::R) x=findC R x:=by
 rw [findC,List.find?_cons,seqB_ne.2 fun e=>h e.symm]
 rfl
theorem p6 {c:Xb} {x:ByteArray} (h:x≠c.id):tieC (c::R) x=tieC R x:=by
 rw [tieC,tieC,chainC,chainC,wP h]
theorem p7 (h:tieE v'=tieE v) (x:ByteArray):tieC (nuN id v'::R) x=tieC (nuN id v::R) x:=by
 by_cases e:x=id
 · subst e
   rw [p8,p8,h]
 · rw [p6 (show x≠(nuN id v').id from e),p6 (show x≠(nuN id v).id from e)]
theorem lI (h:tieE v'=tieE v) (x y:ByteArray):admV (nuN id v'::R) x y=admV (nuN id v::R) x y:=by
 rw [admV,admV,blockedV,blockedV,p7 h,p7 h]
theorem lu (h:postsV (nuN id v')=postsV (nuN id v)):(nuN id v'::R).flatMap postsV=(nuN id v::R).flatMap postsV:=by
 rw [List.flatMap_cons,List.flatMap_cons,h]
theorem qF (h:postsV (nuN id v')=postsV (nuN id v)) (d:ByteArray):liveV (nuN id v'::R) d=liveV (nuN id v::R) d:=by
 rw [liveV,liveV,findPV,findPV,lu h]
theorem act_cons {c:Xb} {p:Xd} {k:Int} {x:ByteArray}:x∈actorsV (c::R) p k↔((x=c.id∧hasV c k p.id=true)∨∃ e∈R,e.id=x∧hasV e k p.id=true)∧admV (c::R) x p.author=true:=by
 rw [fo]
 constructor
 · rintro ⟨e,he,h1,h2,h3⟩
   rcases ZH.1 he with rfl|he
   · exact ⟨.inl ⟨h1.symm,h2⟩,h3⟩
   · exact ⟨.inr ⟨e,he,h1,h2⟩,h3⟩
 · rintro ⟨⟨rfl,h2⟩|⟨e,he,h1,h2⟩,h3⟩
   · exact ⟨c,ao,rfl,h2,h3⟩
   · exact ⟨e,Zu _ he,h1,h2,h3⟩
end
structure Es (id:ByteArray) (v v':List Xa) (d:ByteArray):Prop where
 posts:postsV (nuN id v')=postsV (nuN id v)
 tie:tieE v'=tieE v
 boost:hasV (nuN id v') 4 d=hasV (nuN id v) 4 d
section
variable {id:ByteArray} {v v':List Xa} {R:List Xb} {d:ByteArray}
theorem iJ (S:Es id v v' d) {p:Xd} {k:Int} (h:hasV (nuN id v') k p.id=hasV (nuN id v) k p.id):actorsV (nuN id v'::R) p k=actorsV (nuN id v::R) p k:=fq fun x=>by
 rw [act_cons,act_cons,lI S.tie,h]
 exact Iff.rfl
theorem qp (S:Es id v v' d) (a:ByteArray):repB (nuN id v'::R) d a=repB (nuN id v::R) d a:=funext fun q=>by rw [repB,repB,lI S.tie]
theorem Bf (S:Es id v v' d) (h:hasV (nuN id v') 5 d=hasV (nuN id v) 5 d):tallyV (nuN id v'::R) d=tallyV (nuN id v::R) d:=by
 rw [tallyV,tallyV,qF S.posts]
 cases hl:liveV (nuN id v::R) d with
 | none=>rfl
 | some p =>
  have hid:=uK hl
  have e5:hasV (nuN id v') 5 p.id=hasV (nuN id v) 5 p.id:=by rw [hid];exact h
  have e4:hasV (nuN id v') 4 p.id=hasV (nuN id v) 4 p.id:=by rw [hid];exact S.boost
  simp only [iJ S e5,iJ S e4,lu S.posts,qp S]
def admO (l:List Xb) (d id:ByteArray):Bool:=match liveV l d with
 | some p=>admV l id p.author
 | none=>false
theorem lm (S:Es id v v' d) (h:hasV (nuN id v') 5 d=true) :
  tallyV (nuN id v'::R) d={ tallyV (nuN id v::R) d with likes:=(tallyV (nuN id v::R) d).likes+(bif admO (nuN id v::R) d id&&!hasS (whoV (nuN id v::R) d 5) id then 1 else 0) } ∧
  hasS (whoV (nuN id v'::R) d 5) id=admO (nuN id v::R) d id:=by
 rw [tallyV,tallyV,whoV,whoV,admO,qF S.posts]
 cases hl:liveV (nuN id v::R) d with
 | none=>exact ⟨rfl,rfl⟩
 | some p =>
  have hid:=uK hl
  have e4:hasV (nuN id v') 4 p.id=hasV (nuN id v) 4 p.id:=by rw [hid];exact S.boost
  have h5:hasV (nuN id v') 5 p.id=true:=by rw [hid];exact h
  simp only [iJ S e4,lu S.posts,qp S,Zs,Zn,Zg]
  have hmem:∀ x,x∈actorsV (nuN id v'::R) p 5↔x∈actorsV (nuN id v::R) p 5∨x=id∧admV (nuN id v::R) id p.author=true:=fun x=>by
   rw [act_cons,act_cons,lI S.tie,h5]
   constructor
   · rintro ⟨⟨h1,-⟩|h1,h2⟩
     · have h1:x=id:=h1
       subst h1
       exact .inr ⟨rfl,h2⟩
     · exact .inl ⟨.inr h1,h2⟩
   · rintro (⟨⟨h1,-⟩|h1,h2⟩|⟨rfl,h2⟩)
     · exact ⟨.inl ⟨h1,rfl⟩,h2⟩
     · exact ⟨.inr h1,h2⟩
     · exact ⟨.inl ⟨rfl,rfl⟩,h2⟩
  have hid2:hasS (actorsV (nuN id v'::R) p 5) id=admV (nuN id v::R) id p.author:=by
   rw [Bool.eq_iff_iff,hasS_iff,hmem]
   constructor
   · rintro (h1|h1)
     · exact (act_cons.1 h1).2
     · exact h1.2
   · exact fun h1=>.inr ⟨rfl,h1⟩
  refine ⟨?_,hid2⟩
  congr 1
  cases ha:admV (nuN id v::R) id p.author with
  | false =>
   rw [Zk,Zf,ZR,fq (m:=nuN id v::R) (q:=p) (k:=5) fun x=>by
    rw [hmem x,ha]
    exact ⟨fun h=>h.elim (fun h=>h) fun h=>(by cases h.2),.inl⟩]
  | true =>
   cases hw:hasS (actorsV (nuN id v::R) p 5) id with
   | true =>
    rw [Zo,Zl,Zf,ZR,fq (m:=nuN id v::R) (q:=p) (k:=5) fun x=>by
     rw [hmem x]
     exact ⟨fun h=>h.elim (fun h=>h) fun h=>h.1.symm▸hasS_iff.1 hw,.inl⟩]
   | false =>
    rw [Zm,Zi,Zg]
    exact (EU (gu _ _ _) (gu _ _ _) ((hmem id).2 (.inr ⟨rfl,ha⟩)) fun y=>by
     rw [hmem y]
     constructor
     · exact fun h=>⟨.inl h,fun e=>hasS_false.1 hw (e▸h)⟩
     · rintro ⟨h1|h1,h2⟩
       · exact h1
       · exact absurd h1.1 h2).symm
end
structure BlockS (id:ByteArray) (v v':List Xa) (t:ByteArray):Prop where
 posts:postsV (nuN id v')=postsV (nuN id v)
 tie:∀ y,y∈(tieE v').b↔y=t∨y∈(tieE v).b
 has:∀ k d,k=4∨k=5→hasV (nuN id v') k d=hasV (nuN id v) k d
section
variable {id t:ByteArray} {v v':List Xa} {R:List Xb} {d:ByteArray}
end
section
variable {c:Xb} {R:List Xb} {d:ByteArray}
end
theorem JH {k:Ee} {c:Xb} {x:Xa} (hx:x.Rng) (hc:c.acts.n≤1000):(sgA k c x).Rng :=
 tK ⟨⟨by show (c.acts.n:Int)<_;omega,hx.ints.2.1,by show (1:Int)<_;decide,hx.ints.2.2.2⟩,hx.wints,hx.to_len,hx.wraps_len⟩
theorem Kp {k:Ee} {c:Xb} {x:Xa} (hs:x.Sm):(sgA k c x).Sm:=ya ⟨hs.to,hs.wraps,hs.target⟩
theorem F1 (L:List Int) (I:List Xc) (it:Xc):(addK L I it).length≤I.length+1:=by
 rw [addK]
 cases canAdd L I it with
 | false=>exact Nat.le_succ _
 | true =>
  have:=(ja digIt it I).length_eq
  rw [ZA] at this
  exact Nat.le_of_eq this
theorem DC {L:List Int} {I:List Xc} (h:KnR L I) {au:ByteArray} {c n:Xb} {kl kl':List Xm} (q:QK L I au c kl) (h0:0<c.actsL.length) (hcn:c.acts.n=c.actsL.length) (hnn:n.acts.n=n.actsL.length) {k:Ee} {x:Xa} {s3 s4:Xk}
  (e3:s3.n=(sgA k c x).to.n) (e4:s4.n=(sgA k c x).wraps.n) (q':QK L (addK L I (ofActI ((sgA k c x).re s3 s4))) c.id n kl') (hl:(n.acts.n:Int)=(c.acts.n:Int)+1) :
  SignD L I c n k { x with time:=1 } (sgA k c x)∧QK L (addK L I (ofActI ((sgA k c x).re s3 s4))) au n kl':=by
 rw [jf q] at q'
 exact ⟨(vX h q h0 hcn e3 e4 q' aa).1,q'⟩
theorem SignD.author {L:List Int} {I:List Xc} {c n:Xb} {k:Ee} {x b:Xa} (h:SignD L I c n k x b):b.author=c.id:=by rw [h.sig];rfl
theorem SignD.kind {L:List Int} {I:List Xc} {c n:Xb} {k:Ee} {x b:Xa} (h:SignD L I c n k x b):b.kind=x.kind:=by rw [h.sig];rfl
theorem SignD.object {L:List Int} {I:List Xc} {c n:Xb} {k:Ee} {x b:Xa} (h:SignD L I c n k x b):b.object=x.object:=by rw [h.sig];rfl
theorem SignD.target {L:List Int} {I:List Xc} {c n:Xb} {k:Ee} {x b:Xa} (h:SignD L I c n k x b):b.target=x.target:=by rw [h.sig];rfl
end Go.Proofs.YtaolfiikahlmkaaGreatDoor
