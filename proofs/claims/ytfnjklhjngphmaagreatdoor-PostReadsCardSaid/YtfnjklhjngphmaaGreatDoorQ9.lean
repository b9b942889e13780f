/- Joined by program out of: Ux Se Vh Dd Sg Gr Gs Ge Ln Sn Sj Sk Sl. -/
import Derived.Test.YtfnjklhjngphmaaGreatDoorQ8
import Derived.Shelf.SlIter.Nil
import Derived.Shelf.SlIterI.Nil
import Derived.Shelf.SortM.Plain
import Derived.Shelf.SortM.SortNone
import Derived.Shelf.Slices.CompactS
import Derived.Test.YtfnjklhjngphmaaGreatDoorProg
import Derived.Shelf.Bits.Mul64
import Derived.Shelf.Strconv.Itoa0
import Derived.Shelf.Strings.OnBuilder
set_option linter.unusedVariables false
set_option linter.unusedSimpArgs false
namespace Go.Proofs.YtfnjklhjngphmaaGreatDoor
open Go Go.Proofs Sy
namespace Sy
section
variable {P:Program} {N:Nat} {av bor:List Nat} {w0:World} {ops:Array Oper} {rest:List Oper} {E:Env} {loc loc':List Res} {X:World→Prop} {k:St→Prop}
theorem xH {w:World} {e size m n c:Nat} {A:Option Addr} {xs:List Value} (h:ORow w e size (.slice A m c) m xs) (hn:n≤m):ORow w e size (.slice A n c) n (xs.take (n*size)):=by
 have hm:n*size≤m*size:=Nat.mul_le_mul_right _ hn
 refine ⟨by rw [List.length_take,h.1];omega,?_⟩
 rcases h.2 with ⟨h1,h2⟩|⟨g,cap,cur,fz,h1,hg,h3,h4,h5,h6,h7⟩
 · simp only [Value.slice.injEq] at h1
   obtain ⟨rfl,_,rfl⟩:=h1
   have:n=0:=by omega
   subst this
   exact .inl ⟨rfl,rfl⟩
 · simp only [Value.slice.injEq] at h1
   obtain ⟨rfl,_,rfl⟩:=h1
   refine .inr ⟨g,_,cur,fz,rfl,hg,by omega,h4,h5,?_,h7⟩
   rw [←h6,List.take_take,Nat.min_eq_left hm]
theorem sg {e size m n c:Nat} {A:Option Addr} {xs:List Value} (hA:At (orow e size (.slice A m c) m xs) (orow e size (.slice A n c) n (xs.take (n*size))) loc loc':=by (repeat (first|exact At.here _|apply At.there))) (hn:n≤m)
  (h:Sw P N av bor w0 ops rest ⟨E,loc',X⟩ k):Sw P N av bor w0 ops rest ⟨E,loc,X⟩ k :=
 Sw.mk fun a w ok=>h.run a w (ok.via fun M G=>by
  have hh:=G.here _ (List.mem_append_left _ hA.mem)
  have e:(orow e size (.slice A n c) n (xs.take (n*size))).fp=(orow e size (.slice A m c) m xs).fp:=by cases A<;>rfl
  refine Gam.swap G (hA.app M) rfl rfl rfl (Nat.le_refl _) (fun _ _ _=>rfl) ?_ (fun i hi=>?_) (dx (xH hh.now hn))
  · cases A<;>simp [orow,Value.ownBlock]
  · rw [e] at hi
    refine ⟨(G.own i ?_).1,.inl hi⟩
    rw [fps,List.mem_flatMap]
    exact ⟨_,List.mem_append_left _ hA.mem,hi⟩)
end
end Sy
theorem xl (s r:SlV) (l m:List ByteArray):Pu Tryz.prog 272 #[s.v,r.v] (fun w=>Strs w s l∧Strs w r m) (.bool (eqL l m)):=by
 refine aN (args:=[_,_]) _ Tryz.func272 rfl Tryz.ntmps272 rfl fun av bor w0=>?_
 refine bt (p:=(s.n=l.length∧s.n≤maxLen∧(0<l.length→s.p.isSome=true))∧(r.n=m.length∧r.n≤maxLen∧(0<m.length→r.p.isSome=true))) (fun w h=>⟨⟨h.1.len_,Nat.le_trans (RowsD.cap h.1) (RowsD.max h.1),h.1.some_⟩,⟨h.2.len_,Nat.le_trans (RowsD.cap h.2) (RowsD.max h.2),h.2.some_⟩⟩) fun ⟨⟨hl,hm,hp⟩,⟨hl',hm',hp'⟩⟩=>?_
 simp only [maxLen] at hm hm'
 repeat' (first|apply ab|apply aj|apply ai|refine ae ?_|refine ac ?_|refine cZ ?_|refine bg ?_|apply ay|apply aw|apply aA|(refine aO (ht:=?_) (hf:=?_);all_goals (intro hx_;skip)))
 · apply aq;apply aB;rfl;rfl
   have:¬ l.length=m.length:=by
    have h1:¬ (s.n:Int)=(r.n:Int):=by simpa using hx_
    omega
   simp only [eqL,decide_eq_false this,Bool.false_and]
 have hlm:l.length=m.length:=by
  have h1:(s.n:Int)=(r.n:Int):=by simpa using hx_
  omega
 refine be (ι:=Upto l.length (eqBad l m)) (fun i=>⟨[(0,s.v),(1,r.v),(5,.int .i64 i.k)],[],fun w=>Strs w s l∧Strs w r m⟩) (fun i=>l.length-i.k) (Upto.zero _ _) (aF (by repeat (first|exact trivial|refine ⟨rfl,?_⟩)) (aQ _) fun _ h=>h) fun i=>?_
 have hik:=i.hk
 repeat' (first|apply ab|apply aj|apply ai|refine ae ?_|refine ac ?_|refine bu ?_|refine bg ?_|apply ay|apply aw|apply aA|apply aV|(refine aO (ht:=?_) (hf:=?_);all_goals (intro hx_;first|have:=aY hx_|have:=aZ hx_)))
 · have hlt:i.k<l.length:=by omega
   have hlt':i.k<m.length:=by omega
   have hp1:=hp ag
   have hp2:=hp' ag
   (apply ci;kernel_rfl)
   all_goals refine aa 0 ?_
   all_goals refine aa 1 ?_
   all_goals (refine aa 2 (hy:=by (apply bp (q:=i.k);rfl;rfl;omega;omega;assumption;omega)) ?_)
   all_goals (refine aa 3 (hy:=by (apply cC;rfl;exact fun w h=>Strs.get h.1 hlt)) ?_)
   all_goals refine aa 4 ?_
   all_goals refine aa 5 ?_
   all_goals (refine aa 6 (hy:=by (apply bp (q:=i.k);rfl;rfl;omega;omega;assumption;omega)) ?_)
   all_goals (refine aa 7 (hy:=by (apply cC;rfl;exact fun w h=>Strs.get h.2 hlt')) ?_)
   all_goals refine aa 8 ?_
   all_goals (refine aI ?_)
   repeat' (first|apply ab|apply aj|apply ai|refine ae ?_|refine ac ?_|refine bm (h:=?_)|apply ay|apply aA|(refine aO (ht:=?_) (hf:=?_);all_goals (intro hx_;skip)))
   · apply aq;apply aB;rfl;rfl
     rw [eqL,dB hlt (by assumption),Bool.and_false]
   · exact ⟨i.next hlt (by assumption),(by show l.length-(i.k+1)<l.length-i.k;omega),aF (by repeat (first|exact trivial|refine ⟨rfl,?_⟩)) (aQ _) fun _ h=>h⟩
 · apply aq;apply aB;rfl;rfl
   rw [eqL,i.all ag,decide_eq_true hlm]
   rfl
theorem xm (s r:SlV) (l:List Int):Pu Tryz.prog 37 #[s.v,r.v] (fun w=>Ints w s l∧Ints w r l) (.bool true):=by
 refine aN (args:=[_,_]) _ Tryz.func37 rfl Tryz.ntmps37 rfl fun av bor w0=>?_
 refine bt (p:=(s.n=l.length∧s.n≤maxLen∧(0<l.length→s.p.isSome=true))∧(r.n=l.length∧r.n≤maxLen∧(0<l.length→r.p.isSome=true))) (fun w h=>⟨⟨h.1.len_,Nat.le_trans (RowsD.cap h.1) (RowsD.max h.1),h.1.some_⟩,⟨h.2.len_,Nat.le_trans (RowsD.cap h.2) (RowsD.max h.2),h.2.some_⟩⟩) fun ⟨⟨hl,hm,hp⟩,⟨hl',hm',hp'⟩⟩=>?_
 simp only [maxLen] at hm hm'
 repeat' (first|refine fN (hab:=by omega) ?_|apply ab|apply aj|apply ai|refine ae ?_|refine ac ?_|refine bg ?_|refine aD ?_|apply ay|apply aw|fail)
 refine be (ι:=Kth l.length) (fun i=>⟨[(0,s.v),(1,r.v),(5,.int .i64 i.k)],[],fun w=>Ints w s l∧Ints w r l⟩) (fun i=>l.length-i.k) ⟨0,Nat.zero_le _⟩ (aF (by repeat (first|exact trivial|refine ⟨rfl,?_⟩)) (aQ _) fun _ h=>h) fun i=>?_
 have hik:=i.hk
 repeat' (first|apply ab|apply aj|apply ai|refine ae ?_|refine ac ?_|refine bu ?_|refine bg ?_|apply ay|apply aw|apply aA|apply aV|(refine aO (ht:=?_) (hf:=?_);all_goals (intro hx_;first|have:=aY hx_|have:=aZ hx_)))
 · have hlt:i.k<l.length:=by omega
   have hp1:=hp ag
   have hp2:=hp' ag
   (apply ci;kernel_rfl)
   all_goals refine aa 0 ?_
   all_goals refine aa 1 ?_
   all_goals (refine aa 2 (hy:=by (apply bp (q:=i.k);rfl;rfl;omega;omega;assumption;omega)) ?_)
   all_goals (refine aa 3 (hy:=by (apply cC;rfl;exact fun w h=>Ints.get h.1 hlt)) ?_)
   all_goals refine aa 4 ?_
   all_goals refine aa 5 ?_
   all_goals (refine aa 6 (hy:=by (apply bp (q:=i.k);rfl;rfl;omega;omega;assumption;omega)) ?_)
   all_goals (refine aa 7 (hy:=by (apply cC;rfl;exact fun w h=>Ints.get h.2 hlt)) ?_)
   all_goals refine aa 8 ?_
   all_goals (refine aI ?_)
   repeat' (first|apply ab|apply aj|apply ai|refine ae ?_|refine ac ?_|refine bm (h:=?_)|apply ay|apply aA|(refine aO (ht:=?_) (hf:=?_);all_goals (intro hx_;skip)))
   all_goals first
    | (exfalso;simp at hx_;done)
    | exact ⟨(⟨i.k+1,hlt⟩:Kth l.length),(by show l.length-(i.k+1)<l.length-i.k;omega),aF (by repeat (first|exact trivial|refine ⟨rfl,?_⟩)) (aQ _) fun _ h=>h⟩
 · exact aq (aB rfl rfl) rfl
def AnyB (u:Value) (X:World→Prop):Prop:=∃ b:Bool,u=.bool b
section
variable {P:Program} {N:Nat} {av bor:List Nat} {w0:World} {st:St} {ty:TypeId} {x y:Operand} {t t2:TypeId} {k:IntKind} {a b:Int}
theorem qk [hI:TyInt P t k] (v:Bool) (hx:ev st.env x=some (.int k a)) (hy:ev st.env y=some (.int k b)) (hv:decide (a≤b)=v):Sy.Yields P N av bor w0 st (.binOp .leq t x y t2) ty (.bool v):=hv▸rM hx hy
end
structure DgI26 (l:List ActD) where
 k:Nat
 hk:k≤l.length
 A:Option Addr
 c:Nat
 xs:List Value
 hxs:xs=(strs ((l.take k).map digV)).flatten
set_option maxHeartbeats 4000000 in
theorem om (c:ChainD) (hs:∀ a∈c.actsL,a.Str∧a.Rng) (hl:c.actsL.length≤1000000):Mk Tryz.prog 131 #[c.v] (fun w=>c.at_ w) (StrsAt (c.actsL.map digV)):=by
 refine bL (args:=[_]) _ Tryz.func131 rfl Tryz.ntmps131 rfl fun av bor w0=>?_
 refine bt (p:=c.acts.n=c.actsL.length∧c.acts.n≤maxLen∧(0<c.actsL.length→c.acts.p.isSome=true)) (fun w h=>⟨h.len_,h.max_,h.some_⟩) fun ⟨hn,hm,hp⟩=>?_
 simp only [maxLen] at hm
 refine cf 9 1 ?_
 repeat' (first|apply ab|apply aj|apply ai|refine ac ?_|refine aT fun _=>?_|apply aw|fail)
 rename_i b1
 refine be (ι:=DgI26 c.actsL) (fun i=>⟨[(1,.pointer (some ⟨b1,0,none⟩)),(3,.slice i.A i.k i.c),(4,.int .i64 (i.k:Nat))],[cel b1 31 c.cells,orow 9 1 (.slice i.A i.k i.c) i.k i.xs],fun w=>c.at_ w⟩) (fun i=>c.actsL.length-i.k) ⟨0,Nat.zero_le _,none,0,[],rfl⟩ (aF ⟨rfl,rfl,rfl,trivial⟩ (aQ _) fun _ h=>h) fun i=>?_
 obtain ⟨k,hk,A,cp,xs,hxs⟩:=i
 simp only
 by_cases hlt:k<c.actsL.length
 · have hp':=hp ag
   obtain ⟨a,ha⟩:∃ a,c.actsL[k]?=some a:=⟨_,List.getElem?_eq_getElem hlt⟩
   have ham:=List.mem_of_getElem? ha
   have ht:(c.actsL.take (k+1)).map digV=(c.actsL.take k).map digV++[digV a]:=by rw [List.take_add_one,ha,Option.toList_some,List.map_append];rfl
   have c1:=lv a (hs a ham).1 (hs a ham).2
   repeat' (first|refine ax (bK true rfl rfl (decide_eq_true ag)) rfl aR rfl ?_|apply ab|apply aj|apply ai|refine ae ?_|refine ac ?_|refine aM ?_|refine aL ?_|refine bg ?_|refine bm (h:=?_)|refine ca fun _=>?_|refine aE ?_|apply ay|apply aw|(refine bf (q:=k*20) ?_)|(refine bD (cs:=a.cells) (hF:=fun w h=>Acts.get h ha) ?_)|(refine aC (hc:=c1) (hX:=fun w h=>h.2 a ham) ?_)|(refine aS (size:=1) (z:=.string ⟨#[]⟩) (news:=[encB (digV a)]) (q:=1) rfl rfl rfl rfl (fun _=>At.there _ (At.there _ (At.here _))) (fun w G=>bq G aU rfl rfl 1) ag (by simp only [maxLen];omega) rfl ?_ rfl ?_;(with_reducible rfl);intro A2 c2)|fail)
   exact ⟨(⟨k+1,hlt,A2,c2,xs++[encB (digV a)],by rw [ht,hxs,strs,strs,List.map_append,List.flatten_append];rfl⟩:DgI26 c.actsL),(by show c.actsL.length-(k+1)<c.actsL.length-k;omega),aF ⟨rfl,rfl,rfl,trivial⟩ (List.Sublist.cons _ (aQ _)) fun _ h=>h⟩
 have hkE:k=c.actsL.length:=by omega
 subst hkE
 repeat' (first|refine ax (bK false rfl rfl (decide_eq_false ag)) rfl aR rfl ?_|apply ab|apply aj|apply ai|refine ae ?_|refine ac ?_|refine aM ?_|refine aL ?_|refine bg ?_|refine aD ?_|apply aA|apply aV|fail)
 rw [List.take_length] at hxs
 subst hxs
 exact aq (aB rfl rfl) ⟨⟨A,c.actsL.length,cp⟩,rfl,fun w h=>bJ (h.2 _ (.tail _ (.head _))) (by simp [strs]) (eW _)⟩
structure DgX (c:ChainD) (sl:SlV) (ds:List ByteArray) (w:World):Prop where
 c:c.at_ w
 d:Strs w sl ds
theorem DgX.know {c:ChainD} {sl:SlV} {ds:List ByteArray} {w:World} (h:DgX c sl ds w):(c.acts.n=c.actsL.length∧c.acts.n≤9223372036854775807∧(0<c.actsL.length→c.acts.p.isSome=true))∧sl.n=ds.length∧sl.n≤9223372036854775807∧(0<ds.length→sl.p.isSome=true):=by
 have h1:=h.c.max_
 have h2:=Nat.le_trans (RowsD.cap h.d) (RowsD.max h.d)
 simp only [maxLen] at h1 h2
 exact ⟨⟨h.c.len_,by omega,h.c.some_⟩,h.d.len_,by omega,h.d.some_⟩
set_option maxHeartbeats 4000000 in
theorem mK (c:ChainD) (sl:SlV) (ds:List ByteArray) (hd:ds.length=c.actsL.length) (i j:Nat) (hi:i<c.actsL.length) (hj:j<c.actsL.length) :
  Mk Tryz.prog 273 #[c.v,sl.v,.int .i64 (j:Nat),.int .i64 (i:Nat)] (DgX c sl ds) AnyB:=by
 refine bL (args:=[_,_,_,_]) _ Tryz.func273 rfl Tryz.ntmps273 rfl fun av bor w0=>?_
 refine bt (fun w h=>DgX.know h) fun ⟨⟨hn,hm,hp⟩,hsn,hsm,hsp⟩=>?_
 have hp':=hp ag
 have hsp':=hsp ag
 obtain ⟨a,ha⟩:∃ a,c.actsL[j]?=some a:=⟨_,List.getElem?_eq_getElem hj⟩
 obtain ⟨x,hx⟩:∃ x,ds[i]?=some x:=⟨_,List.getElem?_eq_getElem ag⟩
 repeat' (first|apply ab|apply aj|apply ai|refine ac ?_|refine aT fun _=>?_|fail)
 rename_i b4
 by_cases hji:j≤i
 · (refine bo [cel b4 31 c.cells] (DgX c sl ds) ar ?_)
   all_goals refine aa 0 ?_
   all_goals refine aa 1 ?_
   all_goals (refine aa 2 (hy:=by (apply qk true;rfl;rfl;exact decide_eq_true ag)) ?_)
   all_goals refine aa 3 ?_
   all_goals refine cV 4 ?_
   all_goals refine cV 5 ?_
   all_goals refine cV 6 ?_
   all_goals refine cV 7 ?_
   all_goals refine cV 8 ?_
   all_goals refine cV 9 ?_
   all_goals refine cV 10 ?_
   all_goals refine cV 11 ?_
   all_goals refine cV 12 ?_
   all_goals refine cV 13 ?_
   all_goals refine cV 14 ?_
   all_goals refine aa 15 ?_
   all_goals (refine aI ?_)
   all_goals
    repeat' (first|apply ab|apply aj|apply ai|refine ac ?_|refine aE ?_|apply aA|fail)
    exact aq (aB rfl rfl) ⟨_,rfl⟩
 cases hne:seqB a.object x with
 | false =>
  (refine bo [cel b4 31 c.cells] (DgX c sl ds) ar ?_)
  all_goals refine aa 0 ?_
  all_goals refine aa 1 ?_
  all_goals (refine aa 2 (hy:=by (apply qk false;rfl;rfl;exact decide_eq_false ag)) ?_)
  all_goals refine aa 3 ?_
  all_goals refine aa 4 ?_
  all_goals refine aa 5 ?_
  all_goals refine aa 6 ?_
  all_goals (refine aa 7 (hy:=by (apply bp (q:=j*20);rfl;rfl;omega;omega;assumption;omega)) ?_)
  all_goals (refine aa 8 (hy:=by (apply cw;rfl;assumption;rfl)) ?_)
  all_goals (refine aa 9 (hy:=by (apply cC (q:=j*20+5) (u:=.string a.object);rfl;exact fun w h=>(Acts.get h.c ha).2.2 5 _ rfl)) ?_)
  all_goals refine aa 10 ?_
  all_goals refine aa 11 ?_
  all_goals (refine aa 12 (hy:=by (apply bp (q:=i);rfl;rfl;omega;omega;assumption;omega)) ?_)
  all_goals (refine aa 13 (hy:=by (apply cC (q:=i) (u:=.string x);rfl;exact fun w h=>h.d.at_ hx)) ?_)
  all_goals (refine aa 14 (hy:=by (apply fK true;rfl;rfl;(rw [hne];rfl))) ?_)
  all_goals refine aa 15 ?_
  all_goals (refine aI ?_)
  all_goals
   repeat' (first|apply ab|apply aj|apply ai|refine ac ?_|refine aE ?_|apply aA|fail)
   exact aq (aB rfl rfl) ⟨_,rfl⟩
 | true =>
  (refine bo [cel b4 31 c.cells] (DgX c sl ds) ar ?_)
  all_goals refine aa 0 ?_
  all_goals refine aa 1 ?_
  all_goals (refine aa 2 (hy:=by (apply qk false;rfl;rfl;exact decide_eq_false ag)) ?_)
  all_goals refine aa 3 ?_
  all_goals refine aa 4 ?_
  all_goals refine aa 5 ?_
  all_goals refine aa 6 ?_
  all_goals (refine aa 7 (hy:=by (apply bp (q:=j*20);rfl;rfl;omega;omega;assumption;omega)) ?_)
  all_goals (refine aa 8 (hy:=by (apply cw;rfl;assumption;rfl)) ?_)
  all_goals (refine aa 9 (hy:=by (apply cC (q:=j*20+5) (u:=.string a.object);rfl;exact fun w h=>(Acts.get h.c ha).2.2 5 _ rfl)) ?_)
  all_goals refine aa 10 ?_
  all_goals refine aa 11 ?_
  all_goals (refine aa 12 (hy:=by (apply bp (q:=i);rfl;rfl;omega;omega;assumption;omega)) ?_)
  all_goals (refine aa 13 (hy:=by (apply cC (q:=i) (u:=.string x);rfl;exact fun w h=>h.d.at_ hx)) ?_)
  all_goals (refine aa 14 (hy:=by (apply fK false;rfl;rfl;(rw [hne];rfl))) ?_)
  all_goals refine aa 15 ?_
  all_goals (refine aI ?_)
  all_goals
   repeat' (first|apply ab|apply aj|apply ai|refine ac ?_|refine aD ?_|apply ay|apply aw|fail)
   refine be (ι:=Kth i) (fun k=>⟨[(1,sl.v),(3,.int .i64 (i:Nat)),(9,.int .i64 (k.k:Nat))],[],DgX c sl ds⟩) (fun k=>i-k.k) ⟨0,Nat.zero_le _⟩ (aF ⟨rfl,rfl,rfl,trivial⟩ (List.nil_sublist _) fun _ h=>h) fun k=>?_
   obtain ⟨k,hk⟩:=k
   simp only
   by_cases hki:k<i
   · repeat' (first|refine ax (bK true rfl rfl (decide_eq_true ag)) rfl aR rfl ?_|apply ab|apply aj|apply ai|refine ae ?_|refine aE ?_|apply ay|apply aw|fail)
     obtain ⟨y,hy⟩:∃ y,ds[k]?=some y:=⟨_,List.getElem?_eq_getElem ag⟩
     (refine bo [] (DgX c sl ds) ar ?_)
     all_goals refine aa 0 ?_
     all_goals refine aa 1 ?_
     all_goals (refine aa 2 (hy:=by (apply bp (q:=k);rfl;rfl;omega;omega;assumption;omega)) ?_)
     all_goals (refine aa 3 (hy:=by (apply cC (q:=k) (u:=.string y);rfl;exact fun w h=>h.d.at_ hy)) ?_)
     all_goals refine aa 4 ?_
     all_goals refine aa 5 ?_
     all_goals (refine aa 6 (hy:=by (apply bp (q:=i);rfl;rfl;omega;omega;assumption;omega)) ?_)
     all_goals (refine aa 7 (hy:=by (apply cC (q:=i) (u:=.string x);rfl;exact fun w h=>h.d.at_ hx)) ?_)
     all_goals refine aa 8 ?_
     all_goals (refine aI ?_)
     all_goals
      repeat' (first|apply ab|apply aj|apply ai|refine ae ?_|refine ac ?_|refine bm (h:=?_)|apply ay|apply aA|(refine aO (ht:=?_) (hf:=?_);all_goals (intro hx_;skip)))
      · exact aq (aB rfl rfl) ⟨_,rfl⟩
      · exact ⟨(⟨k+1,hki⟩:Kth i),(by show i-(k+1)<i-k;omega),aF ⟨rfl,rfl,rfl,trivial⟩ (List.nil_sublist _) fun _ h=>h⟩
   · repeat' (first|refine ax (bK false rfl rfl (decide_eq_false ag)) rfl aR rfl ?_|apply ab|apply aj|apply ai|refine ae ?_|refine ac ?_|refine aD ?_|apply aA|apply aV|fail)
     exact aq (aB rfl rfl) ⟨_,rfl⟩
set_option maxHeartbeats 4000000 in
theorem lX (c:ChainD) (sl:SlV) (ds:List ByteArray) (hd:ds.length=c.actsL.length) (i n:Nat) (hi:i<c.actsL.length) (hnl:n≤c.actsL.length) :
  Mk Tryz.prog 216 #[c.v,sl.v,.int .i64 (i:Nat),.int .i64 (n:Nat)] (DgX c sl ds) AnyB:=by
 refine bL (args:=[_,_,_,_]) _ Tryz.func216 rfl Tryz.ntmps216 rfl fun av bor w0=>?_
 refine bt (fun w h=>DgX.know h) fun ⟨⟨hn,hm,hp⟩,hsn,hsm,hsp⟩=>?_
 have hp':=hp ag
 repeat' (first|apply ab|apply aj|apply ai|refine ac ?_|refine aT fun _=>?_|apply aw|fail)
 rename_i b4
 refine be (ι:=Kth n) (fun k=>⟨[(1,sl.v),(2,.int .i64 (i:Nat)),(3,.int .i64 (n:Nat)),(4,.pointer (some ⟨b4,0,none⟩)),(9,.int .i64 (k.k:Nat))],[cel b4 31 c.cells],DgX c sl ds⟩) (fun k=>n-k.k) ⟨0,Nat.zero_le _⟩ (aF ⟨rfl,rfl,rfl,rfl,rfl,trivial⟩ (aQ _) fun _ h=>h) fun k=>?_
 obtain ⟨k,hk⟩:=k
 simp only
 by_cases hki:k<n
 · obtain ⟨a,ha⟩:∃ a,c.actsL[k]?=some a:=⟨_,List.getElem?_eq_getElem ag⟩
   have hre:=mK c sl ds hd i k hi ag
   repeat' (first|refine ax (bK true rfl rfl (decide_eq_true ag)) rfl aR rfl ?_|apply ab|apply aj|apply ai|refine ae ?_|refine ac ?_|refine aM ?_|refine aL ?_|refine aG ?_|refine aJ ?_|refine aH ?_|refine bR ?_|refine bm (h:=?_)|refine aW ?_|refine aE ?_|refine aD ?_|apply ay|apply aw|apply aA|(refine bf (q:=k*20) ?_)|(refine cT ?_)|(refine bU (q:=k*20+3) (u:=.int .i64 a.kind) (hF:=fun w h=>(Acts.get h.c ha).2.2 3 _ rfl) ?_)|(refine bN (hc:=hre) (hX:=fun w h=>h) fun v X' h'=>?_;obtain ⟨rb,rfl⟩:=h')|((fail_if_success (refine bA ?_));refine bj (ht:=?_) (hf:=?_);all_goals (intro hx_;first|have:=aY hx_|have:=aZ hx_))|(refine aO (ht:=?_) (hf:=?_);all_goals (intro hx_;skip)))
   all_goals first
    | exact aq (aB rfl rfl) ⟨_,rfl⟩
    | exact ⟨(⟨k+1,hki⟩:Kth n),(by show n-(k+1)<n-k;omega),aF ⟨rfl,rfl,rfl,rfl,rfl,trivial⟩ (aQ _) fun _ h=>h⟩
    | exact ⟨(⟨k+1,hki⟩:Kth n),(by show n-(k+1)<n-k;omega),aF ⟨rfl,rfl,rfl,rfl,rfl,trivial⟩ (aQ _) fun _ h=>h.1⟩
 · repeat' (first|refine ax (bK false rfl rfl (decide_eq_false ag)) rfl aR rfl ?_|apply ab|apply aj|apply ai|refine ae ?_|refine ac ?_|refine aD ?_|apply aA|apply aV|fail)
   exact aq (aB rfl rfl) ⟨_,rfl⟩
end Go.Proofs.YtfnjklhjngphmaaGreatDoor
namespace Go.Proofs.YtfnjklhjngphmaaGreatDoor.Sy
open Go Go.RowKit
section
variable {P:Program} {N:Nat} {av bor:List Nat} {w0:World}
variable {loc0:List Res} {X0:World→Prop} {ops:Array Oper} {fuel:Nat} {listed:Array Bool} {E:Env} {loc:List Res} {X:World→Prop} {k:St→Prop} {K:Exit→St→Prop}
variable {n:Nat} {o:Op} {ty:TypeId} {pos:String} {af:Array Edge} {g:Option (Nat×Bool)} {v:Value} {bb want:Bool}
theorem az (i:Nat) (h:Aw P N av bor w0 loc0 X0 ops fuel (listed.setIfInBounds i true) ⟨(n,v)::E,loc,X⟩ k) (hi:ops[i]?=some ⟨some n,o,ty,pos,af,g⟩:=by rfl) (hs:Region.noSelect ops=true:=by kernel_rfl) (hf:Region.free .any ops listed i=true:=by kernel_rfl) (hr:(Region.ready .any ops listed).contains i=true:=by kernel_rfl) (hsub:∀ w,Gam av bor w0 loc X w→Gam av bor w0 loc0 X0 w:=by exact fi) (hy:Sy.Yields P N av bor w0 ⟨E,loc0,X0⟩ o ty v:=by (first|(apply qi;rfl)|(apply kq;rfl)|(apply fL;rfl)|(apply vI;rfl;(first|exact Nat.zero_add _|(simp only [Nat.reduceAdd];rfl)))|(apply l8;rfl;(repeat (first|exact aU|apply List.mem_cons_of_mem));rfl)|(apply nt;rfl;(repeat (first|exact aU|apply List.mem_cons_of_mem));rfl)|(apply kj;rfl;(first|with_reducible rfl|with_reducible assumption|with_reducible exact Bool.not_false|with_reducible exact Bool.not_true);rfl)|(apply km;rfl;(first|with_reducible rfl|with_reducible assumption|with_reducible exact Bool.not_false|with_reducible exact Bool.not_true);rfl)|(apply rJ;rfl)|(apply kp;rfl;rfl)|(apply rK;rfl;rfl)|(apply rL;rfl;rfl)|(apply rM;rfl;rfl)|(apply mo;rfl;rfl)|(apply rN;rfl;rfl)|(apply kg;rfl;rfl)|(apply nq;rfl;rfl)|(apply qe;rfl)|(apply vH;rfl)|(apply iX;rfl;rfl)|(apply mq;rfl;rfl;(first|exact IntWalk.i64_in _ (by omega)|rfl))|(apply oz;rfl;rfl;(first|exact IntWalk.i64_in _ (by omega)|rfl))|(apply rO;rfl;rfl)|(apply BU;rfl;rfl)|(apply rG;rfl;rfl)|(apply oC;rfl;rfl)|(apply qc;rfl)|(apply vC;rfl;rfl;(first|decide|exact dk _ _ rfl _ _|exact ea _ rfl _|omega))|(apply rH;rfl;rfl;(first|decide|exact dk _ _ rfl _ _|exact ea _ rfl _|omega))|(apply jw;rfl;rfl)|(apply eH;rfl;rfl;decide;decide;rfl))) (hg:gdB ops E g=some (bb,want):=by rfl) (hb:bb=want:=by exact aR) (hd:Nat.blt n N=true:=by rfl):Aw P N av bor w0 loc0 X0 ops (fuel+1) listed ⟨E,loc,X⟩ k:=aa i h hi hs hf hr hsub hy hg hb hd
theorem nm (i:Nat) (h:Aw P N av bor w0 loc0 X0 ops fuel (listed.setIfInBounds i true) ⟨(n,undef)::E,loc,X⟩ k) (hi:ops[i]?=some ⟨some n,o,ty,pos,af,g⟩:=by rfl) (hs:Region.noSelect ops=true:=by kernel_rfl) (hf:Region.free .any ops listed i=true:=by kernel_rfl) (hr:(Region.ready .any ops listed).contains i=true:=by kernel_rfl) (hsub:∀ w,Gam av bor w0 loc X w→Gam av bor w0 loc0 X0 w:=by exact fi) (hg:gdB ops E g=some (bb,true):=by rfl) (hb:bb=false:=by exact aR) (hd:Nat.blt n N=true:=by rfl):Aw P N av bor w0 loc0 X0 ops (fuel+1) listed ⟨E,loc,X⟩ k:=aX i h hi hs hf hr hsub hg hb hd
theorem bG (i:Nat) (h:Aw P N av bor w0 loc0 X0 ops fuel (listed.setIfInBounds i true) ⟨(n,undef)::E,loc,X⟩ k) (hi:ops[i]?=some ⟨some n,o,ty,pos,af,g⟩:=by rfl) (hs:Region.noSelect ops=true:=by kernel_rfl) (hf:Region.free .any ops listed i=true:=by kernel_rfl) (hr:(Region.ready .any ops listed).contains i=true:=by kernel_rfl) (hsub:∀ w,Gam av bor w0 loc X w→Gam av bor w0 loc0 X0 w:=by exact fi) (hg:gdB ops E g=some (bb,false):=by rfl) (hb:bb=true:=by exact aR) (hd:Nat.blt n N=true:=by rfl):Aw P N av bor w0 loc0 X0 ops (fuel+1) listed ⟨E,loc,X⟩ k:=cV i h hi hs hf hr hsub hg hb hd
theorem dA {A:Prop} (h:A) (hsub:∀ w,Gam av bor w0 loc X w→Gam av bor w0 loc0 X0 w:=by exact fi):(∀ w,Gam av bor w0 loc X w→Gam av bor w0 loc0 X0 w)∧A:=ak h hsub
end
end Go.Proofs.YtfnjklhjngphmaaGreatDoor.Sy
namespace Go.Proofs
open Go.Shelf
def Tryz.len64_ren:Go.Shelf.Ren:=⟨fun|129=>170|n=>n,fun|53=>203|3=>3|4=>4|46=>152|5=>5|9=>9|n=>n,fun|n=>n⟩
theorem Tryz.len64:Go.Proofs.Lays.n129 Tryz.prog Tryz.len64_ren:={
 mixed:=by kernel_rfl
 f129:=Tryz.func170.trans (congrArg some (by kernel_rfl))
 t3:=Tryz.underlying3
 a3:=Tryz.isAgg3
 z3:=Tryz.sizeOf3
 v3:=Tryz.zeroValue3
 t4:=Tryz.underlying4
 a4:=Tryz.isAgg4
 z4:=Tryz.sizeOf4
 v4:=Tryz.zeroValue4
 t5:=Tryz.underlying5
 a5:=Tryz.isAgg5
 z5:=Tryz.sizeOf5
 v5:=Tryz.zeroValue5
 t9:=Tryz.underlying9
 a9:=Tryz.isAgg9
 z9:=Tryz.sizeOf9
 v9:=Tryz.zeroValue9
 t46:=Tryz.underlying152
 a46:=Tryz.isAgg152
 z46:=Tryz.sizeOf152
 v46:=Tryz.zeroValue152
 t53:=Tryz.underlying203
 a53:=Tryz.isAgg203
 z53:=Tryz.sizeOf203
 v53:=Tryz.zeroValue203 }
def Tryz.mul64_ren:Go.Shelf.Ren:=⟨fun|264=>259|n=>n,fun|53=>203|46=>152|n=>n,fun|n=>n⟩
theorem Tryz.mul64:Go.Proofs.Lays.n264 Tryz.prog Tryz.mul64_ren:={
 mixed:=by kernel_rfl
 f264:=Tryz.func259.trans (congrArg some (by kernel_rfl))
 t46:=Tryz.underlying152
 a46:=Tryz.isAgg152
 z46:=Tryz.sizeOf152
 v46:=Tryz.zeroValue152
 t53:=Tryz.underlying203
 a53:=Tryz.isAgg203
 z53:=Tryz.sizeOf203
 v53:=Tryz.zeroValue203 }
def Tryz.join_ren:Go.Shelf.Ren:=⟨fun|156=>202|165=>263|166=>264|169=>265|240=>306|241=>307|276=>336|277=>337|n=>n,fun|31=>39|9=>9|3=>3|4=>4|0=>0|20=>20|72=>283|76=>287|70=>281|37=>139|75=>286|127=>315|164=>337|5=>5|80=>289|n=>n,fun|n=>n⟩
theorem Tryz.join:Go.Proofs.Lays.n156 Tryz.prog Tryz.join_ren:={
 mixed:=by kernel_rfl
 f156:=Tryz.func202.trans (congrArg some (by kernel_rfl))
 f165:=Tryz.func263.trans (congrArg some (by kernel_rfl))
 f166:=Tryz.func264.trans (congrArg some (by kernel_rfl))
 f169:=Tryz.func265.trans (congrArg some (by kernel_rfl))
 f240:=Tryz.func306.trans (congrArg some (by kernel_rfl))
 f241:=Tryz.func307.trans (congrArg some (by kernel_rfl))
 f276:=Tryz.func336.trans (congrArg some (by kernel_rfl))
 f277:=Tryz.func337.trans (congrArg some (by kernel_rfl))
 t0:=Tryz.underlying0
 a0:=Tryz.isAgg0
 z0:=Tryz.sizeOf0
 v0:=Tryz.zeroValue0
 t3:=Tryz.underlying3
 a3:=Tryz.isAgg3
 z3:=Tryz.sizeOf3
 v3:=Tryz.zeroValue3
 t4:=Tryz.underlying4
 a4:=Tryz.isAgg4
 z4:=Tryz.sizeOf4
 v4:=Tryz.zeroValue4
 t9:=Tryz.underlying9
 a9:=Tryz.isAgg9
 z9:=Tryz.sizeOf9
 v9:=Tryz.zeroValue9
 t20:=Tryz.underlying20
 a20:=Tryz.isAgg20
 z20:=Tryz.sizeOf20
 v20:=Tryz.zeroValue20
 t31:=Tryz.underlying39
 a31:=Tryz.isAgg39
 z31:=Tryz.sizeOf39
 v31:=Tryz.zeroValue39
 t37:=Tryz.underlying139
 a37:=Tryz.isAgg139
 z37:=Tryz.sizeOf139
 v37:=Tryz.zeroValue139
 t70:=Tryz.underlying281
 a70:=Tryz.isAgg281
 z70:=Tryz.sizeOf281
 v70:=Tryz.zeroValue281
 t72:=Tryz.underlying283
 a72:=Tryz.isAgg283
 z72:=Tryz.sizeOf283
 v72:=Tryz.zeroValue283
 t75:=Tryz.underlying286
 a75:=Tryz.isAgg286
 z75:=Tryz.sizeOf286
 v75:=Tryz.zeroValue286
 t76:=Tryz.underlying287
 a76:=Tryz.isAgg287
 z76:=Tryz.sizeOf287
 v76:=Tryz.zeroValue287
 t127:=Tryz.underlying315
 a127:=Tryz.isAgg315
 z127:=Tryz.sizeOf315
 v127:=Tryz.zeroValue315
 t164:=Tryz.underlying337
 a164:=Tryz.isAgg337
 z164:=Tryz.sizeOf337
 v164:=Tryz.zeroValue337 }
end Go.Proofs
namespace Go.Proofs.YtfnjklhjngphmaaGreatDoor
open Go Go.Proofs Sy Go.Shelf
theorem lB {P:Program} {f:FuncId} {args:Array Value} {X:World→Prop} {v:Value} (h:∀ w,Calls P f args w fun e w'=>e=.returned v∧w'=w):Pu P f args X v:=by
 unfold Pu
 exact Ct.mk fun w av G=>(h w).mono fun e w' ⟨he,hw⟩=>⟨v,[],X,he,⟨rfl,rfl⟩,by subst hw;exact G⟩
theorem pN (x:Nat) (hx:x<18446744073709551616):Pu Tryz.prog 170 #[.int .u64 (x:Int)] (fun _=>True) (.int .i64 (Lib.bitLen x)) :=
 lB fun w=>by
  have h:=Any.bits_Len64 Tryz.len64 (x:Int) w ag ag
  rw [Int.toNat_natCast] at h
  exact h
theorem pD (x y:Nat) (hx:x<18446744073709551616) (hy:y<18446744073709551616):Pu Tryz.prog 259 #[.int .u64 (x:Int),.int .u64 (y:Int)] (fun _=>True) (.tuple #[.int .u64 ((x*y/18446744073709551616:Nat):Int),.int .u64 ((x*y%18446744073709551616:Nat):Int)]) :=
 lB fun w=>Any.bits_Mul64 Tryz.mul64 x y hx hy w
theorem sY (d:Nat) (hd:d=8∨d=16):Pu Tryz.prog 334 #[.int .u64 ((2305843009213693952-d/8:Nat):Int)] (fun _=>True) (.int .i64 3):=by
 refine aN (args:=[_]) _ Tryz.func334 rfl Tryz.ntmps334 rfl fun av bor w0=>?_
 have h:=pN (2305843009213693952-d/8) ag
 have e:Lib.bitLen (2305843009213693952-d/8)=61:=by rcases hd with rfl|rfl<;>kernel_rfl
 rw [e] at h
 repeat' (first|apply ab|apply aj|apply ai|refine ae ?_|refine ac ?_|refine cJ (h:=?_)|apply aA|(refine aC (hc:=h) (hX:=fun w h=>h) ?_)|fail)
 apply aq;apply aB;rfl;rfl
 rfl
namespace Sy
section
variable {P:Program} {N:Nat} {av bor:List Nat} {w0:World} {st:St} {K:Exit→St→Prop}
theorem iO {ι:Type} {id:Nat} (M:ι→St) {x y:Code} (h1:Cw P N av bor w0 x st (blk id (thn (fun s=>∃ i,∀ a w,Ok N av bor w0 s a w→Ok N av bor w0 (M i) a w) K))) (h2:∀ i,Cw P N av bor w0 y (M i) K) :
  Cw P N av bor w0 x st (blk id (thn (fun s=>Cw P N av bor w0 y s K) K)):=tp (fun e s h=>by
 cases e with
 | normal =>
  obtain ⟨i,hi⟩:=h
  exact yQ hi (h2 i)
 | exit id' =>
  by_cases e:id'=id
  · simp only [blk,if_pos e] at h ⊢
    obtain ⟨i,hi⟩:=h
    exact yQ hi (h2 i)
  · simp only [blk,if_neg e] at h ⊢
    exact h
 | _=>exact h) h1
end
end Sy
theorem cD (x:Int) (h:0≤x∧x<18446744073709551616):IntKind.u64.wrap x=x:=by
 rw [IntKind.wrap_u64]
 omega
theorem vV (x:Int):IntKind.u64.wrap x=x%18446744073709551616:=IntKind.wrap_u64 x
def Eqq (a b:Int):Prop:=a=b
def Hid (p:Prop):Prop:=p
theorem j7 (a b c:Int):IntKind.u64.wrap (IntKind.u64.wrap (IntKind.u64.wrap a+b)-IntKind.u64.wrap c)=(a+b-c)%18446744073709551616:=by
 simp only [vV]
 omega
theorem lW {V M Q z:Nat} (h:V=M*Q+z) (hz:z<M):V/M=Q∧V%M=z:=by
 subst h
 exact ⟨by rw [Nat.mul_add_div ag,Nat.div_eq_of_lt hz,Nat.add_zero],by rw [Nat.mul_add_mod,Nat.mod_eq_of_lt hz]⟩
theorem and32 (a:Nat) (ha:a<18446744073709551616):bitsV .and .u64 (a:Int) 4294967295=((a%4294967296:Nat):Int):=by
 show IntKind.u64.wrap ((((BitVec.ofInt 64 (a:Int)) &&& (BitVec.ofInt 64 4294967295)).toNat:Nat):Int)=_
 have e:(BitVec.ofInt 64 4294967295).toNat=4294967295:=by decide
 rw [BitVec.toNat_and,e,BitVec.ofInt_natCast,BitVec.toNat_ofNat,Nat.mod_eq_of_lt (show a<2 ^ 64 from ha),show (4294967295:Nat)=2 ^ 32-1 by decide,Nat.and_two_pow_sub_one_eq_mod,cD _ (by omega)]
theorem shl3 (a:Nat):shlV .u64 (a:Int) 3=((a*8%18446744073709551616:Nat):Int):=by
 show IntKind.u64.wrap ((a:Int)*2 ^ (min (3:Int).toNat 64))=_
 rw [show (2:Int) ^ (min (3:Int).toNat 64)=8 by kernel_rfl,vV]
 omega
theorem mA (a:Nat) {c:Int} (p:Nat) (hp:(2:Int) ^ (min c.toNat 64)=(p:Int)):shrV .u64 (a:Int) c=((a/p:Nat):Int):=by
 show (a:Int).fdiv (2 ^ (min c.toNat 64))=_
 rw [hp,←Int.ofNat_fdiv]
theorem or3 (a b:Nat) (ha:a<2305843009213693952) (hb:b<8):bitsV .or .u64 ((a*8:Nat):Int) (b:Int)=((a*8+b:Nat):Int):=by
 show IntKind.u64.wrap ((((BitVec.ofInt 64 ((a*8:Nat):Int)) ||| (BitVec.ofInt 64 (b:Int))).toNat:Nat):Int)=_
 rw [BitVec.ofInt_natCast,BitVec.ofInt_natCast,BitVec.toNat_or,BitVec.toNat_ofNat,BitVec.toNat_ofNat,Nat.mod_eq_of_lt (show a*8<2 ^ 64 by omega),Nat.mod_eq_of_lt (show b<2 ^ 64 by omega)]
 have e:a*8 ||| b=a*8+b:=by
  have h:=Nat.shiftLeft_add_eq_or_of_lt (i:=3) (b:=b) hb a
  rw [Nat.shiftLeft_eq] at h
  exact h.symm
 rw [e,cD _ (by omega)]
theorem mO (a b:Nat) (ha:a<18446744073709551616) (hb:0<b):IntKind.u64.wrap ((a:Int).tdiv (b:Int))=((a/b:Nat):Int):=by
 have h:(a:Int).tdiv (b:Int)=((a/b:Nat):Int):=by rw [Int.natCast_ediv,Int.tdiv_eq_ediv_of_nonneg (by omega)]
 have:=Nat.div_le_self a b
 rw [h]
 generalize a/b=c at *
 rw [cD _ (by omega)]
theorem pi (a b:Nat):(a:Int).tmod (b:Int)=((a%b:Nat):Int):=by rw [Int.natCast_emod,Int.tmod_eq_emod_of_nonneg (by omega)]
theorem eF {u v p r:Nat} (isum:(p+1)*4294967295+r=u) (hu:u<18446744073709551608) (hv:v<4294967296) (h:4294967296≤p+1∨4294967296*r+v<(p+1)*4294967288):u*4294967296+v<(p+1)*18446744073709551608:=by
 rcases h with h|h
 · exact Nat.lt_of_lt_of_le (show u*4294967296+v<4294967296*18446744073709551608 by omega) (Nat.mul_le_mul_right 18446744073709551608 h)
 · have e:(p+1)*18446744073709551608=(p+1)*4294967295*4294967296+(p+1)*4294967288:=by rw [Nat.mul_assoc,←Nat.mul_add]
   rw [e,←isum,Nat.add_mul,Nat.add_assoc]
   exact Nat.add_lt_add_left (by rw [Nat.mul_comm r];exact h) _
theorem iM {u v p r:Nat} (isum:(p+1)*4294967295+r=u) (hr:4294967296≤r+4294967295) (itop:p+1≤4294967297):p*18446744073709551608≤u*4294967296+v:=by
 have e:p*18446744073709551608=p*4294967295*4294967296+p*4294967288:=by rw [Nat.mul_assoc,←Nat.mul_add]
 have h1:p*4294967288≤4294967296*4294967296:=Nat.mul_le_mul ag (by decide)
 have hu':u=p*4294967295+(r+4294967295):=by
  rw [←isum,Nat.succ_mul,Nat.add_assoc,Nat.add_comm 4294967295 r]
 rw [hu',Nat.add_mul,e,Nat.add_assoc]
 exact Nat.add_le_add_left (Nat.le_trans h1 (Nat.le_trans (Nat.mul_le_mul_right 4294967296 hr) (Nat.le_add_right _ _))) _
structure DivIP (u v:Nat) where
 q:Nat
 r:Nat
 sum:q*4294967295+r=u
 big:u*4294967296+v<(q+1)*18446744073709551608
 top:q≤4294967297
 lim:r<4294967296
structure DivEP (u v:Nat) where
 q:Nat
 lo:q*18446744073709551608≤u*4294967296+v
 hi:u*4294967296+v<(q+1)*18446744073709551608
set_option maxHeartbeats 4000000 in
set_option maxRecDepth 20000 in
theorem div64P (hi lo:Nat) (hhi:hi<2305843009213693951) (hlo:lo<18446744073709551616) :
  Pu Tryz.prog 304 #[.int .u64 (hi:Int),.int .u64 (lo:Int),.int .u64 2305843009213693951] (fun _=>True)
   (.tuple #[.int .u64 (((hi*18446744073709551616+lo)/2305843009213693951:Nat):Int),.int .u64 (((hi*18446744073709551616+lo)%2305843009213693951:Nat):Int)]):=by
 refine aN (args:=[_,_,_]) _ Tryz.func304 rfl Tryz.ntmps304 rfl fun av bor w0=>?_
 have hz:=sY 8 (by decide)
 repeat' (first|apply ab|apply aj|apply ai|refine ae ?_|refine ac ?_|refine bR ?_|refine cF ?_|refine cJ (h:=?_)|apply ay|refine lj ?_|refine oK ?_|refine nE ?_|refine eI (h:=?_)|refine dH (h:=?_)|(refine aC (hc:=hz) (hX:=fun w h=>h) ?_)|(refine aO (ht:=?_) (hf:=?_);all_goals (intro hx_;first|have:=aY hx_|have:=aZ hx_)))
 · exfalso;omega
 · exfalso;omega
 · have h0:hi=0:=by omega
   subst h0
   have e1:IntKind.u64.wrap ((lo:Int).tdiv 2305843009213693951)=((lo/2305843009213693951:Nat):Int):=mO lo 2305843009213693951 hlo (by decide)
   have e2:(lo:Int).tmod 2305843009213693951=((lo%2305843009213693951:Nat):Int):=pi lo 2305843009213693951
   (refine bo [] (fun _=>True) ar ?_)
   all_goals refine az 0 ?_
   all_goals refine az 1 ?_
   all_goals (refine az 2 (hy:=by (apply oB (c:=((lo/2305843009213693951:Nat):Int));rfl;rfl;decide;exact e1)) ?_)
   all_goals refine az 3 ?_
   all_goals refine az 4 ?_
   all_goals (refine az 5 (hy:=by (apply oA (c:=((lo%2305843009213693951:Nat):Int));rfl;rfl;decide;exact e2)) ?_)
   all_goals refine az 6 ?_
   all_goals refine az 7 ?_
   all_goals (refine aI ?_)
   all_goals
    repeat' (first|apply aA|fail)
    apply aq;apply cO;rfl;rfl;rfl
    rw [Nat.zero_mul,Nat.zero_add]
 · have e3:IntKind.u64.wrap 3=3:=by kernel_rfl
   have e61:IntKind.u64.wrap (64-3)=61:=by kernel_rfl
   have ey:shlV .u64 2305843009213693951 3=18446744073709551608:=by kernel_rfl
   have ey1:shrV .u64 18446744073709551608 32=4294967295:=by kernel_rfl
   have ey0:bitsV .and .u64 18446744073709551608 4294967295=4294967288:=by kernel_rfl
   have eh:shlV .u64 (hi:Int) 3=((hi*8:Nat):Int):=by rw [shl3,Nat.mod_eq_of_lt (by omega)]
   have el:shrV .u64 (lo:Int) 61=((lo/2305843009213693952:Nat):Int):=mA lo _ ar
   have eo:bitsV .or .u64 ((hi*8:Nat):Int) ((lo/2305843009213693952:Nat):Int)=((hi*8+lo/2305843009213693952:Nat):Int):=or3 hi _ ag ag
   have e10:shlV .u64 (lo:Int) 3=((lo*8%18446744073709551616:Nat):Int):=shl3 lo
   have hU:(hi*18446744073709551616+lo)*8=(hi*8+lo/2305843009213693952)*18446744073709551616+lo*8%18446744073709551616:=by omega
   have hu:hi*8+lo/2305843009213693952<18446744073709551608:=by omega
   have hv:lo*8%18446744073709551616<18446744073709551616:=Nat.mod_lt _ (by decide)
   simp only [e3,e61,ey,ey1,ey0,eh,el,eo,e10]
   clear e3 e61 ey ey1 ey0 eh el eo e10
   generalize hi*8+lo/2305843009213693952=u at *
   generalize lo*8%18446744073709551616=v at *
   have e1:shrV .u64 (v:Int) 32=((v/4294967296:Nat):Int):=mA v _ ar
   have e0:bitsV .and .u64 (v:Int) 4294967295=((v%4294967296:Nat):Int):=and32 v hv
   obtain ⟨v1,v0,hv1,hv0,hvv,hv1l,hv0l⟩:∃ v1 v0:Nat,v/4294967296=v1∧v%4294967296=v0∧v=v1*4294967296+v0∧v1<4294967296∧v0<4294967296:=⟨_,_,rfl,rfl,by omega,by omega,by omega⟩
   simp only [e1,e0,hv1,hv0]
   clear e1 e0 hv1 hv0
   subst hvv
   obtain ⟨V,hV⟩:∃ V,hi*18446744073709551616+lo=V:=⟨_,rfl⟩
   rw [hV] at hU ⊢
   have hUh:Hid (V*8=u*18446744073709551616+(v1*4294967296+v0)):=hU
   clear hU hV hv hhi hlo
   have hq1:Eqq (IntKind.u64.wrap ((u:Int).tdiv 4294967295)) ((u/4294967295:Nat):Int):=mO u 4294967295 ag (by decide)
   repeat' (first|refine ld (hb:=by decide) (hc:=hq1) ?_|refine dw (hc:=cD _ ag) (h:=?_)|refine cJ (hc:=cD _ ag) (h:=?_)|apply ab|apply aj|apply ai|refine ae ?_|refine ac ?_|apply aw|fail)
   refine iO (ι:=DivEP u v1) (fun i=>⟨[(2,.int .u64 18446744073709551608),(8,.int .u64 3),(9,.int .u64 4294967295),(10,.int .u64 4294967288),(11,.int .u64 (u:Nat)),(13,.int .u64 (v1:Int)),(14,.int .u64 (v0:Int)),(15,.int .u64 (i.q:Nat))],[],fun _=>True⟩) ?_ fun i=>?_
   · refine be (ι:=DivIP u v1) (fun i=>⟨[(2,.int .u64 18446744073709551608),(8,.int .u64 3),(9,.int .u64 4294967295),(10,.int .u64 4294967288),(11,.int .u64 (u:Nat)),(13,.int .u64 (v1:Int)),(14,.int .u64 (v0:Int)),(15,.int .u64 (i.q:Nat)),(16,.int .u64 (i.r:Nat))],[],fun _=>True⟩) (fun i=>4294967296-i.r) ⟨u/4294967295,u%4294967295,by omega,by omega,by omega,by omega⟩
      (aF ⟨rfl,rfl,rfl,rfl,rfl,rfl,rfl,rfl,by show some (Value.int .u64 ((u:Int)-((u/4294967295:Nat):Int)*4294967295))=some (Value.int .u64 ((u%4294967295:Nat):Int));congr 2;omega,trivial⟩ (List.nil_sublist _) fun _ h=>h) fun i=>?_
     obtain ⟨q,r,isum,ibig,itop,ilim⟩:=i
     simp only
     repeat' (first|refine dw (hc:=cD _ ag) (h:=?_)|refine cJ (hc:=cD _ ag) (h:=?_)|refine bm (hc:=cD _ ag) (h:=?_)|apply ab|apply aj|apply ai|refine ae ?_|refine ac ?_|refine aJ ?_|refine aH ?_|refine cP ?_|refine cL ?_|refine bI ?_|refine aE ?_|apply ay|apply aw|apply aV|((fail_if_success (refine bA ?_));refine bj (ht:=?_) (hf:=?_);all_goals (intro hx_;first|have:=aY hx_|have:=aZ hx_))|(refine aO (ht:=?_) (hf:=?_);all_goals (intro hx_;first|have:=aY hx_|have:=aZ hx_)))
     · cases q with
       | zero=>exfalso;omega
       | succ p =>
        have f2:u*4294967296+v1<(p+1)*18446744073709551608:=eF isum hu hv1l (Or.inl ag)
        have f3:((p+1:Nat):Int)-1=(p:Int):=by omega
        have f1:p*18446744073709551608≤u*4294967296+v1:=iM isum ag itop
        exact ⟨⟨p,f1,f2⟩,aF ⟨rfl,rfl,rfl,rfl,rfl,rfl,rfl,by show some (Value.int .u64 (((p+1:Nat):Int)-1))=some (Value.int .u64 (p:Int));rw [f3],trivial⟩ (List.nil_sublist _) fun _ h=>h⟩
     · cases q with
       | zero=>exfalso;omega
       | succ p =>
        have f2:u*4294967296+v1<(p+1)*18446744073709551608:=eF isum hu hv1l (Or.inl ag)
        have f3:((p+1:Nat):Int)-1=(p:Int):=by omega
        have g1:p*4294967295+(r+4294967295)=u:=by rw [←isum,Nat.succ_mul,Nat.add_assoc,Nat.add_comm 4294967295 r]
        have g3:p≤4294967297:=by omega
        have g4:r+4294967295<4294967296:=by omega
        have g5:4294967296-(r+4294967295)<4294967296-r:=by omega
        exact ⟨⟨p,r+4294967295,g1,f2,g3,g4⟩,g5,aF ⟨rfl,rfl,rfl,rfl,rfl,rfl,rfl,by show some (Value.int .u64 (((p+1:Nat):Int)-1))=some (Value.int .u64 (p:Int));rw [f3],rfl,trivial⟩ (List.nil_sublist _) fun _ h=>h⟩
     · cases q with
       | zero=>exfalso;omega
       | succ p =>
        have f2:u*4294967296+v1<(p+1)*18446744073709551608:=eF isum hu hv1l (Or.inr ag)
        have f3:((p+1:Nat):Int)-1=(p:Int):=by omega
        have f1:p*18446744073709551608≤u*4294967296+v1:=iM isum ag itop
        exact ⟨⟨p,f1,f2⟩,aF ⟨rfl,rfl,rfl,rfl,rfl,rfl,rfl,by show some (Value.int .u64 (((p+1:Nat):Int)-1))=some (Value.int .u64 (p:Int));rw [f3],trivial⟩ (List.nil_sublist _) fun _ h=>h⟩
     · cases q with
       | zero=>exfalso;omega
       | succ p =>
        have f2:u*4294967296+v1<(p+1)*18446744073709551608:=eF isum hu hv1l (Or.inr ag)
        have f3:((p+1:Nat):Int)-1=(p:Int):=by omega
        have g1:p*4294967295+(r+4294967295)=u:=by rw [←isum,Nat.succ_mul,Nat.add_assoc,Nat.add_comm 4294967295 r]
        have g3:p≤4294967297:=by omega
        have g4:r+4294967295<4294967296:=by omega
        have g5:4294967296-(r+4294967295)<4294967296-r:=by omega
        exact ⟨⟨p,r+4294967295,g1,f2,g3,g4⟩,g5,aF ⟨rfl,rfl,rfl,rfl,rfl,rfl,rfl,by show some (Value.int .u64 (((p+1:Nat):Int)-1))=some (Value.int .u64 (p:Int));rw [f3],rfl,trivial⟩ (List.nil_sublist _) fun _ h=>h⟩
     · exact ⟨⟨q,by omega,by omega⟩,aF ⟨rfl,rfl,rfl,rfl,rfl,rfl,rfl,rfl,trivial⟩ (List.nil_sublist _) fun _ h=>h⟩
   · obtain ⟨q1,q1lo,q1hi⟩:=i
     simp only
     obtain ⟨x,hx,hxY⟩:∃ x:Nat,u*4294967296+v1=q1*18446744073709551608+x∧x<18446744073709551608:=⟨u*4294967296+v1-q1*18446744073709551608,by omega,by omega⟩
     have h17:Eqq (IntKind.u64.wrap (IntKind.u64.wrap (IntKind.u64.wrap ((u:Int)*4294967296)+(v1:Int))-IntKind.u64.wrap ((q1:Int)*18446744073709551608))) (x:Int):=by
      unfold Eqq
      rw [j7,show (u:Int)*4294967296+(v1:Int)-(q1:Int)*18446744073709551608=(x:Int) by omega]
      omega
     have hq0:Eqq (IntKind.u64.wrap ((x:Int).tdiv 4294967295)) ((x/4294967295:Nat):Int):=mO x 4294967295 ag (by decide)
     have hq1l:q1<4294967296:=by omega
     repeat' (first|refine cJ (hc:=h17) (h:=?_)|refine dw (hc:=rfl) (h:=?_)|refine bm (hc:=rfl) (h:=?_)|apply ab|apply aj|apply ai|refine ae ?_|refine ac ?_|fail)
     clear h17
     repeat' (first|refine ld (hb:=by decide) (hc:=hq0) ?_|refine dw (hc:=cD _ ag) (h:=?_)|refine cJ (hc:=cD _ ag) (h:=?_)|apply ab|apply aj|apply ai|refine ae ?_|refine ac ?_|apply aw|fail)
     have hxh:Hid (u*4294967296+v1=q1*18446744073709551608+x):=hx
     clear hx q1lo q1hi hu
     refine iO (ι:=DivEP x v0) (fun i=>⟨[(2,.int .u64 18446744073709551608),(8,.int .u64 3),(14,.int .u64 (v0:Int)),(15,.int .u64 (q1:Nat)),(17,.int .u64 (x:Nat)),(18,.int .u64 (i.q:Nat))],[],fun _=>True⟩) ?_ fun i=>?_
     · refine be (ι:=DivIP x v0) (fun i=>⟨[(2,.int .u64 18446744073709551608),(8,.int .u64 3),(9,.int .u64 4294967295),(10,.int .u64 4294967288),(14,.int .u64 (v0:Int)),(15,.int .u64 (q1:Nat)),(17,.int .u64 (x:Nat)),(18,.int .u64 (i.q:Nat)),(16,.int .u64 (i.r:Nat))],[],fun _=>True⟩) (fun i=>4294967296-i.r) ⟨x/4294967295,x%4294967295,by omega,by omega,by omega,by omega⟩
        (aF ⟨rfl,rfl,rfl,rfl,rfl,rfl,rfl,rfl,by show some (Value.int .u64 ((x:Int)-((x/4294967295:Nat):Int)*4294967295))=some (Value.int .u64 ((x%4294967295:Nat):Int));congr 2;omega,trivial⟩ (List.nil_sublist _) fun _ h=>h) fun i=>?_
       obtain ⟨q,r,isum,ibig,itop,ilim⟩:=i
       simp only
       repeat' (first|refine dw (hc:=cD _ ag) (h:=?_)|refine cJ (hc:=cD _ ag) (h:=?_)|refine bm (hc:=cD _ ag) (h:=?_)|apply ab|apply aj|apply ai|refine ae ?_|refine ac ?_|refine aJ ?_|refine aH ?_|refine cP ?_|refine cL ?_|refine bI ?_|refine aE ?_|apply ay|apply aw|apply aV|((fail_if_success (refine bA ?_));refine bj (ht:=?_) (hf:=?_);all_goals (intro hx_;first|have:=aY hx_|have:=aZ hx_))|(refine aO (ht:=?_) (hf:=?_);all_goals (intro hx_;first|have:=aY hx_|have:=aZ hx_)))
       · cases q with
         | zero=>exfalso;omega
         | succ p =>
          have f2:x*4294967296+v0<(p+1)*18446744073709551608:=eF isum hxY hv0l (Or.inl ag)
          have f3:((p+1:Nat):Int)-1=(p:Int):=by omega
          have f1:p*18446744073709551608≤x*4294967296+v0:=iM isum ag itop
          exact ⟨⟨p,f1,f2⟩,aF ⟨rfl,rfl,rfl,rfl,rfl,by show some (Value.int .u64 (((p+1:Nat):Int)-1))=some (Value.int .u64 (p:Int));rw [f3],trivial⟩ (List.nil_sublist _) fun _ h=>h⟩
       · cases q with
         | zero=>exfalso;omega
         | succ p =>
          have f2:x*4294967296+v0<(p+1)*18446744073709551608:=eF isum hxY hv0l (Or.inl ag)
          have f3:((p+1:Nat):Int)-1=(p:Int):=by omega
          have g1:p*4294967295+(r+4294967295)=x:=by rw [←isum,Nat.succ_mul,Nat.add_assoc,Nat.add_comm 4294967295 r]
          have g3:p≤4294967297:=by omega
          have g4:r+4294967295<4294967296:=by omega
          have g5:4294967296-(r+4294967295)<4294967296-r:=by omega
          exact ⟨⟨p,r+4294967295,g1,f2,g3,g4⟩,g5,aF ⟨rfl,rfl,rfl,rfl,rfl,rfl,rfl,by show some (Value.int .u64 (((p+1:Nat):Int)-1))=some (Value.int .u64 (p:Int));rw [f3],rfl,trivial⟩ (List.nil_sublist _) fun _ h=>h⟩
       · cases q with
         | zero=>exfalso;omega
         | succ p =>
          have f2:x*4294967296+v0<(p+1)*18446744073709551608:=eF isum hxY hv0l (Or.inr ag)
          have f3:((p+1:Nat):Int)-1=(p:Int):=by omega
          have f1:p*18446744073709551608≤x*4294967296+v0:=iM isum ag itop
          exact ⟨⟨p,f1,f2⟩,aF ⟨rfl,rfl,rfl,rfl,rfl,by show some (Value.int .u64 (((p+1:Nat):Int)-1))=some (Value.int .u64 (p:Int));rw [f3],trivial⟩ (List.nil_sublist _) fun _ h=>h⟩
       · cases q with
         | zero=>exfalso;omega
         | succ p =>
          have f2:x*4294967296+v0<(p+1)*18446744073709551608:=eF isum hxY hv0l (Or.inr ag)
          have f3:((p+1:Nat):Int)-1=(p:Int):=by omega
          have g1:p*4294967295+(r+4294967295)=x:=by rw [←isum,Nat.succ_mul,Nat.add_assoc,Nat.add_comm 4294967295 r]
          have g3:p≤4294967297:=by omega
          have g4:r+4294967295<4294967296:=by omega
          have g5:4294967296-(r+4294967295)<4294967296-r:=by omega
          exact ⟨⟨p,r+4294967295,g1,f2,g3,g4⟩,g5,aF ⟨rfl,rfl,rfl,rfl,rfl,rfl,rfl,by show some (Value.int .u64 (((p+1:Nat):Int)-1))=some (Value.int .u64 (p:Int));rw [f3],rfl,trivial⟩ (List.nil_sublist _) fun _ h=>h⟩
       · exact ⟨⟨q,by omega,by omega⟩,aF ⟨rfl,rfl,rfl,rfl,rfl,rfl,trivial⟩ (List.nil_sublist _) fun _ h=>h⟩
     · obtain ⟨q0,q0lo,q0hi⟩:=i
       simp only
       obtain ⟨y,hy,hyY⟩:∃ y:Nat,x*4294967296+v0=q0*18446744073709551608+y∧y<18446744073709551608:=⟨x*4294967296+v0-q0*18446744073709551608,by omega,by omega⟩
       have h132:Eqq (IntKind.u64.wrap (IntKind.u64.wrap (IntKind.u64.wrap ((x:Int)*4294967296)+(v0:Int))-IntKind.u64.wrap ((q0:Int)*18446744073709551608))) (y:Int):=by
        unfold Eqq
        rw [j7,show (x:Int)*4294967296+(v0:Int)-(q0:Int)*18446744073709551608=(y:Int) by omega]
        omega
       have hq1:Eqq (IntKind.u64.wrap (IntKind.u64.wrap ((q1:Int)*4294967296)+(q0:Int))) ((q1:Int)*4294967296+(q0:Int)):=by unfold Eqq;rw [cD ((q1:Int)*4294967296) ag,cD _ (by omega)]
       repeat' (first|refine cJ (hc:=h132) (h:=?_)|apply ab|apply aj|apply ai|refine ae ?_|refine ac ?_|refine bm (h:=?_)|apply aA|refine eI (h:=?_)|refine dw (h:=?_)|fail)
       have h3:Eqq (shrV .u64 (y:Int) 3) ((y/8:Nat):Int):=mA y 8 ar
       have hx:u*4294967296+v1=q1*18446744073709551608+x:=hxh
       have hU:V*8=u*18446744073709551616+(v1*4294967296+v0):=hUh
       obtain ⟨hA,hB⟩:=lW (V:=V) (M:=2305843009213693951) (Q:=q1*4294967296+q0) (z:=y/8) ag ag
       apply aq;apply cO;rfl;rfl;rfl
       unfold Eqq at h3 hq1
       rw [hA,hB,h3,hq1,Int.natCast_add,Int.natCast_mul]
       rfl
theorem eG {u v p r:Nat} (isum:(p+1)*4294967295+r=u) (hu:u<18446744073709551600) (hv:v<4294967296) (h:4294967296≤p+1∨4294967296*r+v<(p+1)*4294967280):u*4294967296+v<(p+1)*18446744073709551600:=by
 rcases h with h|h
 · exact Nat.lt_of_lt_of_le (show u*4294967296+v<4294967296*18446744073709551600 by omega) (Nat.mul_le_mul_right 18446744073709551600 h)
 · have e:(p+1)*18446744073709551600=(p+1)*4294967295*4294967296+(p+1)*4294967280:=by rw [Nat.mul_assoc,←Nat.mul_add]
   rw [e,←isum,Nat.add_mul,Nat.add_assoc]
   exact Nat.add_lt_add_left (by rw [Nat.mul_comm r];exact h) _
theorem iN {u v p r:Nat} (isum:(p+1)*4294967295+r=u) (hr:4294967296≤r+4294967295) (itop:p+1≤4294967297):p*18446744073709551600≤u*4294967296+v:=by
 have e:p*18446744073709551600=p*4294967295*4294967296+p*4294967280:=by rw [Nat.mul_assoc,←Nat.mul_add]
 have h1:p*4294967280≤4294967296*4294967296:=Nat.mul_le_mul ag (by decide)
 have hu':u=p*4294967295+(r+4294967295):=by
  rw [←isum,Nat.succ_mul,Nat.add_assoc,Nat.add_comm 4294967295 r]
 rw [hu',Nat.add_mul,e,Nat.add_assoc]
 exact Nat.add_le_add_left (Nat.le_trans h1 (Nat.le_trans (Nat.mul_le_mul_right 4294967296 hr) (Nat.le_add_right _ _))) _
structure DivIN (u v:Nat) where
 q:Nat
 r:Nat
 sum:q*4294967295+r=u
 big:u*4294967296+v<(q+1)*18446744073709551600
 top:q≤4294967297
 lim:r<4294967296
structure DivEN (u v:Nat) where
 q:Nat
 lo:q*18446744073709551600≤u*4294967296+v
 hi:u*4294967296+v<(q+1)*18446744073709551600
set_option maxHeartbeats 4000000 in
set_option maxRecDepth 20000 in
theorem div64N (hi lo:Nat) (hhi:hi<2305843009213693950) (hlo:lo<18446744073709551616) :
  Pu Tryz.prog 304 #[.int .u64 (hi:Int),.int .u64 (lo:Int),.int .u64 2305843009213693950] (fun _=>True)
   (.tuple #[.int .u64 (((hi*18446744073709551616+lo)/2305843009213693950:Nat):Int),.int .u64 (((hi*18446744073709551616+lo)%2305843009213693950:Nat):Int)]):=by
 refine aN (args:=[_,_,_]) _ Tryz.func304 rfl Tryz.ntmps304 rfl fun av bor w0=>?_
 have hz:=sY 16 (by decide)
 repeat' (first|apply ab|apply aj|apply ai|refine ae ?_|refine ac ?_|refine bR ?_|refine cF ?_|refine cJ (h:=?_)|apply ay|refine lj ?_|refine oK ?_|refine nE ?_|refine eI (h:=?_)|refine dH (h:=?_)|(refine aC (hc:=hz) (hX:=fun w h=>h) ?_)|(refine aO (ht:=?_) (hf:=?_);all_goals (intro hx_;first|have:=aY hx_|have:=aZ hx_)))
 · exfalso;omega
 · exfalso;omega
 · have h0:hi=0:=by omega
   subst h0
   have e1:IntKind.u64.wrap ((lo:Int).tdiv 2305843009213693950)=((lo/2305843009213693950:Nat):Int):=mO lo 2305843009213693950 hlo (by decide)
   have e2:(lo:Int).tmod 2305843009213693950=((lo%2305843009213693950:Nat):Int):=pi lo 2305843009213693950
   (refine bo [] (fun _=>True) ar ?_)
   all_goals refine az 0 ?_
   all_goals refine az 1 ?_
   all_goals (refine az 2 (hy:=by (apply oB (c:=((lo/2305843009213693950:Nat):Int));rfl;rfl;decide;exact e1)) ?_)
   all_goals refine az 3 ?_
   all_goals refine az 4 ?_
   all_goals (refine az 5 (hy:=by (apply oA (c:=((lo%2305843009213693950:Nat):Int));rfl;rfl;decide;exact e2)) ?_)
   all_goals refine az 6 ?_
   all_goals refine az 7 ?_
   all_goals (refine aI ?_)
   all_goals
    repeat' (first|apply aA|fail)
    apply aq;apply cO;rfl;rfl;rfl
    rw [Nat.zero_mul,Nat.zero_add]
 · have e3:IntKind.u64.wrap 3=3:=by kernel_rfl
   have e61:IntKind.u64.wrap (64-3)=61:=by kernel_rfl
   have ey:shlV .u64 2305843009213693950 3=18446744073709551600:=by kernel_rfl
   have ey1:shrV .u64 18446744073709551600 32=4294967295:=by kernel_rfl
   have ey0:bitsV .and .u64 18446744073709551600 4294967295=4294967280:=by kernel_rfl
   have eh:shlV .u64 (hi:Int) 3=((hi*8:Nat):Int):=by rw [shl3,Nat.mod_eq_of_lt (by omega)]
   have el:shrV .u64 (lo:Int) 61=((lo/2305843009213693952:Nat):Int):=mA lo _ ar
   have eo:bitsV .or .u64 ((hi*8:Nat):Int) ((lo/2305843009213693952:Nat):Int)=((hi*8+lo/2305843009213693952:Nat):Int):=or3 hi _ ag ag
   have e10:shlV .u64 (lo:Int) 3=((lo*8%18446744073709551616:Nat):Int):=shl3 lo
   have hU:(hi*18446744073709551616+lo)*8=(hi*8+lo/2305843009213693952)*18446744073709551616+lo*8%18446744073709551616:=by omega
   have hu:hi*8+lo/2305843009213693952<18446744073709551600:=by omega
   have hv:lo*8%18446744073709551616<18446744073709551616:=Nat.mod_lt _ (by decide)
   simp only [e3,e61,ey,ey1,ey0,eh,el,eo,e10]
   clear e3 e61 ey ey1 ey0 eh el eo e10
   generalize hi*8+lo/2305843009213693952=u at *
   generalize lo*8%18446744073709551616=v at *
   have e1:shrV .u64 (v:Int) 32=((v/4294967296:Nat):Int):=mA v _ ar
   have e0:bitsV .and .u64 (v:Int) 4294967295=((v%4294967296:Nat):Int):=and32 v hv
   obtain ⟨v1,v0,hv1,hv0,hvv,hv1l,hv0l⟩:∃ v1 v0:Nat,v/4294967296=v1∧v%4294967296=v0∧v=v1*4294967296+v0∧v1<4294967296∧v0<4294967296:=⟨_,_,rfl,rfl,by omega,by omega,by omega⟩
   simp only [e1,e0,hv1,hv0]
   clear e1 e0 hv1 hv0
   subst hvv
   obtain ⟨V,hV⟩:∃ V,hi*18446744073709551616+lo=V:=⟨_,rfl⟩
   rw [hV] at hU ⊢
   have hUh:Hid (V*8=u*18446744073709551616+(v1*4294967296+v0)):=hU
   clear hU hV hv hhi hlo
   have hq1:Eqq (IntKind.u64.wrap ((u:Int).tdiv 4294967295)) ((u/4294967295:Nat):Int):=mO u 4294967295 ag (by decide)
   repeat' (first|refine ld (hb:=by decide) (hc:=hq1) ?_|refine dw (hc:=cD _ ag) (h:=?_)|refine cJ (hc:=cD _ ag) (h:=?_)|apply ab|apply aj|apply ai|refine ae ?_|refine ac ?_|apply aw|fail)
   refine iO (ι:=DivEN u v1) (fun i=>⟨[(2,.int .u64 18446744073709551600),(8,.int .u64 3),(9,.int .u64 4294967295),(10,.int .u64 4294967280),(11,.int .u64 (u:Nat)),(13,.int .u64 (v1:Int)),(14,.int .u64 (v0:Int)),(15,.int .u64 (i.q:Nat))],[],fun _=>True⟩) ?_ fun i=>?_
   · refine be (ι:=DivIN u v1) (fun i=>⟨[(2,.int .u64 18446744073709551600),(8,.int .u64 3),(9,.int .u64 4294967295),(10,.int .u64 4294967280),(11,.int .u64 (u:Nat)),(13,.int .u64 (v1:Int)),(14,.int .u64 (v0:Int)),(15,.int .u64 (i.q:Nat)),(16,.int .u64 (i.r:Nat))],[],fun _=>True⟩) (fun i=>4294967296-i.r) ⟨u/4294967295,u%4294967295,by omega,by omega,by omega,by omega⟩
      (aF ⟨rfl,rfl,rfl,rfl,rfl,rfl,rfl,rfl,by show some (Value.int .u64 ((u:Int)-((u/4294967295:Nat):Int)*4294967295))=some (Value.int .u64 ((u%4294967295:Nat):Int));congr 2;omega,trivial⟩ (List.nil_sublist _) fun _ h=>h) fun i=>?_
     obtain ⟨q,r,isum,ibig,itop,ilim⟩:=i
     simp only
     repeat' (first|refine dw (hc:=cD _ ag) (h:=?_)|refine cJ (hc:=cD _ ag) (h:=?_)|refine bm (hc:=cD _ ag) (h:=?_)|apply ab|apply aj|apply ai|refine ae ?_|refine ac ?_|refine aJ ?_|refine aH ?_|refine cP ?_|refine cL ?_|refine bI ?_|refine aE ?_|apply ay|apply aw|apply aV|((fail_if_success (refine bA ?_));refine bj (ht:=?_) (hf:=?_);all_goals (intro hx_;first|have:=aY hx_|have:=aZ hx_))|(refine aO (ht:=?_) (hf:=?_);all_goals (intro hx_;first|have:=aY hx_|have:=aZ hx_)))
     · cases q with
       | zero=>exfalso;omega
       | succ p =>
        have f2:u*4294967296+v1<(p+1)*18446744073709551600:=eG isum hu hv1l (Or.inl ag)
        have f3:((p+1:Nat):Int)-1=(p:Int):=by omega
        have f1:p*18446744073709551600≤u*4294967296+v1:=iN isum ag itop
        exact ⟨⟨p,f1,f2⟩,aF ⟨rfl,rfl,rfl,rfl,rfl,rfl,rfl,by show some (Value.int .u64 (((p+1:Nat):Int)-1))=some (Value.int .u64 (p:Int));rw [f3],trivial⟩ (List.nil_sublist _) fun _ h=>h⟩
     · cases q with
       | zero=>exfalso;omega
       | succ p =>
        have f2:u*4294967296+v1<(p+1)*18446744073709551600:=eG isum hu hv1l (Or.inl ag)
        have f3:((p+1:Nat):Int)-1=(p:Int):=by omega
        have g1:p*4294967295+(r+4294967295)=u:=by rw [←isum,Nat.succ_mul,Nat.add_assoc,Nat.add_comm 4294967295 r]
        have g3:p≤4294967297:=by omega
        have g4:r+4294967295<4294967296:=by omega
        have g5:4294967296-(r+4294967295)<4294967296-r:=by omega
        exact ⟨⟨p,r+4294967295,g1,f2,g3,g4⟩,g5,aF ⟨rfl,rfl,rfl,rfl,rfl,rfl,rfl,by show some (Value.int .u64 (((p+1:Nat):Int)-1))=some (Value.int .u64 (p:Int));rw [f3],rfl,trivial⟩ (List.nil_sublist _) fun _ h=>h⟩
     · cases q with
       | zero=>exfalso;omega
       | succ p =>
        have f2:u*4294967296+v1<(p+1)*18446744073709551600:=eG isum hu hv1l (Or.inr ag)
        have f3:((p+1:Nat):Int)-1=(p:Int):=by omega
        have f1:p*18446744073709551600≤u*4294967296+v1:=iN isum ag itop
        exact ⟨⟨p,f1,f2⟩,aF ⟨rfl,rfl,rfl,rfl,rfl,rfl,rfl,by show some (Value.int .u64 (((p+1:Nat):Int)-1))=some (Value.int .u64 (p:Int));rw [f3],trivial⟩ (List.nil_sublist _) fun _ h=>h⟩
     · cases q with
       | zero=>exfalso;omega
       | succ p =>
        have f2:u*4294967296+v1<(p+1)*18446744073709551600:=eG isum hu hv1l (Or.inr ag)
        have f3:((p+1:Nat):Int)-1=(p:Int):=by omega
        have g1:p*4294967295+(r+4294967295)=u:=by rw [←isum,Nat.succ_mul,Nat.add_assoc,Nat.add_comm 4294967295 r]
        have g3:p≤4294967297:=by omega
        have g4:r+4294967295<4294967296:=by omega
        have g5:4294967296-(r+4294967295)<4294967296-r:=by omega
        exact ⟨⟨p,r+4294967295,g1,f2,g3,g4⟩,g5,aF ⟨rfl,rfl,rfl,rfl,rfl,rfl,rfl,by show some (Value.int .u64 (((p+1:Nat):Int)-1))=some (Value.int .u64 (p:Int));rw [f3],rfl,trivial⟩ (List.nil_sublist _) fun _ h=>h⟩
     · exact ⟨⟨q,by omega,by omega⟩,aF ⟨rfl,rfl,rfl,rfl,rfl,rfl,rfl,rfl,trivial⟩ (List.nil_sublist _) fun _ h=>h⟩
   · obtain ⟨q1,q1lo,q1hi⟩:=i
     simp only
     obtain ⟨x,hx,hxY⟩:∃ x:Nat,u*4294967296+v1=q1*18446744073709551600+x∧x<18446744073709551600:=⟨u*4294967296+v1-q1*18446744073709551600,by omega,by omega⟩
     have h17:Eqq (IntKind.u64.wrap (IntKind.u64.wrap (IntKind.u64.wrap ((u:Int)*4294967296)+(v1:Int))-IntKind.u64.wrap ((q1:Int)*18446744073709551600))) (x:Int):=by
      unfold Eqq
      rw [j7,show (u:Int)*4294967296+(v1:Int)-(q1:Int)*18446744073709551600=(x:Int) by omega]
      omega
     have hq0:Eqq (IntKind.u64.wrap ((x:Int).tdiv 4294967295)) ((x/4294967295:Nat):Int):=mO x 4294967295 ag (by decide)
     have hq1l:q1<4294967296:=by omega
     repeat' (first|refine cJ (hc:=h17) (h:=?_)|refine dw (hc:=rfl) (h:=?_)|refine bm (hc:=rfl) (h:=?_)|apply ab|apply aj|apply ai|refine ae ?_|refine ac ?_|fail)
     clear h17
     repeat' (first|refine ld (hb:=by decide) (hc:=hq0) ?_|refine dw (hc:=cD _ ag) (h:=?_)|refine cJ (hc:=cD _ ag) (h:=?_)|apply ab|apply aj|apply ai|refine ae ?_|refine ac ?_|apply aw|fail)
     have hxh:Hid (u*4294967296+v1=q1*18446744073709551600+x):=hx
     clear hx q1lo q1hi hu
     refine iO (ι:=DivEN x v0) (fun i=>⟨[(2,.int .u64 18446744073709551600),(8,.int .u64 3),(14,.int .u64 (v0:Int)),(15,.int .u64 (q1:Nat)),(17,.int .u64 (x:Nat)),(18,.int .u64 (i.q:Nat))],[],fun _=>True⟩) ?_ fun i=>?_
     · refine be (ι:=DivIN x v0) (fun i=>⟨[(2,.int .u64 18446744073709551600),(8,.int .u64 3),(9,.int .u64 4294967295),(10,.int .u64 4294967280),(14,.int .u64 (v0:Int)),(15,.int .u64 (q1:Nat)),(17,.int .u64 (x:Nat)),(18,.int .u64 (i.q:Nat)),(16,.int .u64 (i.r:Nat))],[],fun _=>True⟩) (fun i=>4294967296-i.r) ⟨x/4294967295,x%4294967295,by omega,by omega,by omega,by omega⟩
        (aF ⟨rfl,rfl,rfl,rfl,rfl,rfl,rfl,rfl,by show some (Value.int .u64 ((x:Int)-((x/4294967295:Nat):Int)*4294967295))=some (Value.int .u64 ((x%4294967295:Nat):Int));congr 2;omega,trivial⟩ (List.nil_sublist _) fun _ h=>h) fun i=>?_
       obtain ⟨q,r,isum,ibig,itop,ilim⟩:=i
       simp only
       repeat' (first|refine dw (hc:=cD _ ag) (h:=?_)|refine cJ (hc:=cD _ ag) (h:=?_)|refine bm (hc:=cD _ ag) (h:=?_)|apply ab|apply aj|apply ai|refine ae ?_|refine ac ?_|refine aJ ?_|refine aH ?_|refine cP ?_|refine cL ?_|refine bI ?_|refine aE ?_|apply ay|apply aw|apply aV|((fail_if_success (refine bA ?_));refine bj (ht:=?_) (hf:=?_);all_goals (intro hx_;first|have:=aY hx_|have:=aZ hx_))|(refine aO (ht:=?_) (hf:=?_);all_goals (intro hx_;first|have:=aY hx_|have:=aZ hx_)))
       · cases q with
         | zero=>exfalso;omega
         | succ p =>
          have f2:x*4294967296+v0<(p+1)*18446744073709551600:=eG isum hxY hv0l (Or.inl ag)
          have f3:((p+1:Nat):Int)-1=(p:Int):=by omega
          have f1:p*18446744073709551600≤x*4294967296+v0:=iN isum ag itop
          exact ⟨⟨p,f1,f2⟩,aF ⟨rfl,rfl,rfl,rfl,rfl,by show some (Value.int .u64 (((p+1:Nat):Int)-1))=some (Value.int .u64 (p:Int));rw [f3],trivial⟩ (List.nil_sublist _) fun _ h=>h⟩
       · cases q with
         | zero=>exfalso;omega
         | succ p =>
          have f2:x*4294967296+v0<(p+1)*18446744073709551600:=eG isum hxY hv0l (Or.inl ag)
          have f3:((p+1:Nat):Int)-1=(p:Int):=by omega
          have g1:p*4294967295+(r+4294967295)=x:=by rw [←isum,Nat.succ_mul,Nat.add_assoc,Nat.add_comm 4294967295 r]
          have g3:p≤4294967297:=by omega
          have g4:r+4294967295<4294967296:=by omega
          have g5:4294967296-(r+4294967295)<4294967296-r:=by omega
          exact ⟨⟨p,r+4294967295,g1,f2,g3,g4⟩,g5,aF ⟨rfl,rfl,rfl,rfl,rfl,rfl,rfl,by show some (Value.int .u64 (((p+1:Nat):Int)-1))=some (Value.int .u64 (p:Int));rw [f3],rfl,trivial⟩ (List.nil_sublist _) fun _ h=>h⟩
       · cases q with
         | zero=>exfalso;omega
         | succ p =>
          have f2:x*4294967296+v0<(p+1)*18446744073709551600:=eG isum hxY hv0l (Or.inr ag)
          have f3:((p+1:Nat):Int)-1=(p:Int):=by omega
          have f1:p*18446744073709551600≤x*4294967296+v0:=iN isum ag itop
          exact ⟨⟨p,f1,f2⟩,aF ⟨rfl,rfl,rfl,rfl,rfl,by show some (Value.int .u64 (((p+1:Nat):Int)-1))=some (Value.int .u64 (p:Int));rw [f3],trivial⟩ (List.nil_sublist _) fun _ h=>h⟩
       · cases q with
         | zero=>exfalso;omega
         | succ p =>
          have f2:x*4294967296+v0<(p+1)*18446744073709551600:=eG isum hxY hv0l (Or.inr ag)
          have f3:((p+1:Nat):Int)-1=(p:Int):=by omega
          have g1:p*4294967295+(r+4294967295)=x:=by rw [←isum,Nat.succ_mul,Nat.add_assoc,Nat.add_comm 4294967295 r]
          have g3:p≤4294967297:=by omega
          have g4:r+4294967295<4294967296:=by omega
          have g5:4294967296-(r+4294967295)<4294967296-r:=by omega
          exact ⟨⟨p,r+4294967295,g1,f2,g3,g4⟩,g5,aF ⟨rfl,rfl,rfl,rfl,rfl,rfl,rfl,by show some (Value.int .u64 (((p+1:Nat):Int)-1))=some (Value.int .u64 (p:Int));rw [f3],rfl,trivial⟩ (List.nil_sublist _) fun _ h=>h⟩
       · exact ⟨⟨q,by omega,by omega⟩,aF ⟨rfl,rfl,rfl,rfl,rfl,rfl,trivial⟩ (List.nil_sublist _) fun _ h=>h⟩
     · obtain ⟨q0,q0lo,q0hi⟩:=i
       simp only
       obtain ⟨y,hy,hyY⟩:∃ y:Nat,x*4294967296+v0=q0*18446744073709551600+y∧y<18446744073709551600:=⟨x*4294967296+v0-q0*18446744073709551600,by omega,by omega⟩
       have h132:Eqq (IntKind.u64.wrap (IntKind.u64.wrap (IntKind.u64.wrap ((x:Int)*4294967296)+(v0:Int))-IntKind.u64.wrap ((q0:Int)*18446744073709551600))) (y:Int):=by
        unfold Eqq
        rw [j7,show (x:Int)*4294967296+(v0:Int)-(q0:Int)*18446744073709551600=(y:Int) by omega]
        omega
       have hq1:Eqq (IntKind.u64.wrap (IntKind.u64.wrap ((q1:Int)*4294967296)+(q0:Int))) ((q1:Int)*4294967296+(q0:Int)):=by unfold Eqq;rw [cD ((q1:Int)*4294967296) ag,cD _ (by omega)]
       repeat' (first|refine cJ (hc:=h132) (h:=?_)|apply ab|apply aj|apply ai|refine ae ?_|refine ac ?_|refine bm (h:=?_)|apply aA|refine eI (h:=?_)|refine dw (h:=?_)|fail)
       have h3:Eqq (shrV .u64 (y:Int) 3) ((y/8:Nat):Int):=mA y 8 ar
       have hx:u*4294967296+v1=q1*18446744073709551600+x:=hxh
       have hU:V*8=u*18446744073709551616+(v1*4294967296+v0):=hUh
       obtain ⟨hA,hB⟩:=lW (V:=V) (M:=2305843009213693950) (Q:=q1*4294967296+q0) (z:=y/8) ag ag
       apply aq;apply cO;rfl;rfl;rfl
       unfold Eqq at h3 hq1
       rw [hA,hB,h3,hq1,Int.natCast_add,Int.natCast_mul]
       rfl
end Go.Proofs.YtfnjklhjngphmaaGreatDoor
namespace Go.Proofs.YtfnjklhjngphmaaGreatDoor
open Go Go.Proofs Sy Go.Shelf
theorem yj (hi lo M:Nat):(hi%M*18446744073709551616+lo)%M=(hi*18446744073709551616+lo)%M:=by
 rw [Nat.add_mod,Nat.mul_mod,Nat.mod_mod,←Nat.mul_mod,←Nat.add_mod]
theorem rem64P (hi lo:Nat) (hlo:lo<18446744073709551616) :
  Pu Tryz.prog 260 #[.int .u64 (hi:Int),.int .u64 (lo:Int),.int .u64 2305843009213693951] (fun _=>True) (.int .u64 (((hi*18446744073709551616+lo)%2305843009213693951:Nat):Int)):=by
 refine aN (args:=[_,_,_]) _ Tryz.func260 rfl Tryz.ntmps260 rfl fun av bor w0=>?_
 have hr:Eqq ((hi:Int).tmod 2305843009213693951) ((hi%2305843009213693951:Nat):Int):=pi hi 2305843009213693951
 have hd:=div64P (hi%2305843009213693951) lo (Nat.mod_lt _ (by decide)) hlo
 rw [yj] at hd
 repeat' (first|refine gl (hb:=by decide) (hc:=hr) ?_|apply ab|apply aj|apply ai|refine ae ?_|refine ac ?_|refine bC ?_|apply aA|(refine aC (hc:=hd) (hX:=fun w h=>h) ?_)|fail)
 apply aq;apply aB;rfl;rfl
 rfl
theorem rem64N (hi lo:Nat) (hlo:lo<18446744073709551616) :
  Pu Tryz.prog 260 #[.int .u64 (hi:Int),.int .u64 (lo:Int),.int .u64 2305843009213693950] (fun _=>True) (.int .u64 (((hi*18446744073709551616+lo)%2305843009213693950:Nat):Int)):=by
 refine aN (args:=[_,_,_]) _ Tryz.func260 rfl Tryz.ntmps260 rfl fun av bor w0=>?_
 have hr:Eqq ((hi:Int).tmod 2305843009213693950) ((hi%2305843009213693950:Nat):Int):=pi hi 2305843009213693950
 have hd:=div64N (hi%2305843009213693950) lo (Nat.mod_lt _ (by decide)) hlo
 rw [yj] at hd
 repeat' (first|refine gl (hb:=by decide) (hc:=hr) ?_|apply ab|apply aj|apply ai|refine ae ?_|refine ac ?_|refine bC ?_|apply aA|(refine aC (hc:=hd) (hX:=fun w h=>h) ?_)|fail)
 apply aq;apply aB;rfl;rfl
 rfl
theorem dL (a m:Nat) (hm:0<m) (hm2:m<4611686018427387904):Pu Tryz.prog 196 #[.int .i64 (a:Int),.int .i64 (m:Int)] (fun _=>True) (.int .i64 ((a%m:Nat):Int)):=by
 refine aN (args:=[_,_]) _ Tryz.func196 rfl Tryz.ntmps196 rfl fun av bor w0=>?_
 have hr:Eqq ((a:Int).tmod (m:Int)) ((a%m:Nat):Int):=pi a m
 repeat' (first|refine gl (hb:=by omega) (hc:=hr) ?_|apply ab|apply aj|apply ai|refine ae ?_|refine ac ?_|refine bu ?_|refine bm (h:=?_)|apply ay|apply aA|(refine aO (ht:=?_) (hf:=?_);all_goals (intro hx_;first|have:=aY hx_|have:=aZ hx_)))
 · exfalso;omega
 · apply aq;apply aB;rfl;rfl
   rfl
theorem AR (a b:Nat):Pu Tryz.prog 195 #[.int .i64 (a:Int),.int .i64 (b:Int),.int .i64 2305843009213693951] (fun _=>True) (.int .i64 ((a*b%2305843009213693951:Nat):Int)):=by
 refine aN (args:=[_,_,_]) _ Tryz.func195 rfl Tryz.ntmps195 rfl fun av bor w0=>?_
 have h1:=dL a 2305843009213693951 (by decide) (by decide)
 have h2:=dL b 2305843009213693951 (by decide) (by decide)
 have hx:=Nat.mod_lt a (show 0<2305843009213693951 by decide)
 have hy:=Nat.mod_lt b (show 0<2305843009213693951 by decide)
 have hab:a*b%2305843009213693951=(a%2305843009213693951)*(b%2305843009213693951)%2305843009213693951:=Nat.mul_mod a b _
 rw [hab]
 generalize a%2305843009213693951=x at *
 generalize b%2305843009213693951=y at *
 have h3:=pD x y ag ag
 have h4:=rem64P (x*y/18446744073709551616) (x*y%18446744073709551616) (Nat.mod_lt _ (by decide))
 have e:x*y/18446744073709551616*18446744073709551616+x*y%18446744073709551616=x*y:=Nat.div_add_mod' _ _
 rw [e] at h4
 have cx:Eqq (IntKind.u64.wrap (x:Int)) (x:Int):=cD _ ag
 have cy:Eqq (IntKind.u64.wrap (y:Int)) (y:Int):=cD _ ag
 have hz:=Nat.mod_lt (x*y) (show 0<2305843009213693951 by decide)
 have cm:Eqq (IntKind.u64.wrap 2305843009213693951) 2305843009213693951:=by unfold Eqq;kernel_rfl
 generalize x*y%2305843009213693951=z at *
 have cz:Eqq (IntKind.i64.wrap (z:Int)) (z:Int):=IntWalk.i64_in _ ag
 unfold Eqq at cx cy cm cz
 rw [←cx,←cy] at h3
 rw [←cm] at h4
 repeat' (first|apply ab|apply aj|apply ai|refine ae ?_|refine ac ?_|refine bC ?_|apply aA|refine dH (h:=?_)|(refine aC (hc:=h1) (hX:=fun w h=>h) ?_)|(refine aC (hc:=h2) (hX:=fun w h=>h) ?_)|(refine aC (hc:=h3) (hX:=fun w h=>h) ?_)|(refine aC (hc:=h4) (hX:=fun w h=>h) ?_)|fail)
 apply aq;apply aB;rfl;rfl
 rfl
theorem Bz (a b:Nat):Pu Tryz.prog 203 #[.int .i64 (a:Int),.int .i64 (b:Int),.int .i64 2305843009213693950] (fun _=>True) (.int .i64 (((a+b)%2305843009213693950:Nat):Int)):=by
 refine aN (args:=[_,_,_]) _ Tryz.func203 rfl Tryz.ntmps203 rfl fun av bor w0=>?_
 have h1:=dL a 2305843009213693950 (by decide) (by decide)
 have h2:=dL b 2305843009213693950 (by decide) (by decide)
 have h3:=dL (a%2305843009213693950+b%2305843009213693950) 2305843009213693950 (by decide) (by decide)
 rw [←Nat.add_mod] at h3
 have hs:Eqq (IntKind.i64.wrap (((a%2305843009213693950:Nat):Int)+((b%2305843009213693950:Nat):Int))) ((a%2305843009213693950+b%2305843009213693950:Nat):Int):=by
  have:=Nat.mod_lt a (show 0<2305843009213693950 by decide)
  have:=Nat.mod_lt b (show 0<2305843009213693950 by decide)
  generalize a%2305843009213693950=x at *
  generalize b%2305843009213693950=y at *
  unfold Eqq
  rw [Int.natCast_add]
  exact IntWalk.i64_in _ ag
 repeat' (first|refine bm (hc:=hs) (h:=?_)|apply ab|apply aj|apply ai|refine ae ?_|refine ac ?_|apply aA|(refine aC (hc:=h1) (hX:=fun w h=>h) ?_)|(refine aC (hc:=h2) (hX:=fun w h=>h) ?_)|(refine aC (hc:=h3) (hX:=fun w h=>h) ?_)|fail)
 apply aq;apply aB;rfl;rfl
 rfl
theorem AS (a b:Nat):Pu Tryz.prog 195 #[.int .i64 (a:Int),.int .i64 (b:Int),.int .i64 2305843009213693950] (fun _=>True) (.int .i64 ((a*b%2305843009213693950:Nat):Int)):=by
 refine aN (args:=[_,_,_]) _ Tryz.func195 rfl Tryz.ntmps195 rfl fun av bor w0=>?_
 have h1:=dL a 2305843009213693950 (by decide) (by decide)
 have h2:=dL b 2305843009213693950 (by decide) (by decide)
 have hx:=Nat.mod_lt a (show 0<2305843009213693950 by decide)
 have hy:=Nat.mod_lt b (show 0<2305843009213693950 by decide)
 have hab:a*b%2305843009213693950=(a%2305843009213693950)*(b%2305843009213693950)%2305843009213693950:=Nat.mul_mod a b _
 rw [hab]
 generalize a%2305843009213693950=x at *
 generalize b%2305843009213693950=y at *
 have h3:=pD x y ag ag
 have h4:=rem64N (x*y/18446744073709551616) (x*y%18446744073709551616) (Nat.mod_lt _ (by decide))
 have e:x*y/18446744073709551616*18446744073709551616+x*y%18446744073709551616=x*y:=Nat.div_add_mod' _ _
 rw [e] at h4
 have cx:Eqq (IntKind.u64.wrap (x:Int)) (x:Int):=cD _ ag
 have cy:Eqq (IntKind.u64.wrap (y:Int)) (y:Int):=cD _ ag
 have hz:=Nat.mod_lt (x*y) (show 0<2305843009213693950 by decide)
 have cm:Eqq (IntKind.u64.wrap 2305843009213693950) 2305843009213693950:=by unfold Eqq;kernel_rfl
 generalize x*y%2305843009213693950=z at *
 have cz:Eqq (IntKind.i64.wrap (z:Int)) (z:Int):=IntWalk.i64_in _ ag
 unfold Eqq at cx cy cm cz
 rw [←cx,←cy] at h3
 rw [←cm] at h4
 repeat' (first|apply ab|apply aj|apply ai|refine ae ?_|refine ac ?_|refine bC ?_|apply aA|refine dH (h:=?_)|(refine aC (hc:=h1) (hX:=fun w h=>h) ?_)|(refine aC (hc:=h2) (hX:=fun w h=>h) ?_)|(refine aC (hc:=h3) (hX:=fun w h=>h) ?_)|(refine aC (hc:=h4) (hX:=fun w h=>h) ?_)|fail)
 apply aq;apply aB;rfl;rfl
 rfl
theorem rF (a b:Nat):Pu Tryz.prog 109 #[.int .i64 (a:Int),.int .i64 (b:Int)] (fun _=>True) (.int .i64 ((a*b%2305843009213693951:Nat):Int)):=by
 refine aN (args:=[_,_]) _ Tryz.func109 rfl Tryz.ntmps109 rfl fun av bor w0=>?_
 repeat' (first|apply ab|apply aj|apply ai|refine ae ?_|refine ac ?_|apply aA|(refine aC (hc:=AR a b) (hX:=fun w h=>h) ?_)|fail)
 apply aq;apply aB;rfl;rfl
 rfl
theorem BA (a b:Nat):Pu Tryz.prog 122 #[.int .i64 (a:Int),.int .i64 (b:Int)] (fun _=>True) (.int .i64 ((a*b%2305843009213693950:Nat):Int)):=by
 refine aN (args:=[_,_]) _ Tryz.func122 rfl Tryz.ntmps122 rfl fun av bor w0=>?_
 repeat' (first|apply ab|apply aj|apply ai|refine ae ?_|refine ac ?_|apply aA|(refine aC (hc:=AS a b) (hX:=fun w h=>h) ?_)|fail)
 apply aq;apply aB;rfl;rfl
 rfl
theorem BB (a b:Nat):Pu Tryz.prog 121 #[.int .i64 (a:Int),.int .i64 (b:Int)] (fun _=>True) (.int .i64 (((a+b)%2305843009213693950:Nat):Int)):=by
 refine aN (args:=[_,_]) _ Tryz.func121 rfl Tryz.ntmps121 rfl fun av bor w0=>?_
 repeat' (first|apply ab|apply aj|apply ai|refine ae ?_|refine ac ?_|apply aA|(refine aC (hc:=Bz a b) (hX:=fun w h=>h) ?_)|fail)
 apply aq;apply aB;rfl;rfl
 rfl
def expF (a e:Nat):Nat→Nat×Nat
 | 0=>(1,a%2305843009213693951)
 | i+1=>(bif decide (e/2 ^ i%2=1) then (expF a e i).1*(expF a e i).2%2305843009213693951 else (expF a e i).1,(expF a e i).2*(expF a e i).2%2305843009213693951)
def expV (a e:Nat):Nat:=(expF a e (Lib.bitLen e)).1
theorem C3 (e i:Nat) (hi:i≤64):shrV .i64 (e:Int) (i:Int)=((e/2 ^ i:Nat):Int):=by
 show (e:Int).fdiv (2 ^ (min (i:Int).toNat 64))=_
 rw [Int.toNat_natCast,Nat.min_eq_left hi,show (2:Int) ^ i=((2 ^ i:Nat):Int) by rw [Int.natCast_pow];rfl,←Int.ofNat_fdiv]
theorem Dl (x:Nat) (hx:x<9223372036854775808):bitsV .and .i64 (x:Int) 1=((x%2:Nat):Int):=by
 show IntKind.i64.wrap ((((BitVec.ofInt 64 (x:Int)) &&& (BitVec.ofInt 64 1)).toNat:Nat):Int)=_
 have e:(BitVec.ofInt 64 1).toNat=1:=by decide
 rw [BitVec.toNat_and,e,BitVec.ofInt_natCast,BitVec.toNat_ofNat,Nat.mod_eq_of_lt (show x<2 ^ 64 by omega),Nat.and_one_is_mod]
 exact IntWalk.i64_in _ ag
theorem iQ:∀ f x:Nat,Lib.bitLenAux f x≤f
 | 0,_=>Nat.le_refl _
 | f+1,x=>by
  rw [Lib.bitLenAux]
  split
  · omega
  · have:=iQ f (x/2)
    omega
theorem oj (a e:Nat) (he:e<9223372036854775808):Pu Tryz.prog 110 #[.int .i64 (a:Int),.int .i64 (e:Int)] (fun _=>True) (.int .i64 (expV a e:Nat)):=by
 refine aN (args:=[_,_]) _ Tryz.func110 rfl Tryz.ntmps110 rfl fun av bor w0=>?_
 have h1:=dL a 2305843009213693951 (by decide) (by decide)
 have h2:=pN e ag
 have ce:Eqq (IntKind.u64.wrap (e:Int)) (e:Int):=cD _ ag
 unfold Eqq at ce
 rw [←ce] at h2
 repeat' (first|apply ab|apply aj|apply ai|refine ae ?_|refine ac ?_|refine bu ?_|apply ay|apply aw|refine dH (h:=?_)|(refine aC (hc:=h1) (hX:=fun w h=>h) ?_)|(refine aC (hc:=h2) (hX:=fun w h=>h) ?_)|(refine aO (ht:=?_) (hf:=?_);all_goals (intro hx_;first|have:=aY hx_|have:=aZ hx_)))
 · exfalso;omega
 · have hbl:Lib.bitLen e≤64:=iQ 64 e
   refine be (ι:=Kth (Lib.bitLen e)) (fun i=>⟨[(1,.int .i64 (e:Int)),(5,.int .i64 ((expF a e i.k).1:Nat)),(6,.int .i64 ((expF a e i.k).2:Nat)),(16,.int .i64 (Lib.bitLen e:Nat)),(17,.int .i64 i.k)],[],fun _=>True⟩) (fun i=>Lib.bitLen e-i.k) ⟨0,Nat.zero_le _⟩ (aF ⟨rfl,rfl,rfl,rfl,rfl,trivial⟩ (List.nil_sublist _) fun _ h=>h) fun i=>?_
   have hik:=i.hk
   have hm1:=rF (expF a e i.k).1 (expF a e i.k).2
   have hm2:=rF (expF a e i.k).2 (expF a e i.k).2
   have hb:bitsV .and .i64 (shrV .i64 (e:Int) ((i.k:Nat):Int)) 1=((e/2 ^ i.k%2:Nat):Int):=by
    rw [C3 e i.k ag,Dl _ (Nat.lt_of_le_of_lt (Nat.div_le_self _ _) he)]
   have hs:expF a e (i.k+1)=(bif decide (e/2 ^ i.k%2=1) then (expF a e i.k).1*(expF a e i.k).2%2305843009213693951 else (expF a e i.k).1,(expF a e i.k).2*(expF a e i.k).2%2305843009213693951):=rfl
   generalize hp:expF a e i.k=p at *
   repeat' (first|apply ab|apply aj|apply ai|refine ae ?_|refine ac ?_|refine bR ?_|refine bu ?_|refine bm (h:=?_)|apply ay|apply aw|apply aA|apply aV|refine lj ?_|refine eI (h:=?_)|(refine aC (hc:=hm1) (hX:=fun w h=>h) ?_)|(refine aC (hc:=hm2) (hX:=fun w h=>h) ?_)|(refine aO (ht:=?_) (hf:=?_);all_goals (intro hx_;first|have:=aY hx_|have:=aZ hx_)))
   · have hc:e/2 ^ i.k%2=1:=by
      rw [hb] at hx_
      have:=aY hx_
      omega
     rw [decide_eq_true hc,cond_true] at hs
     exact ⟨(⟨i.k+1,by omega⟩:Kth (Lib.bitLen e)),(by show Lib.bitLen e-(i.k+1)<Lib.bitLen e-i.k;omega),aF ⟨rfl,by rw [hs];rfl,by rw [hs];rfl,rfl,rfl,trivial⟩ (List.nil_sublist _) fun _ h=>h⟩
   · have hc:¬ e/2 ^ i.k%2=1:=by
      rw [hb] at hx_
      have:=aZ hx_
      omega
     rw [decide_eq_false hc,cond_false] at hs
     exact ⟨(⟨i.k+1,by omega⟩:Kth (Lib.bitLen e)),(by show Lib.bitLen e-(i.k+1)<Lib.bitLen e-i.k;omega),aF ⟨rfl,by rw [hs];rfl,by rw [hs];rfl,rfl,rfl,trivial⟩ (List.nil_sublist _) fun _ h=>h⟩
   · have hk:i.k=Lib.bitLen e:=by omega
     apply aq;apply aB;rfl;rfl
     rw [expV,←hk,hp]
end Go.Proofs.YtfnjklhjngphmaaGreatDoor
namespace Go.Proofs.YtfnjklhjngphmaaGreatDoor.Sy
open Go Go.RowKit
theorem Gam.later {av bor:List Nat} {w0 w w':World} {loc:List Res} {X:World→Prop} (G:Gam av bor w0 loc X w) (hB:Below w.heap.size w w'):Gam av bor w0 loc X w' :=
 (Gam.more (r:=⟨[],fun _=>True⟩) G hB (fun _ _=>trivial) List.nodup_nil (fun i hi=>by cases hi)).drop (List.sublist_cons_self _ _)
section
variable {P:Program} {N:Nat} {av bor:List Nat} {w0:World} {ops:Array Oper} {rest:List Oper} {k:St→Prop} {E:Env} {loc:List Res} {X:World→Prop}
variable {ty:TypeId} {pos:String} {af:Array Edge} {g:Option (Nat×Bool)} {bb want:Bool}
theorem gT {n:Nat} {x:Operand} {xs:List Operand} {ats:Array TypeId} {f:FuncId} {args:List Value} {X1:World→Prop} {v:Value} (h:Sw P N av bor w0 ops rest ⟨(n,v)::E,loc,X⟩ k) (hx:ev E x=some (.func (.func f) #[] #[]):=by rfl) (ha:evs E xs=some args:=by rfl) (hg:gdB ops E g=some (bb,want):=by rfl) (hb:bb=want:=by exact aR) (hd:Nat.blt n N=true:=by rfl) (hf:FnBody P f:=by infer_instance) (hc:Pu P f args.toArray X1 v) (hX:∀ w,X w→(∀ r∈loc,r.F w)→X1 w) :
  Sw P N av bor w0 ops (⟨some n,.call ⟨.value x,xs.toArray,ats⟩,ty,pos,af,g⟩::rest) ⟨E,loc,X⟩ k:=Sw.mk fun a w ok=>by
 have hd':inB N (some n)=true:=by have h1:n<N:=Nat.le_of_ble_eq_true hd;simpa [inB] using h1
 simp only [wpList]
 rw [cj ok (o:=⟨some n,.call ⟨.value x,xs.toArray,ats⟩,ty,pos,af,g⟩) hg]
 subst hb
 simp only [beq_self_eq_true,if_true]
 left
 unfold Oper.wp
 have hr:(execOp a.eval ⟨some n,.call ⟨.value x,xs.toArray,ats⟩,ty,pos,af,g⟩).run P w=.ok (.enter f args.toArray) w:=by
  have e:=gy ok xs args ha
  have e1:xs.toArray.map a.eval=args.toArray:=by rw [List.map_toArray,e]
  simp only [execOp,resolve,ok.eval (st:=⟨E,loc,X⟩) hx,Deferred.ofValue,invoke,e1]
  simp only [Sem.run_bind,Sem.run_pure,Result.andThen_ok]
  have e2:(#[]:Array Value)++args.toArray++#[]=args.toArray:=by simp
  rw [e2]
  exact mH _ w
 rw [hr]
 have G1:=ok.gam.giveAll
 have G0:=(Gam.start (pre:=[]) (fr:=[]) G1).imp (fun w h=>hX w h.1 h.2)
 unfold Pu at hc
 refine (Ct.run hc w _ G0).mono fun e w' ⟨u,R,X',he,⟨hu,hR⟩,G'⟩=>?_
 subst he
 subst hu
 have ok':Ok N av bor w0 ⟨E,loc,X⟩ a w':=ok.via fun M G=>Gam.later G G'.fr.below
 exact h.run _ _ (di (some n) _▸ok'.put hd' _)
end
end Go.Proofs.YtfnjklhjngphmaaGreatDoor.Sy
namespace Go.Proofs.YtfnjklhjngphmaaGreatDoor
open Go Go.Proofs Sy Go.Shelf Go.RowKit
def numF (l:List Nat):Nat→Nat
 | 0=>0
 | k+1=>numF l k*256+l.getD k 0
def numN (l:List Nat):Nat:=numF l 8/8
theorem iA (s:ByteArray):∀ k,numF (nl s) k<256 ^ k
 | 0=>by simp [numF]
 | k+1=>by
  have h1:=iA s k
  have h2:=gI (jL s) k
  rw [numF,Nat.pow_succ]
  omega
theorem numF7 (s:ByteArray) {k:Nat} (hk:k<8):numF (nl s) k<72057594037927936:=by
 have h1:=iA s k
 have h2:256 ^ k≤256 ^ 7:=Nat.pow_le_pow_right (by decide) ag
 have h3:(256:Nat) ^ 7=72057594037927936:=by decide
 omega
theorem numF8 (s:ByteArray) {k:Nat} (hk:k<8):numF (nl s) k*256<18446744073709551616:=by
 have h1:=iA s k
 have h2:256 ^ k≤256 ^ 7:=Nat.pow_le_pow_right (by decide) ag
 have h3:(256:Nat) ^ 7=72057594037927936:=by decide
 omega
theorem shl8 (x:Nat) (h:x*256<18446744073709551616):shlV .u64 (x:Int) 8=((x*256:Nat):Int):=by
 show IntKind.u64.wrap ((x:Int)*2 ^ (min (8:Int).toNat 64))=_
 rw [show ((2:Int) ^ (min (8:Int).toNat 64))=256 from by kernel_rfl,cD _ (by omega)]
 omega
theorem or8 (x b:Nat) (hb:b<256) (h:x<72057594037927936):bitsV .or .u64 ((x*256:Nat):Int) (b:Int)=((x*256+b:Nat):Int):=by
 have hx:x*256+b<18446744073709551616:=by omega
 have hy:x*256<18446744073709551616:=Nat.lt_of_le_of_lt (Nat.le_add_right _ _) hx
 have hz:b<18446744073709551616:=by omega
 have hw:IntKind.u64.wrap ((x*256+b:Nat):Int)=((x*256+b:Nat):Int):=cD _ ag
 have e:x*256 ||| b=x*256+b:=by
  have:=Nat.shiftLeft_add_eq_or_of_lt (a:=x) (b:=b) (i:=8) hb
  rw [Nat.shiftLeft_eq] at this
  exact this.symm
 show IntKind.u64.wrap ((((BitVec.ofInt 64 ((x*256:Nat):Int)) ||| (BitVec.ofInt 64 (b:Int))).toNat:Nat):Int)=_
 rw [BitVec.ofInt_natCast,BitVec.ofInt_natCast,BitVec.toNat_or,BitVec.toNat_ofNat,BitVec.toNat_ofNat,Nat.mod_eq_of_lt (show x*256<2 ^ 64 from hy),Nat.mod_eq_of_lt (show b<2 ^ 64 from hz),e,hw]
theorem shr3 (x:Nat):shrV .u64 (x:Int) 3=((x/8:Nat):Int):=by
 show (x:Int).fdiv (2 ^ (min (3:Int).toNat 64))=_
 rw [show ((2:Int) ^ (min (3:Int).toNat 64))=((8:Nat):Int) from by kernel_rfl,←Int.ofNat_fdiv]
theorem tt (s:ByteArray) (k:Nat) (hk:k<s.size):byteAt s k=(((nl s).getD k 0:Nat):Int):=by
 simp only [byteAt,nl,List.getD_eq_getElem?_getD,List.getElem?_map]
 have hl:k<s.data.toList.length:=by simpa using hk
 rw [List.getElem?_eq_getElem hl]
 rfl
theorem uu (s:ByteArray):Pu Tryz.prog 201 #[.string s] (fun _=>True) (.int .i64 (numN (nl s):Nat)):=by
 refine aN (args:=[_]) _ Tryz.func201 rfl Tryz.ntmps201 rfl fun av bor w0=>?_
 repeat' (first|apply ab|apply aj|apply ai|refine ae ?_|refine ac ?_|apply aw|fail)
 refine be (ι:=Kth 8) (fun i=>⟨[(0,.string s),(3,.int .u64 (numF (nl s) i.k:Nat)),(5,.int .i64 i.k)],[],fun _=>True⟩) (fun i=>8-i.k) ⟨0,Nat.zero_le _⟩ (aF ⟨rfl,rfl,rfl,trivial⟩ (aQ _) fun _ h=>h) fun i=>?_
 have hik:=i.hk
 repeat' (first|apply ab|apply aj|apply ai|refine ae ?_|refine ac ?_|refine bu ?_|refine cr ?_|refine bm (h:=?_)|apply ay|apply aw|apply aA|apply aV|refine oK ?_|refine nE ?_|refine eI (h:=?_)|refine dH (h:=?_)|refine fM ?_|(refine aO (ht:=?_) (hf:=?_);all_goals (intro hx_;first|have:=aY hx_|have:=aZ hx_)))
 · have hlt:i.k<8:=by omega
   have hs:i.k<s.size:=by omega
   have hb:=gI (jL s) i.k
   have hE:bitsV .or .u64 (shlV .u64 ((numF (nl s) i.k:Nat):Int) 8) (IntKind.u64.wrap (byteAt s (i.k:Int).toNat))=((numF (nl s) (i.k+1):Nat):Int):=by
    rw [shl8 _ (numF8 s hlt),show ((i.k:Int)).toNat=i.k from rfl,tt s _ hs,cD _ ag,or8 _ _ hb (numF7 s hlt)]
    rfl
   exact ⟨⟨i.k+1,hlt⟩,(by show 8-(i.k+1)<8-i.k;omega),aF ⟨rfl,congrArg (fun z=>some (Value.int IntKind.u64 z)) hE,rfl,trivial⟩ (aQ _) fun _ h=>h⟩
 · have hlt:i.k<8:=by omega
   have hs:s.size≤i.k:=by omega
   have hE:shlV .u64 ((numF (nl s) i.k:Nat):Int) 8=((numF (nl s) (i.k+1):Nat):Int):=by
    rw [shl8 _ (numF8 s hlt),numF,List.getD_eq_getElem?_getD,List.getElem?_eq_none (by rw [cU];exact hs),Option.getD_none,Nat.add_zero]
   exact ⟨⟨i.k+1,hlt⟩,(by show 8-(i.k+1)<8-i.k;omega),aF ⟨rfl,congrArg (fun z=>some (Value.int IntKind.u64 z)) hE,rfl,trivial⟩ (aQ _) fun _ h=>h⟩
 · have h8:i.k=8:=by omega
   apply aq;apply aB;rfl;rfl
   have hl:=iA s 8
   have hp:(256:Nat) ^ 8=18446744073709551616:=by decide
   rw [h8,shr3,IntWalk.i64_in _ (by omega)]
   rfl
theorem AK (s:ByteArray):numN (nl s)<2305843009213693952:=by
 have hl:=iA s 8
 have hp:(256:Nat) ^ 8=18446744073709551616:=by decide
 rw [numN]
 omega
def catB (l:List ByteArray):ByteArray:=l.foldr (fun a b=>a++b) ⟨#[]⟩
theorem qY:∀ l:List ByteArray,nl (catB l)=l.flatMap nl
 | []=>rfl
 | a::l=>by
  show nl (a++catB l)=_
  rw [ek,qY l,List.flatMap_cons]
def PartsAt (b T:Nat) (xs:List ByteArray) (w:World):Prop:=w.heap[b]?=some (.cells (xs.map Value.string).toArray T (0,0))
theorem pr {P:Program} {f:FuncId} {args:Array Value} {X:World→Prop} {v:Value} (h:∀ w,X w→Calls P f args w fun e w'=>e=.returned v∧Below w.heap.size w w'):Pu P f args X v:=by
 unfold Pu
 exact Ct.mk fun w av G=>(h w G.keep.now).mono fun e w' ⟨he,hw⟩=>⟨v,[],X,he,⟨rfl,rfl⟩,Gam.later G hw⟩
theorem joinX:Builder.Extra Tryz.prog Tryz.join_ren where
 sizeBuilder:=by kernel_rfl
 liesBuilder:=by kernel_rfl
 t5:=by kernel_rfl
 a5:=fun w=>by simp [isAgg,run_underlying (show Tryz.prog.underlying (Tryz.join_ren.t 5)=some (.int .u8) from by kernel_rfl)]
 z5:=fun w=>Sy.run_sizeOf (P:=Tryz.prog) (t:=Tryz.join_ren.t 5) (n:=1) ar w
 v5:=fun w=>dK (show zeroOf Tryz.prog (Tryz.join_ren.t 5)=some (.int .u8 0) from by kernel_rfl) w
 infoByte:=by kernel_rfl
 cellsByte:=by kernel_rfl
 sizeByte:=by kernel_rfl
 neB5:=by decide
theorem u9 (l:List (List UInt8)):Lib.join l []=l.flatten:=by
 rw [Lib.join,List.intercalate]
 induction l with
 | nil=>rfl
 | cons a l ih =>
  cases l with
  | nil=>simp
  | cons b l=>simpa using ih
theorem yT (xs:List ByteArray):(⟨(Lib.join (xs.map (·.data.toList)) (⟨#[]⟩:ByteArray).data.toList).toArray⟩:ByteArray)=catB xs:=by
 have e:(⟨#[]⟩:ByteArray).data.toList=[]:=rfl
 rw [e,u9]
 apply qX
 rw [qY]
 simp [nl,List.map_flatten,List.flatMap_def,Function.comp_def]
 rfl
theorem eT (xs:List ByteArray):(catB xs).size=(xs.map ByteArray.size).sum:=by
 induction xs with
 | nil=>rfl
 | cons a l ih =>
  show (a++catB l).size=_
  rw [ByteArray.size_append,ih,List.map_cons,List.sum_cons]
theorem AX (b T c:Nat) (xs:List ByteArray) (hc:xs.length≤c) (hn:xs.length≤1000) (hs:(catB xs).size≤1099511627776):Pu Tryz.prog 202 #[.slice (some ⟨b,0,none⟩) xs.length c,.string ⟨#[]⟩] (PartsAt b T xs) (.string (catB xs)) :=
 pr fun w h=>by
  have hcell:∀ (j:Nat) x,xs[j]?=some x→w.cell? ⟨b,0+j,none⟩=some (.string x):=fun j x hj=>by
   simp [World.cell?,show w.heap[b]?=_ from h,hj]
  have hl:(Lib.join (xs.map (·.data.toList)) (⟨#[]⟩:ByteArray).data.toList).length=(catB xs).size:=by
   rw [←yT xs]
   simp [ByteArray.size]
  have:=Any.strings_Join Tryz.join joinX b 0 c xs ⟨#[]⟩ w hcell (Array.getElem?_eq_some_iff.1 h).1 ag hc (by rw [hl];omega)
  rw [yT xs] at this
  exact this
theorem kc (b T c:Nat) (xs:List ByteArray) (hc:xs.length≤c) (hn:xs.length≤1000) (hs:(catB xs).size≤1099511627776) :
  Pu Tryz.prog 120 #[.slice (some ⟨b,0,none⟩) xs.length c] (fun w=>PartsAt b T xs w∧Glob w) (.int .i64 (numN (nl (shaV (catB xs))):Nat)):=by
 refine aN (args:=[_]) _ Tryz.func120 rfl Tryz.ntmps120 rfl fun av bor w0=>?_
 repeat' (first|apply ab|apply aj|apply ai|refine ae ?_|refine ac ?_|apply aA|(refine aC (hc:=AX b T c xs hc hn hs) (hX:=fun w h=>h.1) ?_)|(refine aC (hc:=qz (catB xs) hs) (hX:=fun w h=>h.2) ?_)|refine aC (hc:=uu (shaV (catB xs))) ?_|fail)
 apply aq;apply aB;rfl;rfl
 rfl
end Go.Proofs.YtfnjklhjngphmaaGreatDoor
namespace Go.Proofs.YtfnjklhjngphmaaGreatDoor
open Go Go.Proofs Sy
def hashN (xs:List ByteArray):Nat:=numN (nl (shaV (catB xs)))
theorem pS (xs:List ByteArray):hashN xs<2305843009213693952:=AK _
def reduceN (h:Nat):Nat:=1+h%2305843009213693949
theorem jH (h:Nat):1≤reduceN h:=Nat.le_add_right _ _
theorem gW (h:Nat):reduceN h≤2305843009213693949:=by
 have:=Nat.mod_lt h (show 2305843009213693949>0 by decide)
 unfold reduceN
 omega
theorem mN (h:Nat) (hh:h<2305843009213693952):Pu Tryz.prog 119 #[.int .i64 (h:Int)] (fun _=>True) (.int .i64 (reduceN h:Nat)):=by
 refine aN (args:=[_]) _ Tryz.func119 rfl Tryz.ntmps119 rfl fun av bor w0=>?_
 repeat' (first|refine gl (c:=((h%2305843009213693949:Nat):Int)) (hc:=(Int.ofNat_tmod h 2305843009213693949).symm) (hb:=by decide) ?_|apply ab|apply aj|apply ai|refine ae ?_|refine ac ?_|refine bm (h:=?_)|apply aA|fail)
 apply aq;apply aB;rfl;rfl
 rfl
def chalP (r p:Nat) (msg:ByteArray):List ByteArray:=[textV ⟨#[115,105,103,110]⟩,numV (r:Int),numV (p:Int),textV msg]
def chalN (r p:Nat) (msg:ByteArray):Nat:=hashN (chalP r p msg)%2305843009213693950
theorem tq (r p:Nat) (msg:ByteArray) (hr:r<9223372036854775808) (hp:p<9223372036854775808) (hm:msg.size≤1000000000000) :
  Pu Tryz.prog 111 #[.int .i64 (r:Int),.int .i64 (p:Int),.string msg] Glob (.int .i64 (chalN r p msg:Nat)):=by
 refine aN (args:=[_,_,_]) _ Tryz.func111 rfl Tryz.ntmps111 rfl fun av bor w0=>?_
 have hsz:(catB (chalP r p msg)).size≤1099511627776:=by
  have h1:=bx ⟨#[115,105,103,110]⟩
  have h2:=bw (r:Int)
  have h3:=bw (p:Int)
  have h4:=bx msg
  have h5:(⟨#[115,105,103,110]⟩:ByteArray).size=4:=rfl
  rw [eT]
  simp only [chalP,List.map_cons,List.map_nil,List.sum_cons,List.sum_nil]
  omega
 repeat' (first|refine gl (c:=((chalN r p msg:Nat):Int)) (hc:=(Int.ofNat_tmod (hashN (chalP r p msg)) 2305843009213693950).symm) (hb:=by decide) ?_|apply ab|apply aj|apply ai|refine ae ?_|refine ac ?_|refine ca fun _=>?_|apply aA|refine aC (hc:=dn _ (by first|omega|decide)) ?_|refine aC (hc:=dy _ ag) ?_|(refine gT (hc:=kc _ 9 4 (chalP r p msg) (show 4≤4 by decide) (show 4≤1000 by decide) hsz) (hX:=fun w h hr=>⟨hr _ aU,h⟩) ?_)|fail)
 apply aq;apply aB;rfl;rfl
 rfl
structure KyD where
 s:Int
 p:Int
def KyD.cells (k:KyD):List Value:=[.int .i64 k.s,.int .i64 k.p]
def KyD.v (k:KyD):Value:=.agg k.cells.toArray
def KyD.zero:KyD:=⟨0,0⟩
theorem tk (a e:Nat):∀ i,(expF a e i).1<2305843009213693951
 | 0=>by show 1<2305843009213693951;decide
 | i+1=>by
  have ih:=tk a e i
  show (bif decide (e/2 ^ i%2=1) then (expF a e i).1*(expF a e i).2%2305843009213693951 else (expF a e i).1)<_
  cases decide (e/2 ^ i%2=1) with
  | true=>exact Nat.mod_lt _ (by decide)
  | false=>exact ih
theorem tj (a e:Nat):expV a e<2305843009213693951:=tk a e _
def ofK (s:Int):KyD:=bif decide (s<1)||decide (2305843009213693949<s) then KyD.zero else ⟨s,(expV 37 s.toNat:Nat)⟩
theorem nY {s:Int} (h1:1≤s) (h2:s≤2305843009213693949):ofK s=⟨s,(expV 37 s.toNat:Nat)⟩:=by
 rw [ofK,decide_eq_false ag,decide_eq_false (by omega)]
 rfl
theorem sM {s:Int} (h:s<1∨2305843009213693949<s):ofK s=KyD.zero:=by
 rw [ofK]
 rcases h with h|h
 · rw [decide_eq_true h];rfl
 · rw [decide_eq_true h,Bool.or_true];rfl
theorem mz (s:Int):Pu Tryz.prog 70 #[.int .i64 s] (fun _=>True) (ofK s).v:=by
 refine aN (args:=[_]) _ Tryz.func70 rfl Tryz.ntmps70 rfl fun av bor w0=>?_
 by_cases h:s<1∨2305843009213693949<s
 · rw [sM h]
   repeat' (first|apply ab|apply aj|apply ai|refine ae ?_|refine aJ ?_|refine aH ?_|refine bu ?_|refine cP ?_|refine bI ?_|refine aP fun _=>?_|refine aK ?_|refine aE ?_|apply ay|apply aA|(refine bV (cs:=KyD.zero.cells) (hf:=by rfl) ?_)|((fail_if_success (refine bA ?_));refine bj (ht:=?_) (hf:=?_);all_goals (intro hx_;first|have:=aY hx_|have:=aZ hx_))|(refine aO (ht:=?_) (hf:=?_);all_goals (intro hx_;first|have:=aY hx_|have:=aZ hx_)))
   all_goals first
    | (exfalso;omega)
    | exact aq (bT rfl rfl bF (by rfl)) rfl
 · have h1:1≤s:=by omega
   have h2:s≤2305843009213693949:=by omega
   obtain ⟨n,rfl⟩:=Int.eq_ofNat_of_zero_le (show 0≤s by omega)
   rw [nY h1 h2]
   have he:=oj 37 n ag
   repeat' (first|apply ab|apply aj|apply ai|refine ae ?_|refine aJ ?_|refine aH ?_|refine bu ?_|refine cP ?_|refine bI ?_|refine aP fun _=>?_|refine aK ?_|refine aE ?_|apply ay|apply aA|(refine aC (hc:=he) (hX:=fun w h=>trivial) ?_)|(refine bV (cs:=KyD.cells ⟨(n:Int),(expV 37 n:Nat)⟩) (hf:=by rfl) ?_)|((fail_if_success (refine bA ?_));refine bj (ht:=?_) (hf:=?_);all_goals (intro hx_;first|have:=aY hx_|have:=aZ hx_))|(refine aO (ht:=?_) (hf:=?_);all_goals (intro hx_;first|have:=aY hx_|have:=aZ hx_)))
   all_goals first
    | (exfalso;omega)
    | exact aq (bT rfl rfl bF (by rfl)) rfl
def eqKy (a b:KyD):Bool:=decide (a.s=b.s)&&decide (a.p=b.p)
theorem yK {a b:KyD}:eqKy a b=true↔a=b:=by
 cases a;cases b
 simp only [eqKy,Bool.and_eq_true,decide_eq_true_eq,KyD.mk.injEq]
theorem fX (w:World) {cs:Array Value} {off:Nat} {v:Value} (h:cs[off]?=some v):(part 3 cs off).run Tryz.prog w=.ok v w:=by
 simp [part,isAgg,run_underlying Tryz.underlying3,h]
theorem pY (w:World) (d:Nat) (a b:Int):(Op.equalIn (d+1) 3 (.int .i64 a) (.int .i64 b)).run Tryz.prog w=.ok (decide (a=b)) w:=by
 rw [run_equalIn_int w d _ .i64 .i64 a b Tryz.underlying3]
 rfl
theorem xo (w:World) (d:Nat) (a b:KyD):(Op.equalIn (d+2) 77 a.v b.v).run Tryz.prog w=.ok (eqKy a b) w:=by
 have p0:∀ x:KyD,(part 3 x.cells.toArray 0).run Tryz.prog w=.ok (.int .i64 x.s) w:=fun x=>fX w rfl
 have p1:∀ x:KyD,(part 3 x.cells.toArray 1).run Tryz.prog w=.ok (.int .i64 x.p) w:=fun x=>fX w rfl
 unfold KyD.v
 rw [run_equalIn_agg _ _ _ _ _ ar ar]
 simp only [Program.fieldsOf,Tryz.underlying77]
 simp [Op.eqFields,p0,p1,pY]
 unfold eqKy
 by_cases h1:a.s=b.s<;>by_cases h2:a.p=b.p<;>simp [h1,h2]
section
variable {N:Nat} {av bor:List Nat} {w0:World} {x y:Operand} {t2:TypeId} {ty:TypeId} {st:St}
theorem BZ (a b:KyD) (hx:ev st.env x=some a.v) (hy:ev st.env y=some b.v):Sy.Yields Tryz.prog N av bor w0 st (.binOp .eql 77 x y t2) ty (.bool (eqKy a b)):=Sy.Yields.mk fun A w ok d pos af g=>by
 have h1:=run_eqGuard_agg (P:=Tryz.prog) w .eql 77 x y a.cells.toArray b.cells.toArray ar
 have h2:=run_eql_struct (P:=Tryz.prog) w 77 a.cells.toArray b.cells.toArray
 have h3:=xo w 9998 a b
 simp only [KyD.v] at hx hy h3
 simp [execOp,ok.eval hx,ok.eval hy,h1,h2,h3]
end
def rightK (k:KyD):Bool:=decide (1≤k.s)&&eqKy k (ofK k.s)
theorem fU (k:KyD):Pu Tryz.prog 30 #[k.v] (fun _=>True) (.bool (rightK k)):=by
 refine aN (args:=[_]) _ Tryz.func30 rfl Tryz.ntmps30 rfl fun av bor w0=>?_
 repeat' (first|apply ab|apply aj|apply ai|refine ac ?_|refine aT fun _=>?_|fail)
 rename_i b
 (refine bo [cel b 77 k.cells] (fun _=>True) ar ?_)
 all_goals refine aa 0 ?_
 all_goals refine aa 1 ?_
 all_goals refine aa 2 ?_
 all_goals refine aa 3 ?_
 all_goals (refine iT 4 (ht:=?_) (hf:=?_);all_goals (intro hx_;first|have:=aY hx_|have:=aZ hx_);all_goals (first|(refine aa 4 ?_)|(refine aX 4 ?_)))
 all_goals (first|(refine aa 5 ?_)|(refine aX 5 ?_))
 all_goals (first|(refine aa 6 ?_)|(refine aX 6 ?_))
 all_goals (refine ao 7 ?_;(first|(refine aW ?_)|refine aC (hc:=mz k.s) ?_);apply ab;refine ak ?_)
 all_goals (first|(refine aa 8 (hy:=by (apply BZ k (ofK k.s);rfl;rfl)) ?_)|(refine aX 8 ?_))
 all_goals refine aa 9 ?_
 all_goals refine aa 10 ?_
 all_goals (refine aI ?_)
 all_goals
  repeat' (first|apply aA|fail)
  apply aq;apply aB;rfl;rfl
  rw [rightK,hx_]
  rfl
theorem rightK_iff {k:KyD}:rightK k=true↔1≤k.s∧k.s≤2305843009213693949∧k.p=(expV 37 k.s.toNat:Nat):=by
 rw [rightK,Bool.and_eq_true,decide_eq_true_eq,yK]
 constructor
 · rintro ⟨h1,h2⟩
   have h3:k.s≤2305843009213693949:=by
    by_cases h:2305843009213693949<k.s
    · rw [sM (.inr h)] at h2
      rw [h2] at h1
      exact absurd h1 (by decide)
    · omega
   refine ⟨h1,h3,?_⟩
   rw [nY h1 h3] at h2
   rw [h2]
 · rintro ⟨h1,h2,h3⟩
   exact ⟨h1,by rw [nY h1 h2,←h3]⟩
def nonceP (s:Int) (msg:ByteArray):List ByteArray:=[textV ⟨#[110,111,110,99,101]⟩,numV s,textV msg]
def nonceN (s:Int) (msg:ByteArray):Nat:=reduceN (hashN (nonceP s msg))
structure SgD where
 e:Int
 s:Int
def SgD.cells (k:SgD):List Value:=[.int .i64 k.e,.int .i64 k.s]
def SgD.v (k:SgD):Value:=.agg k.cells.toArray
def SgD.zero:SgD:=⟨0,0⟩
def sigE (k:KyD) (msg:ByteArray):Nat:=chalN (expV 37 (nonceN k.s msg)) k.p.toNat msg
def sigS (k:KyD) (msg:ByteArray):Nat:=(nonceN k.s msg+sigE k msg*k.s.toNat%2305843009213693950)%2305843009213693950
def signV (k:KyD) (msg:ByteArray):SgD:=bif rightK k then ⟨(sigE k msg:Nat),(sigS k msg:Nat)⟩ else SgD.zero
set_option maxHeartbeats 1000000 in
theorem Ac (k:KyD) (msg:ByteArray) (hm:msg.size≤1000000000000):Pu Tryz.prog 69 #[k.v,.string msg] Glob (signV k msg).v:=by
 refine aN (args:=[_,_]) _ Tryz.func69 rfl Tryz.ntmps69 rfl fun av bor w0=>?_
 have hrk:=fU k
 cases hk:rightK k with
 | false =>
  rw [hk] at hrk
  rw [show signV k msg=SgD.zero from by rw [signV,hk];rfl]
  repeat' (first|apply ab|apply aj|apply ai|refine aG ?_|refine bE ?_|refine aP fun _=>?_|refine aT fun _=>?_|refine aK ?_|refine aE ?_|apply aA|(refine aC (hc:=hrk) (hX:=fun _ _=>trivial) ?_)|(refine bV (cs:=SgD.zero.cells) (hf:=by rfl) ?_)|fail)
  exact aq (bT rfl rfl bF (by rfl)) rfl
 | true =>
  rw [hk] at hrk
  rw [show signV k msg=⟨(sigE k msg:Nat),(sigS k msg:Nat)⟩ from by rw [signV,hk];rfl]
  obtain ⟨h1,h2,h3⟩:=rightK_iff.1 hk
  obtain ⟨s,p⟩:=k
  obtain ⟨n,rfl⟩:=Int.eq_ofNat_of_zero_le (show 0≤s by show 0≤s;have:1≤s:=h1;omega)
  have h3':p=(expV 37 n:Nat):=h3
  subst h3'
  have h2':(n:Int)≤2305843009213693949:=h2
  have hp:=tj 37 n
  have hsz:(catB (nonceP (n:Int) msg)).size≤1099511627776:=by
   have e1:=bx ⟨#[110,111,110,99,101]⟩
   have e2:=bw (n:Int)
   have e4:=bx msg
   have e5:(⟨#[110,111,110,99,101]⟩:ByteArray).size=5:=rfl
   rw [eT]
   simp only [nonceP,List.map_cons,List.map_nil,List.sum_cons,List.sum_nil]
   omega
  have hno:nonceN (n:Int) msg<9223372036854775808:=by have:=gW (hashN (nonceP (n:Int) msg));unfold nonceN;omega
  have hha:=kc (T:=9) (c:=3) (xs:=nonceP (n:Int) msg)
  have hex:=oj 37 (nonceN (n:Int) msg) hno
  have hch:=tq (expV 37 (nonceN (n:Int) msg)) (expV 37 n) msg (by have:=tj 37 (nonceN (n:Int) msg);omega) ag hm
  repeat' (first|apply ab|apply aj|apply ai|refine aG ?_|refine bE ?_|refine aP fun _=>?_|refine aT fun _=>?_|refine aD ?_|apply ay|(refine aC (hc:=hrk) (hX:=fun _ _=>trivial) ?_)|fail)
  rename_i b2 b4
  (refine bo [cel b4 44 SgD.zero.cells,cel b2 77 (KyD.mk (n:Int) (expV 37 n:Nat)).cells] Glob ar ?_)
  all_goals refine aa 1 ?_
  all_goals refine aa 2 ?_
  all_goals refine aa 4 ?_
  all_goals (refine ao 0 ?_;(refine aC (hc:=dn _ (by decide)) ?_);apply ab;refine ak ?_)
  all_goals (refine ao 3 ?_;(refine aC (hc:=dy _ ag) ?_);apply ab;refine ak ?_)
  all_goals (refine ao 5 ?_;(refine aC (hc:=dn _ ag) ?_);apply ab;refine ak ?_)
  all_goals (refine ao 6 ?_;(refine ca fun _=>?_);apply ab;refine ak ?_)
  all_goals (refine ao 7 ?_;(refine gT (hc:=kc _ 9 3 (nonceP (n:Int) msg) (show 3≤3 by decide) (show 3≤1000 by decide) hsz) (hX:=fun w h hr=>⟨hr _ aU,h⟩) ?_);apply ab;refine ak ?_)
  all_goals (refine ao 8 ?_;(refine aC (hc:=mN (hashN (nonceP (n:Int) msg)) (pS _)) ?_);apply ab;refine ak ?_)
  all_goals refine aa 9 ?_
  all_goals (refine aI ?_)
  repeat' (first|apply aj|fail)
  (refine bo [cel b4 44 SgD.zero.cells,cel b2 77 (KyD.mk (n:Int) (expV 37 n:Nat)).cells] Glob ar ?_)
  all_goals refine aa 0 ?_
  all_goals refine aa 2 ?_
  all_goals refine aa 3 ?_
  all_goals refine aa 4 ?_
  all_goals (refine ao 1 ?_;(refine aC (hc:=hex) (hX:=fun _ _=>trivial) ?_);apply ab;refine ak ?_)
  all_goals (refine ao 5 ?_;(refine aC (hc:=hch) (hX:=fun _ h=>h) ?_);apply ab;refine ak ?_)
  all_goals refine aa 6 ?_
  all_goals (refine aI ?_)
  have hm1:=BA (sigE ⟨(n:Int),(expV 37 n:Nat)⟩ msg) n
  have hm2:=BB (nonceN (n:Int) msg) (sigE ⟨(n:Int),(expV 37 n:Nat)⟩ msg*n%2305843009213693950)
  repeat' (first|apply ab|apply aj|apply ai|refine ae ?_|refine aM ?_|refine aL ?_|refine aK ?_|apply aA|(refine aC (hc:=hm1) (hX:=fun _ _=>trivial) ?_)|(refine aC (hc:=hm2) (hX:=fun _ _=>trivial) ?_)|(refine bV (cs:=SgD.cells ⟨(sigE ⟨(n:Int),(expV 37 n:Nat)⟩ msg:Nat),(sigS ⟨(n:Int),(expV 37 n:Nat)⟩ msg:Nat)⟩) (hf:=by rfl) ?_)|fail)
  exact aq (bT rfl rfl bF (by rfl)) rfl
def keyP (seed:ByteArray):List ByteArray:=[textV ⟨#[107,101,121]⟩,textV seed]
def keyN (seed:ByteArray):Nat:=reduceN (hashN (keyP seed))
def keyOf (seed:ByteArray):KyD:=⟨(keyN seed:Nat),(expV 37 (keyN seed):Nat)⟩
theorem pO (seed:ByteArray):rightK (keyOf seed)=true:=by
 have h1:=jH (hashN (keyP seed))
 have h2:=gW (hashN (keyP seed))
 refine rightK_iff.2 ⟨?_,?_,rfl⟩
 · show (1:Int)≤((reduceN (hashN (keyP seed)):Nat):Int);omega
 · show ((reduceN (hashN (keyP seed)):Nat):Int)≤2305843009213693949;omega
theorem qx (seed:ByteArray) (hm:seed.size≤1000000000000):Pu Tryz.prog 73 #[.string seed] Glob (keyOf seed).v:=by
 refine aN (args:=[_]) _ Tryz.func73 rfl Tryz.ntmps73 rfl fun av bor w0=>?_
 have h1:=jH (hashN (keyP seed))
 have h2:=gW (hashN (keyP seed))
 have hk:ofK ((keyN seed:Nat):Int)=keyOf seed:=nY (by show (1:Int)≤((reduceN (hashN (keyP seed)):Nat):Int);omega) (by show ((reduceN (hashN (keyP seed)):Nat):Int)≤2305843009213693949;omega)
 have hof:=mz ((keyN seed:Nat):Int)
 rw [hk] at hof
 have hsz:(catB (keyP seed)).size≤1099511627776:=by
  have e1:=bx ⟨#[107,101,121]⟩
  have e4:=bx seed
  have e5:(⟨#[107,101,121]⟩:ByteArray).size=3:=rfl
  rw [eT]
  simp only [keyP,List.map_cons,List.map_nil,List.sum_cons,List.sum_nil]
  omega
 repeat' (first|apply ab|apply aj|apply ai|refine ae ?_|refine aP fun _=>?_|refine ca fun _=>?_|refine aK ?_|apply aA|refine aC (hc:=dn _ (by first|omega|decide)) ?_|(refine gT (hc:=kc _ 9 2 (keyP seed) (show 2≤2 by decide) (show 2≤1000 by decide) hsz) (hX:=fun w h hr=>⟨hr _ aU,h⟩) ?_)|refine aC (hc:=mN (hashN (keyP seed)) (pS _)) ?_|(refine aC (hc:=hof) (hX:=fun _ _=>trivial) ?_)|fail)
 exact aq (bT rfl rfl bF (by rfl)) rfl
def hexDg:ByteArray:=⟨#[48,49,50,51,52,53,54,55,56,57,97,98,99,100,101,102]⟩
def hexB (s:ByteArray) (i:Nat):List Int:=[byteAt hexDg (shrV .u8 (byteAt s i) 4).toNat,byteAt hexDg (bitsV .and .u8 (byteAt s i) 15).toNat]
def hexF (s:ByteArray) (n:Nat):List Int:=(List.range n).flatMap (hexB s)
def hexV (s:ByteArray):ByteArray:=ofInts (hexF s s.size)
theorem na (s:ByteArray) (n:Nat):hexF s (n+1)=hexF s n++hexB s n:=by
 rw [hexF,List.range_succ,List.flatMap_append]
 simp [hexF]
theorem AP:∀ b:Nat,b<256→(0≤shrV .u8 (b:Int) 4∧shrV .u8 (b:Int) 4<16)∧(0≤bitsV .and .u8 (b:Int) 15∧bitsV .and .u8 (b:Int) 15<16):=by decide +kernel
theorem vw (s:ByteArray) (i:Nat):∃ b:Nat,b<256∧byteAt s i=(b:Int):=⟨(s.data.toList.getD i 0).toNat,UInt8.toNat_lt _,rfl⟩
def hexN (d:Nat):Nat:=if d<10 then 48+d else 87+d
def hexL (l:List Nat):List Nat:=l.flatMap fun b=>[hexN (b/16),hexN (b%16)]
theorem A5:∀ b:Nat,b<256→byteAt hexDg (shrV .u8 (b:Int) 4).toNat=(hexN (b/16):Nat)∧byteAt hexDg (bitsV .and .u8 (b:Int) 15).toNat=(hexN (b%16):Nat):=by decide +kernel
structure HexI where
 k:Nat
 hk:k≤32
 A:Option Addr
 c:Nat
set_option maxHeartbeats 1000000 in
theorem CA (s:ByteArray) (hs:s.size=32):Pu Tryz.prog 57 #[.string s] (fun _=>True) (.string (hexV s)):=by
 refine aN (args:=[_]) _ Tryz.func57 rfl Tryz.ntmps57 rfl fun av bor w0=>?_
 repeat' (first|refine dw (c:=64) (hc:=by rw [hs];rfl) (h:=?_)|apply ab|apply aj|apply ai|refine ae ?_|refine ac ?_|refine cr ?_|apply aw|(refine ik (c:=64) (hm:=rfl) (hm2:=rfl) fun q=>?_)|fail)
 refine be (ι:=HexI) (fun i=>⟨[(0,.string s),(3,.slice i.A (2*i.k) i.c),(10,.int .i64 s.size),(11,.int .i64 i.k)],[orow 5 1 (.slice i.A (2*i.k) i.c) (2*i.k) (u8s (hexF s i.k))],fun _=>True⟩) (fun i=>32-i.k) ⟨0,Nat.zero_le _,_,_⟩
  (aF ⟨rfl,rfl,rfl,rfl,trivial⟩ (aQ _) fun _ h=>h) fun i=>?_
 have hik:=i.hk
 repeat' (first|apply ab|apply aj|apply ai|refine ae ?_|refine ac ?_|refine bu ?_|apply ay|apply aw|apply aV|(refine aO (ht:=?_) (hf:=?_);all_goals (intro hx_;first|have:=aY hx_|have:=aZ hx_)))
 · have hlt:i.k<32:=by omega
   obtain ⟨b,hb,hbe⟩:=vw s i.k
   obtain ⟨⟨n1,n2⟩,n3,n4⟩:=AP b hb
   rw [←hbe] at n1 n2 n3 n4
   (refine bo [] (fun _=>True) ar ?_)
   all_goals refine aa 0 ?_
   all_goals refine aa 1 ?_
   all_goals refine aa 2 ?_
   all_goals (refine aa 3 (hy:=by (apply fJ;rfl;rfl;(omega);(omega))) ?_)
   all_goals refine aa 4 ?_
   all_goals (refine aa 5 (hy:=by (apply fJ;rfl;rfl;(assumption);(assumption))) ?_)
   all_goals refine aa 6 ?_
   all_goals refine aa 7 ?_
   all_goals (refine aa 8 (hy:=by (apply fJ;rfl;rfl;(omega);(omega))) ?_)
   all_goals refine aa 9 ?_
   all_goals (refine aa 10 (hy:=by (apply fJ;rfl;rfl;(assumption);(assumption))) ?_)
   all_goals (refine ao 11 ?_;(refine ca (len:=2) (vs:=u8s (hexB s i.k)) fun _=>?_);apply ab;refine ak ?_)
   all_goals (refine ao 12 ?_;(refine aS (size:=1) (z:=.int .u8 0) (news:=u8s (hexB s i.k)) (q:=2) rfl rfl rfl rfl (fun _=>At.there _ (At.here _)) (fun w G=>bq G aU rfl rfl 2) ag (by simp only [maxLen];omega) rfl ?_ rfl ?_;(with_reducible rfl);intro A2 c2);apply ab;refine ak ?_)
   all_goals refine aa 13 ?_
   all_goals (refine aI ?_)
   rw [←cK,←na]
   repeat' (first|apply ab|apply ai|refine ae ?_|refine bm (h:=?_)|fail)
   exact ⟨⟨i.k+1,hlt,A2,c2⟩,(by show 32-(i.k+1)<32-i.k;omega),aF ⟨rfl,rfl,rfl,rfl,trivial⟩ (List.sublist_cons_self _ _) fun _ h=>h⟩
 · have hk:i.k=s.size:=by omega
   repeat' (first|apply ab|refine ac ?_|apply aA|(refine gS (ns:=hexF s i.k) (hm:=by exact bF) ?_)|fail)
   apply aq;apply aB;rfl;rfl
   rw [hk]
   rfl
theorem ta (d:Nat) (h:d<16):hexN d<256:=by
 unfold hexN
 split<;>omega
theorem tb {l:List Nat} (h:∀ x∈l,x<256):∀ x∈hexL l,x<256:=fun x hx=>by
 rw [hexL,List.mem_flatMap] at hx
 obtain ⟨b,hb,hx⟩:=hx
 have hb':=h b hb
 rcases List.mem_cons.1 hx with rfl|hx
 · exact ta _ ag
 · rw [List.mem_singleton] at hx
   subst hx
   exact ta _ (Nat.mod_lt _ (by decide))
theorem oe (s:ByteArray):∀ n,n≤s.size→hexF s n=(hexL ((nl s).take n)).map fun (n:Nat)=>(n:Int)
 | 0,_=>rfl
 | n+1,h=>by
  have hn:n<(nl s).length:=by rw [cU];omega
  have hb:=gI (jL s) n
  have he:(nl s)[n]=(nl s).getD n 0:=by rw [List.getD_eq_getElem?_getD,List.getElem?_eq_getElem hn];rfl
  rw [na,oe s n ag,List.take_succ_eq_append_getElem hn,hexL,hexL,List.flatMap_append,List.map_append]
  congr 1
  obtain ⟨h1,h2⟩:=A5 _ hb
  rw [hexB,tt s n ag,h1,h2,he]
  rfl
theorem CB (s:ByteArray):nl (hexV s)=hexL (nl s):=by
 rw [hexV,oe s s.size (Nat.le_refl _),List.take_of_length_le (by rw [cU];exact Nat.le_refl _)]
 exact fB _ (tb (jL s))
theorem vf (s:ByteArray):(hexV s).size=2*s.size:=by
 rw [←cU,hexV,oe s s.size (Nat.le_refl _),List.take_of_length_le (by rw [cU];exact Nat.le_refl _),fB _ (tb (jL s)),hexL]
 rw [←cU]
 generalize nl s=l
 induction l with
 | nil=>rfl
 | cons a l ih=>rw [List.flatMap_cons,List.length_append,ih];simp only [List.length_cons,List.length_nil];omega
def idText (p:Int):ByteArray:=textV ⟨#[97,99,116,111,114]⟩++numV p
def idV (p:Int):ByteArray:=(hexV (shaV (idText p))).extract 0 16
theorem gd (p:Int) (hp:p<9223372036854775808):Pu Tryz.prog 23 #[.int .i64 p] Glob (.string (idV p)):=by
 refine aN (args:=[_]) _ Tryz.func23 rfl Tryz.ntmps23 rfl fun av bor w0=>?_
 have h1:=bx ⟨#[97,99,116,111,114]⟩
 have h2:=bw p
 have h5:(⟨#[97,99,116,111,114]⟩:ByteArray).size=5:=rfl
 have hsz:(idText p).size≤1099511627776:=by rw [idText,ByteArray.size_append];omega
 have hhx:=vf (shaV (idText p))
 rw [mB] at hhx
 repeat' (first|apply ab|apply aj|apply ai|refine ae ?_|refine ac ?_|apply aA|refine aC (hc:=dn _ ag) ?_|refine aC (hc:=dy _ hp) ?_|(refine nJ ?_)|(refine aC (hc:=qz (idText p) hsz) (hX:=fun _ h=>h) ?_)|(refine aC (hc:=CA (shaV (idText p)) (mB _)) (hX:=fun _ _=>trivial) ?_)|(refine zQ (h1:=by omega) ?_)|fail)
 apply aq;apply aB;rfl;rfl
 rfl
def ActD.sig (a:ActD) (g:SgD):ActD:={ a with e:=g.e,s:=g.s }
def actSignV (k:KyD) (a:ActD):ActD:=bif rightB (a.sig SgD.zero)&&rightK k then a.sig (signV k (coreV (a.sig SgD.zero))) else ActD.zero
theorem Ay {a:ActD} (h:a.Rng) {g:SgD} (h1:g.e<9223372036854775808) (h2:g.s<9223372036854775808):(a.sig g).Rng:=by
 obtain ⟨⟨i1,i2,i3,i4,i5,i6,i7,i8,i9⟩,h2',h3,h4⟩:=h
 exact ⟨⟨i1,i2,i3,i4,i5,i6,i7,h1,h2⟩,h2',h3,h4⟩
def ActTo (b:ActD) (u:Value) (X:World→Prop):Prop:=∃ s1 s2:SlV,u=(b.re s1 s2).v∧s1.n=b.to.n∧s2.n=b.wraps.n∧∀ w,X w→(b.re s1 s2).at_ w
set_option maxRecDepth 20000 in
set_option maxHeartbeats 2000000 in
theorem l5 (k:KyD) (a:ActD) (hr:a.Rng) (hs:a.Sm):Mk Tryz.prog 29 #[k.v,a.v] (fun w=>a.at_ w∧Glob w) (ActTo (actSignV k a)):=by
 refine bL (args:=[_,_]) _ Tryz.func29 rfl Tryz.ntmps29 rfl fun av bor w0=>?_
 have hr0:(a.sig SgD.zero).Rng:=Ay hr (by decide) (by decide)
 have hri:=dO (a.sig SgD.zero)
 have hrk:=fU k
 cases hb:rightB (a.sig SgD.zero) with
 | false =>
  rw [hb] at hri
  rw [show actSignV k a=ActD.zero from by rw [actSignV,hb];rfl]
  repeat' (first|apply ab|apply aj|apply ai|refine ae ?_|refine aM ?_|refine aG ?_|refine aJ ?_|refine bE ?_|refine bI ?_|refine aP fun _=>?_|refine aT fun _=>?_|refine aK ?_|refine aE ?_|apply aA|(refine bV (cs:=SgD.zero.cells) (hf:=by rfl) ?_)|(refine dC (a.sig SgD.zero).cells (h:=?_))|(refine aC (hc:=hri) (hX:=fun _ h=>h.1) ?_)|(refine bV (cs:=ActD.zero.cells) (hf:=by rfl) ?_)|fail)
  refine aq (bT rfl rfl bF (by rfl)) ⟨⟨none,0,0⟩,⟨none,0,0⟩,rfl,rfl,rfl,fun w _=>⟨bz w 1,bz w 5⟩⟩
 | true =>
  rw [hb] at hri
  cases hk:rightK k with
  | false =>
   rw [hk] at hrk
   rw [show actSignV k a=ActD.zero from by rw [actSignV,hb,hk];rfl]
   repeat' (first|apply ab|apply aj|apply ai|refine ae ?_|refine aM ?_|refine aG ?_|refine aH ?_|refine bE ?_|refine aP fun _=>?_|refine aT fun _=>?_|refine aK ?_|refine aE ?_|apply aA|(refine bV (cs:=SgD.zero.cells) (hf:=by rfl) ?_)|(refine dC (a.sig SgD.zero).cells (h:=?_))|(refine aC (hc:=hri) (hX:=fun _ h=>h.1) ?_)|(refine aC (hc:=hrk) (hX:=fun _ _=>trivial) ?_)|(refine bV (cs:=ActD.zero.cells) (hf:=by rfl) ?_)|fail)
   refine aq (bT rfl rfl bF (by rfl)) ⟨⟨none,0,0⟩,⟨none,0,0⟩,rfl,rfl,rfl,fun w _=>⟨bz w 1,bz w 5⟩⟩
  | true =>
   rw [hk] at hrk
   rw [show actSignV k a=a.sig (signV k (coreV (a.sig SgD.zero))) from by rw [actSignV,hb,hk];rfl]
   have hco:=oo (a.sig SgD.zero) (fun h=>dz hr0 h)
   rw [hb] at hco
   have hcs:=eZ (dz hr0 hb)
   have hsi:=Ac k (coreV (a.sig SgD.zero)) ag
   generalize hg:signV k (coreV (a.sig SgD.zero))=g at *
   repeat' (first|apply ab|apply aj|apply ai|refine ae ?_|refine aM ?_|refine aG ?_|refine aH ?_|refine bE ?_|refine aP fun _=>?_|refine aT fun _=>?_|refine aD ?_|apply ay|(refine bV (cs:=SgD.zero.cells) (hf:=by rfl) ?_)|(refine dC (a.sig SgD.zero).cells (h:=?_))|(refine aC (hc:=hri) (hX:=fun _ h=>h.1) ?_)|(refine aC (hc:=hrk) (hX:=fun _ _=>trivial) ?_)|fail)
   rename_i b2 b3 b4
   (refine bo [cel b2 77 k.cells] (fun w=>a.at_ w∧Glob w) ar ?_)
   all_goals refine aa 0 ?_
   all_goals (refine ao 1 ?_;(refine aG ?_);apply ab;refine ak ?_)
   all_goals (refine ao 2 ?_;(refine aC (hc:=hco) (hX:=fun _ h=>h.1) ?_);apply ab;refine ak ?_)
   all_goals (refine ao 3 ?_;(refine aC (hc:=hsi) (hX:=fun _ h=>h.2) ?_);apply ab;refine ak ?_)
   all_goals refine aa 4 ?_
   all_goals (refine ao 5 ?_;(refine dC (a.sig g).cells (h:=?_));apply ab;refine ak ?_)
   all_goals (refine aI ?_)
   repeat' (first|apply aj|apply ai|refine aM ?_|refine aL ?_|fail)
   refine bN (hc:=eR a.to (strs a.toL) hs.to (fun cs hcs=>by simp only [strs,List.mem_map] at hcs;obtain ⟨x,_,rfl⟩:=hcs;rfl)) (hX:=fun w h=>h.1.1) fun v1 X1 h1=>?_
   obtain ⟨s1,rfl,hn1,hw1⟩:=h1
   repeat' (first|apply ab|apply aj|apply ai|refine aM ?_|refine aL ?_|refine br ?_|fail)
   refine bN (hc:=js a.wraps (a.wrapsL.map WrapD.cells) hs.wraps (fun cs hcs=>by simp only [List.mem_map] at hcs;obtain ⟨x,_,rfl⟩:=hcs;rfl)) (hX:=fun w h=>h.1.1.2) fun v2 X2 h2=>?_
   obtain ⟨s2,rfl,hn2,hw2⟩:=h2
   repeat' (first|apply ab|apply aj|apply ai|refine aM ?_|refine aG ?_|refine br ?_|refine aK ?_|apply aA|fail)
   refine aq (bT rfl rfl bF (by rfl)) ⟨s1,s2,rfl,?_,?_,fun w h=>⟨hw1 w h.1.1.2,hw2 w h.1.2⟩⟩
   · show s1.n=a.to.n
     rw [hn1,hr.to_len]
     simp [strs]
   · show s2.n=a.wraps.n
     rw [hn2,hr.wraps_len]
     simp
end Go.Proofs.YtfnjklhjngphmaaGreatDoor
