/- Joined by program out of: Zt Ne Zu Tk Tm Tn Ya Yb Yd Yc Jg Jh Ye Oa Ob Oc Od Zo Zz. -/
import Derived.Test.YtcdilibijnboeaaGreatDoorQ11
set_option linter.unusedVariables false
set_option linter.unusedSimpArgs false
namespace Go.Proofs.YtcdilibijnboeaaGreatDoor
open Go Go.Proofs Sy
def cutK (kl:List KeyD) (q:Nat):List KeyD:=kl.filter fun k=>decide (k.from_≤(q:Int))
def movN (l:List ActD):Nat:=(l.filter fun a=>decide (a.kind=18)).length
def cutG (kl:List KeyD) (l:List ActD) (q:Nat):Int:=if ((cutK kl q).length:Int)-1-(movN (l.take q):Nat)<0 then 0 else ((cutK kl q).length:Int)-1-(movN (l.take q):Nat)
theorem pR (kl:List KeyD) (q:Nat):(cutK kl q).length≤kl.length:=List.length_filter_le _ _
theorem zp (l:List ActD):movN l≤l.length:=List.length_filter_le _ _
def cutD (c:ChainD) (kl:List KeyD) (q:Nat) (p:ByteArray) (sk:SlV):ChainD:=⟨c.id,⟨c.acts.p,q,q⟩,sk,p,cutG kl c.actsL q,false,c.actsL.take q⟩
structure CutJ (kl:List KeyD) (q:Nat) where
 k:Nat
 hk:k≤kl.length
 n:Nat
 hn:n=(cutK (kl.take k) q).length
 A:Option Addr
 c:Nat
 xs:List Value
 hxs:xs=((cutK (kl.take k) q).map KeyD.cells).flatten
structure GenJ (l:List ActD) (q n:Nat) where
 k:Nat
 hk:k≤q
 g:Int
 hg:g=(n:Int)-1-(movN (l.take k):Nat)
set_option maxHeartbeats 4000000 in
theorem nN (c:ChainD) (kl:List KeyD) (hcl:c.actsL.length≤1000000) (hkl1:kl.length≤1000000) (q:Nat) (hq0:0<q) (x:ActD) (hx:c.actsL[q]?=some x) :
  Mk Tryz.prog 10 #[c.v,.int .i64 (q:Nat)] (fun w=>c.at_ w∧Keyz w c.keys kl)
   (fun u X'=>∃ sk:SlV,u=(cutD c kl q x.prev sk).v∧∀ w,X' w→(cutD c kl q x.prev sk).at_ w∧Keyz w sk (cutK kl q)):=by
 refine cv (args:=[_,_]) _ Tryz.func10 rfl Tryz.ntmps10 rfl fun av bor w0=>?_
 refine bI (p:=(c.acts.n=c.actsL.length∧c.acts.n≤maxLen∧(0<c.actsL.length→c.acts.p.isSome=true)∧c.acts.n≤c.acts.c)∧c.keys.n=kl.length∧c.keys.n≤maxLen∧(0<kl.length→c.keys.p.isSome=true)) (fun w h=>⟨⟨h.1.len_,h.1.max_,h.1.some_,h.1.cap_⟩,Keyz.know w h.2⟩) fun ⟨⟨hl,hm,hp,hcap⟩,hkl,hkm,hkp⟩=>?_
 simp only [maxLen] at hm hkm
 have hqlt:q<c.actsL.length:=(List.getElem?_eq_some_iff.1 hx).1
 have hp':=hp ad
 have hcx:∀ w,c.at_ w∧Keyz w c.keys kl→CellAt w c.acts.p (q*20+2) (.string x.prev):=fun w h=>(Acts.get h.1 hx).2.2 2 _ rfl
 repeat' (first|refine al (ca false rfl rfl (decide_eq_false ad)) rfl aA rfl ?_|refine al (fj false rfl rfl (decide_eq_false ad)) rfl aA rfl ?_|apply ab|apply cw_seq|apply cw_reg|refine ai ?_|refine az ?_|refine ay ?_|refine aZ ?_|refine aK fun _=>?_|refine aL fun _=>?_|refine cw_cond_f ?_|apply cw_skip|fail)
 rename_i b2 b4
 (refine aT [cel b4 31 ChainD.zero.cells,cel b2 31 c.v.cells.toList] (fun w=>c.at_ w∧Keyz w c.keys kl) aj ?_)
 all_goals refine ao 0 ?_
 all_goals refine ao 1 ?_
 all_goals refine ao 2 ?_
 all_goals refine ao 3 ?_
 all_goals refine ao 4 ?_
 all_goals refine ao 5 ?_
 all_goals (refine ao 6 (hy:=by (apply AL;rfl;rfl;rfl;omega;omega;omega)) ?_)
 all_goals refine ao 7 ?_
 all_goals refine ao 8 ?_
 all_goals refine ao 9 ?_
 all_goals (refine ao 10 (hy:=by (apply aM (q:=q*20);rfl;rfl;omega;omega;assumption;omega)) ?_)
 all_goals (refine ao 11 (hy:=by (apply fm;rfl;assumption;rfl)) ?_)
 all_goals (refine ao 12 (hy:=by (apply ez (q:=q*20+2) (u:=.string x.prev);rfl;exact hcx)) ?_)
 all_goals (refine ao 13 (hy:=by (apply bZ (cs:=[.string c.id,.slice c.acts.p q q,.slice none 0 0,.string x.prev,.int .i64 0,.bool false]);rfl;rfl)) ?_)
 all_goals (refine ae 14 ?_;(refine aK fun _=>?_);apply ab;refine dL ?_)
 all_goals (refine ae 15 ?_;(refine aI ?_);apply ab;refine dL ?_)
 all_goals (refine ar ?_)
 rename_i b5
 have hn20:(q:Int).toNat=q:=rfl
 refine cR 35 3 ?_
 repeat' (first|apply ab|apply cw_seq|apply cw_reg|refine ai ?_|refine az ?_|refine ay ?_|refine aZ ?_|apply cw_block|fail)
 refine aS (ι:=CutJ kl q) (fun i=>⟨[(1,.int .i64 (q:Nat)),(4,.pointer (some ⟨b4,0,none⟩)),(5,.pointer (some ⟨b5,0,none⟩)),(36,c.keys.v),(37,.int .i64 c.keys.n),(38,.int .i64 i.k)],
  [orow 35 3 (.slice i.A i.n i.c) i.n i.xs,cel b5 31 [.string c.id,.slice c.acts.p q q,.slice i.A i.n i.c,.string x.prev,.int .i64 0,.bool false],cel b4 31 ChainD.zero.cells],fun w=>c.at_ w∧Keyz w c.keys kl⟩) (fun i=>kl.length-i.k) ⟨0,Nat.zero_le _,0,rfl,none,0,[],rfl⟩
  (aw ⟨rfl,rfl,rfl,rfl,rfl,rfl,trivial⟩ (List.Sublist.cons_cons _ (List.Sublist.cons_cons _ (List.Sublist.cons_cons _ (List.nil_sublist _)))) fun _ h=>h) fun i=>?_
 obtain ⟨k,hk,n,hnE,A,cp,xs,hxs⟩:=i
 simp only
 have hnl:n≤k:=by
  have h1:=pR (kl.take k) q
  rw [List.length_take] at h1
  omega
 repeat' (first|apply ab|apply cw_seq|apply cw_reg|refine ai ?_|refine az ?_|refine ay ?_|refine bc ?_|refine aZ ?_|refine cZ (h:=?_)|refine aY ?_|apply cw_skip|apply cw_block|apply aP|(refine aC (ht:=?_) (hf:=?_);all_goals (intro hx_;first|have:=aO hx_|have:=aR hx_)))
 · have hlt:k<kl.length:=by omega
   have hkp':=hkp ad
   obtain ⟨y,hy⟩:∃ y,kl[k]?=some y:=⟨_,List.getElem?_eq_getElem hlt⟩
   have htk:cutK (kl.take (k+1)) q=cutK (kl.take k) q++bif decide (y.from_≤(q:Int)) then [y] else []:=by
    rw [cutK,cutK,List.take_add_one,hy,List.filter_append,Option.toList_some]
    congr 1
   repeat' (first|refine bD (size:=3) (vs:=[KeyD.v y]) (css:=y.cells) (hsz:=by rfl) (hcs:=by rfl) fun _=>?_|apply ab|apply cw_seq|apply cw_reg|refine ai ?_|refine az ?_|refine ay ?_|refine aG ?_|refine cw ?_|refine be (h:=?_)|refine aK fun _=>?_|refine aY ?_|refine aI ?_|apply cw_skip|(refine bE (q:=k*3) ?_)|(refine cE (cs:=y.cells) (hF:=fun w h=>Keyz.get h.2 hy) ?_)|(refine aU (size:=3) (news:=y.cells) (q:=1) rfl rfl rfl rfl (fun _=>At.there _ (At.there _ (At.here _))) (fun w G=>bm G aF rfl rfl 1) ad (by simp only [maxLen];omega) rfl ?_ rfl ?_;(with_reducible rfl);intro A3 c3)|(refine aC (ht:=?_) (hf:=?_);all_goals (intro hx_;first|have:=aO hx_|have:=aR hx_)))
   · have e:cutK (kl.take (k+1)) q=cutK (kl.take k) q++[y]:=by rw [htk,decide_eq_true (by assumption)];rfl
     exact ⟨(⟨k+1,hlt,n+1,by rw [e,List.length_append,←hnE];rfl,A3,c3,xs++y.cells,by rw [e,hxs];simp⟩:CutJ kl q),(by show kl.length-(k+1)<kl.length-k;omega),aw ⟨rfl,rfl,rfl,rfl,rfl,rfl,trivial⟩ (List.Sublist.cons _ (List.Sublist.cons _ (aD _))) fun _ h=>h⟩
   · have e:cutK (kl.take (k+1)) q=cutK (kl.take k) q:=by rw [htk,decide_eq_false (by assumption)];exact List.append_nil _
     exact ⟨(⟨k+1,hlt,n,by rw [e,←hnE],A,cp,xs,by rw [e,hxs]⟩:CutJ kl q),(by show kl.length-(k+1)<kl.length-k;omega),aw ⟨rfl,rfl,rfl,rfl,rfl,rfl,trivial⟩ (List.Sublist.cons _ (aD _)) fun _ h=>h⟩
 · have hkE:k=kl.length:=by omega
   rw [hkE,List.take_length] at hnE hxs
   refine aS (ι:=GenJ c.actsL q n) (fun j=>⟨[(4,.pointer (some ⟨b4,0,none⟩)),(5,.pointer (some ⟨b5,0,none⟩)),(59,.slice c.acts.p q q),(60,.int .i64 (q:Nat)),(61,.int .i64 j.k)],
    [orow 35 3 (.slice A n cp) n xs,cel b5 31 [.string c.id,.slice c.acts.p q q,.slice A n cp,.string x.prev,.int .i64 j.g,.bool false],cel b4 31 ChainD.zero.cells],fun w=>c.at_ w∧Keyz w c.keys kl⟩) (fun j=>q-j.k) ⟨0,Nat.zero_le _,(n:Int)-1,by simp [movN]⟩
    (aw ⟨rfl,rfl,rfl,rfl,rfl,trivial⟩ (aD _) fun _ h=>h) fun j=>?_
   obtain ⟨k2,hk2,g,hg⟩:=j
   simp only
   have hmv:movN (c.actsL.take k2)≤k2:=by
    have:=zp (c.actsL.take k2)
    rw [List.length_take] at this
    omega
   repeat' (first|apply ab|apply cw_seq|apply cw_reg|refine az ?_|refine ay ?_|refine aG ?_|refine bc ?_|refine aY ?_|refine aI ?_|apply cw_skip|apply cw_block|apply aq|apply aP|refine A6 ?_|(refine aC (ht:=?_) (hf:=?_);all_goals (intro hx_;first|have:=aO hx_|have:=aR hx_)))
   · have hjl:k2<q:=by omega
     obtain ⟨y,hy⟩:∃ y,c.actsL[k2]?=some y:=⟨_,List.getElem?_eq_getElem ad⟩
     have hst:movN (c.actsL.take (k2+1))=movN (c.actsL.take k2)+bif decide (y.kind=18) then 1 else 0:=by
      rw [movN,movN,List.take_add_one,hy,List.filter_append,Option.toList_some,List.length_append]
      congr 1
      cases hb:decide (y.kind=18) with
      | true=>simp [hb]
      | false=>simp [hb]
     repeat' (first|apply ab|apply cw_seq|apply cw_reg|refine ai ?_|refine az ?_|refine ay ?_|refine bN ?_|refine be (h:=?_)|refine cZ (h:=?_)|refine aK fun _=>?_|refine aY ?_|refine aI ?_|apply cw_skip|(refine bE (q:=k2*20) ?_)|(refine cE (cs:=y.cells) (hF:=fun w h=>Acts.get h.1 hy) ?_)|(refine aC (ht:=?_) (hf:=?_);all_goals (intro hx_;first|have:=aO hx_|have:=aR hx_)))
     · have e:movN (c.actsL.take (k2+1))=movN (c.actsL.take k2)+1:=by rw [hst,decide_eq_true (by assumption)];rfl
       exact ⟨(⟨k2+1,hjl,g-1,by rw [e];omega⟩:GenJ c.actsL q n),(by show q-(k2+1)<q-k2;omega),aw ⟨rfl,rfl,rfl,rfl,rfl,trivial⟩ (List.Sublist.cons _ (aD _)) fun _ h=>h⟩
     · have e:movN (c.actsL.take (k2+1))=movN (c.actsL.take k2):=by rw [hst,decide_eq_false (by assumption)];rfl
       exact ⟨(⟨k2+1,hjl,g,by rw [e];exact hg⟩:GenJ c.actsL q n),(by show q-(k2+1)<q-k2;omega),aw ⟨rfl,rfl,rfl,rfl,rfl,trivial⟩ (List.Sublist.cons _ (aD _)) fun _ h=>h⟩
   · have hk2E:k2=q:=by omega
     subst hk2E
     have hgE:(if g<0 then 0 else g)=cutG kl c.actsL k2:=by rw [cutG,←hnE,←hg]
     subst hxs
     refine ak (cW rfl rfl bS (by rfl)) ⟨⟨A,n,cp⟩,by rw [cutD,←hgE];rfl,fun w h=>?_⟩
     have h1:=RowsD.take (n:=k2) h.1.1.1 (by simp;omega)
     rw [←List.map_take] at h1
     refine ⟨⟨⟨h1.len,Nat.le_refl _,by simp only [maxLen];show k2≤_;omega,h1.row⟩,fun a ha=>h.1.1.2 a (List.mem_of_mem_take ha)⟩,?_⟩
     exact cg (xs:=(cutK kl k2).map KeyD.cells) (h.2 _ bS) (by rw [List.length_map];exact hnE) fun r hr=>by
      obtain ⟨z,_,rfl⟩:=List.mem_map.1 hr
      rfl
theorem jf (c:ChainD) (n:Int) (hn:n<1):Pu Tryz.prog 10 #[c.v,.int .i64 n] (fun _=>True) (⟨c.id,⟨none,0,0⟩,⟨none,0,0⟩,⟨#[]⟩,0,false,[]⟩:ChainD).v:=by
 refine ax (args:=[_,_]) _ Tryz.func10 rfl Tryz.ntmps10 rfl fun av bor w0=>?_
 repeat' (first|refine al (ca true rfl rfl (decide_eq_true hn)) rfl aA rfl ?_|apply ab|apply cw_seq|apply cw_reg|refine ai ?_|refine az ?_|refine ay ?_|refine aK fun _=>?_|refine aL fun _=>?_|refine aI ?_|refine cw_cond_t ?_|apply aq|(refine bq (cs:=[.string c.id,.slice none 0 0,.slice none 0 0,.string ⟨#[]⟩,.int .i64 0,.bool false]) (hf:=by rfl) ?_)|fail)
 all_goals exact ak (cW rfl rfl bS (by rfl)) rfl
theorem uL (c:ChainD) (n:Int) (h1:1≤n) (hn:(c.acts.n:Int)≤n):Pu Tryz.prog 10 #[c.v,.int .i64 n] (fun _=>True) c.v:=by
 refine ax (args:=[_,_]) _ Tryz.func10 rfl Tryz.ntmps10 rfl fun av bor w0=>?_
 repeat' (first|refine al (ca false rfl rfl (decide_eq_false ad)) rfl aA rfl ?_|refine al (fj true rfl rfl (decide_eq_true ad)) rfl aA rfl ?_|apply ab|apply cw_seq|apply cw_reg|refine ai ?_|refine az ?_|refine ay ?_|refine aG ?_|refine aZ ?_|refine aK fun _=>?_|refine aL fun _=>?_|refine aI ?_|refine cw_cond_t ?_|refine cw_cond_f ?_|apply cw_skip|apply aq|fail)
 all_goals exact ak (cW rfl rfl bS (by rfl)) rfl
def keyF (kl:List KeyD) (i:Int):Nat→Option KeyD
 | 0=>none
 | j+1=>bif decide ((kl.getD j KeyD.zero).from_≤i) then some (kl.getD j KeyD.zero) else keyF kl i j
def keyV (n:Nat) (kl:List KeyD) (i:Int):Option KeyD:=bif decide (i<0)||decide ((n:Int)<i) then none else keyF kl i kl.length
def keyOP (o:Option KeyD):Value:=.tuple #[(o.getD KeyD.zero).v,.bool o.isSome]
structure KeyI (kl:List KeyD) (i:Int) where
 k:Nat
 hk:k≤kl.length
 hs:keyF kl i kl.length=keyF kl i k
set_option maxHeartbeats 8000000 in
theorem jB (c:ChainD) (kl:List KeyD) (i:Int):Pu Tryz.prog 11 #[c.v,.int .i64 i] (fun w=>c.at_ w∧Keyz w c.keys kl) (keyOP (keyV c.acts.n kl i)):=by
 refine ax (args:=[_,_]) _ Tryz.func11 rfl Tryz.ntmps11 rfl fun av bor w0=>?_
 refine bI (p:=c.keys.n=kl.length∧c.keys.n≤maxLen∧(0<kl.length→c.keys.p.isSome=true)) (fun w h=>Keyz.know w h.2) fun ⟨hkn,hkm,hkp⟩=>?_
 simp only [maxLen] at hkm
 cases hb:(decide (i<0)||decide ((c.acts.n:Int)<i)) with
 | true =>
  rw [show keyV c.acts.n kl i=none from by rw [keyV,hb];rfl]
  repeat' (first|apply ab|apply cw_seq|apply cw_reg|refine ai ?_|refine ac ?_|refine az ?_|refine ay ?_|refine aB ?_|refine aE ?_|refine bc ?_|refine cI ?_|refine aZ ?_|refine cZ (h:=?_)|refine bY ?_|refine aK fun _=>?_|refine aL fun _=>?_|refine aI ?_|refine cw_cond_t ?_|apply cw_skip|apply cw_block|apply aq|(refine bq (cs:=KeyD.zero.cells) (hf:=by rfl) ?_)|((fail_if_success (refine aX ?_));refine aQ (ht:=?_) (hf:=?_);all_goals (intro hx_;first|have:=aO hx_|have:=aR hx_))|(refine aC (ht:=?_) (hf:=?_);all_goals (intro hx_;first|have:=aO hx_|have:=aR hx_)))
  all_goals first
   | exact ak (dO rfl rfl rfl bS (by rfl)) rfl
   | (exfalso;simp_all;done)
 | false =>
  have hb':=hb
  simp only [Bool.or_eq_false_iff,decide_eq_false_iff_not] at hb'
  obtain ⟨h0,h1⟩:=hb'
  rw [show keyV c.acts.n kl i=keyF kl i kl.length from by rw [keyV,hb];rfl]
  repeat' (first|refine al (ca false rfl rfl (decide_eq_false h0)) rfl aA rfl ?_|refine jM (hab:=h1) ?_|apply ab|apply cw_seq|apply cw_reg|refine ai ?_|refine ac ?_|refine az ?_|refine ay ?_|refine aE ?_|refine aZ ?_|refine cZ (h:=?_)|refine aK fun _=>?_|refine aL fun _=>?_|refine cw_cond_f ?_|apply cw_skip|apply cw_block|fail)
  rename_i b2 b4
  refine aS (ι:=KeyI kl i) (fun j=>⟨[(1,.int .i64 i),(2,.pointer (some ⟨b2,0,none⟩)),(4,.pointer (some ⟨b4,0,none⟩)),(6,.int .i64 ((j.k:Nat)-1))],[cel b4 35 KeyD.zero.cells,cel b2 31 c.cells],fun w=>c.at_ w∧Keyz w c.keys kl⟩) (fun j=>j.k) ⟨c.keys.n,by omega,by rw [hkn]⟩ (aw ⟨rfl,rfl,rfl,rfl,trivial⟩ (aD _) fun _ h=>h) fun j=>?_
  obtain ⟨k,hk,hs⟩:=j
  simp only
  cases k with
  | zero =>
   rw [hs]
   clear hs
   repeat' (first|refine al (fj false rfl rfl (decide_eq_false ad)) rfl aA rfl ?_|apply ab|apply cw_seq|apply cw_reg|refine ai ?_|refine ac ?_|refine aI ?_|refine cw_cond_f ?_|apply aq|apply aP|(refine bq (cs:=KeyD.zero.cells) (hf:=by rfl) ?_)|fail)
   exact ak (dO rfl rfl rfl bS (by rfl)) rfl
  | succ k =>
   obtain ⟨y,hy⟩:∃ y,kl[k]?=some y:=⟨_,List.getElem?_eq_getElem ad⟩
   have hyD:kl.getD k KeyD.zero=y:=by rw [List.getD_eq_getElem?_getD,hy];rfl
   have hkp':=hkp ad
   cases hle:decide (y.from_≤i) with
   | true =>
    rw [hs,show keyF kl i (k+1)=some y from by rw [keyF,hyD,hle];rfl]
    clear hs
    have hle':=aO hle
    repeat' (first|refine al (fj true rfl rfl (decide_eq_true ad)) rfl aA rfl ?_|refine eu (q:=k*3) (u:=.int .i64 y.from_) (hF:=fun w h=>(Keyz.get h.2 hy).2.2 0 _ rfl) ?_|apply ab|apply cw_seq|apply cw_reg|refine ai ?_|refine ac ?_|refine az ?_|refine ay ?_|refine cw ?_|refine aI ?_|refine cw_cond_t ?_|apply cw_skip|apply cw_block|apply aq|(refine bE (q:=k*3) ?_)|(refine gz ?_)|(refine cE (cs:=y.cells) (hF:=fun w h=>Keyz.get h.2 hy) ?_)|fail)
    all_goals first
     | exact ak (dO rfl rfl rfl bS (by rfl)) rfl
     | (exfalso;omega)
   | false =>
    have hs2:keyF kl i kl.length=keyF kl i k:=by rw [hs,keyF,hyD,hle];rfl
    repeat' (first|refine al (fj true rfl rfl (decide_eq_true ad)) rfl aA rfl ?_|refine eu (q:=k*3) (u:=.int .i64 y.from_) (hF:=fun w h=>(Keyz.get h.2 hy).2.2 0 _ rfl) ?_|apply ab|apply cw_seq|apply cw_reg|refine ai ?_|refine ac ?_|refine az ?_|refine ay ?_|refine cw ?_|refine cZ (h:=?_)|refine cw_cond_t ?_|refine cw_cond_f ?_|apply cw_skip|apply cw_block|(refine bE (q:=k*3) ?_)|(refine gz ?_)|fail)
    all_goals first
     | exact ⟨(⟨k,by omega,hs2⟩:KeyI kl i),Nat.lt_succ_self k,aw ⟨rfl,rfl,rfl,(by show some (Value.int IntKind.i64 (((k+1:Nat):Int)-1-1))=some (Value.int IntKind.i64 ((k:Int)-1));rw [show ((k+1:Nat):Int)-1-1=(k:Int)-1 from by omega]),trivial⟩ (aD _) fun _ h=>h⟩
     | (exfalso;exact absurd (by assumption) (aR hle))
theorem mC {c c':ChainD} {a:ActD} {pl:Option Nat} (h1:c.id=c'.id) (h2:c.acts.n=c'.acts.n) (h3:c.prev=c'.prev) (h4:c.actsL=c'.actsL):fitsV c a pl=fitsV c' a pl:=by
 have e:∀ p,atK c pl p=atK c' pl p:=fun p=>by
  cases pl with
  | none=>rfl
  | some j=>show p (c.actsL.getD j ActD.zero).kind=p (c'.actsL.getD j ActD.zero).kind;rw [h4]
 rw [fitsV,fitsV,h1,h2,h3,e,e]
theorem uj {W:OfW} {st s:ChS} (h:regS W st=some s):∃ c i,W.won st.gen=some c∧c.base=(st.acts.length:Int)∧c.prev=st.prev∧setI st.acts st.acts.length=some i∧W.clm (st.acts.getD i ActD.zero).m c=true∧s=⟨st.acts,st.keys++[⟨(st.acts.length:Nat),c.pub,c.home⟩],W.dgC c,st.gen+1⟩:=by
 rw [regS] at h
 cases hw:W.won st.gen with
 | none=>rw [hw] at h;cases h
 | some c =>
  rw [hw] at h
  simp only at h
  cases hb:decide (c.base=(st.acts.length:Int))&&seqB c.prev st.prev with
  | false=>rw [hb] at h;cases h
  | true =>
   rw [hb] at h
   rw [Bool.and_eq_true,decide_eq_true_eq,seqB_iff] at hb
   cases hs:setI st.acts st.acts.length with
   | none=>rw [hs] at h;cases h
   | some i =>
    rw [hs] at h
    simp only [cond_true] at h
    cases hc:W.clm (st.acts.getD i ActD.zero).m c with
    | false=>rw [hc] at h;cases h
    | true =>
     rw [hc,cond_true,Option.some.injEq] at h
     exact ⟨c,i,rfl,hb.1,hb.2,rfl,hc,h.symm⟩
theorem oB {W:OfW} {st s:ChS} (h:stepS W st=some s):regS W st=some s∨regS W st=none∧∃ a,candL W st=[a]∧s=addS st a:=by
 rw [stepS] at h
 cases hr:regS W st with
 | some s'=>rw [hr] at h;exact .inl h
 | none =>
  rw [hr] at h
  cases ho:oneA (candL W st) with
  | none=>rw [ho] at h;cases h
  | some a =>
   rw [ho,Option.map_some,Option.some.injEq] at h
   exact .inr ⟨rfl,a,iT ho,h.symm⟩
theorem ni {W:OfW} {P:ChS→Prop} (hst:∀ st s,P st→stepS W st=some s→P s):∀ (n:Nat) (st:ChS),P st→P (runS W n st)
 | 0,st,h=>h
 | n+1,st,h=>by
  cases hs:stepS W st with
  | none=>rw [oH hs];exact h
  | some s=>rw [oI hs];exact ni hst n s (hst st s h hs)
theorem me {α:Type} (l:List α) (a:α) (i:Nat) (h:i≤l.length):(l++[a]).take i=l.take i:=by
 rw [List.take_append,show i-l.length=0 from by omega,List.take_zero,List.append_nil]
theorem pF {α:Type} {l:List α} {a x:α} {i:Nat} (h:(l++[a])[i]?=some x):l[i]?=some x∧i<l.length∨i=l.length∧x=a:=by
 rcases Nat.lt_trichotomy i l.length with hi|rfl|hi
 · rw [List.getElem?_append_left hi] at h
   exact .inl ⟨h,hi⟩
 · rw [List.getElem?_append_right (Nat.le_refl _),Nat.sub_self] at h
   exact .inr ⟨rfl,(Option.some.inj h).symm⟩
 · rw [List.getElem?_append_right ad,List.getElem?_singleton,if_neg (by omega)] at h
   cases h
structure ChFit (W:OfW) (st:ChS):Prop where
 mem:∀ a∈st.acts,a∈W.L
 seq:∀ (i:Nat) (x:ActD),st.acts[i]?=some x→x.seq=(i:Int)
 fit:∀ (i:Nat) (x:ActD),st.acts[i]?=some x→1≤i→fitsV ((⟨st.acts.take i,[],x.prev,0⟩:ChS).ch W.id) x (idxV (st.acts.take i) x.object)=true
 key0:∃ k r,st.keys=k::r∧k.from_=0
theorem xD {W:OfW} {st s:ChS} (h:ChFit W st) (hs:stepS W st=some s):ChFit W s:=by
 obtain ⟨k,r,hk,hk0⟩:=h.key0
 rcases oB hs with h1|⟨h1,a,h2,rfl⟩
 · obtain ⟨c,i,e1,e2,e3,e4,e5,rfl⟩:=uj h1
   exact ⟨h.mem,h.seq,h.fit,k,r++[_],by rw [hk];rfl,hk0⟩
 · have ha:a∈candL W st:=by rw [h2];exact List.mem_singleton.2 rfl
   obtain ⟨m1,m2,m3⟩:=lE ha
   have hp:a.prev=st.prev:=by
    rw [candL,List.mem_filter,List.mem_filter,posB,Bool.and_eq_true,seqB_iff] at ha
    exact ha.1.2.2
   refine ⟨fun x hx=>?_,fun i x hx=>?_,fun i x hx h0=>?_,?_⟩
   · rcases List.mem_append.1 (show x∈st.acts++[a] from hx) with hx|hx
     · exact h.mem x hx
     · rw [List.mem_singleton.1 hx];exact m1
   · rcases pF (show (st.acts++[a])[i]?=some x from hx) with ⟨h3,_⟩|⟨rfl,rfl⟩
     · exact h.seq i x h3
     · exact m2
   · rcases pF (show (st.acts++[a])[i]?=some x from hx) with ⟨h3,h4⟩|⟨rfl,rfl⟩
     · have:=h.fit i x h3 h0
       rw [show (addS st a).acts.take i=st.acts.take i from me _ _ _ (by omega)]
       exact this
     · rw [show (addS st x).acts.take st.acts.length=st.acts from by rw [show (addS st x).acts=st.acts++[x] from rfl,me _ _ _ (Nat.le_refl _),List.take_length]]
       rw [candB,Bool.and_eq_true] at m3
       rw [←m3.1]
       exact mC rfl rfl hp rfl
   · show ∃ k r,(bif decide (a.kind=18) then st.keys++[_] else st.keys)=k::r∧k.from_=0
     cases decide (a.kind=18) with
     | true=>exact ⟨k,r++[_],by rw [hk];rfl,hk0⟩
     | false=>exact ⟨k,r,hk,hk0⟩
theorem BQ {W:OfW} {a:ActD} (ha:a∈firstL W):begS a=⟨[a],[⟨0,a.n,a.m⟩],digV a,0⟩∧a∈W.L∧a.seq=0∧a.prev=⟨#[]⟩∧a.kind=0∧idV a.n=W.id∧W.ver a.n a=true:=by
 rw [firstL,List.mem_filter,List.mem_filter] at ha
 have h2:=ha.1.2
 simp only [posB,Bool.and_eq_true,decide_eq_true_eq,seqB_iff] at h2
 have h3:=ha.2
 simp only [firstB,Bool.and_eq_true,decide_eq_true_eq,seqB_iff] at h3
 exact ⟨by rw [begS,addS,h3.1.1];rfl,ha.1.1,h2.1,h2.2,h3.1.1,h3.1.2,h3.2⟩
theorem Ao {W:OfW} {a:ActD} (ha:a∈firstL W):ChFit W (begS a):=by
 obtain ⟨e,h1,h2,h3,h4,h5,h6⟩:=BQ ha
 rw [e]
 refine ⟨fun x hx=>by rw [List.mem_singleton.1 hx];exact h1,fun i x hx=>?_,fun i x hx h0=>?_,_,[],rfl,rfl⟩
 · rw [List.getElem?_singleton] at hx
   split at hx
   · rename_i hi
     subst hi
     rw [←Option.some.inj hx,h2];rfl
   · cases hx
 · rw [List.getElem?_singleton,if_neg (by omega)] at hx
   cases hx
theorem Ac {W:OfW} {a:ActD} (ha:a∈firstL W):ChFit W (finS W a):=ni (P:=ChFit W) (fun st s h hs=>xD h hs) _ _ (Ao ha)
theorem jw (kl:List KeyD) (i:Int):∀ n,n≤kl.length→keyF kl i n=((kl.take n).filter fun k=>decide (k.from_≤i)).getLast?
 | 0,_=>rfl
 | n+1,h=>by
  obtain ⟨y,hy⟩:∃ y,kl[n]?=some y:=⟨_,List.getElem?_eq_getElem ad⟩
  have hD:kl.getD n KeyD.zero=y:=by rw [List.getD_eq_getElem?_getD,hy];rfl
  rw [keyF,hD,List.take_add_one,hy,Option.toList_some,List.filter_append]
  cases hb:decide (y.from_≤i) with
  | true=>simp [hb]
  | false=>simp [hb,jw kl i n (by omega)]
theorem Al (kl:List KeyD) {m n:Nat} (h:m≤n):(kl.filter fun k=>decide (k.from_≤(n:Int))).filter (fun k=>decide (k.from_≤(m:Int)))=kl.filter fun k=>decide (k.from_≤(m:Int)):=by
 rw [List.filter_filter]
 congr 1
 funext k
 rw [Bool.eq_iff_iff,Bool.and_eq_true,decide_eq_true_eq,decide_eq_true_eq]
 omega
section
variable {P:Program} {N:Nat} {av bor:List Nat} {w0:World} {ty:TypeId}
end
section
variable {N:Nat} {av bor:List Nat} {w0:World} {st:St} {ty:TypeId} {x:Operand}
end
def seedB (i:Nat):ByteArray:=⟨#[97,99,116,111,114,32]⟩++ofInts [(i:Int)]
def keyA (i:Nat):KyD:=keyOf (seedB i)
def idA21 (i:Nat):ByteArray:=idV (keyA i).p
def ChainD.more (c:ChainD) (s:SlV) (a:ActD):ChainD:={ c with acts:=s,actsL:=c.actsL++[a],prev:=digV a }
def ActD.can (a:ActD):ActD:=a.re ⟨none,a.to.n,0⟩ ⟨none,a.wraps.n,0⟩
def ChainD.can (c:ChainD):ChainD:={ c with acts:=⟨none,c.acts.n,0⟩,keys:=⟨none,c.keys.n,0⟩,actsL:=c.actsL.map ActD.can }
def actorB:ByteArray:=⟨#[97,99,116,111,114]⟩
def idC (i:Nat):ChainD:={ ChainD.zero with id:=idA21 i }
def draftB (i:Nat):ActD:={ draftV (idC i) 0 0 with text:=actorB,n:=(keyA i).p }
def actB (i:Nat):ActD:=actSignV (keyA i) (draftB i)
def beginC (i:Nat):ChainD:={ idC i with acts:=⟨none,1,0⟩,keys:=⟨none,1,0⟩,prev:=digV (actB i),actsL:=[(actB i).can] }
section
variable {N:Nat} {av bor:List Nat} {w0:World} {E:Env} {loc:List Res} {X:World→Prop}
end
structure BegI where
 k:Nat
 hk:k≤4
 L:List ChainD
 hL:L.map ChainD.can=(List.range k).map beginC
 xs:List Value
 hxs:xs=(L.map ChainD.cells).flatten
 hb:∀ c∈L,ActsOk c.actsL∧c.actsL.length≤1
 A:Option Addr
 c:Nat
theorem wC (w:World):(isAgg 41).run Tryz.prog w=.ok true w:=by kernel_rfl
theorem tW (w:World):(Go.sizeOf 41).run Tryz.prog w=.ok 3 w:=by kernel_rfl
theorem pp {cs:Array Value} {o:Nat} {w:World}:(part 41 cs o).run Tryz.prog w=.ok (.agg (cs.extract o (o+3))) w:=by
 simp [part,wC,tW]
theorem xH {d:Nat} {a b c a' b' c':ByteArray} {w:World}:(Op.equalIn (d+2) 41 (.agg #[.string a,.string b,.string c]) (.agg #[.string a',.string b',.string c'])).run Tryz.prog w=.ok (seqB a a'&&(seqB b b'&&(seqB c c'&&true))) w:=by
 rw [run_equalIn_agg w (d+1) _ _ _ lF mJ]
 have hf:(Tryz.prog.fieldsOf 41).toList.map (fun f=>(f.name,f.type,f.offset))=[("Nonce",9,0),("Data",9,1),("Tag",9,2)]:=by kernel_rfl
 generalize (Tryz.prog.fieldsOf 41).toList=l at hf
 rcases l with _|⟨⟨n1,t1,o1,_⟩,_|⟨⟨n2,t2,o2,_⟩,_|⟨⟨n3,t3,o3,_⟩,_|⟨f4,l⟩⟩⟩⟩
 case cons.cons.cons.nil =>
  simp only [List.map_cons,List.map_nil,List.cons.injEq,Prod.mk.injEq,and_true] at hf
  obtain ⟨⟨rfl,rfl,rfl⟩,⟨rfl,rfl,rfl⟩,rfl,rfl,rfl⟩:=hf
  exact ci (by dsimp only;decide) (br rfl) (br rfl) fa (ci (by dsimp only;decide) (br rfl) (br rfl) fa (ci (by dsimp only;decide) (br rfl) (br rfl) fa gC))
 all_goals (have:=congrArg List.length hf;simp at this)
def wrapEq (a b:WrapD):Bool:=decide (a.to=b.to)&&(decide (a.eph=b.eph)&&((seqB a.box.nonce b.box.nonce&&(seqB a.box.data b.box.data&&(seqB a.box.tag b.box.tag&&true)))&&true))
theorem oo (a:WrapD):wrapEq a a=true:=by simp [wrapEq,cq]
theorem lL:Tryz.prog.underlying 97=some (.struct (Tryz.prog.fieldsOf 97)):=by kernel_rfl
theorem mS:Tryz.prog.stoodInHeld 97=false:=by kernel_rfl
theorem mT:Tryz.prog.eqGuardType Tryz.prog.depth 97=false:=by kernel_rfl
theorem qu (w:World) (a b:WrapD):(Op.equalIn 10000 97 (.agg a.cells.toArray) (.agg b.cells.toArray)).run Tryz.prog w=.ok (wrapEq a b) w:=by
 rw [show (10000:Nat)=9999+1 from rfl,run_equalIn_agg w 9999 _ _ _ lL mS]
 have hf:(Tryz.prog.fieldsOf 97).toList.map (fun f=>(f.name,f.type,f.offset))=[("To",3,0),("Eph",3,1),("Box",41,2)]:=by kernel_rfl
 generalize (Tryz.prog.fieldsOf 97).toList=l at hf
 rcases l with _|⟨⟨n1,t1,o1,_⟩,_|⟨⟨n2,t2,o2,_⟩,_|⟨⟨n3,t3,o3,_⟩,_|⟨f4,l⟩⟩⟩⟩
 case cons.cons.cons.nil =>
  simp only [List.map_cons,List.map_nil,List.cons.injEq,Prod.mk.injEq,and_true] at hf
  obtain ⟨⟨rfl,rfl,rfl⟩,⟨rfl,rfl,rfl⟩,rfl,rfl,rfl⟩:=hf
  exact ci (by dsimp only;decide) (br rfl) (br rfl) cX (ci (by dsimp only;decide) (br rfl) (br rfl) cX (ci (by dsimp only;decide) pp pp xH gC))
 all_goals (have:=congrArg List.length hf;simp at this)
theorem mL {N:Nat} {av bor:List Nat} {w0:World} {st:St} {ty t2:TypeId} {x y:Operand} {a b:WrapD} (hx:ev st.env x=some (.agg a.cells.toArray)) (hy:ev st.env y=some (.agg b.cells.toArray)) :
  Sy.Yields Tryz.prog N av bor w0 st (.binOp .neq 97 x y t2) ty (.bool (!wrapEq a b)):=Sy.Yields.mk fun A w ok d pos af g=>by
 have h1:=run_neq_struct (P:=Tryz.prog) w 97 a.cells.toArray b.cells.toArray
 rw [qu w a b] at h1
 simp [execOp,ok.eval (st:=st) hx,ok.eval (st:=st) hy,run_eqGuard_agg _ _ _ _ _ _ _ mT,h1]
theorem uZ {N:Nat} {av bor:List Nat} {w0:World} {st:St} {ty t2:TypeId} {x y:Operand} {a:WrapD} (hx:ev st.env x=some (.agg a.cells.toArray)) (hy:ev st.env y=some (.agg a.cells.toArray)) :
  Sy.Yields Tryz.prog N av bor w0 st (.binOp .neq 97 x y t2) ty (.bool false):=by
 have h:=mL (N:=N) (av:=av) (bor:=bor) (w0:=w0) (ty:=ty) (t2:=t2) hx hy
 rw [oo] at h
 exact h
theorem sM {N:Nat} {av bor:List Nat} {w0:World} {E:Env} {loc:List Res} {X:World→Prop} {ty t2:TypeId} {x y:Operand} {a b:BoxD} (hx:ev E x=some a.v) (hy:ev E y=some b.v) (h:boxEq a b=true) :
  Sy.Yields Tryz.prog N av bor w0 ⟨E,loc,X⟩ (.binOp .eql 41 x y t2) ty (.bool true):=h▸rt hx hy
theorem sL {N:Nat} {av bor:List Nat} {w0:World} {E:Env} {loc:List Res} {X:World→Prop} {ty t2:TypeId} {x y:Operand} {a b c d:Int} (hx:ev E x=some (.agg #[.int .i64 a,.int .i64 b])) (hy:ev E y=some (.agg #[.int .i64 c,.int .i64 d])) (h:(decide (a=c)&&decide (b=d))=true) :
  Sy.Yields Tryz.prog N av bor w0 ⟨E,loc,X⟩ (.binOp .eql 44 x y t2) ty (.bool true):=h▸rn hx hy
theorem q9 (a:BoxD):boxEq a a=true:=by simp [boxEq,cq]
theorem ul {a b:ActD} (h:b.can=a.can):b=a.re b.to b.wraps∧b.to.n=a.to.n∧b.wraps.n=a.wraps.n:=by
 obtain ⟨a1,a2,a3,a4,a5,a6,a7,a8,a9,a10,a11,a12,a13,a14,a15,a16,a17,a18,a19,a20⟩:=a
 obtain ⟨b1,b2,b3,b4,b5,b6,b7,b8,b9,b10,b11,b12,b13,b14,b15,b16,b17,b18,b19,b20⟩:=b
 simp only [ActD.can,ActD.re,ActD.mk.injEq,SlV.mk.injEq] at h
 simp only [ActD.re,ActD.mk.injEq,true_and,and_true]
 obtain ⟨rfl,rfl,rfl,rfl,rfl,rfl,rfl,rfl,rfl,⟨_,h1,_⟩,rfl,rfl,rfl,⟨_,h2,_⟩,rfl,rfl,rfl,rfl,rfl,rfl⟩:=h
 exact ⟨by simp,h1,h2⟩
set_option maxRecDepth 20000 in
set_option maxHeartbeats 8000000 in
theorem tX (a b:ActD) (hb:b.can=a.can) (hr:a.Rng):Pu Tryz.prog 42 #[a.v,b.v] (fun w=>a.at_ w∧b.at_ w) (.bool true):=by
 obtain ⟨hE,n1,n2⟩:=ul hb
 have l1:=hr.to_len
 have l2:=hr.wraps_len
 refine rZ (X:=fun w=>(Strs w a.to a.toL∧Wraps w a.wraps a.wrapsL)∧Strs w b.to a.toL∧Wraps w b.wraps a.wrapsL) ?_ fun w h=>⟨h.1,by have h2:=h.2.1;rw [hE] at h2;exact h2,by have h2:=h.2.2;rw [hE] at h2;exact h2⟩
 have f1:seqB a.author b.author=true:=by rw [hE];exact cq _
 have f2:a.seq=b.seq:=by rw [hE];rfl
 have f3:seqB a.prev b.prev=true:=by rw [hE];exact cq _
 have f4:a.kind=b.kind:=by rw [hE];rfl
 have f5:a.time=b.time:=by rw [hE];rfl
 have f6:seqB a.object b.object=true:=by rw [hE];exact cq _
 have f7:seqB a.target b.target=true:=by rw [hE];exact cq _
 have f8:a.scope=b.scope:=by rw [hE];rfl
 have f9:seqB a.group b.group=true:=by rw [hE];exact cq _
 have f10:seqB a.text b.text=true:=by rw [hE];exact cq _
 have f11:boxEq a.body b.body=true:=by rw [hE];exact q9 _
 have f12:a.epoch=b.epoch:=by rw [hE];rfl
 have f13:a.n=b.n:=by rw [hE];rfl
 have f14:a.m=b.m:=by rw [hE];rfl
 have f15:(decide (a.e=b.e)&&decide (a.s=b.s))=true:=by rw [hE];simp [ActD.re]
 clear hE hb hr
 refine ax (args:=[_,_]) _ Tryz.func42 rfl Tryz.ntmps42 rfl fun av bor w0=>?_
 refine bI (p:=(a.to.n≤maxLen∧(0<a.toL.length→a.to.p.isSome=true)∧(0<a.toL.length→b.to.p.isSome=true))∧(a.wraps.n≤maxLen∧(0<a.wrapsL.length→a.wraps.p.isSome=true)∧(0<a.wrapsL.length→b.wraps.p.isSome=true))) (fun w h=>⟨⟨Nat.le_trans (RowsD.cap h.1.1) (RowsD.max h.1.1),h.1.1.some_,h.2.1.some_⟩,Nat.le_trans (RowsD.cap h.1.2) (RowsD.max h.1.2),h.1.2.some_,h.2.2.some_⟩) fun ⟨⟨m1,p1,q1⟩,m2,p2,q2⟩=>?_
 simp only [maxLen] at m1 m2
 repeat' (first|refine eM (hab:=by omega) ?_|apply ab|apply cw_seq|apply cw_reg|refine ai ?_|refine ac ?_|refine az ?_|refine ay ?_|refine aE ?_|refine aZ ?_|refine aL fun _=>?_|refine cw_cond_f ?_|apply cw_skip|apply cw_block|fail)
 rename_i b2 b3
 refine aS (ι:=Kth a.toL.length) (fun i=>⟨[(2,.pointer (some ⟨b2,0,none⟩)),(3,.pointer (some ⟨b3,0,none⟩)),(5,.int .i64 i.k)],[cel b3 46 b.cells,cel b2 46 a.cells],fun w=>(Strs w a.to a.toL∧Wraps w a.wraps a.wrapsL)∧Strs w b.to a.toL∧Wraps w b.wraps a.wrapsL⟩) (fun i=>a.toL.length-i.k) ⟨0,Nat.zero_le _⟩ (aw ⟨rfl,rfl,rfl,trivial⟩ (aD _) fun _ h=>h) fun i=>?_
 obtain ⟨k,hk⟩:=i
 simp only
 by_cases hlt:k<a.toL.length
 · have p1':=p1 ad
   have q1':=q1 ad
   repeat' (first|refine al (ca true rfl rfl (decide_eq_true ad)) rfl aA rfl ?_|apply ab|apply cw_seq|apply cw_reg|refine ai ?_|refine az ?_|refine ay ?_|refine aZ ?_|refine cw_cond_t ?_|apply cw_skip|apply cw_block|fail)
   (refine aT [cel b3 46 b.cells,cel b2 46 a.cells] (fun w=>(Strs w a.to a.toL∧Wraps w a.wraps a.wrapsL)∧Strs w b.to a.toL∧Wraps w b.wraps a.wrapsL) aj ?_)
   all_goals refine aa 0 ?_
   all_goals refine aa 1 ?_
   all_goals refine aa 2 ?_
   all_goals (refine aa 3 (hy:=by (apply aM (q:=k);rfl;rfl;omega;omega;assumption;omega)) ?_)
   all_goals (refine aa 4 (hy:=by (apply ez;rfl;exact fun w h=>Strs.get h.1.1 hlt)) ?_)
   all_goals refine aa 5 ?_
   all_goals refine aa 6 ?_
   all_goals refine aa 7 ?_
   all_goals (refine aa 8 (hy:=by (apply aM (q:=k);rfl;rfl;omega;omega;assumption;omega)) ?_)
   all_goals (refine aa 9 (hy:=by (apply ez;rfl;exact fun w h=>Strs.get h.2.1 hlt)) ?_)
   all_goals (refine aa 10 (hy:=by (apply mM false;rfl;rfl;exact (by rw [cq];rfl))) ?_)
   all_goals (refine ar ?_)
   all_goals
    repeat' (first|apply ab|apply cw_reg|refine ai ?_|refine ac ?_|refine be (h:=?_)|refine cw_cond_f ?_|apply cw_skip|fail)
    exact ⟨(⟨k+1,hlt⟩:Kth a.toL.length),(by show a.toL.length-(k+1)<a.toL.length-k;omega),aw ⟨rfl,rfl,rfl,trivial⟩ (aD _) fun _ h=>h⟩
 · repeat' (first|refine al (ca false rfl rfl (decide_eq_false ad)) rfl aA rfl ?_|apply ab|apply cw_seq|apply cw_reg|refine ai ?_|refine ac ?_|refine az ?_|refine ay ?_|refine aZ ?_|refine cw_cond_f ?_|apply cw_block|apply aP|fail)
   refine aS (ι:=Kth a.wrapsL.length) (fun i=>⟨[(2,.pointer (some ⟨b2,0,none⟩)),(3,.pointer (some ⟨b3,0,none⟩)),(6,.int .i64 i.k)],[cel b3 46 b.cells,cel b2 46 a.cells],fun w=>(Strs w a.to a.toL∧Wraps w a.wraps a.wrapsL)∧Strs w b.to a.toL∧Wraps w b.wraps a.wrapsL⟩) (fun i=>a.wrapsL.length-i.k) ⟨0,Nat.zero_le _⟩ (aw ⟨rfl,rfl,rfl,trivial⟩ (aD _) fun _ h=>h) fun i=>?_
   obtain ⟨k,hk⟩:=i
   simp only
   by_cases hlt:k<a.wrapsL.length
   · have p2':=p2 ad
     have q2':=q2 ad
     obtain ⟨x,hx⟩:∃ x,a.wrapsL[k]?=some x:=⟨_,List.getElem?_eq_getElem hlt⟩
     repeat' (first|refine al (ca true rfl rfl (decide_eq_true ad)) rfl aA rfl ?_|apply ab|apply cw_seq|apply cw_reg|refine ai ?_|refine az ?_|refine ay ?_|refine aZ ?_|refine cw_cond_t ?_|apply cw_skip|apply cw_block|fail)
     (refine aT [cel b3 46 b.cells,cel b2 46 a.cells] (fun w=>(Strs w a.to a.toL∧Wraps w a.wraps a.wrapsL)∧Strs w b.to a.toL∧Wraps w b.wraps a.wrapsL) aj ?_)
     all_goals refine aa 0 ?_
     all_goals refine aa 1 ?_
     all_goals refine aa 2 ?_
     all_goals (refine aa 3 (hy:=by (apply aM (q:=k*5);rfl;rfl;omega;omega;assumption;omega)) ?_)
     all_goals (refine aa 4 (hy:=by (apply du (cs:=x.cells);rfl;exact fun w h=>Wraps.get h.1.2 hx)) ?_)
     all_goals refine aa 5 ?_
     all_goals refine aa 6 ?_
     all_goals refine aa 7 ?_
     all_goals (refine aa 8 (hy:=by (apply aM (q:=k*5);rfl;rfl;omega;omega;assumption;omega)) ?_)
     all_goals (refine aa 9 (hy:=by (apply du (cs:=x.cells);rfl;exact fun w h=>Wraps.get h.2.2 hx)) ?_)
     all_goals (refine aa 10 (hy:=by (apply uZ (a:=x);rfl;rfl)) ?_)
     all_goals (refine ar ?_)
     all_goals
      repeat' (first|apply ab|apply cw_reg|refine ai ?_|refine ac ?_|refine be (h:=?_)|refine cw_cond_f ?_|apply cw_skip|fail)
      exact ⟨(⟨k+1,hlt⟩:Kth a.wrapsL.length),(by show a.wrapsL.length-(k+1)<a.wrapsL.length-k;omega),aw ⟨rfl,rfl,rfl,trivial⟩ (aD _) fun _ h=>h⟩
   · repeat' (first|refine al (ca false rfl rfl (decide_eq_false ad)) rfl aA rfl ?_|refine al (ek true rfl rfl (by assumption)) rfl aA rfl ?_|refine bp (hab:=by assumption) ?_|apply ab|apply cw_seq|apply cw_reg|refine ai ?_|refine ac ?_|refine az ?_|refine ay ?_|refine aB ?_|refine aZ ?_|refine cw_cond_f ?_|apply aq|apply aP|(refine al (sM (a:=a.body) (b:=b.body) rfl rfl (by assumption)) rfl aA rfl ?_)|(refine al (sL (a:=a.e) (b:=a.s) (c:=b.e) (d:=b.s) rfl rfl (by assumption)) rfl aA rfl ?_)|(refine aV ?_)|fail)
     all_goals first
      | exact ak (ap rfl rfl) rfl
theorem qP (a:KeyD):keyEq a a=true:=by simp [keyEq]
theorem od {N:Nat} {av bor:List Nat} {w0:World} {st:St} {ty t2:TypeId} {x y:Operand} {a:KeyD} (hx:ev st.env x=some (.agg a.cells.toArray)) (hy:ev st.env y=some (.agg a.cells.toArray)) :
  Sy.Yields Tryz.prog N av bor w0 st (.binOp .neq 35 x y t2) ty (.bool false):=by
 have h:=og (N:=N) (av:=av) (bor:=bor) (w0:=w0) (ty:=ty) (t2:=t2) hx hy
 rw [qP] at h
 exact h
structure SameC (a b:ChainD):Prop where
 id:a.id=b.id
 prev:a.prev=b.prev
 gen:a.gen=b.gen
 fork:a.fork=b.fork
 acts:b.actsL.map ActD.can=a.actsL.map ActD.can
set_option maxRecDepth 20000 in
set_option maxHeartbeats 8000000 in
theorem fA (a b:ChainD) (kl:List KeyD) (h:SameC a b) (hr:∀ x∈a.actsL,x.Rng) :
  Pu Tryz.prog 16 #[a.v,b.v] (fun w=>(a.at_ w∧Keyz w a.keys kl)∧b.at_ w∧Keyz w b.keys kl) (.bool true):=by
 obtain ⟨hid,hprev,hgen,hfork,hacts⟩:=h
 have hlen:b.actsL.length=a.actsL.length:=by simpa using congrArg List.length hacts
 refine ax (args:=[_,_]) _ Tryz.func16 rfl Tryz.ntmps16 rfl fun av bor w0=>?_
 refine bI (p:=((a.acts.n=a.actsL.length∧a.acts.n≤maxLen∧(0<a.actsL.length→a.acts.p.isSome=true))∧a.keys.n=kl.length∧a.keys.n≤maxLen∧(0<kl.length→a.keys.p.isSome=true))∧(b.acts.n=b.actsL.length∧b.acts.n≤maxLen∧(0<b.actsL.length→b.acts.p.isSome=true))∧b.keys.n=kl.length∧b.keys.n≤maxLen∧(0<kl.length→b.keys.p.isSome=true)) (fun w h=>⟨⟨⟨h.1.1.len_,h.1.1.max_,h.1.1.some_⟩,Keyz.know w h.1.2⟩,⟨h.2.1.len_,h.2.1.max_,h.2.1.some_⟩,Keyz.know w h.2.2⟩) fun ⟨⟨⟨n1,m1,p1⟩,n2,m2,p2⟩,⟨n3,m3,p3⟩,n4,m4,p4⟩=>?_
 simp only [maxLen] at m1 m2 m3 m4
 have f1:seqB a.id b.id=true:=by rw [hid];exact cq _
 have f2:seqB a.prev b.prev=true:=by rw [hprev];exact cq _
 have f3:decide (a.fork=b.fork)=true:=decide_eq_true hfork
 repeat' (first|refine eM (hab:=by omega) ?_|apply ab|apply cw_seq|apply cw_reg|refine ai ?_|refine ac ?_|refine az ?_|refine ay ?_|refine aE ?_|refine aZ ?_|refine aL fun _=>?_|refine cw_cond_f ?_|apply cw_skip|apply cw_block|fail)
 rename_i b2 b3
 refine aS (ι:=Kth a.actsL.length) (fun i=>⟨[(2,.pointer (some ⟨b2,0,none⟩)),(3,.pointer (some ⟨b3,0,none⟩)),(5,.int .i64 i.k)],[cel b3 31 b.cells,cel b2 31 a.cells],fun w=>(a.at_ w∧Keyz w a.keys kl)∧b.at_ w∧Keyz w b.keys kl⟩) (fun i=>a.actsL.length-i.k) ⟨0,Nat.zero_le _⟩ (aw ⟨rfl,rfl,rfl,trivial⟩ (aD _) fun _ h=>h) fun i=>?_
 obtain ⟨k,hk⟩:=i
 simp only
 by_cases hlt:k<a.actsL.length
 · have p1':=p1 ad
   have p3':=p3 ad
   obtain ⟨x,hx⟩:∃ x,a.actsL[k]?=some x:=⟨_,List.getElem?_eq_getElem hlt⟩
   obtain ⟨y,hy⟩:∃ y,b.actsL[k]?=some y:=⟨_,List.getElem?_eq_getElem ad⟩
   have hxm:=List.mem_of_getElem? hx
   have hym:=List.mem_of_getElem? hy
   have hxy:y.can=x.can:=by
    have:=congrArg (fun l=>l[k]?) hacts
    simpa [hx,hy] using this
   have hsa:=tX x y hxy (hr x hxm)
   repeat' (first|refine al (ca true rfl rfl (decide_eq_true ad)) rfl aA rfl ?_|apply ab|apply cw_seq|apply cw_reg|refine ai ?_|refine az ?_|refine ay ?_|refine aZ ?_|refine cw_cond_t ?_|apply cw_skip|apply cw_block|fail)
   (refine aT [cel b3 31 b.cells,cel b2 31 a.cells] (fun w=>(a.at_ w∧Keyz w a.keys kl)∧b.at_ w∧Keyz w b.keys kl) aj ?_)
   all_goals refine aa 0 ?_
   all_goals refine aa 1 ?_
   all_goals refine aa 2 ?_
   all_goals (refine aa 3 (hy:=by (apply aM (q:=k*20);rfl;rfl;omega;omega;assumption;omega)) ?_)
   all_goals (refine aa 4 (hy:=by (apply du (cs:=x.cells);rfl;exact (fun w h=>Acts.get h.1.1 hx))) ?_)
   all_goals refine aa 5 ?_
   all_goals refine aa 6 ?_
   all_goals refine aa 7 ?_
   all_goals (refine aa 8 (hy:=by (apply aM (q:=k*20);rfl;rfl;omega;omega;assumption;omega)) ?_)
   all_goals (refine aa 9 (hy:=by (apply du (cs:=y.cells);rfl;exact (fun w h=>Acts.get h.2.1 hy))) ?_)
   all_goals (refine ae 10 ?_;(refine am (hc:=hsa) (hX:=fun w h=>⟨h.1.1.2 x hxm,h.2.1.2 y hym⟩) ?_);apply ab;refine ag ?_)
   all_goals refine aa 11 ?_
   all_goals (refine ar ?_)
   all_goals
    repeat' (first|apply ab|apply cw_seq|apply cw_reg|refine ai ?_|refine ac ?_|refine bM ?_|refine be (h:=?_)|refine cw_cond_f ?_|apply cw_skip|fail)
    exact ⟨(⟨k+1,hlt⟩:Kth a.actsL.length),(by show a.actsL.length-(k+1)<a.actsL.length-k;omega),aw ⟨rfl,rfl,rfl,trivial⟩ (aD _) fun _ h=>h⟩
 · repeat' (first|refine al (ca false rfl rfl (decide_eq_false ad)) rfl aA rfl ?_|apply ab|apply cw_seq|apply cw_reg|refine ai ?_|refine ac ?_|refine az ?_|refine ay ?_|refine aZ ?_|refine cw_cond_f ?_|apply cw_block|apply aP|fail)
   refine aS (ι:=Kth kl.length) (fun i=>⟨[(2,.pointer (some ⟨b2,0,none⟩)),(3,.pointer (some ⟨b3,0,none⟩)),(7,.int .i64 i.k)],[cel b3 31 b.cells,cel b2 31 a.cells],fun w=>(a.at_ w∧Keyz w a.keys kl)∧b.at_ w∧Keyz w b.keys kl⟩) (fun i=>kl.length-i.k) ⟨0,Nat.zero_le _⟩ (aw ⟨rfl,rfl,rfl,trivial⟩ (aD _) fun _ h=>h) fun i=>?_
   obtain ⟨k,hk⟩:=i
   simp only
   by_cases hlt:k<kl.length
   · have p2':=p2 ad
     have p4':=p4 ad
     obtain ⟨x,hx⟩:∃ x,kl[k]?=some x:=⟨_,List.getElem?_eq_getElem hlt⟩
     repeat' (first|refine al (ca true rfl rfl (decide_eq_true ad)) rfl aA rfl ?_|apply ab|apply cw_seq|apply cw_reg|refine ai ?_|refine az ?_|refine ay ?_|refine aZ ?_|refine cw_cond_t ?_|apply cw_skip|apply cw_block|fail)
     (refine aT [cel b3 31 b.cells,cel b2 31 a.cells] (fun w=>(a.at_ w∧Keyz w a.keys kl)∧b.at_ w∧Keyz w b.keys kl) aj ?_)
     all_goals refine aa 0 ?_
     all_goals refine aa 1 ?_
     all_goals refine aa 2 ?_
     all_goals (refine aa 3 (hy:=by (apply aM (q:=k*3);rfl;rfl;omega;omega;assumption;omega)) ?_)
     all_goals (refine aa 4 (hy:=by (apply du (cs:=x.cells);rfl;exact fun w h=>Keyz.get h.1.2 hx)) ?_)
     all_goals refine aa 5 ?_
     all_goals refine aa 6 ?_
     all_goals refine aa 7 ?_
     all_goals (refine aa 8 (hy:=by (apply aM (q:=k*3);rfl;rfl;omega;omega;assumption;omega)) ?_)
     all_goals (refine aa 9 (hy:=by (apply du (cs:=x.cells);rfl;exact fun w h=>Keyz.get h.2.2 hx)) ?_)
     all_goals (refine aa 10 (hy:=by (apply od (a:=x);rfl;rfl)) ?_)
     all_goals (refine ar ?_)
     all_goals
      repeat' (first|apply ab|apply cw_reg|refine ai ?_|refine ac ?_|refine be (h:=?_)|refine cw_cond_f ?_|apply cw_skip|fail)
      exact ⟨(⟨k+1,hlt⟩:Kth kl.length),(by show kl.length-(k+1)<kl.length-k;omega),aw ⟨rfl,rfl,rfl,trivial⟩ (aD _) fun _ h=>h⟩
   · repeat' (first|refine al (ca false rfl rfl (decide_eq_false ad)) rfl aA rfl ?_|refine al (ek true rfl rfl (by assumption)) rfl aA rfl ?_|refine bp (hab:=by assumption) ?_|apply ab|apply cw_seq|apply cw_reg|refine ai ?_|refine ac ?_|refine az ?_|refine ay ?_|refine aB ?_|refine aZ ?_|refine cw_cond_f ?_|apply aq|apply aP|refine yI ?_|fail)
     all_goals first
      | exact ak (ap rfl rfl) (by show Value.bool (a.fork==b.fork)=_;rw [hfork,beq_self_eq_true])
theorem xP (l:List ByteArray):(compB l).length≤l.length:=by
 rw [compB,List.length_map]
 exact Nat.le_trans (Lib.compact_length_le _) (by rw [List.length_map];exact Nat.le_refl _)
def authI (I:List ItemD):List ByteArray:=(I.filter fun i=>decide (i.kind=0)).map fun i=>i.act.author
theorem ri (I:List ItemD) {k:Nat} {x:ItemD} (h:I[k]?=some x):authI (I.take (k+1))=authI (I.take k)++(bif decide (x.kind=0) then [x.act.author] else []):=by
 rw [authI,authI,List.take_add_one,h,Option.toList_some,List.filter_append,List.map_append]
 congr 1
 cases hb:decide (x.kind=0) with
 | true=>simp [hb]
 | false=>simp [hb]
theorem ji (I:List ItemD):(authI I).length≤I.length:=by rw [authI,List.length_map];exact List.length_filter_le _ _
inductive All2 {α β:Type} (R:α→β→Prop):List α→List β→Prop
 | nil:All2 R [] []
 | cons {a:α} {b:β} {l:List α} {m:List β}:R a b→All2 R l m→All2 R (a::l) (b::m)
theorem All2.snoc {α β:Type} {R:α→β→Prop} {l:List α} {m:List β} (h:All2 R l m) {a:α} {b:β} (r:R a b):All2 R (l++[a]) (m++[b]):=by
 induction h with
 | nil=>exact .cons r .nil
 | cons h1 _ ih=>exact .cons h1 ih
theorem All2.len {α β:Type} {R:α→β→Prop} {l:List α} {m:List β} (h:All2 R l m):l.length=m.length:=by
 induction h with
 | nil=>rfl
 | cons _ _ ih=>rw [List.length_cons,List.length_cons,ih]
theorem All2.right {α β:Type} {R:α→β→Prop} {l:List α} {m:List β} (h:All2 R l m):∀ b∈m,∃ a∈l,R a b:=by
 induction h with
 | nil=>exact fun b hb=>absurd hb (by simp)
 | cons h1 _ ih =>
  intro b hb
  rcases List.mem_cons.1 hb with rfl|hb
  · exact ⟨_,aF,h1⟩
  · obtain ⟨a,ha,r⟩:=ih b hb
    exact ⟨a,List.mem_cons_of_mem _ ha,r⟩
abbrev ChK:=ChainD×List KeyD
def neK (p:ChK):Bool:=decide (0<p.1.actsL.length)
def OfQ (Q:ByteArray→ChainD→List KeyD→Prop) (au:ByteArray) (u:Value) (X:World→Prop):Prop:=∃ (c:ChainD) (kl:List KeyD),Q au c kl∧u=c.v∧∀ w,X w→c.at_ w∧Keyz w c.keys kl
def AllAt (Q:ByteArray→ChainD→List KeyD→Prop) (ids:List ByteArray) (u:Value) (X:World→Prop):Prop :=
 ∃ (s:SlV) (M:List ChK),All2 (fun id p=>Q id p.1 p.2) ids M∧u=s.v∧∀ w,X w→Chains w s ((M.filter neK).map Prod.fst)∧∀ p∈M,Keyz w p.1.keys p.2
structure IdsI (I:List ItemD) where
 k:Nat
 hk:k≤I.length
 A:Option Addr
 c:Nat
 n:Nat
 hn:n=(authI (I.take k)).length
 xs:List Value
 hxs:xs=(authI (I.take k)).map encB
structure ChsI (Q:ByteArray→ChainD→List KeyD→Prop) (ids:List ByteArray) where
 k:Nat
 hk:k≤ids.length
 M:List ChK
 hM:All2 (fun id p=>Q id p.1 p.2) (ids.take k) M
 A:Option Addr
 c:Nat
 n:Nat
 hn:n=(M.filter neK).length
 xs:List Value
 hxs:xs=(((M.filter neK).map Prod.fst).map ChainD.cells).flatten
set_option maxHeartbeats 8000000 in
theorem xV (Q:ByteArray→ChainD→List KeyD→Prop) (ks ki:SlV) (L:List Int) (I:List ItemD) (hI:I.length≤1000)
  (hof:∀ au,Mk Tryz.prog 9 #[.agg #[ks.v,ki.v],.string au] (fun w=>(Ints w ks L∧Items w ki I)∧Glob w) (OfQ Q au)) :
  Mk Tryz.prog 19 #[.agg #[ks.v,ki.v]] (fun w=>(Ints w ks L∧Items w ki I)∧Glob w) (AllAt Q (compB (sortB (authI I)))):=by
 refine cv (args:=[_]) _ Tryz.func19 rfl Tryz.ntmps19 rfl fun av bor w0=>?_
 refine bI (p:=ki.n=I.length∧ki.n≤maxLen∧(0<I.length→ki.p.isSome=true)) (fun w h=>⟨h.1.2.len_,h.1.2.max_,h.1.2.some_⟩) fun ⟨hin,him,hip⟩=>?_
 simp only [maxLen] at him
 refine cR 9 1 ?_
 refine cR 31 6 ?_
 repeat' (first|apply ab|apply cw_seq|apply cw_reg|refine ai ?_|refine ac ?_|refine az ?_|refine ay ?_|refine aZ ?_|refine aL fun _=>?_|apply cw_block|fail)
 rename_i b1
 refine aS (ι:=IdsI I) (fun i=>⟨[(1,.pointer (some ⟨b1,0,none⟩)),(3,.slice i.A i.n i.c),(11,ki.v),(12,.int .i64 (ki.n:Nat)),(13,.int .i64 (i.k:Nat))],
  [cel b1 25 [ks.v,ki.v],orow 31 6 (.slice none 0 0) 0 [],orow 9 1 (.slice i.A i.n i.c) i.n i.xs],fun w=>(Ints w ks L∧Items w ki I)∧Glob w⟩) (fun i=>I.length-i.k) ⟨0,Nat.zero_le _,none,0,0,rfl,[],rfl⟩ (aw ⟨rfl,rfl,rfl,rfl,rfl,trivial⟩ (aD _) fun _ h=>h) fun i=>?_
 obtain ⟨k,hk,A,cp,n,hn,xs,hxs⟩:=i
 simp only
 by_cases hlt:k<I.length
 · have hip':=hip ad
   obtain ⟨x,hx⟩:∃ x,I[k]?=some x:=⟨_,List.getElem?_eq_getElem hlt⟩
   have hs:=ri I hx
   have hnb:n≤1000:=by have h1:=ji (I.take k);rw [List.length_take] at h1;omega
   by_cases h0:x.kind=0
   · rw [decide_eq_true h0,cond_true] at hs
     repeat' (first|refine al (ca true rfl rfl (decide_eq_true ad)) rfl aA rfl ?_|refine bp (hab:=h0) ?_|apply ab|apply cw_seq|apply cw_reg|refine ai ?_|refine ac ?_|refine az ?_|refine ay ?_|refine be (h:=?_)|refine aK fun _=>?_|refine bQ fun _=>?_|refine aI ?_|refine cw_cond_t ?_|apply cw_skip|apply cw_block|(refine bE (q:=k*49) ?_)|(refine cE (cs:=x.cells) (hF:=fun w h=>Items.get h.1.2 hx) ?_)|(refine aU (size:=1) (z:=.string ⟨#[]⟩) (news:=[encB x.act.author]) (q:=1) rfl rfl rfl rfl (fun _=>At.there _ (At.there _ (At.there _ (At.there _ (At.here _))))) (fun w G=>bm G aF rfl rfl 1) ad (by simp only [maxLen];omega) rfl ?_ rfl ?_;(with_reducible rfl);intro A2 c2)|fail)
     exact ⟨(⟨k+1,hlt,A2,c2,n+1,by rw [hs,List.length_append,←hn];rfl,xs++[encB x.act.author],by rw [hs,List.map_append,←hxs];rfl⟩:IdsI I),(by show I.length-(k+1)<I.length-k;omega),aw ⟨rfl,rfl,rfl,rfl,rfl,trivial⟩ (.cons _ (.cons _ (aD _))) fun _ h=>h⟩
   · rw [decide_eq_false h0,cond_false,List.append_nil] at hs
     repeat' (first|refine al (ca true rfl rfl (decide_eq_true ad)) rfl aA rfl ?_|refine bt (hab:=h0) ?_|apply ab|apply cw_seq|apply cw_reg|refine ai ?_|refine az ?_|refine ay ?_|refine be (h:=?_)|refine aK fun _=>?_|refine aI ?_|refine cw_cond_t ?_|refine cw_cond_f ?_|apply cw_skip|apply cw_block|(refine bE (q:=k*49) ?_)|(refine cE (cs:=x.cells) (hF:=fun w h=>Items.get h.1.2 hx) ?_)|fail)
     exact ⟨(⟨k+1,hlt,A,cp,n,by rw [hs];exact hn,xs,by rw [hs];exact hxs⟩:IdsI I),(by show I.length-(k+1)<I.length-k;omega),aw ⟨rfl,rfl,rfl,rfl,rfl,trivial⟩ (.cons _ (aD _)) fun _ h=>h⟩
 have hkE:k=I.length:=by omega
 rw [hkE,List.take_length] at hn hxs
 subst hxs
 have hnb:n≤1000000000:=by have h1:=ji I;omega
 repeat' (first|refine al (ca false rfl rfl (decide_eq_false ad)) rfl aA rfl ?_|apply ab|apply cw_seq|apply cw_reg|refine ai ?_|refine ac ?_|refine aZ ?_|refine cw_cond_f ?_|apply cw_block|apply aP|(refine m6 (hc:=wy hnb) (hX:=fun _ _=>trivial) ?_)|(refine rN (hc:=xQ) (hX:=fun _ _=>trivial) ?_;rintro _ _ X2 ⟨A3,c3,rfl,rfl⟩;refine cj ?_)|fail)
 have hB:(compB (sortB (authI I))).length≤1000:=by
  have h1:=xP (sortB (authI I))
  have h2:=tP (authI I)
  have h3:=ji I
  omega
 generalize hids:compB (sortB (authI I))=ids at *
 clear hids hlt hk hnb hn
 refine aS (ι:=ChsI Q ids) (fun i=>⟨[(1,.pointer (some ⟨b1,0,none⟩)),(6,.slice i.A i.n i.c),(30,.slice A3 ids.length c3),(31,.int .i64 (ids.length:Nat)),(32,.int .i64 (i.k:Nat))],
  [cel b1 25 [ks.v,ki.v],orow 31 6 (.slice i.A i.n i.c) i.n i.xs],fun w=>(((Ints w ks L∧Items w ki I)∧Glob w)∧Strs w ⟨A3,ids.length,c3⟩ ids)∧∀ p∈i.M,p.1.at_ w∧Keyz w p.1.keys p.2⟩) (fun i=>ids.length-i.k) ⟨0,Nat.zero_le _,[],.nil,none,0,0,rfl,[],rfl⟩ ?_ fun i=>?_
 · exact aw ⟨rfl,rfl,rfl,rfl,rfl,trivial⟩ (.cons_cons _ (.cons_cons _ (List.nil_sublist _))) fun w h=>⟨⟨h.1.1,nc h.2 rfl⟩,fun p hp=>absurd hp (by simp)⟩
 obtain ⟨k,hk,M,hM,A4,c4,n4,hn4,xs,hxs⟩:=i
 simp only
 have hMl:M.length=k:=by have:=hM.len;rw [List.length_take] at this;omega
 have hn4b:n4≤1000:=by have:=List.length_filter_le neK M;omega
 by_cases hlt:k<ids.length
 · refine bI (p:=A3.isSome=true) (fun w h=>h.1.2.some_ ad) fun hA3=>?_
   have hget:ids[k]?=some (ids.getD k .empty):=by rw [List.getD_eq_getElem?_getD,List.getElem?_eq_getElem hlt];rfl
   have hlt':=hlt
   generalize hxe:ids.getD k .empty=x at *
   repeat' (first|refine al (ca true rfl rfl (decide_eq_true ad)) rfl aA rfl ?_|apply ab|apply cw_seq|apply cw_reg|refine ai ?_|refine ac ?_|refine az ?_|refine ay ?_|refine aG ?_|refine cI ?_|refine aZ ?_|refine be (h:=?_)|refine aK fun _=>?_|refine aI ?_|refine cw_cond_t ?_|apply cw_skip|apply cw_block|(refine bE (q:=k) ?_)|(refine eu (u:=.string x) (hF:=fun w h=>hxe▸Strs.get h.1.2 hlt') ?_)|(refine dc (hc:=hof x) (hX:=fun w h=>h.1.1) fun v X5 h5=>?_;obtain ⟨c,kl,hQ,rfl,hw5⟩:=h5;refine na (p:=c.acts.n=c.actsL.length) (fun w h=>(hw5 w h.2).1.len_) fun hcn=>?_)|(refine bD (size:=6) (vs:=[c.v]) (css:=c.cells) (hsz:=by rfl) (hcs:=by rfl) fun _=>?_)|(refine aU (size:=6) (news:=c.cells) (q:=1) rfl rfl rfl rfl (fun _=>At.there _ (At.there _ (At.there _ (At.here _)))) (fun w G=>bm G aF rfl rfl 1) ad (by simp only [maxLen];omega) rfl ?_ rfl ?_;(with_reducible rfl);intro A2 c2)|(refine aC (ht:=?_) (hf:=?_);all_goals (intro hx_;first|have:=aO hx_|have:=aR hx_)))
   all_goals
    have hM2:All2 (fun id p=>Q id p.1 p.2) (ids.take (k+1)) (M++[(c,kl)]):=by
     rw [List.take_add_one,hget]
     exact hM.snoc hQ
    have hX2:∀ w,((((((Ints w ks L∧Items w ki I)∧Glob w)∧Strs w ⟨A3,ids.length,c3⟩ ids)∧∀ p∈M,p.1.at_ w∧Keyz w p.1.keys p.2)∧X5 w))→(((Ints w ks L∧Items w ki I)∧Glob w)∧Strs w ⟨A3,ids.length,c3⟩ ids)∧∀ p∈M++[(c,kl)],p.1.at_ w∧Keyz w p.1.keys p.2:=fun w h=>⟨h.1.1,fun p hp=>by
     rcases List.mem_append.1 hp with hp|hp
     · exact h.1.2 p hp
     · rw [List.mem_singleton.1 hp];exact hw5 w h.2⟩
   · have hf:(M++[(c,kl)]).filter neK=M.filter neK++[(c,kl)]:=by
      rw [List.filter_append]
      have:neK (c,kl)=true:=decide_eq_true (by show 0<c.actsL.length;omega)
      simp [this]
     exact ⟨(⟨k+1,hlt,M++[(c,kl)],hM2,A2,c2,n4+1,by rw [hf,List.length_append,←hn4];rfl,xs++c.cells,by rw [hf,hxs];simp⟩:ChsI Q ids),(by show ids.length-(k+1)<ids.length-k;omega),aw ⟨rfl,rfl,rfl,rfl,rfl,trivial⟩ (.cons _ (.cons _ (aD _))) hX2⟩
   · have hf:(M++[(c,kl)]).filter neK=M.filter neK:=by
      rw [List.filter_append]
      have:neK (c,kl)=false:=decide_eq_false (by show ¬ 0<c.actsL.length;omega)
      simp [this]
     exact ⟨(⟨k+1,hlt,M++[(c,kl)],hM2,A4,c4,n4,by rw [hf];exact hn4,xs,by rw [hf];exact hxs⟩:ChsI Q ids),(by show ids.length-(k+1)<ids.length-k;omega),aw ⟨rfl,rfl,rfl,rfl,rfl,trivial⟩ (.cons _ (aD _)) hX2⟩
 · have hkE:k=ids.length:=by omega
   rw [hkE,List.take_length] at hM
   subst hxs
   repeat' (first|refine al (ca false rfl rfl (decide_eq_false ad)) rfl aA rfl ?_|apply ab|apply cw_seq|apply cw_reg|refine ai ?_|refine ac ?_|refine cw_cond_f ?_|apply aq|apply aP|fail)
   refine ak (ap rfl rfl) ⟨⟨A4,n4,c4⟩,M,hM,rfl,fun w h=>⟨⟨?_,fun c hc=>?_⟩,fun p hp=>(h.1.2 p hp).2⟩⟩
   · exact cg (xs:=((M.filter neK).map Prod.fst).map ChainD.cells) (h.2 _ (.tail _ (.head _))) (by rw [List.length_map,List.length_map];exact hn4) fun r hr=>by
      obtain ⟨z,_,rfl⟩:=List.mem_map.1 hr
      rfl
   · obtain ⟨p,hp,rfl⟩:=List.mem_map.1 hc
     exact (h.1.2 p (List.mem_filter.1 hp).1).1
theorem Items.keep {w w':World} {s:SlV} {l:List ItemD} (h:Items w s l) (hs:∀ k,k<w.heap.size→w'.heap[k]?=w.heap[k]?):Items w' s l :=
 ⟨RowsD.keep h.1 hs,fun i hi=>⟨⟨RowsD.keep (h.2 i hi).1.1 hs,RowsD.keep (h.2 i hi).1.2 hs⟩,RowsD.keep (h.2 i hi).2 hs⟩⟩
theorem Aq {α:Type} {f:α→ByteArray} {I:List α} (h:Asc (I.map f)) {x y:α} (hx:x∈I) (hy:y∈I) (e:f x=f y):x=y:=by
 obtain ⟨p,hp⟩:=List.mem_iff_getElem?.1 hx
 obtain ⟨q,hq⟩:=List.mem_iff_getElem?.1 hy
 have key:∀ {a b:Nat} {u v:α},I[a]?=some u→I[b]?=some v→f u=f v→¬ a<b:=fun {a b u v} h1 h2 e hab=>by
  have:=nY h hab (x:=f u) (y:=f v) (by rw [List.getElem?_map,h1];rfl) (by rw [List.getElem?_map,h2];rfl)
  rw [e,fP] at this
  cases this
 rcases Nat.lt_trichotomy p q with h1|rfl|h1
 · exact absurd h1 (key hp hq e)
 · exact Option.some.inj (hp.symm.trans hq)
 · exact absurd h1 (key hq hp e.symm)
theorem ia {I:List ItemD} {au:ByteArray} {a:ActD} (h:a∈selA au rightIt I):∃ i∈I,i.act=a∧i.kind=0∧rightIt i=true∧digIt i=digV a∧a.author=au:=by
 rw [selA] at h
 obtain ⟨i,hi,rfl⟩:=List.mem_map.1 h
 obtain ⟨h1,h2⟩:=List.mem_filter.1 hi
 rw [selB,Bool.and_eq_true,wantA,Bool.and_eq_true,decide_eq_true_eq,seqB_iff] at h2
 exact ⟨i,h1,rfl,h2.1.1,h2.2,uI h2.1.1 h2.2,h2.1.2⟩
theorem Ag {L:List Int} {I:List ItemD} (h:KnR L I) {au au':ByteArray} {a b:ActD} (ha:a∈selA au rightIt I) (hb:b∈selA au' rightIt I) (e:digV a=digV b):a=b:=by
 obtain ⟨i,hi,rfl,_,_,e1,_⟩:=ia ha
 obtain ⟨j,hj,rfl,_,_,e2,_⟩:=ia hb
 rw [Aq h.asc hi hj (by rw [e1,e2,e])]
theorem xt {l:List ActD} (hd:∀ a∈l,∀ b∈l,digV a=digV b→a=b) (hs:∀ (i:Nat) (x:ActD),l[i]?=some x→x.seq=(i:Int)) {n:Nat} {x:ActD} (hx:l[n]?=some x):idxV l (digV x)=some n:=by
 obtain ⟨hn,e⟩:=List.getElem?_eq_some_iff.1 hx
 rw [idxV,List.findIdx?_eq_some_iff_getElem]
 refine ⟨hn,by rw [e];exact cq _,fun j hj hc=>?_⟩
 have h1:=seqB_iff.1 hc
 have h2:=hd _ (List.getElem_mem ad) x (List.mem_of_getElem? hx) h1
 have h3:=hs j _ (List.getElem?_eq_getElem ad)
 have h4:=hs n x hx
 rw [h2] at h3
 omega
theorem pS (kl:List KeyD) {m n:Nat} (h:m≤n):cutK (cutK kl n) m=cutK kl m:=Al kl h
theorem xN (kl:List KeyD) (l:List ActD) {m n:Nat} (h:m≤n):cutG (cutK kl n) (l.take n) m=cutG kl l m:=by
 rw [cutG,cutG,pS kl h,List.take_take,Nat.min_eq_left h]
theorem zq {P:Program} {f:FuncId} {args:Array Value} {X:World→Prop} {Φ Ψ:Value→(World→Prop)→Prop} (h:Mk P f args X Φ) (hi:∀ u X',Φ u X'→Ψ u X'):Mk P f args X Ψ:=by
 unfold Mk at *
 exact h.mono fun u R X' h1=>⟨hi u X' h1.1,h1.2⟩
def QK (L:List Int) (I:List ItemD) (au:ByteArray) (c:ChainD) (kl:List KeyD):Prop :=
 ∃ (A:List ActD) (sa sk:SlV) (st:ChS) (fork:Bool),A.Perm (selA au rightIt I)∧OfRes ((OfWK L.length I au).at A) st fork∧c=⟨au,sa,sk,st.prev,(st.gen:Nat),fork,st.acts⟩∧kl=st.keys
theorem r5 (ks ki:SlV) {L:List Int} {I:List ItemD} (h:KnR L I) (au:ByteArray) :
  Mk Tryz.prog 9 #[.agg #[ks.v,ki.v],.string au] (fun w=>(Ints w ks L∧Items w ki I)∧Glob w) (OfQ (QK L I) au) :=
 zq (Br tQ ks ki h au) fun u X ⟨A,sa,sk,st,fork,h1,h2,h3,h4⟩=>⟨⟨au,sa,sk,st.prev,(st.gen:Nat),fork,st.acts⟩,st.keys,⟨A,sa,sk,st,fork,h1,h2,rfl,rfl⟩,h3,h4⟩
structure ChGood (c:ChainD) (kl:List KeyD):Prop where
 ok:ActsOk c.actsL
 len:c.actsL.length≤100
 klen:kl.length≤1000
 seq:∀ (i:Nat) (x:ActD),c.actsL[i]?=some x→x.seq=(i:Int)
 fit:∀ (n:Nat) (x:ActD),1≤n→c.actsL[n]?=some x→∀ d:ChainD,d.id=c.id→d.acts.n=n→d.prev=x.prev→d.actsL=c.actsL.take n→fitsV d x (idxV d.actsL x.object)=true
 key0:0<c.actsL.length→∃ k r,kl=k::r∧k.from_=0
 own:∀ (n:Nat) (x:ActD),c.actsL[n]?=some x→idxV c.actsL (digV x)=some n
theorem Ab {W:OfW} (hB:∀ g c,W.won g=some c→g<W.B) {a:ActD} (ha:a∈firstL W):InvS W (finS W a) :=
 ni (P:=InvS W) (fun st s h hs=>(oA hB h hs).1) _ _ (sI ha).1
theorem wB (au:ByteArray) (I:List ItemD):(selA au rightIt I).length≤I.length:=by rw [selA,List.length_map];exact List.length_filter_le _ _
theorem sz {L:List Int} {I:List ItemD} (h:KnR L I) {au:ByteArray} {c:ChainD} {kl:List KeyD} (q:QK L I au c kl):ChGood c kl:=by
 obtain ⟨A,sa,sk,st,fork,hA,hR,rfl,rfl⟩:=q
 have hAl:A.length≤100:=by have h1:=hA.length_eq;have h2:=wB au I;have h3:=h.len;omega
 have hAm:∀ a∈A,a∈selA au rightIt I:=fun a ha=>hA.subset ha
 rw [OfRes] at hR
 cases ho:oneA (firstL ((OfWK L.length I au).at A)) with
 | none =>
  rw [ho] at hR
  obtain ⟨rfl,rfl⟩:=hR
  exact ⟨⟨fun a ha=>absurd ha (by simp),fun a ha=>absurd ha (by simp)⟩,by simp,by simp,fun i x hx=>by simp at hx,fun n x _ hx=>by simp at hx,fun hl=>by simp at hl,fun n x hx=>by simp at hx⟩
 | some a =>
  rw [ho] at hR
  obtain ⟨rfl,rfl⟩:=hR
  have ha:a∈firstL ((OfWK L.length I au).at A):=by rw [iT ho];exact List.mem_singleton.2 rfl
  have hF:=Ac ha
  have hB:∀ g c,((OfWK L.length I au).at A).won g=some c→g<((OfWK L.length I au).at A).B:=fun g c hw=>(gV hw).1
  have hI:=Ab hB ha
  have hg:=nK L.length I au
  have hcl:(claimsV I au).length≤I.length:=by rw [claimsV,selC,List.length_map];exact List.length_filter_le _ _
  have hIl:=h.len
  have h1:=hI.len
  have h2:=hI.keyn
  have h3:(finS ((OfWK L.length I au).at A) a).gen≤genB L.length I au:=hI.gen
  have h4:(finS ((OfWK L.length I au).at A) a).acts.length≤A.length:=h1
  have hmem:∀ x∈(finS ((OfWK L.length I au).at A) a).acts,x∈selA au rightIt I:=fun x hx=>hAm x (hF.mem x hx)
  refine ⟨⟨fun x hx=>?_,fun x hx=>?_⟩,by show (finS ((OfWK L.length I au).at A) a).acts.length≤100;omega,by omega,hF.seq,fun n x hn hx d e1 e2 e3 e4=>?_,fun _=>hF.key0,fun n x hx=>?_⟩
  · obtain ⟨i,hi,rfl,_⟩:=ia (hmem x hx)
    exact h.rng i hi
  · obtain ⟨i,hi,rfl,_⟩:=ia (hmem x hx)
    exact h.sm i hi
  · have h5:=hF.fit n x hx hn
    rw [e4]
    rw [←h5]
    refine mC e1 ?_ e3 e4
    rw [e2]
    show n=((finS ((OfWK L.length I au).at A) a).acts.take n).length
    rw [List.length_take]
    obtain ⟨hlt,_⟩:=List.getElem?_eq_some_iff.1 hx
    change n<(finS ((OfWK L.length I au).at A) a).acts.length at hlt
    omega
  · exact xt (fun x hx y hy e=>Ag h (hmem x hx) (hmem y hy) e) hF.seq hx
theorem so:KnR [] []:=⟨by simp,by simp,fun i hi=>absurd hi (by simp),fun i hi=>absurd hi (by simp),fun i hi=>absurd hi (by simp),fun i hi=>absurd hi (by simp),List.Pairwise.nil⟩
theorem Bp {au:ByteArray} {c:ChainD} {kl:List KeyD} (q:QK [] [] au c kl):c.actsL=[]∧kl=[]∧c.prev=⟨#[]⟩∧c.gen=0∧c.fork=false∧c.id=au:=by
 obtain ⟨A,sa,sk,st,fork,hA,hR,rfl,rfl⟩:=q
 obtain rfl:A=[]:=List.Perm.eq_nil hA
 obtain ⟨rfl,rfl⟩:st=⟨[],[],⟨#[]⟩,0⟩∧fork=false:=hR
 exact ⟨rfl,rfl,rfl,rfl,rfl,rfl⟩
end Go.Proofs.YtcdilibijnboeaaGreatDoor
namespace Go.Proofs.YtcdilibijnboeaaGreatDoor
open Go Go.Proofs Sy
section
variable {P:Program} {N:Nat} {av bor:List Nat} {w0:World} {x y:Operand} {t t2:TypeId} {ty:TypeId} {st:St}
end
structure AddI (I:List ItemD) where
 k:Nat
 hk:k≤I.length
end Go.Proofs.YtcdilibijnboeaaGreatDoor
namespace Go.Proofs.YtcdilibijnboeaaGreatDoor
open Go Go.Proofs Sy
theorem q6:Pu Tryz.prog 43 #[.slice none 0 0] (fun _=>True) (.slice none 0 0):=by
 refine ax (args:=[_]) _ Tryz.func43 rfl Tryz.ntmps43 rfl fun av bor w0=>?_
 repeat' (first|refine kE ?_|apply ab|apply cw_seq|apply cw_reg|refine ai ?_|refine ac ?_|refine bQ fun _=>?_|apply cw_skip|apply aq|(refine aC (ht:=?_) (hf:=?_);all_goals (intro hx_;skip)))
 all_goals first
  | exact ak (ap rfl rfl) rfl
  | exact absurd hx_ (by decide)
theorem r8:Pu Tryz.prog 17 #[.slice none 0 0] (fun _=>True) (.agg #[.slice none 0 0,.slice none 0 0]):=by
 refine ax (args:=[_]) _ Tryz.func17 rfl Tryz.ntmps17 rfl fun av bor w0=>?_
 repeat' (first|apply ab|apply cw_seq|apply cw_reg|refine ai ?_|refine aK fun _=>?_|refine aI ?_|apply aq|(refine am (hc:=q6) (hX:=fun _ _=>trivial) ?_)|(refine bq (cs:=[.slice none 0 0,.slice none 0 0]) (hf:=by rfl) ?_)|fail)
 exact ak (cW rfl rfl bS (by rfl)) rfl
theorem itemsNil (w:World):Items w ⟨none,0,0⟩ []:=⟨cA w 49,fun i hi=>absurd hi (by simp)⟩
theorem chainsNil0 (w:World):Chains w ⟨none,0,0⟩ []:=⟨cA w 6,fun i hi=>absurd hi (by simp)⟩
def chZ0 (id:ByteArray):ChainD:=⟨id,⟨none,0,0⟩,⟨none,0,0⟩,⟨#[]⟩,0,false,[]⟩
theorem iz (id:ByteArray) (w:World):(chZ0 id).at_ w∧Keyz w (chZ0 id).keys []:=⟨⟨cA w 20,fun i hi=>(List.not_mem_nil hi).elim⟩,cA w 3⟩
set_option maxRecDepth 20000 in
set_option maxHeartbeats 8000000 in
theorem qp:Pu Tryz.prog 7 #[] Glob (.bool true):=by
 refine ax (args:=[]) _ Tryz.func7 rfl Tryz.ntmps7 rfl fun av bor w0=>?_
 have hof:=fun au=>r5 ⟨none,0,0⟩ ⟨none,0,0⟩ so au
 have hall:=xV (QK [] []) ⟨none,0,0⟩ ⟨none,0,0⟩ [] [] (by simp) hof
 have hids:compB (sortB (authI []))=[]:=by decide +kernel
 rw [hids] at hall
 repeat' (first|apply ab|apply cw_seq|apply cw_reg|refine ai ?_|refine ac ?_|refine aG ?_|refine aK fun _=>?_|refine aI ?_|(refine am (hc:=r8) (hX:=fun _ _=>trivial) ?_)|(refine dc (hc:=hof _) (hX:=fun w h=>⟨⟨cA w 1,itemsNil w⟩,h⟩) fun v X1 h1=>?_;obtain ⟨c,kl,hQ,rfl,hw1⟩:=h1)|fail)
 obtain ⟨hcA,rfl,hcp,hcg,hcf,hci⟩:=Bp hQ
 have G:=sz so hQ
 refine na (p:=c.acts.n=0) (fun w h=>by have:=(hw1 w h.2).1.len_;rw [hcA] at this;exact this) fun hcn=>?_
 have hseq:(c.acts.n:Int)=0:=by omega
 have hia:seqB c.id ⟨#[48,49,50,51,52,53,54,55,56,57,97,98,99,100,101,102]⟩=true:=by rw [hci];exact cq _
 have hip:seqB c.prev ⟨#[]⟩=true:=by rw [hcp];exact cq _
 have hdr:=xJ c 0 7
 have hkey:Pu Tryz.prog 11 #[c.v,.int .i64 0] (fun w=>c.at_ w∧Keyz w c.keys []) (.tuple #[KeyD.zero.v,.bool false]):=by
  have h1:=jB c [] 0
  have e:keyV c.acts.n [] 0=none:=by rw [keyV];cases (decide ((0:Int)<0)||decide ((c.acts.n:Int)<0))<;>rfl
  rw [e] at h1
  exact h1
 have hidx:Pu Tryz.prog 13 #[c.v,.string ⟨#[]⟩] (fun w=>c.at_ w∧Glob w) (.tuple #[.int .i64 0,.bool false]):=by
  have h1:=lj c G.ok ⟨#[]⟩
  have e:idxV c.actsL ⟨#[]⟩=none:=by rw [hcA];rfl
  rw [e] at h1
  exact h1
 have hfind:Pu Tryz.prog 21 #[.slice none 0 0,.string ⟨#[48,49,50,51,52,53,54,55,56,57,97,98,99,100,101,102]⟩] (fun w=>Chains w ⟨none,0,0⟩ []) (.tuple #[ChainD.zero.v,.bool false]):=Aa ⟨none,0,0⟩ [] _
 have hsame:=fA c (chZ0 ⟨#[48,49,50,51,52,53,54,55,56,57,97,98,99,100,101,102]⟩) [] ⟨hci,hcp,hcg,hcf,by rw [hcA];rfl⟩ (fun x hx=>by rw [hcA] at hx;exact (List.not_mem_nil hx).elim)
 clear hcA hcp hcg hcf hci
 repeat' (first|refine al (ek true rfl rfl (by first|exact hia|exact hip)) rfl aA rfl ?_|refine bp (hab:=by first|exact hseq|rfl|omega) ?_|apply ab|apply cw_seq|apply cw_reg|refine ai ?_|refine ac ?_|refine az ?_|refine ay ?_|refine aG ?_|refine aB ?_|refine bM ?_|refine aZ ?_|refine bU ?_|refine aK fun _=>?_|refine aI ?_|apply aq|(refine am (hc:=hdr) (hX:=fun _ _=>trivial) ?_)|(refine am (hc:=hkey) (hX:=fun w h=>hw1 w h.2) ?_)|(refine am (hc:=hidx) (hX:=fun w h=>⟨(hw1 w h.2).1,h.1⟩) ?_)|(refine am (hc:=hfind) (hX:=fun w h=>chainsNil0 w) ?_)|(refine am (hc:=hsame) (hX:=fun w h=>⟨hw1 w h.2,iz _ w⟩) ?_)|(refine bq (cs:=(chZ0 ⟨#[48,49,50,51,52,53,54,55,56,57,97,98,99,100,101,102]⟩).cells) (hf:=by rfl) ?_)|(refine am (hc:=r8) (hX:=fun _ _=>trivial) ?_)|(refine dc (hc:=hall) (hX:=fun w h=>⟨⟨cA w 1,itemsNil w⟩,h.1⟩) fun v X2 h2=>?_;obtain ⟨s,M,hM,rfl,hws⟩:=h2;cases hM;refine na (p:=s.n=0) (fun w h=>(hws w h.2).1.len_) fun hsn=>?_)|fail)
 all_goals first
  | exact ak (ap rfl rfl) rfl
end Go.Proofs.YtcdilibijnboeaaGreatDoor
namespace Go.Proofs.YtcdilibijnboeaaGreatDoor
open Go Go.Proofs Sy Go.Shelf
namespace Rf4
theorem BX (m x:Nat) (hm:m≤64):shrV .u64 (x:Int) (m:Int)=((x/2 ^ m:Nat):Int):=by
 show (x:Int).fdiv (2 ^ (min (m:Int).toNat 64))=_
 rw [Int.toNat_natCast,Nat.min_eq_left hm,show (2:Int) ^ m=((2 ^ m:Nat):Int) by rw [Int.natCast_pow];rfl,←Int.ofNat_fdiv]
theorem gx {p:Nat} (h:p<18446744073709551616):IntKind.u64.wrap (p:Int)=(p:Int):=by
 simp [IntKind.wrap,IntKind.signed,IntKind.bits]
 omega
theorem B4 (m x:Nat) (hm:m≤62) (hx:x<18446744073709551616):bitsV .and .u64 (x:Int) (((2 ^ m-1:Nat)):Int)=((x%2 ^ m:Nat):Int):=by
 show IntKind.u64.wrap ((((BitVec.ofInt 64 (x:Int)) &&& (BitVec.ofInt 64 (((2 ^ m-1:Nat)):Int))).toNat:Nat):Int)=_
 have h1:2 ^ m≤2 ^ 62:=Nat.pow_le_pow_right (by decide) hm
 have h2:0<2 ^ m:=Nat.two_pow_pos m
 rw [BitVec.toNat_and,BitVec.ofInt_natCast,BitVec.ofInt_natCast,BitVec.toNat_ofNat,BitVec.toNat_ofNat,Nat.mod_eq_of_lt (show x<2 ^ 64 by omega),Nat.mod_eq_of_lt (show 2 ^ m-1<2 ^ 64 by omega),Nat.and_two_pow_sub_one_eq_mod]
 exact gx (by have:=Nat.mod_lt x h2;omega)
theorem BZ (m x:Nat) (hm:m≤64) (hx:x*2 ^ m<18446744073709551616):shlV .u64 (x:Int) (m:Int)=((x*2 ^ m:Nat):Int):=by
 show IntKind.u64.wrap ((x:Int)*2 ^ (min (m:Int).toNat 64))=_
 rw [Int.toNat_natCast,Nat.min_eq_left hm,show (x:Int)*(2:Int) ^ m=((x*2 ^ m:Nat):Int) by rw [Int.natCast_mul,Int.natCast_pow];rfl]
 exact gx hx
section
variable {N:Nat} {av bor:List Nat} {w0:World} {st:St} {ty:TypeId} {x y:Operand} {E:Env} {loc:List Res} {X:World→Prop} {ops:Array Oper} {kk k:St→Prop} {pos:String} {af:Array Edge} {g:Option (Nat×Bool)} {rest:List Oper} {bb want:Bool} {n:Nat} {t t2:TypeId} {d:Option Tmp}
theorem mW {k':IntKind} (m r:Nat) {p:Nat} (hx:ev E x=some (.int .u64 (p:Nat)):=by rfl) (hy:ev E y=some (.int k' (m:Int)):=by rfl) (hm:m≤64∧p/2 ^ m=r) (hg:gdB ops E g=some (bb,want):=by rfl) (hbb:bb=want:=by exact aA) (hd:Nat.blt n N=true:=by rfl) (h:Sw Tryz.prog N av bor w0 ops rest ⟨(n,.int .u64 (r:Nat))::E,loc,X⟩ k) :
  Sw Tryz.prog N av bor w0 ops (⟨some n,.binOp .shr t x y t2,ty,pos,af,g⟩::rest) ⟨E,loc,X⟩ k:=eY hx hy ad hg hbb hd (by rw [BX m p hm.1,hm.2];exact h)
theorem m0 (m r:Nat) {p:Nat} (hx:ev E x=some (.int .u64 (p:Nat)):=by rfl) (hy:ev E y=some (.int .u64 ((2 ^ m-1:Nat):Int)):=by rfl) (hm:m≤62∧p<18446744073709551616∧p%2 ^ m=r) (hg:gdB ops E g=some (bb,want):=by rfl) (hbb:bb=want:=by exact aA) (hd:Nat.blt n N=true:=by rfl) (h:Sw Tryz.prog N av bor w0 ops rest ⟨(n,.int .u64 (r:Nat))::E,loc,X⟩ k) :
  Sw Tryz.prog N av bor w0 ops (⟨some n,.binOp .and t x y t2,ty,pos,af,g⟩::rest) ⟨E,loc,X⟩ k:=al (on hx hy) hg hbb hd (by rw [B4 m p hm.1 hm.2.1,hm.2.2];exact h)
theorem yF {k':IntKind} (m r:Nat) {p:Nat} (hx:ev E x=some (.int .u64 (p:Nat)):=by rfl) (hy:ev E y=some (.int k' (m:Int)):=by rfl) (hm:m≤64∧p*2 ^ m<18446744073709551616∧p*2 ^ m=r) (hg:gdB ops E g=some (bb,want):=by rfl) (hbb:bb=want:=by exact aA) (hd:Nat.blt n N=true:=by rfl) (h:Sw Tryz.prog N av bor w0 ops rest ⟨(n,.int .u64 (r:Nat))::E,loc,X⟩ k) :
  Sw Tryz.prog N av bor w0 ops (⟨some n,.binOp .shl t x y t2,ty,pos,af,g⟩::rest) ⟨E,loc,X⟩ k:=mX hx hy ad hg hbb hd (by rw [BZ m p hm.1 hm.2.1,hm.2.2];exact h)
theorem rK [hI:TyInt Tryz.prog t .u64] {p q:Nat} (h:Sw Tryz.prog N av bor w0 ops rest ⟨(n,.int .u64 ((p*q:Nat):Int))::E,loc,X⟩ k) (hx:ev E x=some (.int .u64 (p:Nat)):=by rfl) (hy:ev E y=some (.int .u64 (q:Nat)):=by rfl) (hq:p*q<18446744073709551616) (hg:gdB ops E g=some (bb,want):=by rfl) (hbb:bb=want:=by exact aA) (hd:Nat.blt n N=true:=by rfl) :
  Sw Tryz.prog N av bor w0 ops (⟨some n,.binOp .mul t x y t2,ty,pos,af,g⟩::rest) ⟨E,loc,X⟩ k:=eB (c:=((p*q:Nat):Int)) hx hy (by rw [←Int.natCast_mul];exact gx hq) hg hbb hd h
theorem rL [hI:TyInt Tryz.prog t .u64] {p q:Nat} (h:Sw Tryz.prog N av bor w0 ops rest ⟨(n,.int .u64 ((p+q:Nat):Int))::E,loc,X⟩ k) (hx:ev E x=some (.int .u64 (p:Nat)):=by rfl) (hy:ev E y=some (.int .u64 (q:Nat)):=by rfl) (hq:p+q<18446744073709551616) (hg:gdB ops E g=some (bb,want):=by rfl) (hbb:bb=want:=by exact aA) (hd:Nat.blt n N=true:=by rfl) :
  Sw Tryz.prog N av bor w0 ops (⟨some n,.binOp .add t x y t2,ty,pos,af,g⟩::rest) ⟨E,loc,X⟩ k:=be (c:=((p+q:Nat):Int)) hx hy (by rw [←Int.natCast_add];exact gx hq) hg hbb hd h
end
theorem Bn {P:Program} {fn:Func} {N t u r:Nat} {s:St} {v x y:Value} (hr:fn.results=#[.tmp t,.tmp u,.tmp r]) (h:Sy.look s.env t=some v) (h':Sy.look s.env u=some x) (h2:Sy.look s.env r=some y):Res1 P fn N s (.tuple #[v,x,y]):=fun av bor w0 a w ok=>by
 have h3:=ok.env t v h
 have h4:=ok.env u x h'
 have h5:=ok.env r y h2
 simp [results,hr,h3,h4,h5]
theorem iR (a m:Nat) (hm:0<m) (hm2:m<4611686018427387904):Pu Tryz.prog 247 #[.int .i64 (a:Int),.int .i64 (m:Int)] (fun _=>True) (.int .i64 ((a%m:Nat):Int)):=by
 refine ax (args:=[_,_]) _ Tryz.func247 rfl Tryz.ntmps247 rfl fun av bor w0=>?_
 have hr:Eqq ((a:Int).tmod (m:Int)) ((a%m:Nat):Int):=kV a m
 repeat' (first|refine fo (hb:=by omega) (hc:=hr) ?_|apply ab|apply cw_seq|apply cw_reg|refine ai ?_|refine ac ?_|refine bc ?_|refine be (h:=?_)|apply cw_skip|apply aq|(refine aC (ht:=?_) (hf:=?_);all_goals (intro hx_;first|have:=aO hx_|have:=aR hx_)))
 · exfalso;omega
 · apply ak;apply ap;rfl;rfl
   rfl
theorem pi (a b x1 x0 y1 y0:Nat) (ha:a<2305843009213693952) (hb:b<2305843009213693952) (h1:a/2 ^ 31=x1) (h0:a%2 ^ 31=x0) (g1:b/2 ^ 31=y1) (g0:b%2 ^ 31=y0) (hm:x1*y1<1152921504606846976) (hp:x1*y0<4611686018427387904) (hq:x0*y1<4611686018427387904) (hr:x0*y0<4611686018427387904) :
  Pu Tryz.prog 246 #[.int .i64 (a:Int),.int .i64 (b:Int)] (fun _=>True) (.tuple #[.int .u64 ((x1*y1:Nat):Int),.int .u64 ((x1*y0+x0*y1:Nat):Int),.int .u64 ((x0*y0:Nat):Int)]):=by
 refine ax (args:=[_,_]) _ Tryz.func246 rfl Tryz.ntmps246 rfl fun av bor w0=>?_
 repeat' (first|refine SrG.sy_toU_g (hq:=by omega) (h:=?_)|refine mW 31 x1 (hm:=by omega) (h:=?_)|refine mW 31 y1 (hm:=by omega) (h:=?_)|refine m0 31 x0 (hm:=by omega) (h:=?_)|refine m0 31 y0 (hm:=by omega) (h:=?_)|refine rK (hq:=by omega) ?_|refine rL (hq:=by omega) ?_|apply ab|apply cw_seq|apply cw_reg|refine ai ?_|refine ac ?_|apply aq|fail)
 exact ak (Bn rfl rfl rfl rfl) rfl
theorem mulR {x y x1 x0 y1 y0:Nat} (h1:x/2 ^ 31=x1) (h0:x%2 ^ 31=x0) (g1:y/2 ^ 31=y1) (g0:y%2 ^ 31=y0) :
  x*y%2305843009213693951=(2*(x1*y1)+(x1*y0+x0*y1)/2 ^ 30+(x1*y0+x0*y1)%2 ^ 30*2 ^ 31+x0*y0)%2305843009213693951:=by
 have hx:x=x1*2147483648+x0:=by omega
 have hy:y=y1*2147483648+y0:=by omega
 have e:x*y=x1*y1*4611686018427387904+(x1*y0+x0*y1)*2147483648+x0*y0:=by
  rw [hx,hy,Nat.add_mul,Nat.mul_add,Nat.mul_add,Nat.mul_mul_mul_comm,Nat.mul_right_comm x1 _ y0,←Nat.mul_assoc x0,Nat.add_mul (x1*y0)]
  omega
 rw [e]
 generalize x1*y1=H
 generalize x1*y0+x0*y1=M
 generalize x0*y0=L
 have:H*4611686018427387904+M*2147483648+L=(2*H+M/2 ^ 30+M%2 ^ 30*2 ^ 31+L)+2305843009213693951*(2*H+M/2 ^ 30):=by omega
 rw [this,Nat.add_mul_mod_self_left]
theorem iQ (a b:Nat):Pu Tryz.prog 213 #[.int .i64 (a:Int),.int .i64 (b:Int)] (fun _=>True) (.int .i64 ((a*b%2305843009213693951:Nat):Int)):=by
 refine ax (args:=[_,_]) _ Tryz.func213 rfl Tryz.ntmps213 rfl fun av bor w0=>?_
 have c1:=iR a 2305843009213693951 (by decide) (by decide)
 have c2:=iR b 2305843009213693951 (by decide) (by decide)
 have hx:=Nat.mod_lt a (show 0<2305843009213693951 by decide)
 have hy:=Nat.mod_lt b (show 0<2305843009213693951 by decide)
 have hab:a*b%2305843009213693951=(a%2305843009213693951)*(b%2305843009213693951)%2305843009213693951:=Nat.mul_mod a b _
 rw [hab]
 generalize a%2305843009213693951=x at *
 generalize b%2305843009213693951=y at *
 obtain ⟨x1,h1⟩:∃ x1,x/2 ^ 31=x1:=⟨_,rfl⟩
 obtain ⟨x0,h0⟩:∃ x0,x%2 ^ 31=x0:=⟨_,rfl⟩
 obtain ⟨y1,g1⟩:∃ y1,y/2 ^ 31=y1:=⟨_,rfl⟩
 obtain ⟨y0,g0⟩:∃ y0,y%2 ^ 31=y0:=⟨_,rfl⟩
 have b1:x1≤1073741823:=by omega
 have b0:x0≤2147483647:=by omega
 have d1:y1≤1073741823:=by omega
 have d0:y0≤2147483647:=by omega
 have m1:x1*y1≤1073741823*1073741823:=Nat.mul_le_mul b1 d1
 have m2:x1*y0≤1073741823*2147483647:=Nat.mul_le_mul b1 d0
 have m3:x0*y1≤2147483647*1073741823:=Nat.mul_le_mul b0 d1
 have m4:x0*y0≤2147483647*2147483647:=Nat.mul_le_mul b0 d0
 have c3:=pi x y x1 x0 y1 y0 ad ad h1 h0 g1 g0 ad ad ad ad
 rw [mulR h1 h0 g1 g0]
 generalize x1*y1=H at *
 generalize hM:x1*y0+x0*y1=M at *
 have hM2:M≤1073741823*2147483647+2147483647*1073741823:=by omega
 generalize x0*y0=L at *
 obtain ⟨p,hp⟩:∃ p,M/2 ^ 30=p:=⟨_,rfl⟩
 obtain ⟨q,hq⟩:∃ q,M%2 ^ 30=q:=⟨_,rfl⟩
 obtain ⟨r,hr⟩:∃ r,q*2 ^ 31=r:=⟨_,rfl⟩
 rw [hp,hq,hr]
 have hrm:Eqq (((2*H+p+r+L:Nat):Int).tmod 2305843009213693951) (((2*H+p+r+L)%2305843009213693951:Nat):Int):=kV (2*H+p+r+L) 2305843009213693951
 have hz:=Nat.mod_lt (2*H+p+r+L) (show 0<2305843009213693951 by decide)
 repeat' (first|refine SrG.sy_toI_g (hq:=by omega) (h:=?_)|refine mW 30 p (hm:=by omega) (h:=?_)|refine m0 30 q (hm:=by omega) (h:=?_)|refine yF 31 r (hm:=by omega) (h:=?_)|refine rK (p:=2) (hq:=by omega) ?_|refine rL (hq:=by omega) ?_|refine fo (hb:=by decide) (hc:=hrm) ?_|apply ab|apply cw_seq|apply cw_reg|refine ai ?_|refine ac ?_|refine bU ?_|apply aq|(refine am (hc:=c1) (hX:=fun w h=>h) ?_)|(refine am (hc:=c2) (hX:=fun w h=>h) ?_)|(refine am (hc:=c3) (hX:=fun w h=>h) ?_)|fail)
 apply ak;apply ap;rfl;rfl
 rfl
end Rf4
namespace Rf4
theorem quo2 (a:Nat) (ha:a<9223372036854775808):IntKind.i64.wrap ((a:Int).tdiv 2)=((a/2:Nat):Int):=by
 rw [show (2:Int)=((2:Nat):Int) from rfl,Int.tdiv_eq_ediv_of_nonneg ad,←Int.natCast_ediv]
 exact IntWalk.i64_in _ ad
structure ExS (a e:Nat) where
 x:Nat
 b:Nat
 f:Nat
 hx:x<2305843009213693951
 hf:f≤e
 inv:x*b ^ f%2305843009213693951=a ^ e%2305843009213693951
theorem wL (b h M:Nat):(b*b%M) ^ h%M=b ^ (h+h)%M:=by
 rw [←Nat.pow_mod,Nat.mul_pow,←Nat.pow_add]
theorem zC {x b f M:Nat} (h:f%2=1):(x*b%M)*(b*b%M) ^ (f/2)%M=x*b ^ f%M:=by
 have hf:f=1+(f/2+f/2):=by omega
 conv=>rhs;rw [hf,Nat.pow_add,Nat.pow_one,←Nat.mul_assoc]
 rw [Nat.mul_mod (x*b%M),Nat.mod_mod,wL,←Nat.mul_mod]
theorem xr {x b f M:Nat} (h:¬ f%2=1):x*(b*b%M) ^ (f/2)%M=x*b ^ f%M:=by
 have hf:f=f/2+f/2:=by omega
 conv=>rhs;rw [hf]
 rw [Nat.mul_mod,wL,←Nat.mul_mod]
theorem uk (a e:Nat) (he:e<9223372036854775808):Pu Tryz.prog 214 #[.int .i64 (a:Int),.int .i64 (e:Int)] (fun _=>True) (.int .i64 ((a ^ e%2305843009213693951:Nat):Int)):=by
 refine ax (args:=[_,_]) _ Tryz.func214 rfl Tryz.ntmps214 rfl fun av bor w0=>?_
 have c1:=iR a 2305843009213693951 (by decide) (by decide)
 repeat' (first|apply ab|apply cw_seq|apply cw_reg|refine ai ?_|refine ac ?_|refine bc ?_|apply cw_skip|apply cw_block|(refine am (hc:=c1) (hX:=fun w h=>h) ?_)|(refine aC (ht:=?_) (hf:=?_);all_goals (intro hx_;first|have:=aO hx_|have:=aR hx_)))
 · exfalso;omega
 · refine aS (ι:=ExS a e) (fun i=>⟨[(1,.int .i64 (i.f:Nat)),(5,.int .i64 (i.x:Nat)),(6,.int .i64 (i.b:Nat))],[],fun _=>True⟩) (fun i=>i.f) ⟨1,a%2305843009213693951,e,by decide,Nat.le_refl _,by rw [Nat.one_mul,←Nat.pow_mod]⟩ (aw ⟨rfl,rfl,rfl,trivial⟩ (List.nil_sublist _) fun _ h=>h) fun i=>?_
   obtain ⟨x,b,f,hx,hf,inv⟩:=i
   simp only
   have hm1:=iQ x b
   have hm2:=iQ b b
   have hr:Eqq ((f:Int).tmod 2) ((f%2:Nat):Int):=kV f 2
   have hq:Eqq (IntKind.i64.wrap ((f:Int).tdiv 2)) ((f/2:Nat):Int):=quo2 f ad
   repeat' (first|refine fo (hb:=by decide) (hc:=hr) ?_|refine kF (hb:=by decide) (hc:=hq) ?_|apply ab|apply cw_seq|apply cw_reg|refine ai ?_|refine ac ?_|refine bN ?_|refine cI ?_|apply cw_skip|apply cw_block|apply aq|apply aP|(refine am (hc:=hm1) (hX:=fun w h=>h) ?_)|(refine am (hc:=hm2) (hX:=fun w h=>h) ?_)|(refine aC (ht:=?_) (hf:=?_);all_goals (intro hx_;first|have:=aO hx_|have:=aR hx_)))
   · have hc:f%2=1:=by
      have:=aO hx_
      omega
     exact ⟨(⟨x*b%2305843009213693951,b*b%2305843009213693951,f/2,Nat.mod_lt _ (by decide),by omega,(zC hc).trans inv⟩:ExS a e),(by show f/2<f;omega),aw ⟨rfl,rfl,rfl,trivial⟩ (List.nil_sublist _) fun _ h=>h⟩
   · have hc:¬ f%2=1:=by
      have:=aR hx_
      omega
     exact ⟨(⟨x,b*b%2305843009213693951,f/2,hx,by omega,(xr hc).trans inv⟩:ExS a e),(by show f/2<f;omega),aw ⟨rfl,rfl,rfl,trivial⟩ (List.nil_sublist _) fun _ h=>h⟩
   · have hk:f=0:=by omega
     apply ak;apply ap;rfl;rfl
     rw [←inv,hk,Nat.pow_zero,Nat.mul_one,Nat.mod_eq_of_lt hx]
end Rf4
namespace Rf4
theorem iu:∀ f x:Nat,x<2 ^ f→x<2 ^ Lib.bitLenAux f x
 | 0,x,h=>h
 | f+1,x,h=>by
  rw [Lib.bitLenAux]
  split
  · rename_i h0
    rw [h0]
    decide
  · have h1:=iu f (x/2) (by rw [Nat.pow_succ] at h;omega)
    rw [Nat.pow_add]
    omega
theorem pK (a e:Nat):∀ i,(expF a e i).1=a ^ (e%2 ^ i)%2305843009213693951∧(expF a e i).2=a ^ 2 ^ i%2305843009213693951
 | 0=>by
  refine ⟨?_,?_⟩
  · show 1=_
    rw [Nat.pow_zero,Nat.mod_one,Nat.pow_zero]
  · show a%_=_
    rw [Nat.pow_zero,Nat.pow_one]
 | i+1=>by
  obtain ⟨h1,h2⟩:=pK a e i
  refine ⟨?_,?_⟩
  · show (bif decide (e/2 ^ i%2=1) then (expF a e i).1*(expF a e i).2%2305843009213693951 else (expF a e i).1)=_
    rw [Nat.mod_pow_succ,h1,h2]
    by_cases h:e/2 ^ i%2=1
    · rw [decide_eq_true h,cond_true,h,Nat.mul_one,Nat.pow_add,←Nat.mul_mod]
    · have h0:e/2 ^ i%2=0:=by omega
      rw [decide_eq_false h,cond_false,h0,Nat.mul_zero,Nat.add_zero]
  · show (expF a e i).2*(expF a e i).2%2305843009213693951=_
    rw [h2,←Nat.mul_mod,←Nat.pow_add,Nat.pow_succ,Nat.mul_two]
theorem xF (a e:Nat) (he:e<9223372036854775808):expV a e=a ^ e%2305843009213693951:=by
 have h:e<2 ^ Lib.bitLen e:=iu 64 e ad
 rw [expV,(pK a e _).1,Nat.mod_eq_of_lt h]
theorem kX (a e:Nat) (he:e<9223372036854775808):Pu Tryz.prog 214 #[.int .i64 (a:Int),.int .i64 (e:Int)] (fun _=>True) (.int .i64 (expV a e:Nat)):=by
 rw [xF a e he]
 exact uk a e he
def numS (s:ByteArray) (k:Nat):Nat:=bif decide (k=8) then numN (nl s) else numF (nl s) k
theorem nE {s:ByteArray} {k:Nat} (h:k<8):numS s k=numF (nl s) k:=by rw [numS,decide_eq_false ad,cond_false]
theorem iG {n:Nat} (h:n<9223372036854775808):IntKind.i64.wrap (n:Int)=(n:Int):=IntWalk.i64_in _ ad
theorem stepA {s:ByteArray} {k:Nat} (h:k<7) {b:Int} (hb:b=(((nl s).getD k 0:Nat):Int)):IntKind.i64.wrap (IntKind.i64.wrap (256*((numS s k:Nat):Int))+b)=((numS s (k+1):Nat):Int):=by
 have h1:=numF7 s (show k<8 by omega)
 have h2:=numF7 s (show k+1<8 by omega)
 rw [nE ad,nE ad,hb]
 rw [numF] at h2 ⊢
 generalize numF (nl s) k=x at *
 generalize (nl s).getD k 0=y at *
 rw [show (256:Int)*(x:Int)=((256*x:Nat):Int) by omega,iG ad,←Int.natCast_add,iG (by omega)]
 omega
theorem stepB {s:ByteArray} {b:Int} (hb:b=(((nl s).getD 7 0:Nat):Int)):IntKind.i64.wrap (IntKind.i64.wrap (32*((numS s 7:Nat):Int))+IntKind.i64.wrap (b.tdiv 8))=((numS s 8:Nat):Int):=by
 have h1:=numF7 s (show 7<8 by omega)
 have h2:=fe (ir s) 7
 have e8:numS s 8=(numF (nl s) 7*256+(nl s).getD 7 0)/8:=rfl
 rw [e8,nE ad,hb]
 generalize numF (nl s) 7=x at *
 generalize (nl s).getD 7 0=y at *
 rw [show (32:Int)*(x:Int)=((32*x:Nat):Int) by omega,iG ad,show ((y:Int)).tdiv 8=((y/8:Nat):Int) by rw [Int.tdiv_eq_ediv_of_nonneg (by omega)];omega,iG ad,←Int.natCast_add,iG (by omega)]
 omega
theorem byteIn {s:ByteArray} {k:Nat} (h:k<s.size):IntKind.i64.wrap (byteAt s (k:Int).toNat)=(((nl s).getD k 0:Nat):Int):=by
 have h2:=fe (ir s) k
 rw [show ((k:Int)).toNat=k from rfl,nT s _ h,iG (by omega)]
theorem byteOut {s:ByteArray} {k:Nat} (h:s.size≤k):(0:Int)=(((nl s).getD k 0:Nat):Int):=by
 rw [List.getD_eq_getElem?_getD,List.getElem?_eq_none (by rw [dp];exact h),Option.getD_none]
 rfl
theorem pj (s:ByteArray):Pu Tryz.prog 245 #[.string s] (fun _=>True) (.int .i64 (numN (nl s):Nat)):=by
 refine ax (args:=[_]) _ Tryz.func245 rfl Tryz.ntmps245 rfl fun av bor w0=>?_
 repeat' (first|apply ab|apply cw_seq|apply cw_reg|refine ac ?_|apply cw_block|fail)
 refine aS (ι:=Kth 8) (fun i=>⟨[(0,.string s),(3,.int .i64 ((numS s i.k:Nat):Int)),(4,.int .i64 i.k)],[],fun _=>True⟩) (fun i=>8-i.k) ⟨0,Nat.zero_le _⟩ (aw ⟨rfl,rfl,rfl,trivial⟩ (aD _) fun _ h=>h) fun i=>?_
 have hik:=i.hk
 repeat' (first|refine kF (hb:=by decide) (hc:=rfl) ?_|apply ab|apply cw_seq|apply cw_reg|refine ai ?_|refine ac ?_|refine bc ?_|refine bP ?_|refine be (h:=?_)|apply cw_skip|apply cw_block|apply aq|apply aP|refine eB (h:=?_)|refine dY (h:=?_)|refine gZ ?_|(refine aC (ht:=?_) (hf:=?_);all_goals (intro hx_;first|have:=aO hx_|have:=aR hx_)))
 · exact ⟨⟨i.k+1,by omega⟩,(by show 8-(i.k+1)<8-i.k;omega),aw ⟨rfl,congrArg (fun z=>some (Value.int IntKind.i64 z)) (stepA ad (byteIn ad)),rfl,trivial⟩ (aD _) fun _ h=>h⟩
 · have e7:i.k=7:=by omega
   obtain ⟨k,hk⟩:=i
   simp only at e7
   subst e7
   have hE:=@stepB s _ (byteIn (k:=7) ad)
   exact ⟨⟨8,by omega⟩,(by show 8-8<8-7;omega),aw ⟨rfl,congrArg (fun z=>some (Value.int IntKind.i64 z)) hE,rfl,trivial⟩ (aD _) fun _ h=>h⟩
 · exact ⟨⟨i.k+1,by omega⟩,(by show 8-(i.k+1)<8-i.k;omega),aw ⟨rfl,congrArg (fun z=>some (Value.int IntKind.i64 z)) (stepA ad (byteOut ad)),rfl,trivial⟩ (aD _) fun _ h=>h⟩
 · have e7:i.k=7:=by omega
   obtain ⟨k,hk⟩:=i
   simp only at e7
   subst e7
   have hE:=@stepB s _ (byteOut (k:=7) ad)
   exact ⟨⟨8,by omega⟩,(by show 8-8<8-7;omega),aw ⟨rfl,congrArg (fun z=>some (Value.int IntKind.i64 z)) hE,rfl,trivial⟩ (aD _) fun _ h=>h⟩
 · have h8:i.k=8:=by omega
   apply ak;apply ap;rfl;rfl
   rw [h8]
   rfl
end Rf4
namespace Rf4
theorem qz (s:ByteArray) (hs:s.size≤1099511627776):Pu Tryz.prog 212 #[.string s] (fun _=>True) (.int .i64 (numN (nl (shaV s)):Nat)):=by
 refine ax (args:=[_]) _ Tryz.func212 rfl Tryz.ntmps212 rfl fun av bor w0=>?_
 repeat' (first|apply ab|apply cw_seq|apply cw_reg|refine ai ?_|refine ac ?_|apply aq|refine am (hc:=mr _ hs) ?_|refine am (hc:=pj _) ?_|fail)
 exact ak (ap rfl rfl) rfl
theorem qD (r p:Nat) (msg:ByteArray) (hr:r<9223372036854775808) (hp:p<9223372036854775808) (hm:msg.size≤1000000000000) :
  Pu Tryz.prog 173 #[.int .i64 (r:Int),.int .i64 (p:Int),.string msg] (fun _=>True) (.int .i64 (chalN r p msg:Nat)):=by
 refine ax (args:=[_,_,_]) _ Tryz.func173 rfl Tryz.ntmps173 rfl fun av bor w0=>?_
 have h1:=aW ⟨#[115,105,103,110]⟩
 have h2:=aN (r:Int)
 have h3:=aN (p:Int)
 have h4:=aW msg
 have h5:(⟨#[115,105,103,110]⟩:ByteArray).size=4:=rfl
 have ec:catB (chalP r p msg)=textV ⟨#[115,105,103,110]⟩++numV (r:Int)++numV (p:Int)++textV msg:=by
  show textV ⟨#[115,105,103,110]⟩++(numV (r:Int)++(numV (p:Int)++(textV msg++ByteArray.empty)))=_
  rw [ByteArray.append_empty,ByteArray.append_assoc,ByteArray.append_assoc]
 have hsz:(catB (chalP r p msg)).size≤1099511627776:=by
  rw [ec]
  simp only [ByteArray.size_append]
  omega
 have ch:=qz (catB (chalP r p msg)) hsz
 have c1:=bR ⟨#[115,105,103,110]⟩ (by decide)
 rw [ec] at ch
 have hrm:Eqq (((numN (nl (shaV (textV ⟨#[115,105,103,110]⟩++numV (r:Int)++numV (p:Int)++textV msg))):Nat):Int).tmod 2305843009213693950) ((chalN r p msg:Nat):Int):=by
  rw [chalN,hashN,ec]
  exact kV _ 2305843009213693950
 repeat' (first|refine kG (hb:=by ((try simp only [ByteArray.size_append]);omega)) ?_|refine fo (hb:=by decide) (hc:=hrm) ?_|apply ab|apply cw_seq|apply cw_reg|refine ai ?_|refine ac ?_|apply aq|(refine am (hc:=c1) (hX:=fun _ _=>trivial) ?_)|refine am (hc:=bR _ ad) ?_|refine am (hc:=bw _ ad) ?_|(refine am (hc:=ch) (hX:=fun _ _=>trivial) ?_)|fail)
 all_goals first
  | exact ak (ap rfl rfl) rfl
section
variable {P:Program} {N:Nat} {av bor:List Nat} {w0:World} {st:St} {ty:TypeId} {x y:Operand} {t t2:TypeId}
theorem y_subM [hI:TyInt P t .i64] {p q:Nat} (hx:ev st.env x=some (.int .i64 (p:Nat))) (hy:ev st.env y=some (.int .i64 (q:Nat))) (hq:q≤p∧p<9223372036854775808):Sy.Yields P N av bor w0 st (.binOp .sub t x y t2) ty (.int .i64 ((p-q:Nat):Int)) :=
 l3 hx hy (by rw [show (p:Int)-(q:Int)=((p-q:Nat):Int) by omega];exact IntWalk.i64_in _ ad)
end
theorem nv (p e s:Nat) (he:e≤2305843009213693950) (hs:s≤2305843009213693950) :
  Pu Tryz.prog 174 #[.int .i64 (p:Int),SgD.v ⟨(e:Int),(s:Int)⟩] (fun _=>True) (.int .i64 ((expV 37 s*expV p (2305843009213693950-e)%2305843009213693951:Nat):Int)):=by
 refine ax (args:=[_,_]) _ Tryz.func174 rfl Tryz.ntmps174 rfl fun av bor w0=>?_
 have c1:=kX 37 s ad
 have c2:=kX p (2305843009213693950-e) ad
 have c3:=iQ (expV 37 s) (expV p (2305843009213693950-e))
 repeat' (first|apply ab|apply cw_seq|apply cw_reg|refine ac ?_|refine aL fun _=>?_|fail)
 (apply bF;kernel_rfl)
 all_goals refine aa 0 ?_
 all_goals refine aa 1 ?_
 all_goals refine aa 3 ?_
 all_goals refine aa 4 ?_
 all_goals refine aa 5 ?_
 all_goals (refine aa 6 (hy:=by (apply y_subM (p:=2305843009213693950);rfl;rfl;omega)) ?_)
 all_goals (refine ae 2 ?_;(refine am (hc:=c1) (hX:=fun _ _=>trivial) ?_);apply ab;refine ag ?_)
 all_goals (refine ae 7 ?_;(refine am (hc:=c2) (hX:=fun _ _=>trivial) ?_);apply ab;refine ag ?_)
 all_goals (refine ae 8 ?_;(refine am (hc:=c3) (hX:=fun _ _=>trivial) ?_);apply ab;refine ag ?_)
 all_goals refine aa 9 ?_
 all_goals (refine ar ?_)
 all_goals
  repeat' (first|apply aq|fail)
  exact ak (ap rfl rfl) rfl
def ranB (p e s:Int):Bool:=!(decide (p<1)||decide (2305843009213693951≤p)||!ordV e||!ordV s)
theorem qG {p e s:Int}:ranB p e s=(decide (1≤p)&&(decide (p<2305843009213693951)&&(decide (0≤e)&&(decide (e<2305843009213693950)&&(decide (0≤s)&&decide (s<2305843009213693950)))))):=by
 rw [ranB,ordV,ordV]
 have e1:decide (p<1)=!decide (1≤p):=by by_cases h:1≤p<;>simp [h]<;>omega
 have e2:decide (2305843009213693951≤p)=!decide (p<2305843009213693951):=by by_cases h:p<2305843009213693951<;>simp [h]<;>omega
 rw [e1,e2]
 cases decide (1≤p)<;>cases decide (p<2305843009213693951)<;>cases decide (0≤e)<;>cases decide (e<2305843009213693950)<;>cases decide (0≤s)<;>cases decide (s<2305843009213693950)<;>rfl
theorem nq (p e s:Int):Pu Tryz.prog 172 #[.int .i64 p,SgD.v ⟨e,s⟩] (fun _=>True) (.bool (ranB p e s)):=by
 refine ax (args:=[_,_]) _ Tryz.func172 rfl Tryz.ntmps172 rfl fun av bor w0=>?_
 rw [qG]
 repeat' (first|apply ab|apply cw_seq|apply cw_reg|refine ai ?_|refine ac ?_|refine az ?_|refine ay ?_|refine aB ?_|refine aE ?_|refine bc ?_|refine cV ?_|refine aH ?_|refine aL fun _=>?_|apply aq|((fail_if_success (refine aX ?_));refine aQ (ht:=?_) (hf:=?_);all_goals (intro hx_;first|have:=aO hx_|have:=aR hx_))|fail)
 all_goals refine ak (ap rfl rfl) ?_
 all_goals simp_all
 all_goals (intros;omega)
theorem refVerify_pu (p:Int) (msg:ByteArray) (e s:Int) (hm:msg.size≤1000000000000):Pu Tryz.prog 105 #[.int .i64 p,.string msg,SgD.v ⟨e,s⟩] (fun _=>True) (.bool (verN p msg e s)):=by
 refine ax (args:=[_,_,_]) _ Tryz.func105 rfl Tryz.ntmps105 rfl fun av bor w0=>?_
 have hrg:=nq p e s
 cases hbad:(decide (p<1)||decide (2305843009213693951≤p)||!ordV e||!ordV s) with
 | true =>
  rw [show ranB p e s=false from by rw [ranB,hbad];rfl] at hrg
  rw [show verN p msg e s=false from by rw [verN,hbad];rfl]
  repeat' (first|apply ab|apply cw_seq|apply cw_reg|refine ai ?_|refine ac ?_|refine aG ?_|refine bM ?_|refine aL fun _=>?_|refine cw_cond_t ?_|apply aq|(refine am (hc:=hrg) (hX:=fun _ _=>trivial) ?_)|fail)
  exact ak (ap rfl rfl) rfl
 | false =>
  have hb:=hbad
  simp only [Bool.or_eq_false_iff,decide_eq_false_iff_not,Bool.not_eq_false'] at hb
  obtain ⟨⟨⟨h1,h2⟩,h3⟩,h4⟩:=hb
  simp only [ordV,Bool.and_eq_true,decide_eq_true_eq] at h3 h4
  rw [show ranB p e s=true from by rw [ranB,hbad];rfl] at hrg
  obtain ⟨pn,rfl⟩:∃ n:Nat,p=(n:Int):=⟨p.toNat,by omega⟩
  obtain ⟨en,rfl⟩:∃ n:Nat,e=(n:Int):=⟨e.toNat,by omega⟩
  obtain ⟨sn,rfl⟩:∃ n:Nat,s=(n:Int):=⟨s.toNat,by omega⟩
  have c1:=nv pn en sn ad ad
  obtain ⟨r,hr⟩:∃ r,expV 37 sn*expV pn (2305843009213693950-en)%2305843009213693951=r:=⟨_,rfl⟩
  have hrl:r<2305843009213693951:=by rw [←hr];exact Nat.mod_lt _ (by decide)
  have hV:verN (pn:Int) msg (en:Int) (sn:Int)=decide (((en:Nat):Int)=(chalN r pn msg:Nat)):=by
   rw [verN,hbad,cond_false,Int.toNat_natCast,Int.toNat_natCast,Int.toNat_natCast,hr]
  rw [hr] at c1
  rw [hV,show decide (((en:Nat):Int)=(chalN r pn msg:Nat))=decide (((chalN r pn msg:Nat):Int)=(en:Nat)) from by by_cases h:((en:Nat):Int)=(chalN r pn msg:Nat)<;>simp [h,eq_comm]]
  have c2:=qD r pn msg ad ad hm
  clear hbad hV hr
  generalize chalN r pn msg=cn at *
  repeat' (first|apply ab|apply cw_seq|apply cw_reg|refine ai ?_|refine ac ?_|refine aG ?_|refine bM ?_|refine aL fun _=>?_|refine cw_cond_f ?_|apply cw_skip|(refine am (hc:=hrg) (hX:=fun _ _=>trivial) ?_)|fail)
  (apply bF;kernel_rfl)
  all_goals refine aa 0 ?_
  all_goals refine aa 1 ?_
  all_goals refine aa 3 ?_
  all_goals refine aa 4 ?_
  all_goals refine aa 6 ?_
  all_goals refine aa 7 ?_
  all_goals (refine ae 2 ?_;(refine am (hc:=c1) (hX:=fun _ _=>trivial) ?_);apply ab;refine ag ?_)
  all_goals (refine ae 5 ?_;(refine am (hc:=c2) (hX:=fun _ _=>trivial) ?_);apply ab;refine ag ?_)
  all_goals refine aa 8 ?_
  all_goals refine aa 9 ?_
  all_goals (refine ar ?_)
  all_goals
   repeat' (first|apply aq|fail)
   exact ak (ap rfl rfl) rfl
end Rf4
end Go.Proofs.YtcdilibijnboeaaGreatDoor
namespace Go.Proofs.YtcdilibijnboeaaGreatDoor
open Go Go.Proofs Sy
theorem qs (a:ActD):sameZ a=actZ a:=by
 rw [sameZ,actZ]
 simp only [ActD.zero,Bool.and_true]
 cases decide ((a.to.n:Int)=0)<;>cases decide ((a.wraps.n:Int)=0)<;>(simp [Bool.and_comm,Bool.and_left_comm,Bool.and_assoc];try rfl)
set_option maxRecDepth 20000 in
set_option maxHeartbeats 8000000 in
theorem qB (d:DecD):Pu Tryz.prog 167 #[d.v,DecD.zero.v] (fun _=>True) (.bool (decZ d)):=by
 refine ax (args:=[_,_]) _ Tryz.func167 rfl Tryz.ntmps167 rfl fun av bor w0=>?_
 repeat' (first|apply ab|apply cw_seq|apply cw_reg|refine ac ?_|refine az ?_|refine ay ?_|refine dz ?_|refine aZ ?_|refine aL fun _=>?_|apply cw_skip|apply cw_block|apply aq|(refine aC (ht:=?_) (hf:=?_);all_goals (intro hx_;skip)))
 · refine ak (ap rfl rfl) ?_
   have h0:DecD.zero.to.n=0:=rfl
   rw [h0] at hx_
   simp_all [decZ]
 rename_i b1 b2
 have n1:d.to.n=0:=by
  have h0:DecD.zero.to.n=0:=rfl
  rw [h0] at hx_
  simpa using hx_
 refine aS (ι:=Unit) (fun _=>⟨[(2,.pointer (some ⟨b1,0,none⟩)),(3,.pointer (some ⟨b2,0,none⟩)),(5,.int .i64 0)],[cel b2 55 DecD.zero.cells,cel b1 55 d.cells],fun _=>True⟩) (fun _=>0) () (aw ⟨rfl,rfl,rfl,trivial⟩ (aD _) fun _ h=>h) fun _=>?_
 repeat' (first|apply ab|apply cw_seq|apply cw_reg|refine ai ?_|refine ac ?_|refine az ?_|refine ay ?_|refine aB ?_|refine aE ?_|refine bN ?_|refine bc ?_|refine cD ?_|refine aZ ?_|refine aH ?_|apply cw_skip|apply cw_block|apply aq|apply aP|(refine iJ (a:=d.e) (b:=d.s) (c:=0) (e:=0) ?_)|(refine aV ?_)|((fail_if_success (refine aX ?_));refine aQ (ht:=?_) (hf:=?_);all_goals (intro hx_;first|have:=aO hx_|have:=aR hx_|skip))|(refine aC (ht:=?_) (hf:=?_);all_goals (intro hx_;first|have:=aO hx_|have:=aR hx_)))
 · exact absurd this (by rw [n1];decide)
 all_goals (
  refine ak (ap rfl rfl) ?_
  have q1:decide ((d.to.n:Int)=0)=true:=by rw [n1];rfl
  rw [decZ,q1]
  clear q1 n1
  first
   | rfl
   | (simp_all only [Bool.true_and,Bool.false_and,Bool.and_false,decide_true,decide_false,Bool.and_true];done)
   | (simp_all;done)
   | skip)
 all_goals simp_all [DecD.zero]
theorem uV:actZ ActD.zero=true:=by decide +kernel
theorem nQ:claimEq ClaimD.zero ClaimD.zero=true:=by decide +kernel
theorem lZ:ballotEq BallotD.zero BallotD.zero=true:=by decide +kernel
theorem uJ:decZ DecD.zero=true:=by decide +kernel
set_option maxRecDepth 20000 in
set_option maxHeartbeats 16000000 in
theorem ij (i:ItemD) (hs:i.Str):Pu Tryz.prog 104 #[i.v] (fun w=>i.at_ w) (.bool (rightIt i)):=by
 refine ax (args:=[_]) _ Tryz.func104 rfl Tryz.ntmps104 rfl fun av bor w0=>?_
 have c1:=qx i.act
 rw [qs] at c1
 have c2:=jo i.act hs.act
 have c3:=qB i.dec
 have c4:=lU i.claim hs.claim
 have c5:=pg i.ballot hs.ballot
 have c6:=lT i.dec hs.dec
 by_cases h0:i.kind=0
 · have e:rightIt i=(rightB i.act&&(claimEq i.claim ClaimD.zero&&(ballotEq i.ballot BallotD.zero&&decZ i.dec))):=by simp [rightIt,rightK2,restI,sameIZ,h0,uV]
   rw [e]
   repeat' (first|refine bp (hab:=by omega) ?_|apply ab|apply cw_seq|apply cw_reg|refine ai ?_|refine ac ?_|refine az ?_|refine ay ?_|refine aB ?_|refine aE ?_|refine aH ?_|refine aL fun _=>?_|refine cw_cond_t ?_|apply cw_block|apply aq|(refine am (hc:=c1) (hX:=fun _ _=>trivial) ?_)|(refine am (hc:=c2) (hX:=fun w h=>h.1) ?_)|(refine am (hc:=c3) (hX:=fun _ _=>trivial) ?_)|(refine eC (a:=i.claim) (b:=ClaimD.zero) ?_)|(refine ea (a:=i.ballot) (b:=BallotD.zero) ?_)|(refine bq (cs:=ActD.zero.cells) (hf:=by rfl) ?_)|(refine bq (cs:=ClaimD.zero.cells) (hf:=by rfl) ?_)|(refine bq (cs:=BallotD.zero.cells) (hf:=by rfl) ?_)|(refine bq (cs:=DecD.zero.cells) (hf:=by rfl) ?_)|(refine aV (vs:=i.act.cells) (hv:=rfl) ?_)|(refine aV (vs:=i.claim.cells) (hv:=rfl) ?_)|(refine aV (vs:=i.ballot.cells) (hv:=rfl) ?_)|(refine aV (vs:=i.dec.cells) (hv:=rfl) ?_)|((fail_if_success (refine aX ?_));refine aQ (ht:=?_) (hf:=?_);all_goals (intro hx_;skip))|fail)
   all_goals first
    | exact ak (ap rfl rfl) rfl
    | (refine ak (ap rfl rfl) ?_;simp_all;done)
 by_cases h1:i.kind=1
 · have e:rightIt i=(claimR i.claim&&(actZ i.act&&(ballotEq i.ballot BallotD.zero&&decZ i.dec))):=by simp [rightIt,rightK2,restI,sameIZ,h1,nQ]
   rw [e]
   repeat' (first|refine bp (hab:=by omega) ?_|refine bt (hab:=by omega) ?_|apply ab|apply cw_seq|apply cw_reg|refine ai ?_|refine ac ?_|refine az ?_|refine ay ?_|refine aB ?_|refine aE ?_|refine aH ?_|refine aL fun _=>?_|refine cw_cond_t ?_|refine cw_cond_f ?_|apply cw_block|apply aq|(refine am (hc:=c1) (hX:=fun _ _=>trivial) ?_)|(refine am (hc:=c3) (hX:=fun _ _=>trivial) ?_)|(refine am (hc:=c4) (hX:=fun _ _=>trivial) ?_)|(refine eC (a:=i.claim) (b:=ClaimD.zero) ?_)|(refine ea (a:=i.ballot) (b:=BallotD.zero) ?_)|(refine bq (cs:=ActD.zero.cells) (hf:=by rfl) ?_)|(refine bq (cs:=ClaimD.zero.cells) (hf:=by rfl) ?_)|(refine bq (cs:=BallotD.zero.cells) (hf:=by rfl) ?_)|(refine bq (cs:=DecD.zero.cells) (hf:=by rfl) ?_)|(refine aV (vs:=i.act.cells) (hv:=rfl) ?_)|(refine aV (vs:=i.claim.cells) (hv:=rfl) ?_)|(refine aV (vs:=i.ballot.cells) (hv:=rfl) ?_)|(refine aV (vs:=i.dec.cells) (hv:=rfl) ?_)|((fail_if_success (refine aX ?_));refine aQ (ht:=?_) (hf:=?_);all_goals (intro hx_;skip))|fail)
   all_goals first
    | exact ak (ap rfl rfl) rfl
    | (refine ak (ap rfl rfl) ?_;simp_all;done)
 by_cases h2:i.kind=2
 · have e:rightIt i=(ballotR i.ballot&&(actZ i.act&&(claimEq i.claim ClaimD.zero&&decZ i.dec))):=by simp [rightIt,rightK2,restI,sameIZ,h2,lZ]
   rw [e]
   repeat' (first|refine bp (hab:=by omega) ?_|refine bt (hab:=by omega) ?_|apply ab|apply cw_seq|apply cw_reg|refine ai ?_|refine ac ?_|refine az ?_|refine ay ?_|refine aB ?_|refine aE ?_|refine aH ?_|refine aL fun _=>?_|refine cw_cond_t ?_|refine cw_cond_f ?_|apply cw_block|apply aq|(refine am (hc:=c1) (hX:=fun _ _=>trivial) ?_)|(refine am (hc:=c3) (hX:=fun _ _=>trivial) ?_)|(refine am (hc:=c5) (hX:=fun _ _=>trivial) ?_)|(refine eC (a:=i.claim) (b:=ClaimD.zero) ?_)|(refine ea (a:=i.ballot) (b:=BallotD.zero) ?_)|(refine bq (cs:=ActD.zero.cells) (hf:=by rfl) ?_)|(refine bq (cs:=ClaimD.zero.cells) (hf:=by rfl) ?_)|(refine bq (cs:=BallotD.zero.cells) (hf:=by rfl) ?_)|(refine bq (cs:=DecD.zero.cells) (hf:=by rfl) ?_)|(refine aV (vs:=i.act.cells) (hv:=rfl) ?_)|(refine aV (vs:=i.claim.cells) (hv:=rfl) ?_)|(refine aV (vs:=i.ballot.cells) (hv:=rfl) ?_)|(refine aV (vs:=i.dec.cells) (hv:=rfl) ?_)|((fail_if_success (refine aX ?_));refine aQ (ht:=?_) (hf:=?_);all_goals (intro hx_;skip))|fail)
   all_goals first
    | exact ak (ap rfl rfl) rfl
    | (refine ak (ap rfl rfl) ?_;simp_all;done)
 by_cases h3:i.kind=3
 · have e:rightIt i=(decR i.dec&&(actZ i.act&&(claimEq i.claim ClaimD.zero&&ballotEq i.ballot BallotD.zero))):=by simp [rightIt,rightK2,restI,sameIZ,h3,uJ]
   rw [e]
   repeat' (first|refine bp (hab:=by omega) ?_|refine bt (hab:=by omega) ?_|apply ab|apply cw_seq|apply cw_reg|refine ai ?_|refine ac ?_|refine az ?_|refine ay ?_|refine aB ?_|refine aE ?_|refine aH ?_|refine aL fun _=>?_|refine cw_cond_t ?_|refine cw_cond_f ?_|apply cw_block|apply aq|(refine am (hc:=c1) (hX:=fun _ _=>trivial) ?_)|(refine am (hc:=c3) (hX:=fun _ _=>trivial) ?_)|(refine am (hc:=c6) (hX:=fun w h=>h.2) ?_)|(refine eC (a:=i.claim) (b:=ClaimD.zero) ?_)|(refine ea (a:=i.ballot) (b:=BallotD.zero) ?_)|(refine bq (cs:=ActD.zero.cells) (hf:=by rfl) ?_)|(refine bq (cs:=ClaimD.zero.cells) (hf:=by rfl) ?_)|(refine bq (cs:=BallotD.zero.cells) (hf:=by rfl) ?_)|(refine bq (cs:=DecD.zero.cells) (hf:=by rfl) ?_)|(refine aV (vs:=i.act.cells) (hv:=rfl) ?_)|(refine aV (vs:=i.claim.cells) (hv:=rfl) ?_)|(refine aV (vs:=i.ballot.cells) (hv:=rfl) ?_)|(refine aV (vs:=i.dec.cells) (hv:=rfl) ?_)|((fail_if_success (refine aX ?_));refine aQ (ht:=?_) (hf:=?_);all_goals (intro hx_;skip))|fail)
   all_goals first
    | exact ak (ap rfl rfl) rfl
    | (refine ak (ap rfl rfl) ?_;simp_all;done)
 have e:rightIt i=false:=by simp [rightIt,rightK2,h0,h1,h2,h3]
 rw [e]
 repeat' (first|refine bt (hab:=by omega) ?_|apply ab|apply cw_seq|apply cw_reg|refine ac ?_|refine az ?_|refine ay ?_|refine aL fun _=>?_|refine cw_cond_f ?_|apply cw_skip|apply cw_block|apply aq|(refine am (hc:=c1) (hX:=fun _ _=>trivial) ?_)|(refine am (hc:=c3) (hX:=fun _ _=>trivial) ?_)|(refine eC (a:=i.claim) (b:=ClaimD.zero) ?_)|(refine ea (a:=i.ballot) (b:=BallotD.zero) ?_)|(refine bq (cs:=ActD.zero.cells) (hf:=by rfl) ?_)|(refine bq (cs:=ClaimD.zero.cells) (hf:=by rfl) ?_)|(refine bq (cs:=BallotD.zero.cells) (hf:=by rfl) ?_)|(refine bq (cs:=DecD.zero.cells) (hf:=by rfl) ?_)|(refine aV (vs:=i.act.cells) (hv:=rfl) ?_)|(refine aV (vs:=i.claim.cells) (hv:=rfl) ?_)|(refine aV (vs:=i.ballot.cells) (hv:=rfl) ?_)|(refine aV (vs:=i.dec.cells) (hv:=rfl) ?_)|fail)
 all_goals first
  | exact ak (ap rfl rfl) rfl
  | (refine ak (ap rfl rfl) ?_;simp_all;done)
set_option maxRecDepth 20000 in
set_option maxHeartbeats 16000000 in
theorem nw (i:ItemD) (hs:i.Str) (hdn:i.dec.to.n=i.dec.toL.length):Pu Tryz.prog 108 #[i.v] (fun w=>i.at_ w) (.string (bytesIt i)):=by
 have hr:=hs.rng
 have c1:=ij i hs
 have hsz:=@gu i hr hdn
 have hnk:=aN i.kind
 cases hB:rightIt i with
 | false =>
  rw [hB] at c1
  rw [bytesIt,hB]
  refine ax (args:=[_]) _ Tryz.func108 rfl Tryz.ntmps108 rfl fun av bor w0=>?_
  repeat' (first|apply ab|apply cw_seq|apply cw_reg|refine ai ?_|refine ac ?_|refine aG ?_|refine bM ?_|refine aL fun _=>?_|refine cw_cond_t ?_|apply aq|(refine am (hc:=c1) (hX:=fun w h=>h) ?_)|fail)
  exact ak (ap rfl rfl) rfl
 | true =>
 rw [hB] at c1
 have hsz:=hsz hB
 rw [bytesIt,hB,cond_true]
 refine ax (args:=[_]) _ Tryz.func108 rfl Tryz.ntmps108 rfl fun av bor w0=>?_
 rcases dU hB with ⟨hk,hR⟩|⟨hk,hR⟩|⟨hk,hR⟩|⟨hk,hR⟩
 · have c2:=kZ i.act hs.act (dW hr) ⟨hr.ints.2.2.2.2.2.2.2.1,hr.ints.2.2.2.2.2.2.2.2⟩
   have c3:=bw i.kind ad
   have hb:bodyIt i=actBytes i.act:=by rw [bodyIt,hk];rfl
   rw [hb] at hsz ⊢
   repeat' (first|refine bp (hab:=by omega) ?_|apply ab|apply cw_seq|apply cw_reg|refine ai ?_|refine ac ?_|refine az ?_|refine ay ?_|refine aG ?_|refine bM ?_|refine aL fun _=>?_|refine cw_cond_t ?_|refine cw_cond_f ?_|apply cw_skip|apply cw_block|(refine am (hc:=c1) (hX:=fun w h=>h) ?_)|(refine am (hc:=c3) (hX:=fun _ _=>trivial) ?_)|(refine am (hc:=c2) (hX:=fun w h=>h.1) ?_)|(refine aV (vs:=i.act.cells) (hv:=rfl) ?_)|fail)
   refine al (bA rfl rfl ad) rfl aA rfl ?_
   repeat' (first|apply ab|refine ac ?_|apply aq|fail)
   all_goals exact ak (ap rfl rfl) rfl
 · obtain ⟨hl,hm⟩:=gD hR
   have c3:=bw i.kind ad
   have e1:=fg hm
   have e2:=dB i.claim.e i.claim.s
   have hb:bodyIt i=coreCl i.claim++numsV [i.claim.e,i.claim.s]:=by rw [bodyIt,hk];rfl
   rw [hb]
   repeat' (first|refine bp (hab:=by omega) ?_|refine bt (hab:=by omega) ?_|apply ab|apply cw_seq|apply cw_reg|refine ai ?_|refine ac ?_|refine az ?_|refine ay ?_|refine aG ?_|refine bM ?_|refine aL fun _=>?_|refine cw_cond_t ?_|refine cw_cond_f ?_|apply cw_skip|apply cw_block|(refine am (hc:=c1) (hX:=fun w h=>h) ?_)|(refine am (hc:=c3) (hX:=fun _ _=>trivial) ?_)|fail)
   (apply bF;kernel_rfl)
   all_goals refine aa 0 ?_
   all_goals refine aa 1 ?_
   all_goals (refine aa 2 (hy:=by (apply cC (vs:=i.claim.cells);rfl;exact .head _;rfl;rfl)) ?_)
   all_goals refine aa 5 ?_
   all_goals refine aa 6 ?_
   all_goals (refine aa 7 (hy:=by (apply cC (vs:=[.int .i64 i.claim.e,.int .i64 i.claim.s]);rfl;exact .head _;rfl;rfl)) ?_)
   all_goals (refine ae 3 ?_;(refine am (hc:=nu _ hl hm) ?_);apply ab;refine ag ?_)
   all_goals (refine aa 4 (hy:=by (apply bA;rfl;rfl;(try simp only [ByteArray.size_append]);omega)) ?_)
   all_goals (refine ae 8 ?_;(refine am (hc:=gM _ _ hl.e hl.s) ?_);apply ab;refine ag ?_)
   all_goals (refine aa 9 (hy:=by (apply bA;rfl;rfl;(try simp only [ByteArray.size_append]);omega)) ?_)
   all_goals refine aa 10 ?_
   all_goals (refine ar ?_)
   all_goals
    repeat' (first|apply aq|fail)
    refine ak (ap rfl rfl) ?_
    simp only [ByteArray.append_assoc]
 · obtain ⟨hl,hm⟩:=fY hR
   have c3:=bw i.kind ad
   have e1:=eI hm
   have e2:=dB i.ballot.e i.ballot.s
   have hb:bodyIt i=coreBa i.ballot++numsV [i.ballot.e,i.ballot.s]:=by rw [bodyIt,hk];rfl
   rw [hb]
   repeat' (first|refine bp (hab:=by omega) ?_|refine bt (hab:=by omega) ?_|apply ab|apply cw_seq|apply cw_reg|refine ai ?_|refine ac ?_|refine az ?_|refine ay ?_|refine aG ?_|refine bM ?_|refine aL fun _=>?_|refine cw_cond_t ?_|refine cw_cond_f ?_|apply cw_skip|apply cw_block|(refine am (hc:=c1) (hX:=fun w h=>h) ?_)|(refine am (hc:=c3) (hX:=fun _ _=>trivial) ?_)|fail)
   (apply bF;kernel_rfl)
   all_goals refine aa 0 ?_
   all_goals refine aa 1 ?_
   all_goals (refine aa 2 (hy:=by (apply cC (vs:=i.ballot.cells);rfl;exact .head _;rfl;rfl)) ?_)
   all_goals refine aa 5 ?_
   all_goals refine aa 6 ?_
   all_goals (refine aa 7 (hy:=by (apply cC (vs:=[.int .i64 i.ballot.e,.int .i64 i.ballot.s]);rfl;exact .head _;rfl;rfl)) ?_)
   all_goals (refine ae 3 ?_;(refine am (hc:=io _ hl hm) ?_);apply ab;refine ag ?_)
   all_goals (refine aa 4 (hy:=by (apply bA;rfl;rfl;(try simp only [ByteArray.size_append]);omega)) ?_)
   all_goals (refine ae 8 ?_;(refine am (hc:=gM _ _ hl.e hl.s) ?_);apply ab;refine ag ?_)
   all_goals (refine aa 9 (hy:=by (apply bA;rfl;rfl;(try simp only [ByteArray.size_append]);omega)) ?_)
   all_goals refine aa 10 ?_
   all_goals (refine ar ?_)
   all_goals
    repeat' (first|apply aq|fail)
    refine ak (ap rfl rfl) ?_
    simp only [ByteArray.append_assoc]
 · obtain ⟨hl,hm⟩:=jQ hdn hR
   have c3:=bw i.kind ad
   have e1:=eH hm
   have e2:=dB i.dec.e i.dec.s
   have c4:=im i.dec hl hm
   have hb:bodyIt i=coreDe i.dec++numsV [i.dec.e,i.dec.s]:=by rw [bodyIt,hk];rfl
   rw [hb]
   repeat' (first|refine bt (hab:=by omega) ?_|apply ab|apply cw_seq|apply cw_reg|refine ai ?_|refine ac ?_|refine az ?_|refine ay ?_|refine aG ?_|refine bM ?_|refine aL fun _=>?_|refine cw_cond_f ?_|apply cw_skip|apply cw_block|(refine am (hc:=c1) (hX:=fun w h=>h) ?_)|(refine am (hc:=c3) (hX:=fun _ _=>trivial) ?_)|fail)
   (apply bF;kernel_rfl)
   all_goals refine aa 0 ?_
   all_goals refine aa 1 ?_
   all_goals (refine aa 2 (hy:=by (apply cC (vs:=i.dec.cells);rfl;exact .head _;rfl;rfl)) ?_)
   all_goals refine aa 5 ?_
   all_goals refine aa 6 ?_
   all_goals (refine aa 7 (hy:=by (apply cC (vs:=[.int .i64 i.dec.e,.int .i64 i.dec.s]);rfl;exact .head _;rfl;rfl)) ?_)
   all_goals (refine ae 3 ?_;(refine am (hc:=c4) (hX:=fun w h=>h.2) ?_);apply ab;refine ag ?_)
   all_goals (refine aa 4 (hy:=by (apply bA;rfl;rfl;(try simp only [ByteArray.size_append]);omega)) ?_)
   all_goals (refine ae 8 ?_;(refine am (hc:=gM _ _ hl.e hl.s) ?_);apply ab;refine ag ?_)
   all_goals (refine aa 9 (hy:=by (apply bA;rfl;rfl;(try simp only [ByteArray.size_append]);omega)) ?_)
   all_goals refine aa 10 ?_
   all_goals (refine ar ?_)
   all_goals
    repeat' (first|apply aq|fail)
    refine ak (ap rfl rfl) ?_
    simp only [ByteArray.append_assoc]
theorem gF (i:ItemD) (hs:i.Str) (hdn:i.dec.to.n=i.dec.toL.length):Pu Tryz.prog 65 #[i.v] (fun w=>i.at_ w) (.string (digIt i)):=by
 have c1:=nw i hs hdn
 have hsz:=@iA i hs.rng hdn
 have c2:=mr (bytesIt i) ad
 rw [digIt]
 cases hB:seqB (bytesIt i) ⟨#[]⟩ with
 | true =>
  refine ax (args:=[_]) _ Tryz.func65 rfl Tryz.ntmps65 rfl fun av bor w0=>?_
  repeat' (first|apply ab|apply cw_seq|apply cw_reg|refine ai ?_|refine ac ?_|refine aG ?_|refine cD ?_|refine aL fun _=>?_|refine cw_cond_t ?_|apply aq|(refine am (hc:=c1) (hX:=fun w h=>h) ?_)|fail)
  all_goals first
   | (rw [hB] at hx_;exact absurd hx_ (by decide))
   | (refine ak (ap rfl rfl) ?_;simp only [cond_true,cond_false];done)
 | false =>
  refine ax (args:=[_]) _ Tryz.func65 rfl Tryz.ntmps65 rfl fun av bor w0=>?_
  repeat' (first|apply ab|apply cw_seq|apply cw_reg|refine ai ?_|refine ac ?_|refine aG ?_|refine cD ?_|refine aL fun _=>?_|refine cw_cond_f ?_|apply cw_skip|apply aq|(refine am (hc:=c1) (hX:=fun w h=>h) ?_)|(refine am (hc:=c2) (hX:=fun _ _=>trivial) ?_)|fail)
  all_goals first
   | (rw [hB] at hx_;exact absurd hx_ (by decide))
   | (refine ak (ap rfl rfl) ?_;simp only [cond_true,cond_false];done)
end Go.Proofs.YtcdilibijnboeaaGreatDoor
