/- Joined by program out of: Zt Ne Zu Tk Tm Tn Ya Yb Yd Yc Yu Yw Yg Jg Oa Ob Oc Od Zo. -/
import Derived.Test.YtcdilibijnboeaaGreatDoorU11
set_option linter.unusedVariables false
set_option linter.unusedSimpArgs false
namespace Go.Proofs.YtcdilibijnboeaaGreatDoor
open Go Go.Proofs Sy
def cutK (kl:List KeyD) (q:Nat):List KeyD:=kl.filter fun k=>decide (k.from_≤(q:Int))
def movN (l:List ActD):Nat:=(l.filter fun a=>decide (a.kind=18)).length
def cutG (kl:List KeyD) (l:List ActD) (q:Nat):Int:=if ((cutK kl q).length:Int)-1-(movN (l.take q):Nat)<0 then 0 else ((cutK kl q).length:Int)-1-(movN (l.take q):Nat)
theorem yq (kl:List KeyD) (q:Nat):(cutK kl q).length≤kl.length:=List.length_filter_le _ _
theorem Ab (l:List ActD):movN l≤l.length:=List.length_filter_le _ _
def cutD (c:ChainD) (kl:List KeyD) (q:Nat) (p:ByteArray) (sk:SlV):ChainD:=⟨c.id,⟨c.acts.p,q,q⟩,sk,p,cutG kl c.actsL q,false,c.actsL.take q⟩
structure CutJ (kl:List KeyD) (q:Nat) where
 k:Nat
 hk:k≤kl.length
 n:Nat
 hn:n=(cutK (kl.take k) q).length
 A:Option Addr
 c:Nat
 xs:List Value
 hxs:xs=((cutK (kl.take k) q).map KeyD.cells).flatten
structure GenJ (l:List ActD) (q n:Nat) where
 k:Nat
 hk:k≤q
 g:Int
 hg:g=(n:Int)-1-(movN (l.take k):Nat)
set_option maxHeartbeats 4000000 in
theorem AS (c:ChainD) (kl:List KeyD) (hcl:c.actsL.length≤1000000) (hkl1:kl.length≤1000000) (q:Nat) (hq0:0<q) (x:ActD) (hx:c.actsL[q]?=some x) :
  Mk Tryz.prog 10 #[c.v,.int .i64 (q:Nat)] (fun w=>c.at_ w∧Keyz w c.keys kl)
   (fun u X'=>∃ sk:SlV,u=(cutD c kl q x.prev sk).v∧∀ w,X' w→(cutD c kl q x.prev sk).at_ w∧Keyz w sk (cutK kl q)):=by
 refine cA (args:=[_,_]) _ Tryz.func10 rfl Tryz.ntmps10 rfl fun av bor w0=>?_
 refine bI (p:=(c.acts.n=c.actsL.length∧c.acts.n≤maxLen∧(0<c.actsL.length→c.acts.p.isSome=true)∧c.acts.n≤c.acts.c)∧c.keys.n=kl.length∧c.keys.n≤maxLen∧(0<kl.length→c.keys.p.isSome=true)) (fun w h=>⟨⟨h.1.len_,h.1.max_,h.1.some_,h.1.cap_⟩,Keyz.know w h.2⟩) fun ⟨⟨hl,hm,hp,hcap⟩,hkl,hkm,hkp⟩=>?_
 simp only [maxLen] at hm hkm
 have hqlt:q<c.actsL.length:=(List.getElem?_eq_some_iff.1 hx).1
 have hp':=hp ae
 have hcx:∀ w,c.at_ w∧Keyz w c.keys kl→CellAt w c.acts.p (q*20+2) (.string x.prev):=fun w h=>(Acts.get h.1 hx).2.2 2 _ rfl
 repeat' (first|refine am (bK false rfl rfl (Zn ae)) rfl aB rfl ?_|refine am (fb false rfl rfl (Zn ae)) rfl aB rfl ?_|apply ab|apply Qu|apply Qv|refine aj ?_|refine aA ?_|refine az ?_|refine aY ?_|refine aM fun _=>?_|refine aN fun _=>?_|refine Qz ?_|apply Qx|fail)
 rename_i b2 b4
 (refine aU [cel b4 31 ChainD.zero.cells,cel b2 31 c.v.cells.toList] (fun w=>c.at_ w∧Keyz w c.keys kl) ak ?_)
 all_goals refine ap 0 ?_<;>refine ap 1 ?_<;>refine ap 2 ?_<;>refine ap 3 ?_<;>refine ap 4 ?_<;>refine ap 5 ?_<;>(refine ap 6 (hy:=by (apply Bo;rfl;rfl;rfl;omega;omega;omega)) ?_)<;>refine ap 7 ?_<;>refine ap 8 ?_<;>refine ap 9 ?_<;>(refine ap 10 (hy:=by (apply aL (q:=q*20);rfl;rfl;omega;omega;assumption;omega)) ?_)<;>(refine ap 11 (hy:=by (apply cV;rfl;assumption;rfl)) ?_)<;>(refine ap 12 (hy:=by (apply cW (q:=q*20+2) (u:=.string x.prev);rfl;exact hcx)) ?_)<;>(refine ap 13 (hy:=by (apply cd (cs:=[.string c.id,.slice c.acts.p q q,.slice none 0 0,.string x.prev,.int .i64 0,.bool false]);rfl;rfl)) ?_)<;>(refine ag 14 ?_;(refine aM fun _=>?_);apply ab;refine dT ?_)<;>(refine ag 15 ?_;(refine aJ ?_);apply ab;refine dT ?_)<;>(refine ax ?_)
 rename_i b5
 have hn20:(q:Int).toNat=q:=rfl
 refine cU 35 3 ?_
 repeat' (first|apply ab|apply Qu|apply Qv|refine aj ?_|refine aA ?_|refine az ?_|refine aY ?_|apply Qw|fail)
 refine aT (ι:=CutJ kl q) (fun i=>⟨[(1,.int .i64 (q:Nat)),(4,.pointer (some ⟨b4,0,none⟩)),(5,.pointer (some ⟨b5,0,none⟩)),(36,c.keys.v),(37,.int .i64 c.keys.n),(38,.int .i64 i.k)],
  [orow 35 3 (.slice i.A i.n i.c) i.n i.xs,cel b5 31 [.string c.id,.slice c.acts.p q q,.slice i.A i.n i.c,.string x.prev,.int .i64 0,.bool false],cel b4 31 ChainD.zero.cells],fun w=>c.at_ w∧Keyz w c.keys kl⟩) (fun i=>kl.length-i.k) ⟨0,Nat.zero_le _,0,rfl,none,0,[],rfl⟩
  (aw ⟨rfl,rfl,rfl,rfl,rfl,rfl,trivial⟩ (List.Sublist.cons_cons _ (List.Sublist.cons_cons _ (List.Sublist.cons_cons _ (ZR _)))) fun _ h=>h) fun i=>?_
 obtain ⟨k,hk,n,hnE,A,cp,xs,hxs⟩:=i
 simp only
 have hnl:n≤k:=by
  have h1:=yq (kl.take k) q
  rw [List.length_take] at h1
  omega
 repeat' (first|apply ab|apply Qu|apply Qv|refine aj ?_|refine aA ?_|refine az ?_|refine bj ?_|refine aY ?_|refine df (h:=?_)|refine bc ?_|apply Qx|apply Qw|apply aQ|(refine aG (ht:=?_) (hf:=?_);all_goals (intro hx_;first|have:=aP hx_|have:=aS hx_)))
 · have hlt:k<kl.length:=by omega
   have hkp':=hkp ae
   obtain ⟨y,hy⟩:∃ y,kl[k]?=some y:=⟨_,Zm hlt⟩
   have htk:cutK (kl.take (k+1)) q=cutK (kl.take k) q++bif decide (y.from_≤(q:Int)) then [y] else []:=by
    rw [cutK,cutK,List.take_add_one,hy,List.filter_append,Option.toList_some]
    congr 1
   repeat' (first|refine bF (size:=3) (vs:=[KeyD.v y]) (css:=y.cells) (hsz:=by rfl) (hcs:=by rfl) fun _=>?_|apply ab|apply Qu|apply Qv|refine aj ?_|refine aA ?_|refine az ?_|refine aH ?_|refine cB ?_|refine be (h:=?_)|refine aM fun _=>?_|refine bc ?_|refine aJ ?_|apply Qx|(refine bu (q:=k*3) ?_)|(refine co (cs:=y.cells) (hF:=fun w h=>Keyz.get h.2 hy) ?_)|(refine aV (size:=3) (news:=y.cells) (q:=1) rfl rfl rfl rfl (fun _=>At.there _ (At.there _ (At.here _))) (fun w G=>bo G aI rfl rfl 1) ae (by simp only [maxLen];omega) rfl ?_ rfl ?_;(with_reducible rfl);intro A3 c3)|(refine aG (ht:=?_) (hf:=?_);all_goals (intro hx_;first|have:=aP hx_|have:=aS hx_)))
   · have e:cutK (kl.take (k+1)) q=cutK (kl.take k) q++[y]:=by rw [htk,ZA (by assumption)];rfl
     exact ⟨(⟨k+1,hlt,n+1,by rw [e,ZX,←hnE];rfl,A3,c3,xs++y.cells,by rw [e,hxs];simp⟩:CutJ kl q),(by show kl.length-(k+1)<kl.length-k;omega),aw ⟨rfl,rfl,rfl,rfl,rfl,rfl,trivial⟩ (List.Sublist.cons _ (List.Sublist.cons _ (aE _))) fun _ h=>h⟩
   · have e:cutK (kl.take (k+1)) q=cutK (kl.take k) q:=by rw [htk,Zn (by assumption)];exact Z9 _
     exact ⟨(⟨k+1,hlt,n,by rw [e,←hnE],A,cp,xs,by rw [e,hxs]⟩:CutJ kl q),(by show kl.length-(k+1)<kl.length-k;omega),aw ⟨rfl,rfl,rfl,rfl,rfl,rfl,trivial⟩ (List.Sublist.cons _ (aE _)) fun _ h=>h⟩
 · have hkE:k=kl.length:=by omega
   rw [hkE,List.take_length] at hnE hxs
   refine aT (ι:=GenJ c.actsL q n) (fun j=>⟨[(4,.pointer (some ⟨b4,0,none⟩)),(5,.pointer (some ⟨b5,0,none⟩)),(59,.slice c.acts.p q q),(60,.int .i64 (q:Nat)),(61,.int .i64 j.k)],
    [orow 35 3 (.slice A n cp) n xs,cel b5 31 [.string c.id,.slice c.acts.p q q,.slice A n cp,.string x.prev,.int .i64 j.g,.bool false],cel b4 31 ChainD.zero.cells],fun w=>c.at_ w∧Keyz w c.keys kl⟩) (fun j=>q-j.k) ⟨0,Nat.zero_le _,(n:Int)-1,by simp [movN]⟩
    (aw ⟨rfl,rfl,rfl,rfl,rfl,trivial⟩ (aE _) fun _ h=>h) fun j=>?_
   obtain ⟨k2,hk2,g,hg⟩:=j
   simp only
   have hmv:movN (c.actsL.take k2)≤k2:=by
    have:=Ab (c.actsL.take k2)
    rw [List.length_take] at this
    omega
   repeat' (first|apply ab|apply Qu|apply Qv|refine aA ?_|refine az ?_|refine aH ?_|refine bj ?_|refine bc ?_|refine aJ ?_|apply Qx|apply Qw|apply ar|apply aQ|refine BC ?_|(refine aG (ht:=?_) (hf:=?_);all_goals (intro hx_;first|have:=aP hx_|have:=aS hx_)))
   · have hjl:k2<q:=by omega
     obtain ⟨y,hy⟩:∃ y,c.actsL[k2]?=some y:=⟨_,Zm ae⟩
     have hst:movN (c.actsL.take (k2+1))=movN (c.actsL.take k2)+bif decide (y.kind=18) then 1 else 0:=by
      rw [movN,movN,List.take_add_one,hy,List.filter_append,Option.toList_some,ZX]
      congr 1
      cases hb:decide (y.kind=18) with
      | true=>simp [hb]
      | false=>simp [hb]
     repeat' (first|apply ab|apply Qu|apply Qv|refine aj ?_|refine aA ?_|refine az ?_|refine bR ?_|refine be (h:=?_)|refine df (h:=?_)|refine aM fun _=>?_|refine bc ?_|refine aJ ?_|apply Qx|(refine bu (q:=k2*20) ?_)|(refine co (cs:=y.cells) (hF:=fun w h=>Acts.get h.1 hy) ?_)|(refine aG (ht:=?_) (hf:=?_);all_goals (intro hx_;first|have:=aP hx_|have:=aS hx_)))
     · have e:movN (c.actsL.take (k2+1))=movN (c.actsL.take k2)+1:=by rw [hst,ZA (by assumption)];rfl
       exact ⟨(⟨k2+1,hjl,g-1,by rw [e];omega⟩:GenJ c.actsL q n),(by show q-(k2+1)<q-k2;omega),aw ⟨rfl,rfl,rfl,rfl,rfl,trivial⟩ (List.Sublist.cons _ (aE _)) fun _ h=>h⟩
     · have e:movN (c.actsL.take (k2+1))=movN (c.actsL.take k2):=by rw [hst,Zn (by assumption)];rfl
       exact ⟨(⟨k2+1,hjl,g,by rw [e];exact hg⟩:GenJ c.actsL q n),(by show q-(k2+1)<q-k2;omega),aw ⟨rfl,rfl,rfl,rfl,rfl,trivial⟩ (List.Sublist.cons _ (aE _)) fun _ h=>h⟩
   · have hk2E:k2=q:=by omega
     subst hk2E
     have hgE:(if g<0 then 0 else g)=cutG kl c.actsL k2:=by rw [cutG,←hnE,←hg]
     subst hxs
     refine al (dm rfl rfl bX (by rfl)) ⟨⟨A,n,cp⟩,by rw [cutD,←hgE];rfl,fun w h=>?_⟩
     have h1:=RowsD.take (n:=k2) h.1.1.1 (by simp;omega)
     rw [←List.map_take] at h1
     refine ⟨⟨⟨h1.len,Qp _,by simp only [maxLen];show k2≤_;omega,h1.row⟩,fun a ha=>h.1.1.2 a (List.mem_of_mem_take ha)⟩,?_⟩
     exact cj (xs:=(cutK kl k2).map KeyD.cells) (h.2 _ bX) (by rw [Z3];exact hnE) fun r hr=>by
      obtain ⟨z,_,rfl⟩:=List.mem_map.1 hr
      rfl
theorem vi (c:ChainD) (n:Int) (hn:n<1):Pu Tryz.prog 10 #[c.v,.int .i64 n] (fun _=>True) (⟨c.id,⟨none,0,0⟩,⟨none,0,0⟩,⟨#[]⟩,0,false,[]⟩:ChainD).v:=by
 refine ay (args:=[_,_]) _ Tryz.func10 rfl Tryz.ntmps10 rfl fun av bor w0=>?_
 repeat' (first|refine am (bK true rfl rfl (ZA hn)) rfl aB rfl ?_|apply ab|apply Qu|apply Qv|refine aj ?_|refine aA ?_|refine az ?_|refine aM fun _=>?_|refine aN fun _=>?_|refine aJ ?_|refine Qy ?_|apply ar|(refine br (cs:=[.string c.id,.slice none 0 0,.slice none 0 0,.string ⟨#[]⟩,.int .i64 0,.bool false]) (hf:=by rfl) ?_)|fail)
 all_goals exact al (dm rfl rfl bX (by rfl)) rfl
def keyF (kl:List KeyD) (i:Int):Nat→Option KeyD
 | 0=>none
 | j+1=>bif decide ((kl.getD j KeyD.zero).from_≤i) then some (kl.getD j KeyD.zero) else keyF kl i j
def keyV (n:Nat) (kl:List KeyD) (i:Int):Option KeyD:=bif decide (i<0)||decide ((n:Int)<i) then none else keyF kl i kl.length
def keyOP (o:Option KeyD):Value:=.tuple #[(o.getD KeyD.zero).v,.bool o.isSome]
structure KeyI (kl:List KeyD) (i:Int) where
 k:Nat
 hk:k≤kl.length
 hs:keyF kl i kl.length=keyF kl i k
set_option maxHeartbeats 8000000 in
theorem jK (c:ChainD) (kl:List KeyD) (i:Int):Pu Tryz.prog 11 #[c.v,.int .i64 i] (fun w=>c.at_ w∧Keyz w c.keys kl) (keyOP (keyV c.acts.n kl i)):=by
 refine ay (args:=[_,_]) _ Tryz.func11 rfl Tryz.ntmps11 rfl fun av bor w0=>?_
 refine bI (p:=c.keys.n=kl.length∧c.keys.n≤maxLen∧(0<kl.length→c.keys.p.isSome=true)) (fun w h=>Keyz.know w h.2) fun ⟨hkn,hkm,hkp⟩=>?_
 simp only [maxLen] at hkm
 cases hb:(decide (i<0)||decide ((c.acts.n:Int)<i)) with
 | true =>
  rw [show keyV c.acts.n kl i=none from by rw [keyV,hb];rfl]
  repeat' (first|apply ab|apply Qu|apply Qv|refine aj ?_|refine ad ?_|refine aA ?_|refine az ?_|refine aD ?_|refine aF ?_|refine bj ?_|refine cK ?_|refine aY ?_|refine df (h:=?_)|refine cb ?_|refine aM fun _=>?_|refine aN fun _=>?_|refine aJ ?_|refine Qy ?_|apply Qx|apply Qw|apply ar|(refine br (cs:=KeyD.zero.cells) (hf:=by rfl) ?_)|((fail_if_success (refine aZ ?_));refine aR (ht:=?_) (hf:=?_);all_goals (intro hx_;first|have:=aP hx_|have:=aS hx_))|(refine aG (ht:=?_) (hf:=?_);all_goals (intro hx_;first|have:=aP hx_|have:=aS hx_)))
  all_goals first
   | exact al (dF rfl rfl rfl bX (by rfl)) rfl
   | (exfalso;simp_all;done)
 | false =>
  have hb':=hb
  simp only [Bool.or_eq_false_iff,decide_eq_false_iff_not] at hb'
  obtain ⟨h0,h1⟩:=hb'
  rw [show keyV c.acts.n kl i=keyF kl i kl.length from by rw [keyV,hb];rfl]
  repeat' (first|refine am (bK false rfl rfl (Zn h0)) rfl aB rfl ?_|refine g9 (hab:=h1) ?_|apply ab|apply Qu|apply Qv|refine aj ?_|refine ad ?_|refine aA ?_|refine az ?_|refine aF ?_|refine aY ?_|refine df (h:=?_)|refine aM fun _=>?_|refine aN fun _=>?_|refine Qz ?_|apply Qx|apply Qw|fail)
  rename_i b2 b4
  refine aT (ι:=KeyI kl i) (fun j=>⟨[(1,.int .i64 i),(2,.pointer (some ⟨b2,0,none⟩)),(4,.pointer (some ⟨b4,0,none⟩)),(6,.int .i64 ((j.k:Nat)-1))],[cel b4 35 KeyD.zero.cells,cel b2 31 c.cells],fun w=>c.at_ w∧Keyz w c.keys kl⟩) (fun j=>j.k) ⟨c.keys.n,by omega,by rw [hkn]⟩ (aw ⟨rfl,rfl,rfl,rfl,trivial⟩ (aE _) fun _ h=>h) fun j=>?_
  obtain ⟨k,hk,hs⟩:=j
  simp only
  cases k with
  | zero =>
   rw [hs]
   clear hs
   repeat' (first|refine am (fb false rfl rfl (Zn ae)) rfl aB rfl ?_|apply ab|apply Qu|apply Qv|refine aj ?_|refine ad ?_|refine aJ ?_|refine Qz ?_|apply ar|apply aQ|(refine br (cs:=KeyD.zero.cells) (hf:=by rfl) ?_)|fail)
   exact al (dF rfl rfl rfl bX (by rfl)) rfl
  | succ k =>
   obtain ⟨y,hy⟩:∃ y,kl[k]?=some y:=⟨_,Zm ae⟩
   have hyD:kl.getD k KeyD.zero=y:=by rw [ZL,hy];rfl
   have hkp':=hkp ae
   cases hle:decide (y.from_≤i) with
   | true =>
    rw [hs,show keyF kl i (k+1)=some y from by rw [keyF,hyD,hle];rfl]
    clear hs
    have hle':=aP hle
    repeat' (first|refine am (fb true rfl rfl (ZA ae)) rfl aB rfl ?_|refine dD (q:=k*3) (u:=.int .i64 y.from_) (hF:=fun w h=>(Keyz.get h.2 hy).2.2 0 _ rfl) ?_|apply ab|apply Qu|apply Qv|refine aj ?_|refine ad ?_|refine aA ?_|refine az ?_|refine cB ?_|refine aJ ?_|refine Qy ?_|apply Qx|apply Qw|apply ar|(refine bu (q:=k*3) ?_)|(refine eA ?_)|(refine co (cs:=y.cells) (hF:=fun w h=>Keyz.get h.2 hy) ?_)|fail)
    all_goals first
     | exact al (dF rfl rfl rfl bX (by rfl)) rfl
     | (exfalso;omega)
   | false =>
    have hs2:keyF kl i kl.length=keyF kl i k:=by rw [hs,keyF,hyD,hle];rfl
    repeat' (first|refine am (fb true rfl rfl (ZA ae)) rfl aB rfl ?_|refine dD (q:=k*3) (u:=.int .i64 y.from_) (hF:=fun w h=>(Keyz.get h.2 hy).2.2 0 _ rfl) ?_|apply ab|apply Qu|apply Qv|refine aj ?_|refine ad ?_|refine aA ?_|refine az ?_|refine cB ?_|refine df (h:=?_)|refine Qy ?_|refine Qz ?_|apply Qx|apply Qw|(refine bu (q:=k*3) ?_)|(refine eA ?_)|fail)
    all_goals first
     | exact ⟨(⟨k,by omega,hs2⟩:KeyI kl i),Nat.lt_succ_self k,aw ⟨rfl,rfl,rfl,(by show some (Value.int IntKind.i64 (((k+1:Nat):Int)-1-1))=some (Value.int IntKind.i64 ((k:Int)-1));rw [show ((k+1:Nat):Int)-1-1=(k:Int)-1 from by omega]),trivial⟩ (aE _) fun _ h=>h⟩
     | (exfalso;exact absurd (by assumption) (aS hle))
theorem jg {c c':ChainD} {a:ActD} {pl:Option Nat} (h1:c.id=c'.id) (h2:c.acts.n=c'.acts.n) (h3:c.prev=c'.prev) (h4:c.actsL=c'.actsL):fitsV c a pl=fitsV c' a pl:=by
 have e:∀ p,atK c pl p=atK c' pl p:=fun p=>by
  cases pl with
  | none=>rfl
  | some j=>show p (c.actsL.getD j ActD.zero).kind=p (c'.actsL.getD j ActD.zero).kind;rw [h4]
 rw [fitsV,fitsV,h1,h2,h3,e,e]
theorem iW {W:OfW} {st s:ChS} (h:regS W st=some s):∃ c i,W.won st.gen=some c∧c.base=(st.acts.length:Int)∧c.prev=st.prev∧setI st.acts st.acts.length=some i∧W.clm (st.acts.getD i ActD.zero).m c=true∧s=⟨st.acts,st.keys++[⟨(st.acts.length:Nat),c.pub,c.home⟩],W.dgC c,st.gen+1⟩:=by
 rw [regS] at h
 cases hw:W.won st.gen with
 | none=>rw [hw] at h;cases h
 | some c =>
  rw [hw] at h
  simp only at h
  cases hb:decide (c.base=(st.acts.length:Int))&&seqB c.prev st.prev with
  | false=>rw [hb] at h;cases h
  | true =>
   rw [hb] at h
   rw [ZM,ZT,seqB_iff] at hb
   cases hs:setI st.acts st.acts.length with
   | none=>rw [hs] at h;cases h
   | some i =>
    rw [hs] at h
    simp only [ZC] at h
    cases hc:W.clm (st.acts.getD i ActD.zero).m c with
    | false=>rw [hc] at h;cases h
    | true =>
     rw [hc,ZC,Qc] at h
     exact ⟨c,i,rfl,hb.1,hb.2,rfl,hc,h.symm⟩
theorem gk {W:OfW} {st s:ChS} (h:stepS W st=some s):regS W st=some s∨regS W st=none∧∃ a,candL W st=[a]∧s=addS st a:=by
 rw [stepS] at h
 cases hr:regS W st with
 | some s'=>rw [hr] at h;exact .inl h
 | none =>
  rw [hr] at h
  cases ho:oneA (candL W st) with
  | none=>rw [ho] at h;cases h
  | some a =>
   rw [ho,Option.map_some,Qc] at h
   exact .inr ⟨rfl,a,fM ho,h.symm⟩
theorem nD {W:OfW} {P:ChS→Prop} (hst:∀ st s,P st→stepS W st=some s→P s):∀ (n:Nat) (st:ChS),P st→P (runS W n st)
 | 0,st,h=>h
 | n+1,st,h=>by
  cases hs:stepS W st with
  | none=>rw [k0 hs];exact h
  | some s=>rw [k7 hs];exact nD hst n s (hst st s h hs)
theorem mv {α:Type} (l:List α) (a:α) (i:Nat) (h:i≤l.length):(l++[a]).take i=l.take i:=by
 rw [List.take_append,show i-l.length=0 from by omega,List.take_zero,Z9]
theorem pU {α:Type} {l:List α} {a x:α} {i:Nat} (h:(l++[a])[i]?=some x):l[i]?=some x∧i<l.length∨i=l.length∧x=a:=by
 rcases Nat.lt_trichotomy i l.length with hi|rfl|hi
 · rw [Z4 hi] at h
   exact .inl ⟨h,hi⟩
 · rw [Qm (Qp _),Nat.sub_self] at h
   exact .inr ⟨rfl,(Option.some.inj h).symm⟩
 · rw [Qm ae,List.getElem?_singleton,Qg (by omega)] at h
   cases h
structure ChFit (W:OfW) (st:ChS):Prop where
 mem:∀ a∈st.acts,a∈W.L
 seq:∀ (i:Nat) (x:ActD),st.acts[i]?=some x→x.seq=(i:Int)
 fit:∀ (i:Nat) (x:ActD),st.acts[i]?=some x→1≤i→fitsV ((⟨st.acts.take i,[],x.prev,0⟩:ChS).ch W.id) x (idxV (st.acts.take i) x.object)=true
 key0:∃ k r,st.keys=k::r∧k.from_=0
theorem yf {W:OfW} {st s:ChS} (h:ChFit W st) (hs:stepS W st=some s):ChFit W s:=by
 obtain ⟨k,r,hk,hk0⟩:=h.key0
 rcases gk hs with h1|⟨h1,a,h2,rfl⟩
 · obtain ⟨c,i,e1,e2,e3,e4,e5,rfl⟩:=iW h1
   exact ⟨h.mem,h.seq,h.fit,k,r++[_],by rw [hk];rfl,hk0⟩
 · have ha:a∈candL W st:=by rw [h2];exact List.mem_singleton.2 rfl
   obtain ⟨m1,m2,m3⟩:=iE ha
   have hp:a.prev=st.prev:=by
    rw [candL,List.mem_filter,List.mem_filter,posB,ZM,seqB_iff] at ha
    exact ha.1.2.2
   refine ⟨fun x hx=>?_,fun i x hx=>?_,fun i x hx h0=>?_,?_⟩
   · rcases List.mem_append.1 (show x∈st.acts++[a] from hx) with hx|hx
     · exact h.mem x hx
     · rw [List.mem_singleton.1 hx];exact m1
   · rcases pU (show (st.acts++[a])[i]?=some x from hx) with ⟨h3,_⟩|⟨rfl,rfl⟩
     · exact h.seq i x h3
     · exact m2
   · rcases pU (show (st.acts++[a])[i]?=some x from hx) with ⟨h3,h4⟩|⟨rfl,rfl⟩
     · have:=h.fit i x h3 h0
       rw [show (addS st a).acts.take i=st.acts.take i from mv _ _ _ (by omega)]
       exact this
     · rw [show (addS st x).acts.take st.acts.length=st.acts from by rw [show (addS st x).acts=st.acts++[x] from rfl,mv _ _ _ (Qp _),List.take_length]]
       rw [candB,ZM] at m3
       rw [←m3.1]
       exact jg rfl rfl hp rfl
   · show ∃ k r,(bif decide (a.kind=18) then st.keys++[_] else st.keys)=k::r∧k.from_=0
     cases decide (a.kind=18) with
     | true=>exact ⟨k,r++[_],by rw [hk];rfl,hk0⟩
     | false=>exact ⟨k,r,hk,hk0⟩
theorem ry {W:OfW} {a:ActD} (ha:a∈firstL W):begS a=⟨[a],[⟨0,a.n,a.m⟩],digV a,0⟩∧a∈W.L∧a.seq=0∧a.prev=⟨#[]⟩∧a.kind=0∧idV a.n=W.id∧W.ver a.n a=true:=by
 rw [firstL,List.mem_filter,List.mem_filter] at ha
 have h2:=ha.1.2
 simp only [posB,ZM,ZT,seqB_iff] at h2
 have h3:=ha.2
 simp only [firstB,ZM,ZT,seqB_iff] at h3
 exact ⟨by rw [begS,addS,h3.1.1];rfl,ha.1.1,h2.1,h2.2,h3.1.1,h3.1.2,h3.2⟩
theorem AW {W:OfW} {a:ActD} (ha:a∈firstL W):ChFit W (begS a):=by
 obtain ⟨e,h1,h2,h3,h4,h5,h6⟩:=ry ha
 rw [e]
 refine ⟨fun x hx=>by rw [List.mem_singleton.1 hx];exact h1,fun i x hx=>?_,fun i x hx h0=>?_,_,[],rfl,rfl⟩
 · rw [List.getElem?_singleton] at hx
   split at hx
   · rename_i hi
     subst hi
     rw [←Option.some.inj hx,h2];rfl
   · cases hx
 · rw [List.getElem?_singleton,Qg (by omega)] at hx
   cases hx
theorem AK {W:OfW} {a:ActD} (ha:a∈firstL W):ChFit W (finS W a):=nD (P:=ChFit W) (fun st s h hs=>yf h hs) _ _ (AW ha)
theorem jF (kl:List KeyD) (i:Int):∀ n,n≤kl.length→keyF kl i n=((kl.take n).filter fun k=>decide (k.from_≤i)).getLast?
 | 0,_=>rfl
 | n+1,h=>by
  obtain ⟨y,hy⟩:∃ y,kl[n]?=some y:=⟨_,Zm ae⟩
  have hD:kl.getD n KeyD.zero=y:=by rw [ZL,hy];rfl
  rw [keyF,hD,List.take_add_one,hy,Option.toList_some,List.filter_append]
  cases hb:decide (y.from_≤i) with
  | true=>simp [hb]
  | false=>simp [hb,jF kl i n (by omega)]
section
variable {P:Program} {N:Nat} {av bor:List Nat} {w0:World} {ty:TypeId}
end
section
variable {N:Nat} {av bor:List Nat} {w0:World} {st:St} {ty:TypeId} {x:Operand}
end
def seedB (i:Nat):ByteArray:=⟨#[97,99,116,111,114,32]⟩++ofInts [(i:Int)]
def keyA (i:Nat):KyD:=keyOf (seedB i)
def idA21 (i:Nat):ByteArray:=idV (keyA i).p
def ChainD.more (c:ChainD) (s:SlV) (a:ActD):ChainD:={ c with acts:=s,actsL:=c.actsL++[a],prev:=digV a }
def ActD.can (a:ActD):ActD:=a.re ⟨none,a.to.n,0⟩ ⟨none,a.wraps.n,0⟩
def ChainD.can (c:ChainD):ChainD:={ c with acts:=⟨none,c.acts.n,0⟩,keys:=⟨none,c.keys.n,0⟩,actsL:=c.actsL.map ActD.can }
def actorB:ByteArray:=⟨#[97,99,116,111,114]⟩
def idC (i:Nat):ChainD:={ ChainD.zero with id:=idA21 i }
def draftB (i:Nat):ActD:={ draftV (idC i) 0 0 with text:=actorB,n:=(keyA i).p }
def actB (i:Nat):ActD:=actSignV (keyA i) (draftB i)
def beginC (i:Nat):ChainD:={ idC i with acts:=⟨none,1,0⟩,keys:=⟨none,1,0⟩,prev:=digV (actB i),actsL:=[(actB i).can] }
section
variable {N:Nat} {av bor:List Nat} {w0:World} {E:Env} {loc:List Res} {X:World→Prop}
end
structure BegI where
 k:Nat
 hk:k≤4
 L:List ChainD
 hL:L.map ChainD.can=(List.range k).map beginC
 xs:List Value
 hxs:xs=(L.map ChainD.cells).flatten
 hb:∀ c∈L,ActsOk c.actsL∧c.actsL.length≤1
 A:Option Addr
 c:Nat
theorem xc (w:World):(isAgg 41).run Tryz.prog w=.ok true w:=by kernel_rfl
theorem ur (w:World):(Go.sizeOf 41).run Tryz.prog w=.ok 3 w:=by kernel_rfl
theorem pC {cs:Array Value} {o:Nat} {w:World}:(part 41 cs o).run Tryz.prog w=.ok (.agg (cs.extract o (o+3))) w:=by
 simp [part,xc,ur]
theorem yk {d:Nat} {a b c a' b' c':ByteArray} {w:World}:(Op.equalIn (d+2) 41 (.agg #[.string a,.string b,.string c]) (.agg #[.string a',.string b',.string c'])).run Tryz.prog w=.ok (seqB a a'&&(seqB b b'&&(seqB c c'&&true))) w:=by
 rw [run_equalIn_agg w (d+1) _ _ _ lR mW]
 have hf:(Tryz.prog.fieldsOf 41).toList.map (fun f=>(f.name,f.type,f.offset))=[("Nonce",9,0),("Data",9,1),("Tag",9,2)]:=by kernel_rfl
 generalize (Tryz.prog.fieldsOf 41).toList=l at hf
 rcases l with _|⟨⟨n1,t1,o1,_⟩,_|⟨⟨n2,t2,o2,_⟩,_|⟨⟨n3,t3,o3,_⟩,_|⟨f4,l⟩⟩⟩⟩
 case cons.cons.cons.nil =>
  simp only [Qt,List.map_nil,List.cons.injEq,Prod.mk.injEq,and_true] at hf
  obtain ⟨⟨rfl,rfl,rfl⟩,⟨rfl,rfl,rfl⟩,rfl,rfl,rfl⟩:=hf
  exact ck (by dsimp only;decide) (bw rfl) (bw rfl) fj (ck (by dsimp only;decide) (bw rfl) (bw rfl) fj (ck (by dsimp only;decide) (bw rfl) (bw rfl) fj gI))
 all_goals (have:=congrArg List.length hf;simp at this)
def wrapEq (a b:WrapD):Bool:=decide (a.to=b.to)&&(decide (a.eph=b.eph)&&((seqB a.box.nonce b.box.nonce&&(seqB a.box.data b.box.data&&(seqB a.box.tag b.box.tag&&true)))&&true))
theorem oG (a:WrapD):wrapEq a a=true:=by simp [wrapEq,bL]
theorem lX:Tryz.prog.underlying 97=some (.struct (Tryz.prog.fieldsOf 97)):=by kernel_rfl
theorem nd:Tryz.prog.stoodInHeld 97=false:=by kernel_rfl
theorem nf:Tryz.prog.eqGuardType Tryz.prog.depth 97=false:=by kernel_rfl
theorem qI (w:World) (a b:WrapD):(Op.equalIn 10000 97 (.agg a.cells.toArray) (.agg b.cells.toArray)).run Tryz.prog w=.ok (wrapEq a b) w:=by
 rw [show (10000:Nat)=9999+1 from rfl,run_equalIn_agg w 9999 _ _ _ lX nd]
 have hf:(Tryz.prog.fieldsOf 97).toList.map (fun f=>(f.name,f.type,f.offset))=[("To",3,0),("Eph",3,1),("Box",41,2)]:=by kernel_rfl
 generalize (Tryz.prog.fieldsOf 97).toList=l at hf
 rcases l with _|⟨⟨n1,t1,o1,_⟩,_|⟨⟨n2,t2,o2,_⟩,_|⟨⟨n3,t3,o3,_⟩,_|⟨f4,l⟩⟩⟩⟩
 case cons.cons.cons.nil =>
  simp only [Qt,List.map_nil,List.cons.injEq,Prod.mk.injEq,and_true] at hf
  obtain ⟨⟨rfl,rfl,rfl⟩,⟨rfl,rfl,rfl⟩,rfl,rfl,rfl⟩:=hf
  exact ck (by dsimp only;decide) (bw rfl) (bw rfl) da (ck (by dsimp only;decide) (bw rfl) (bw rfl) da (ck (by dsimp only;decide) pC pC yk gI))
 all_goals (have:=congrArg List.length hf;simp at this)
theorem mZ {N:Nat} {av bor:List Nat} {w0:World} {st:St} {ty t2:TypeId} {x y:Operand} {a b:WrapD} (hx:ev st.env x=some (.agg a.cells.toArray)) (hy:ev st.env y=some (.agg b.cells.toArray)) :
  Sy.Yields Tryz.prog N av bor w0 st (.binOp .neq 97 x y t2) ty (.bool (!wrapEq a b)):=Sy.Yields.mk fun A w ok d pos af g=>by
 have h1:=run_neq_struct (P:=Tryz.prog) w 97 a.cells.toArray b.cells.toArray
 rw [qI w a b] at h1
 simp [execOp,ok.eval (st:=st) hx,ok.eval (st:=st) hy,run_eqGuard_agg _ _ _ _ _ _ _ nf,h1]
theorem vv {N:Nat} {av bor:List Nat} {w0:World} {st:St} {ty t2:TypeId} {x y:Operand} {a:WrapD} (hx:ev st.env x=some (.agg a.cells.toArray)) (hy:ev st.env y=some (.agg a.cells.toArray)) :
  Sy.Yields Tryz.prog N av bor w0 st (.binOp .neq 97 x y t2) ty (.bool false):=by
 have h:=mZ (N:=N) (av:=av) (bor:=bor) (w0:=w0) (ty:=ty) (t2:=t2) hx hy
 rw [oG] at h
 exact h
theorem tk {N:Nat} {av bor:List Nat} {w0:World} {E:Env} {loc:List Res} {X:World→Prop} {ty t2:TypeId} {x y:Operand} {a b:BoxD} (hx:ev E x=some a.v) (hy:ev E y=some b.v) (h:boxEq a b=true) :
  Sy.Yields Tryz.prog N av bor w0 ⟨E,loc,X⟩ (.binOp .eql 41 x y t2) ty (.bool true):=h▸rO hx hy
theorem tj {N:Nat} {av bor:List Nat} {w0:World} {E:Env} {loc:List Res} {X:World→Prop} {ty t2:TypeId} {x y:Operand} {a b c d:Int} (hx:ev E x=some (.agg #[.int .i64 a,.int .i64 b])) (hy:ev E y=some (.agg #[.int .i64 c,.int .i64 d])) (h:(decide (a=c)&&decide (b=d))=true) :
  Sy.Yields Tryz.prog N av bor w0 ⟨E,loc,X⟩ (.binOp .eql 44 x y t2) ty (.bool true):=h▸rG hx hy
theorem rv (a:BoxD):boxEq a a=true:=by simp [boxEq,bL]
theorem uG {a b:ActD} (h:b.can=a.can):b=a.re b.to b.wraps∧b.to.n=a.to.n∧b.wraps.n=a.wraps.n:=by
 obtain ⟨a1,a2,a3,a4,a5,a6,a7,a8,a9,a10,a11,a12,a13,a14,a15,a16,a17,a18,a19,a20⟩:=a
 obtain ⟨b1,b2,b3,b4,b5,b6,b7,b8,b9,b10,b11,b12,b13,b14,b15,b16,b17,b18,b19,b20⟩:=b
 simp only [ActD.can,ActD.re,ActD.mk.injEq,SlV.mk.injEq] at h
 simp only [ActD.re,ActD.mk.injEq,true_and,and_true]
 obtain ⟨rfl,rfl,rfl,rfl,rfl,rfl,rfl,rfl,rfl,⟨_,h1,_⟩,rfl,rfl,rfl,⟨_,h2,_⟩,rfl,rfl,rfl,rfl,rfl,rfl⟩:=h
 exact ⟨by simp,h1,h2⟩
set_option maxRecDepth 20000 in
set_option maxHeartbeats 8000000 in
theorem uu (a b:ActD) (hb:b.can=a.can) (hr:a.Rng):Pu Tryz.prog 42 #[a.v,b.v] (fun w=>a.at_ w∧b.at_ w) (.bool true):=by
 obtain ⟨hE,n1,n2⟩:=uG hb
 have l1:=hr.to_len
 have l2:=hr.wraps_len
 refine sD (X:=fun w=>(Strs w a.to a.toL∧Wraps w a.wraps a.wrapsL)∧Strs w b.to a.toL∧Wraps w b.wraps a.wrapsL) ?_ fun w h=>⟨h.1,by have h2:=h.2.1;rw [hE] at h2;exact h2,by have h2:=h.2.2;rw [hE] at h2;exact h2⟩
 have f1:seqB a.author b.author=true:=by rw [hE];exact bL _
 have f2:a.seq=b.seq:=by rw [hE];rfl
 have f3:seqB a.prev b.prev=true:=by rw [hE];exact bL _
 have f4:a.kind=b.kind:=by rw [hE];rfl
 have f5:a.time=b.time:=by rw [hE];rfl
 have f6:seqB a.object b.object=true:=by rw [hE];exact bL _
 have f7:seqB a.target b.target=true:=by rw [hE];exact bL _
 have f8:a.scope=b.scope:=by rw [hE];rfl
 have f9:seqB a.group b.group=true:=by rw [hE];exact bL _
 have f10:seqB a.text b.text=true:=by rw [hE];exact bL _
 have f11:boxEq a.body b.body=true:=by rw [hE];exact rv _
 have f12:a.epoch=b.epoch:=by rw [hE];rfl
 have f13:a.n=b.n:=by rw [hE];rfl
 have f14:a.m=b.m:=by rw [hE];rfl
 have f15:(decide (a.e=b.e)&&decide (a.s=b.s))=true:=by rw [hE];simp [ActD.re]
 clear hE hb hr
 refine ay (args:=[_,_]) _ Tryz.func42 rfl Tryz.ntmps42 rfl fun av bor w0=>?_
 refine bI (p:=(a.to.n≤maxLen∧(0<a.toL.length→a.to.p.isSome=true)∧(0<a.toL.length→b.to.p.isSome=true))∧(a.wraps.n≤maxLen∧(0<a.wrapsL.length→a.wraps.p.isSome=true)∧(0<a.wrapsL.length→b.wraps.p.isSome=true))) (fun w h=>⟨⟨Qq (RowsD.cap h.1.1) (RowsD.max h.1.1),h.1.1.some_,h.2.1.some_⟩,Qq (RowsD.cap h.1.2) (RowsD.max h.1.2),h.1.2.some_,h.2.2.some_⟩) fun ⟨⟨m1,p1,q1⟩,m2,p2,q2⟩=>?_
 simp only [maxLen] at m1 m2
 repeat' (first|refine eR (hab:=by omega) ?_|apply ab|apply Qu|apply Qv|refine aj ?_|refine ad ?_|refine aA ?_|refine az ?_|refine aF ?_|refine aY ?_|refine aN fun _=>?_|refine Qz ?_|apply Qx|apply Qw|fail)
 rename_i b2 b3
 refine aT (ι:=Kth a.toL.length) (fun i=>⟨[(2,.pointer (some ⟨b2,0,none⟩)),(3,.pointer (some ⟨b3,0,none⟩)),(5,.int .i64 i.k)],[cel b3 46 b.cells,cel b2 46 a.cells],fun w=>(Strs w a.to a.toL∧Wraps w a.wraps a.wrapsL)∧Strs w b.to a.toL∧Wraps w b.wraps a.wrapsL⟩) (fun i=>a.toL.length-i.k) ⟨0,Nat.zero_le _⟩ (aw ⟨rfl,rfl,rfl,trivial⟩ (aE _) fun _ h=>h) fun i=>?_
 obtain ⟨k,hk⟩:=i
 simp only
 by_cases hlt:k<a.toL.length
 · have p1':=p1 ae
   have q1':=q1 ae
   repeat' (first|refine am (bK true rfl rfl (ZA ae)) rfl aB rfl ?_|apply ab|apply Qu|apply Qv|refine aj ?_|refine aA ?_|refine az ?_|refine aY ?_|refine Qy ?_|apply Qx|apply Qw|fail)
   (refine aU [cel b3 46 b.cells,cel b2 46 a.cells] (fun w=>(Strs w a.to a.toL∧Wraps w a.wraps a.wrapsL)∧Strs w b.to a.toL∧Wraps w b.wraps a.wrapsL) ak ?_)
   all_goals refine aa 0 ?_<;>refine aa 1 ?_<;>refine aa 2 ?_<;>(refine aa 3 (hy:=by (apply aL (q:=k);rfl;rfl;omega;omega;assumption;omega)) ?_)<;>(refine aa 4 (hy:=by (apply cW;rfl;exact fun w h=>Strs.get h.1.1 hlt)) ?_)<;>refine aa 5 ?_<;>refine aa 6 ?_<;>refine aa 7 ?_<;>(refine aa 8 (hy:=by (apply aL (q:=k);rfl;rfl;omega;omega;assumption;omega)) ?_)<;>(refine aa 9 (hy:=by (apply cW;rfl;exact fun w h=>Strs.get h.2.1 hlt)) ?_)<;>(refine aa 10 (hy:=by (apply eP false;rfl;rfl;exact (by rw [bL];rfl))) ?_)<;>(refine ax ?_)
   all_goals
    repeat' (first|apply ab|apply Qv|refine aj ?_|refine ad ?_|refine be (h:=?_)|refine Qz ?_|apply Qx|fail)
    exact ⟨(⟨k+1,hlt⟩:Kth a.toL.length),(by show a.toL.length-(k+1)<a.toL.length-k;omega),aw ⟨rfl,rfl,rfl,trivial⟩ (aE _) fun _ h=>h⟩
 · repeat' (first|refine am (bK false rfl rfl (Zn ae)) rfl aB rfl ?_|apply ab|apply Qu|apply Qv|refine aj ?_|refine ad ?_|refine aA ?_|refine az ?_|refine aY ?_|refine Qz ?_|apply Qw|apply aQ|fail)
   refine aT (ι:=Kth a.wrapsL.length) (fun i=>⟨[(2,.pointer (some ⟨b2,0,none⟩)),(3,.pointer (some ⟨b3,0,none⟩)),(6,.int .i64 i.k)],[cel b3 46 b.cells,cel b2 46 a.cells],fun w=>(Strs w a.to a.toL∧Wraps w a.wraps a.wrapsL)∧Strs w b.to a.toL∧Wraps w b.wraps a.wrapsL⟩) (fun i=>a.wrapsL.length-i.k) ⟨0,Nat.zero_le _⟩ (aw ⟨rfl,rfl,rfl,trivial⟩ (aE _) fun _ h=>h) fun i=>?_
   obtain ⟨k,hk⟩:=i
   simp only
   by_cases hlt:k<a.wrapsL.length
   · have p2':=p2 ae
     have q2':=q2 ae
     obtain ⟨x,hx⟩:∃ x,a.wrapsL[k]?=some x:=⟨_,Zm hlt⟩
     repeat' (first|refine am (bK true rfl rfl (ZA ae)) rfl aB rfl ?_|apply ab|apply Qu|apply Qv|refine aj ?_|refine aA ?_|refine az ?_|refine aY ?_|refine Qy ?_|apply Qx|apply Qw|fail)
     (refine aU [cel b3 46 b.cells,cel b2 46 a.cells] (fun w=>(Strs w a.to a.toL∧Wraps w a.wraps a.wrapsL)∧Strs w b.to a.toL∧Wraps w b.wraps a.wrapsL) ak ?_)
     all_goals refine aa 0 ?_<;>refine aa 1 ?_<;>refine aa 2 ?_<;>(refine aa 3 (hy:=by (apply aL (q:=k*5);rfl;rfl;omega;omega;assumption;omega)) ?_)<;>(refine aa 4 (hy:=by (apply dc (cs:=x.cells);rfl;exact fun w h=>Wraps.get h.1.2 hx)) ?_)<;>refine aa 5 ?_<;>refine aa 6 ?_<;>refine aa 7 ?_<;>(refine aa 8 (hy:=by (apply aL (q:=k*5);rfl;rfl;omega;omega;assumption;omega)) ?_)<;>(refine aa 9 (hy:=by (apply dc (cs:=x.cells);rfl;exact fun w h=>Wraps.get h.2.2 hx)) ?_)<;>(refine aa 10 (hy:=by (apply vv (a:=x);rfl;rfl)) ?_)<;>(refine ax ?_)
     all_goals
      repeat' (first|apply ab|apply Qv|refine aj ?_|refine ad ?_|refine be (h:=?_)|refine Qz ?_|apply Qx|fail)
      exact ⟨(⟨k+1,hlt⟩:Kth a.wrapsL.length),(by show a.wrapsL.length-(k+1)<a.wrapsL.length-k;omega),aw ⟨rfl,rfl,rfl,trivial⟩ (aE _) fun _ h=>h⟩
   · repeat' (first|refine am (bK false rfl rfl (Zn ae)) rfl aB rfl ?_|refine am (dj true rfl rfl (by assumption)) rfl aB rfl ?_|refine bm (hab:=by assumption) ?_|apply ab|apply Qu|apply Qv|refine aj ?_|refine ad ?_|refine aA ?_|refine az ?_|refine aD ?_|refine aY ?_|refine Qz ?_|apply ar|apply aQ|(refine am (tk (a:=a.body) (b:=b.body) rfl rfl (by assumption)) rfl aB rfl ?_)|(refine am (tj (a:=a.e) (b:=a.s) (c:=b.e) (d:=b.s) rfl rfl (by assumption)) rfl aB rfl ?_)|(refine aW ?_)|fail)
     all_goals first
      | exact al (aq rfl rfl) rfl
theorem q9 (a:KeyD):keyEq a a=true:=by simp [keyEq]
theorem oz {N:Nat} {av bor:List Nat} {w0:World} {st:St} {ty t2:TypeId} {x y:Operand} {a:KeyD} (hx:ev st.env x=some (.agg a.cells.toArray)) (hy:ev st.env y=some (.agg a.cells.toArray)) :
  Sy.Yields Tryz.prog N av bor w0 st (.binOp .neq 35 x y t2) ty (.bool false):=by
 have h:=oB (N:=N) (av:=av) (bor:=bor) (w0:=w0) (ty:=ty) (t2:=t2) hx hy
 rw [q9] at h
 exact h
structure SameC (a b:ChainD):Prop where
 id:a.id=b.id
 prev:a.prev=b.prev
 gen:a.gen=b.gen
 fork:a.fork=b.fork
 acts:b.actsL.map ActD.can=a.actsL.map ActD.can
set_option maxRecDepth 20000 in
set_option maxHeartbeats 8000000 in
theorem ut (a b:ChainD) (kl:List KeyD) (h:SameC a b) (hr:∀ x∈a.actsL,x.Rng) :
  Pu Tryz.prog 16 #[a.v,b.v] (fun w=>(a.at_ w∧Keyz w a.keys kl)∧b.at_ w∧Keyz w b.keys kl) (.bool true):=by
 obtain ⟨hid,hprev,hgen,hfork,hacts⟩:=h
 have hlen:b.actsL.length=a.actsL.length:=by simpa using congrArg List.length hacts
 refine ay (args:=[_,_]) _ Tryz.func16 rfl Tryz.ntmps16 rfl fun av bor w0=>?_
 refine bI (p:=((a.acts.n=a.actsL.length∧a.acts.n≤maxLen∧(0<a.actsL.length→a.acts.p.isSome=true))∧a.keys.n=kl.length∧a.keys.n≤maxLen∧(0<kl.length→a.keys.p.isSome=true))∧(b.acts.n=b.actsL.length∧b.acts.n≤maxLen∧(0<b.actsL.length→b.acts.p.isSome=true))∧b.keys.n=kl.length∧b.keys.n≤maxLen∧(0<kl.length→b.keys.p.isSome=true)) (fun w h=>⟨⟨⟨h.1.1.len_,h.1.1.max_,h.1.1.some_⟩,Keyz.know w h.1.2⟩,⟨h.2.1.len_,h.2.1.max_,h.2.1.some_⟩,Keyz.know w h.2.2⟩) fun ⟨⟨⟨n1,m1,p1⟩,n2,m2,p2⟩,⟨n3,m3,p3⟩,n4,m4,p4⟩=>?_
 simp only [maxLen] at m1 m2 m3 m4
 have f1:seqB a.id b.id=true:=by rw [hid];exact bL _
 have f2:seqB a.prev b.prev=true:=by rw [hprev];exact bL _
 have f3:decide (a.fork=b.fork)=true:=ZA hfork
 repeat' (first|refine eR (hab:=by omega) ?_|apply ab|apply Qu|apply Qv|refine aj ?_|refine ad ?_|refine aA ?_|refine az ?_|refine aF ?_|refine aY ?_|refine aN fun _=>?_|refine Qz ?_|apply Qx|apply Qw|fail)
 rename_i b2 b3
 refine aT (ι:=Kth a.actsL.length) (fun i=>⟨[(2,.pointer (some ⟨b2,0,none⟩)),(3,.pointer (some ⟨b3,0,none⟩)),(5,.int .i64 i.k)],[cel b3 31 b.cells,cel b2 31 a.cells],fun w=>(a.at_ w∧Keyz w a.keys kl)∧b.at_ w∧Keyz w b.keys kl⟩) (fun i=>a.actsL.length-i.k) ⟨0,Nat.zero_le _⟩ (aw ⟨rfl,rfl,rfl,trivial⟩ (aE _) fun _ h=>h) fun i=>?_
 obtain ⟨k,hk⟩:=i
 simp only
 by_cases hlt:k<a.actsL.length
 · have p1':=p1 ae
   have p3':=p3 ae
   obtain ⟨x,hx⟩:∃ x,a.actsL[k]?=some x:=⟨_,Zm hlt⟩
   obtain ⟨y,hy⟩:∃ y,b.actsL[k]?=some y:=⟨_,Zm ae⟩
   have hxm:=List.mem_of_getElem? hx
   have hym:=List.mem_of_getElem? hy
   have hxy:y.can=x.can:=by
    have:=congrArg (fun l=>l[k]?) hacts
    simpa [hx,hy] using this
   have hsa:=uu x y hxy (hr x hxm)
   repeat' (first|refine am (bK true rfl rfl (ZA ae)) rfl aB rfl ?_|apply ab|apply Qu|apply Qv|refine aj ?_|refine aA ?_|refine az ?_|refine aY ?_|refine Qy ?_|apply Qx|apply Qw|fail)
   (refine aU [cel b3 31 b.cells,cel b2 31 a.cells] (fun w=>(a.at_ w∧Keyz w a.keys kl)∧b.at_ w∧Keyz w b.keys kl) ak ?_)
   all_goals refine aa 0 ?_<;>refine aa 1 ?_<;>refine aa 2 ?_<;>(refine aa 3 (hy:=by (apply aL (q:=k*20);rfl;rfl;omega;omega;assumption;omega)) ?_)<;>(refine aa 4 (hy:=by (apply dc (cs:=x.cells);rfl;exact (fun w h=>Acts.get h.1.1 hx))) ?_)<;>refine aa 5 ?_<;>refine aa 6 ?_<;>refine aa 7 ?_<;>(refine aa 8 (hy:=by (apply aL (q:=k*20);rfl;rfl;omega;omega;assumption;omega)) ?_)<;>(refine aa 9 (hy:=by (apply dc (cs:=y.cells);rfl;exact (fun w h=>Acts.get h.2.1 hy))) ?_)<;>(refine ag 10 ?_;(refine ao (hc:=hsa) (hX:=fun w h=>⟨h.1.1.2 x hxm,h.2.1.2 y hym⟩) ?_);apply ab;refine ai ?_)<;>refine aa 11 ?_<;>(refine ax ?_)
   all_goals
    repeat' (first|apply ab|apply Qu|apply Qv|refine aj ?_|refine ad ?_|refine bN ?_|refine be (h:=?_)|refine Qz ?_|apply Qx|fail)
    exact ⟨(⟨k+1,hlt⟩:Kth a.actsL.length),(by show a.actsL.length-(k+1)<a.actsL.length-k;omega),aw ⟨rfl,rfl,rfl,trivial⟩ (aE _) fun _ h=>h⟩
 · repeat' (first|refine am (bK false rfl rfl (Zn ae)) rfl aB rfl ?_|apply ab|apply Qu|apply Qv|refine aj ?_|refine ad ?_|refine aA ?_|refine az ?_|refine aY ?_|refine Qz ?_|apply Qw|apply aQ|fail)
   refine aT (ι:=Kth kl.length) (fun i=>⟨[(2,.pointer (some ⟨b2,0,none⟩)),(3,.pointer (some ⟨b3,0,none⟩)),(7,.int .i64 i.k)],[cel b3 31 b.cells,cel b2 31 a.cells],fun w=>(a.at_ w∧Keyz w a.keys kl)∧b.at_ w∧Keyz w b.keys kl⟩) (fun i=>kl.length-i.k) ⟨0,Nat.zero_le _⟩ (aw ⟨rfl,rfl,rfl,trivial⟩ (aE _) fun _ h=>h) fun i=>?_
   obtain ⟨k,hk⟩:=i
   simp only
   by_cases hlt:k<kl.length
   · have p2':=p2 ae
     have p4':=p4 ae
     obtain ⟨x,hx⟩:∃ x,kl[k]?=some x:=⟨_,Zm hlt⟩
     repeat' (first|refine am (bK true rfl rfl (ZA ae)) rfl aB rfl ?_|apply ab|apply Qu|apply Qv|refine aj ?_|refine aA ?_|refine az ?_|refine aY ?_|refine Qy ?_|apply Qx|apply Qw|fail)
     (refine aU [cel b3 31 b.cells,cel b2 31 a.cells] (fun w=>(a.at_ w∧Keyz w a.keys kl)∧b.at_ w∧Keyz w b.keys kl) ak ?_)
     all_goals refine aa 0 ?_<;>refine aa 1 ?_<;>refine aa 2 ?_<;>(refine aa 3 (hy:=by (apply aL (q:=k*3);rfl;rfl;omega;omega;assumption;omega)) ?_)<;>(refine aa 4 (hy:=by (apply dc (cs:=x.cells);rfl;exact fun w h=>Keyz.get h.1.2 hx)) ?_)<;>refine aa 5 ?_<;>refine aa 6 ?_<;>refine aa 7 ?_<;>(refine aa 8 (hy:=by (apply aL (q:=k*3);rfl;rfl;omega;omega;assumption;omega)) ?_)<;>(refine aa 9 (hy:=by (apply dc (cs:=x.cells);rfl;exact fun w h=>Keyz.get h.2.2 hx)) ?_)<;>(refine aa 10 (hy:=by (apply oz (a:=x);rfl;rfl)) ?_)<;>(refine ax ?_)
     all_goals
      repeat' (first|apply ab|apply Qv|refine aj ?_|refine ad ?_|refine be (h:=?_)|refine Qz ?_|apply Qx|fail)
      exact ⟨(⟨k+1,hlt⟩:Kth kl.length),(by show kl.length-(k+1)<kl.length-k;omega),aw ⟨rfl,rfl,rfl,trivial⟩ (aE _) fun _ h=>h⟩
   · repeat' (first|refine am (bK false rfl rfl (Zn ae)) rfl aB rfl ?_|refine am (dj true rfl rfl (by assumption)) rfl aB rfl ?_|refine bm (hab:=by assumption) ?_|apply ab|apply Qu|apply Qv|refine aj ?_|refine ad ?_|refine aA ?_|refine az ?_|refine aD ?_|refine aY ?_|refine Qz ?_|apply ar|apply aQ|refine zn ?_|fail)
     all_goals first
      | exact al (aq rfl rfl) (by show Value.bool (a.fork==b.fork)=_;rw [hfork,ZW])
theorem yt (l:List ByteArray):(compB l).length≤l.length:=by
 rw [compB,Z3]
 exact Qq (Lib.compact_length_le _) (by rw [Z3];exact Qp _)
def authI (I:List ItemD):List ByteArray:=(I.filter fun i=>decide (i.kind=0)).map fun i=>i.act.author
theorem rB (I:List ItemD) {k:Nat} {x:ItemD} (h:I[k]?=some x):authI (I.take (k+1))=authI (I.take k)++(bif decide (x.kind=0) then [x.act.author] else []):=by
 rw [authI,authI,List.take_add_one,h,Option.toList_some,List.filter_append,Qn]
 congr 1
 cases hb:decide (x.kind=0) with
 | true=>simp [hb]
 | false=>simp [hb]
theorem jq (I:List ItemD):(authI I).length≤I.length:=by rw [authI,Z3];exact List.length_filter_le _ _
inductive All2 {α β:Type} (R:α→β→Prop):List α→List β→Prop
 | nil:All2 R [] []
 | cons {a:α} {b:β} {l:List α} {m:List β}:R a b→All2 R l m→All2 R (a::l) (b::m)
theorem All2.snoc {α β:Type} {R:α→β→Prop} {l:List α} {m:List β} (h:All2 R l m) {a:α} {b:β} (r:R a b):All2 R (l++[a]) (m++[b]):=by
 induction h with
 | nil=>exact .cons r .nil
 | cons h1 _ ih=>exact .cons h1 ih
theorem All2.len {α β:Type} {R:α→β→Prop} {l:List α} {m:List β} (h:All2 R l m):l.length=m.length:=by
 induction h with
 | nil=>rfl
 | cons _ _ ih=>rw [ZY,ZY,ih]
theorem All2.right {α β:Type} {R:α→β→Prop} {l:List α} {m:List β} (h:All2 R l m):∀ b∈m,∃ a∈l,R a b:=by
 induction h with
 | nil=>exact fun b hb=>absurd hb (by simp)
 | cons h1 _ ih =>
  intro b hb
  rcases List.mem_cons.1 hb with rfl|hb
  · exact ⟨_,aI,h1⟩
  · obtain ⟨a,ha,r⟩:=ih b hb
    exact ⟨a,ZS _ ha,r⟩
abbrev ChK:=ChainD×List KeyD
def neK (p:ChK):Bool:=decide (0<p.1.actsL.length)
def OfQ (Q:ByteArray→ChainD→List KeyD→Prop) (au:ByteArray) (u:Value) (X:World→Prop):Prop:=∃ (c:ChainD) (kl:List KeyD),Q au c kl∧u=c.v∧∀ w,X w→c.at_ w∧Keyz w c.keys kl
def AllAt (Q:ByteArray→ChainD→List KeyD→Prop) (ids:List ByteArray) (u:Value) (X:World→Prop):Prop :=
 ∃ (s:SlV) (M:List ChK),All2 (fun id p=>Q id p.1 p.2) ids M∧u=s.v∧∀ w,X w→Chains w s ((M.filter neK).map Prod.fst)∧∀ p∈M,Keyz w p.1.keys p.2
structure IdsI (I:List ItemD) where
 k:Nat
 hk:k≤I.length
 A:Option Addr
 c:Nat
 n:Nat
 hn:n=(authI (I.take k)).length
 xs:List Value
 hxs:xs=(authI (I.take k)).map encB
structure ChsI (Q:ByteArray→ChainD→List KeyD→Prop) (ids:List ByteArray) where
 k:Nat
 hk:k≤ids.length
 M:List ChK
 hM:All2 (fun id p=>Q id p.1 p.2) (ids.take k) M
 A:Option Addr
 c:Nat
 n:Nat
 hn:n=(M.filter neK).length
 xs:List Value
 hxs:xs=(((M.filter neK).map Prod.fst).map ChainD.cells).flatten
set_option maxHeartbeats 8000000 in
theorem yA (Q:ByteArray→ChainD→List KeyD→Prop) (ks ki:SlV) (L:List Int) (I:List ItemD) (hI:I.length≤1000)
  (hof:∀ au,Mk Tryz.prog 9 #[.agg #[ks.v,ki.v],.string au] (fun w=>(Ints w ks L∧Items w ki I)∧Glob w) (OfQ Q au)) :
  Mk Tryz.prog 19 #[.agg #[ks.v,ki.v]] (fun w=>(Ints w ks L∧Items w ki I)∧Glob w) (AllAt Q (compB (sortB (authI I)))):=by
 refine cA (args:=[_]) _ Tryz.func19 rfl Tryz.ntmps19 rfl fun av bor w0=>?_
 refine bI (p:=ki.n=I.length∧ki.n≤maxLen∧(0<I.length→ki.p.isSome=true)) (fun w h=>⟨h.1.2.len_,h.1.2.max_,h.1.2.some_⟩) fun ⟨hin,him,hip⟩=>?_
 simp only [maxLen] at him
 refine cU 9 1 ?_
 refine cU 31 6 ?_
 repeat' (first|apply ab|apply Qu|apply Qv|refine aj ?_|refine ad ?_|refine aA ?_|refine az ?_|refine aY ?_|refine aN fun _=>?_|apply Qw|fail)
 rename_i b1
 refine aT (ι:=IdsI I) (fun i=>⟨[(1,.pointer (some ⟨b1,0,none⟩)),(3,.slice i.A i.n i.c),(11,ki.v),(12,.int .i64 (ki.n:Nat)),(13,.int .i64 (i.k:Nat))],
  [cel b1 25 [ks.v,ki.v],orow 31 6 (.slice none 0 0) 0 [],orow 9 1 (.slice i.A i.n i.c) i.n i.xs],fun w=>(Ints w ks L∧Items w ki I)∧Glob w⟩) (fun i=>I.length-i.k) ⟨0,Nat.zero_le _,none,0,0,rfl,[],rfl⟩ (aw ⟨rfl,rfl,rfl,rfl,rfl,trivial⟩ (aE _) fun _ h=>h) fun i=>?_
 obtain ⟨k,hk,A,cp,n,hn,xs,hxs⟩:=i
 simp only
 by_cases hlt:k<I.length
 · have hip':=hip ae
   obtain ⟨x,hx⟩:∃ x,I[k]?=some x:=⟨_,Zm hlt⟩
   have hs:=rB I hx
   have hnb:n≤1000:=by have h1:=jq (I.take k);rw [List.length_take] at h1;omega
   by_cases h0:x.kind=0
   · rw [ZA h0,ZC] at hs
     repeat' (first|refine am (bK true rfl rfl (ZA ae)) rfl aB rfl ?_|refine bm (hab:=h0) ?_|apply ab|apply Qu|apply Qv|refine aj ?_|refine ad ?_|refine aA ?_|refine az ?_|refine be (h:=?_)|refine aM fun _=>?_|refine bU fun _=>?_|refine aJ ?_|refine Qy ?_|apply Qx|apply Qw|(refine bu (q:=k*49) ?_)|(refine co (cs:=x.cells) (hF:=fun w h=>Items.get h.1.2 hx) ?_)|(refine aV (size:=1) (z:=.string ⟨#[]⟩) (news:=[encB x.act.author]) (q:=1) rfl rfl rfl rfl (fun _=>At.there _ (At.there _ (At.there _ (At.there _ (At.here _))))) (fun w G=>bo G aI rfl rfl 1) ae (by simp only [maxLen];omega) rfl ?_ rfl ?_;(with_reducible rfl);intro A2 c2)|fail)
     exact ⟨(⟨k+1,hlt,A2,c2,n+1,by rw [hs,ZX,←hn];rfl,xs++[encB x.act.author],by rw [hs,Qn,←hxs];rfl⟩:IdsI I),(by show I.length-(k+1)<I.length-k;omega),aw ⟨rfl,rfl,rfl,rfl,rfl,trivial⟩ (.cons _ (.cons _ (aE _))) fun _ h=>h⟩
   · rw [Zn h0,ZB,Z9] at hs
     repeat' (first|refine am (bK true rfl rfl (ZA ae)) rfl aB rfl ?_|refine bt (hab:=h0) ?_|apply ab|apply Qu|apply Qv|refine aj ?_|refine aA ?_|refine az ?_|refine be (h:=?_)|refine aM fun _=>?_|refine aJ ?_|refine Qy ?_|refine Qz ?_|apply Qx|apply Qw|(refine bu (q:=k*49) ?_)|(refine co (cs:=x.cells) (hF:=fun w h=>Items.get h.1.2 hx) ?_)|fail)
     exact ⟨(⟨k+1,hlt,A,cp,n,by rw [hs];exact hn,xs,by rw [hs];exact hxs⟩:IdsI I),(by show I.length-(k+1)<I.length-k;omega),aw ⟨rfl,rfl,rfl,rfl,rfl,trivial⟩ (.cons _ (aE _)) fun _ h=>h⟩
 have hkE:k=I.length:=by omega
 rw [hkE,List.take_length] at hn hxs
 subst hxs
 have hnb:n≤1000000000:=by have h1:=jq I;omega
 repeat' (first|refine am (bK false rfl rfl (Zn ae)) rfl aB rfl ?_|apply ab|apply Qu|apply Qv|refine aj ?_|refine ad ?_|refine aY ?_|refine Qz ?_|apply Qw|apply aQ|(refine nt (hc:=wZ hnb) (hX:=fun _ _=>trivial) ?_)|(refine sf (hc:=yu) (hX:=fun _ _=>trivial) ?_;rintro _ _ X2 ⟨A3,c3,rfl,rfl⟩;refine cq ?_)|fail)
 have hB:(compB (sortB (authI I))).length≤1000:=by
  have h1:=yt (sortB (authI I))
  have h2:=ul (authI I)
  have h3:=jq I
  omega
 generalize hids:compB (sortB (authI I))=ids at *
 clear hids hlt hk hnb hn
 refine aT (ι:=ChsI Q ids) (fun i=>⟨[(1,.pointer (some ⟨b1,0,none⟩)),(6,.slice i.A i.n i.c),(30,.slice A3 ids.length c3),(31,.int .i64 (ids.length:Nat)),(32,.int .i64 (i.k:Nat))],
  [cel b1 25 [ks.v,ki.v],orow 31 6 (.slice i.A i.n i.c) i.n i.xs],fun w=>(((Ints w ks L∧Items w ki I)∧Glob w)∧Strs w ⟨A3,ids.length,c3⟩ ids)∧∀ p∈i.M,p.1.at_ w∧Keyz w p.1.keys p.2⟩) (fun i=>ids.length-i.k) ⟨0,Nat.zero_le _,[],.nil,none,0,0,rfl,[],rfl⟩ ?_ fun i=>?_
 · exact aw ⟨rfl,rfl,rfl,rfl,rfl,trivial⟩ (.cons_cons _ (.cons_cons _ (ZR _))) fun w h=>⟨⟨h.1.1,nz h.2 rfl⟩,fun p hp=>absurd hp (by simp)⟩
 obtain ⟨k,hk,M,hM,A4,c4,n4,hn4,xs,hxs⟩:=i
 simp only
 have hMl:M.length=k:=by have:=hM.len;rw [List.length_take] at this;omega
 have hn4b:n4≤1000:=by have:=List.length_filter_le neK M;omega
 by_cases hlt:k<ids.length
 · refine bI (p:=A3.isSome=true) (fun w h=>h.1.2.some_ ae) fun hA3=>?_
   have hget:ids[k]?=some (ids.getD k .empty):=by rw [ZL,Zm hlt];rfl
   have hlt':=hlt
   generalize hxe:ids.getD k .empty=x at *
   repeat' (first|refine am (bK true rfl rfl (ZA ae)) rfl aB rfl ?_|apply ab|apply Qu|apply Qv|refine aj ?_|refine ad ?_|refine aA ?_|refine az ?_|refine aH ?_|refine cK ?_|refine aY ?_|refine be (h:=?_)|refine aM fun _=>?_|refine aJ ?_|refine Qy ?_|apply Qx|apply Qw|(refine bu (q:=k) ?_)|(refine dD (u:=.string x) (hF:=fun w h=>hxe▸Strs.get h.1.2 hlt') ?_)|(refine dA (hc:=hof x) (hX:=fun w h=>h.1.1) fun v X5 h5=>?_;obtain ⟨c,kl,hQ,rfl,hw5⟩:=h5;refine jX (p:=c.acts.n=c.actsL.length) (fun w h=>(hw5 w h.2).1.len_) fun hcn=>?_)|(refine bF (size:=6) (vs:=[c.v]) (css:=c.cells) (hsz:=by rfl) (hcs:=by rfl) fun _=>?_)|(refine aV (size:=6) (news:=c.cells) (q:=1) rfl rfl rfl rfl (fun _=>At.there _ (At.there _ (At.there _ (At.here _)))) (fun w G=>bo G aI rfl rfl 1) ae (by simp only [maxLen];omega) rfl ?_ rfl ?_;(with_reducible rfl);intro A2 c2)|(refine aG (ht:=?_) (hf:=?_);all_goals (intro hx_;first|have:=aP hx_|have:=aS hx_)))
   all_goals
    have hM2:All2 (fun id p=>Q id p.1 p.2) (ids.take (k+1)) (M++[(c,kl)]):=by
     rw [List.take_add_one,hget]
     exact hM.snoc hQ
    have hX2:∀ w,((((((Ints w ks L∧Items w ki I)∧Glob w)∧Strs w ⟨A3,ids.length,c3⟩ ids)∧∀ p∈M,p.1.at_ w∧Keyz w p.1.keys p.2)∧X5 w))→(((Ints w ks L∧Items w ki I)∧Glob w)∧Strs w ⟨A3,ids.length,c3⟩ ids)∧∀ p∈M++[(c,kl)],p.1.at_ w∧Keyz w p.1.keys p.2:=fun w h=>⟨h.1.1,fun p hp=>by
     rcases List.mem_append.1 hp with hp|hp
     · exact h.1.2 p hp
     · rw [List.mem_singleton.1 hp];exact hw5 w h.2⟩
   · have hf:(M++[(c,kl)]).filter neK=M.filter neK++[(c,kl)]:=by
      rw [List.filter_append]
      have:neK (c,kl)=true:=ZA (by show 0<c.actsL.length;omega)
      simp [this]
     exact ⟨(⟨k+1,hlt,M++[(c,kl)],hM2,A2,c2,n4+1,by rw [hf,ZX,←hn4];rfl,xs++c.cells,by rw [hf,hxs];simp⟩:ChsI Q ids),(by show ids.length-(k+1)<ids.length-k;omega),aw ⟨rfl,rfl,rfl,rfl,rfl,trivial⟩ (.cons _ (.cons _ (aE _))) hX2⟩
   · have hf:(M++[(c,kl)]).filter neK=M.filter neK:=by
      rw [List.filter_append]
      have:neK (c,kl)=false:=Zn (by show ¬ 0<c.actsL.length;omega)
      simp [this]
     exact ⟨(⟨k+1,hlt,M++[(c,kl)],hM2,A4,c4,n4,by rw [hf];exact hn4,xs,by rw [hf];exact hxs⟩:ChsI Q ids),(by show ids.length-(k+1)<ids.length-k;omega),aw ⟨rfl,rfl,rfl,rfl,rfl,trivial⟩ (.cons _ (aE _)) hX2⟩
 · have hkE:k=ids.length:=by omega
   rw [hkE,List.take_length] at hM
   subst hxs
   repeat' (first|refine am (bK false rfl rfl (Zn ae)) rfl aB rfl ?_|apply ab|apply Qu|apply Qv|refine aj ?_|refine ad ?_|refine Qz ?_|apply ar|apply aQ|fail)
   refine al (aq rfl rfl) ⟨⟨A4,n4,c4⟩,M,hM,rfl,fun w h=>⟨⟨?_,fun c hc=>?_⟩,fun p hp=>(h.1.2 p hp).2⟩⟩
   · exact cj (xs:=((M.filter neK).map Prod.fst).map ChainD.cells) (h.2 _ (.tail _ (.head _))) (by rw [Z3,Z3];exact hn4) fun r hr=>by
      obtain ⟨z,_,rfl⟩:=List.mem_map.1 hr
      rfl
   · obtain ⟨p,hp,rfl⟩:=List.mem_map.1 hc
     exact (h.1.2 p (List.mem_filter.1 hp).1).1
theorem Items.keep {w w':World} {s:SlV} {l:List ItemD} (h:Items w s l) (hs:∀ k,k<w.heap.size→w'.heap[k]?=w.heap[k]?):Items w' s l :=
 ⟨RowsD.keep h.1 hs,fun i hi=>⟨⟨RowsD.keep (h.2 i hi).1.1 hs,RowsD.keep (h.2 i hi).1.2 hs⟩,RowsD.keep (h.2 i hi).2 hs⟩⟩
theorem AY {α:Type} {f:α→ByteArray} {I:List α} (h:Asc (I.map f)) {x y:α} (hx:x∈I) (hy:y∈I) (e:f x=f y):x=y:=by
 obtain ⟨p,hp⟩:=List.mem_iff_getElem?.1 hx
 obtain ⟨q,hq⟩:=List.mem_iff_getElem?.1 hy
 have key:∀ {a b:Nat} {u v:α},I[a]?=some u→I[b]?=some v→f u=f v→¬ a<b:=fun {a b u v} h1 h2 e hab=>by
  have:=ow h hab (x:=f u) (y:=f v) (by rw [List.getElem?_map,h1];rfl) (by rw [List.getElem?_map,h2];rfl)
  rw [e,fU] at this
  cases this
 rcases Nat.lt_trichotomy p q with h1|rfl|h1
 · exact absurd h1 (key hp hq e)
 · exact Option.some.inj (hp.symm.trans hq)
 · exact absurd h1 (key hq hp e.symm)
theorem fF {I:List ItemD} {au:ByteArray} {a:ActD} (h:a∈selA au rightIt I):∃ i∈I,i.act=a∧i.kind=0∧rightIt i=true∧digIt i=digV a∧a.author=au:=by
 rw [selA] at h
 obtain ⟨i,hi,rfl⟩:=List.mem_map.1 h
 obtain ⟨h1,h2⟩:=List.mem_filter.1 hi
 rw [selB,ZM,wantA,ZM,ZT,seqB_iff] at h2
 exact ⟨i,h1,rfl,h2.1.1,h2.2,ve h2.1.1 h2.2,h2.1.2⟩
theorem AO {L:List Int} {I:List ItemD} (h:KnR L I) {au au':ByteArray} {a b:ActD} (ha:a∈selA au rightIt I) (hb:b∈selA au' rightIt I) (e:digV a=digV b):a=b:=by
 obtain ⟨i,hi,rfl,_,_,e1,_⟩:=fF ha
 obtain ⟨j,hj,rfl,_,_,e2,_⟩:=fF hb
 rw [AY h.asc hi hj (by rw [e1,e2,e])]
theorem xU {l:List ActD} (hd:∀ a∈l,∀ b∈l,digV a=digV b→a=b) (hs:∀ (i:Nat) (x:ActD),l[i]?=some x→x.seq=(i:Int)) {n:Nat} {x:ActD} (hx:l[n]?=some x):idxV l (digV x)=some n:=by
 obtain ⟨hn,e⟩:=List.getElem?_eq_some_iff.1 hx
 rw [idxV,List.findIdx?_eq_some_iff_getElem]
 refine ⟨hn,by rw [e];exact bL _,fun j hj hc=>?_⟩
 have h1:=seqB_iff.1 hc
 have h2:=hd _ (Qh ae) x (List.mem_of_getElem? hx) h1
 have h3:=hs j _ (Zm ae)
 have h4:=hs n x hx
 rw [h2] at h3
 omega
theorem Ac {P:Program} {f:FuncId} {args:Array Value} {X:World→Prop} {Φ Ψ:Value→(World→Prop)→Prop} (h:Mk P f args X Φ) (hi:∀ u X',Φ u X'→Ψ u X'):Mk P f args X Ψ:=by
 unfold Mk at *
 exact h.mono fun u R X' h1=>⟨hi u X' h1.1,h1.2⟩
def QK (L:List Int) (I:List ItemD) (au:ByteArray) (c:ChainD) (kl:List KeyD):Prop :=
 ∃ (A:List ActD) (sa sk:SlV) (st:ChS) (fork:Bool),A.Perm (selA au rightIt I)∧OfRes ((OfWK L.length I au).at A) st fork∧c=⟨au,sa,sk,st.prev,(st.gen:Nat),fork,st.acts⟩∧kl=st.keys
theorem sG (ks ki:SlV) {L:List Int} {I:List ItemD} (h:KnR L I) (au:ByteArray) :
  Mk Tryz.prog 9 #[.agg #[ks.v,ki.v],.string au] (fun w=>(Ints w ks L∧Items w ki I)∧Glob w) (OfQ (QK L I) au) :=
 Ac (BV mx ks ki h au) fun u X ⟨A,sa,sk,st,fork,h1,h2,h3,h4⟩=>⟨⟨au,sa,sk,st.prev,(st.gen:Nat),fork,st.acts⟩,st.keys,⟨A,sa,sk,st,fork,h1,h2,rfl,rfl⟩,h3,h4⟩
structure ChGood (c:ChainD) (kl:List KeyD):Prop where
 ok:ActsOk c.actsL
 len:c.actsL.length≤100
 klen:kl.length≤1000
 seq:∀ (i:Nat) (x:ActD),c.actsL[i]?=some x→x.seq=(i:Int)
 fit:∀ (n:Nat) (x:ActD),1≤n→c.actsL[n]?=some x→∀ d:ChainD,d.id=c.id→d.acts.n=n→d.prev=x.prev→d.actsL=c.actsL.take n→fitsV d x (idxV d.actsL x.object)=true
 key0:0<c.actsL.length→∃ k r,kl=k::r∧k.from_=0
 own:∀ (n:Nat) (x:ActD),c.actsL[n]?=some x→idxV c.actsL (digV x)=some n
theorem sW {W:OfW} (hB:∀ g c,W.won g=some c→g<W.B) {a:ActD} (ha:a∈firstL W):InvS W (finS W a) :=
 nD (P:=InvS W) (fun st s h hs=>(ig hB h hs).1) _ _ (oq ha).1
theorem oT (au:ByteArray) (I:List ItemD):(selA au rightIt I).length≤I.length:=by rw [selA,Z3];exact List.length_filter_le _ _
theorem sT {L:List Int} {I:List ItemD} (h:KnR L I) {au:ByteArray} {c:ChainD} {kl:List KeyD} (q:QK L I au c kl):ChGood c kl:=by
 obtain ⟨A,sa,sk,st,fork,hA,hR,rfl,rfl⟩:=q
 have hAl:A.length≤100:=by have h1:=hA.length_eq;have h2:=oT au I;have h3:=h.len;omega
 have hAm:∀ a∈A,a∈selA au rightIt I:=fun a ha=>hA.subset ha
 rw [OfRes] at hR
 cases ho:oneA (firstL ((OfWK L.length I au).at A)) with
 | none =>
  rw [ho] at hR
  obtain ⟨rfl,rfl⟩:=hR
  exact ⟨⟨fun a ha=>absurd ha (by simp),fun a ha=>absurd ha (by simp)⟩,by simp,by simp,fun i x hx=>by simp at hx,fun n x _ hx=>by simp at hx,fun hl=>by simp at hl,fun n x hx=>by simp at hx⟩
 | some a =>
  rw [ho] at hR
  obtain ⟨rfl,rfl⟩:=hR
  have ha:a∈firstL ((OfWK L.length I au).at A):=by rw [fM ho];exact List.mem_singleton.2 rfl
  have hF:=AK ha
  have hB:∀ g c,((OfWK L.length I au).at A).won g=some c→g<((OfWK L.length I au).at A).B:=fun g c hw=>(fB hw).1
  have hI:=sW hB ha
  have hg:=od L.length I au
  have hcl:(claimsV I au).length≤I.length:=by rw [claimsV,selC,Z3];exact List.length_filter_le _ _
  have hIl:=h.len
  have h1:=hI.len
  have h2:=hI.keyn
  have h3:(finS ((OfWK L.length I au).at A) a).gen≤genB L.length I au:=hI.gen
  have h4:(finS ((OfWK L.length I au).at A) a).acts.length≤A.length:=h1
  have hmem:∀ x∈(finS ((OfWK L.length I au).at A) a).acts,x∈selA au rightIt I:=fun x hx=>hAm x (hF.mem x hx)
  refine ⟨⟨fun x hx=>?_,fun x hx=>?_⟩,by show (finS ((OfWK L.length I au).at A) a).acts.length≤100;omega,by omega,hF.seq,fun n x hn hx d e1 e2 e3 e4=>?_,fun _=>hF.key0,fun n x hx=>?_⟩
  · obtain ⟨i,hi,rfl,_⟩:=fF (hmem x hx)
    exact h.rng i hi
  · obtain ⟨i,hi,rfl,_⟩:=fF (hmem x hx)
    exact h.sm i hi
  · have h5:=hF.fit n x hx hn
    rw [e4]
    rw [←h5]
    refine jg e1 ?_ e3 e4
    rw [e2]
    show n=((finS ((OfWK L.length I au).at A) a).acts.take n).length
    rw [List.length_take]
    obtain ⟨hlt,_⟩:=List.getElem?_eq_some_iff.1 hx
    change n<(finS ((OfWK L.length I au).at A) a).acts.length at hlt
    omega
  · exact xU (fun x hx y hy e=>AO h (hmem x hx) (hmem y hy) e) hF.seq hx
theorem sO:KnR [] []:=⟨by simp,by simp,fun i hi=>absurd hi (by simp),fun i hi=>absurd hi (by simp),fun i hi=>absurd hi (by simp),fun i hi=>absurd hi (by simp),List.Pairwise.nil⟩
theorem BT {au:ByteArray} {c:ChainD} {kl:List KeyD} (q:QK [] [] au c kl):c.actsL=[]∧kl=[]∧c.prev=⟨#[]⟩∧c.gen=0∧c.fork=false∧c.id=au:=by
 obtain ⟨A,sa,sk,st,fork,hA,hR,rfl,rfl⟩:=q
 obtain rfl:A=[]:=List.Perm.eq_nil hA
 obtain ⟨rfl,rfl⟩:st=⟨[],[],⟨#[]⟩,0⟩∧fork=false:=hR
 exact ⟨rfl,rfl,rfl,rfl,rfl,rfl⟩
inductive Lead (W:OfW) (f:ChS):ChS→Prop
 | done:stepS W f=none→Lead W f f
 | step {st s:ChS}:stepS W st=some s→Lead W f s→Lead W f st
theorem pN {W:OfW} (hB:∀ g c,W.won g=some c→g<W.B):∀ (n:Nat) (st:ChS),InvS W st→muS W st≤n→Lead W (runS W n st) st
 | 0,st,h,hm=>by
  cases hs:stepS W st with
  | none=>exact .done hs
  | some s=>have:=(ig hB h hs).2;omega
 | n+1,st,h,hm=>by
  cases hs:stepS W st with
  | none=>rw [k0 hs];exact .done hs
  | some s =>
   obtain ⟨h1,h2⟩:=ig hB h hs
   rw [k7 hs]
   exact .step hs (pN hB n s h1 ae)
theorem wX {W:OfW} {st s:ChS} (h:stepS W st=some s):∃ M K,s.acts=st.acts++M∧s.keys=st.keys++K∧∀ k∈K,(st.acts.length:Int)≤k.from_:=by
 rcases gk h with h1|⟨h1,a,h2,rfl⟩
 · obtain ⟨c,i,e1,e2,e3,e4,e5,rfl⟩:=iW h1
   exact ⟨[],[_],(Z9 _).symm,rfl,fun k hk=>by rw [List.mem_singleton.1 hk];exact Int.le_refl _⟩
 · refine ⟨[a],bif decide (a.kind=18) then [⟨((st.acts.length+1:Nat):Int),a.n,a.m⟩] else [],rfl,?_,fun k hk=>?_⟩
   · show (bif decide (a.kind=18) then st.keys++[_] else st.keys)=_
     cases decide (a.kind=18) with
     | true=>rfl
     | false=>exact (Z9 _).symm
   · cases hd:decide (a.kind=18) with
     | true=>rw [hd,ZC] at hk;rw [List.mem_singleton.1 hk];show (st.acts.length:Int)≤((st.acts.length+1:Nat):Int);omega
     | false=>rw [hd,ZB] at hk;exact (List.not_mem_nil hk).elim
theorem Lead.ext {W:OfW} {f st:ChS} (h:Lead W f st):∃ M K,f.acts=st.acts++M∧f.keys=st.keys++K∧∀ k∈K,(st.acts.length:Int)≤k.from_:=by
 induction h with
 | done h=>exact ⟨[],[],(Z9 _).symm,(Z9 _).symm,fun k hk=>(List.not_mem_nil hk).elim⟩
 | step h _ ih =>
  obtain ⟨M1,K1,a1,k1,f1⟩:=wX h
  obtain ⟨M2,K2,a2,k2,f2⟩:=ih
  refine ⟨M1++M2,K1++K2,by rw [a2,a1,ZZ],by rw [k2,k1,ZZ],fun k hk=>?_⟩
  rcases List.mem_append.1 hk with hk|hk
  · exact f1 k hk
  · have:=f2 k hk
    rw [a1,ZX] at this
    omega
structure HolS (st:ChS):Prop where
 one:0<st.acts.length
 key:0<st.keys.length
 from_:∀ k∈st.keys,k.from_≤(st.acts.length:Int)
 mov:∀ a,st.acts[st.acts.length-1]?=some a→a.kind=18→∃ k,st.keys[st.keys.length-1]?=some k∧k.from_=(st.acts.length:Int)
theorem xW {st:ChS} (h:HolS st) (x:KeyD) (hx:x.from_=(st.acts.length:Int)) (p:ByteArray) (g:Nat):HolS ⟨st.acts,st.keys++[x],p,g⟩ :=
 ⟨h.one,by simp,fun k hk=>by
  rcases List.mem_append.1 hk with hk|hk
  · exact h.from_ k hk
  · rw [List.mem_singleton.1 hk,hx];exact Int.le_refl _,fun a _ _=>⟨x,by simp,hx⟩⟩
theorem uT {α:Type} (l:List α) (x:α):(l++[x])[(l++[x]).length-1]?=some x:=by
 rw [ZX,List.length_singleton,Nat.add_sub_cancel,Qm (Qp _),Nat.sub_self]
 rfl
theorem xX {st:ChS} (h:HolS st) (a:ActD):HolS (addS st a):=by
 have hal:(addS st a).acts.length=st.acts.length+1:=by simp [addS]
 refine ⟨by omega,Z6 h.key (mY st a).1,fun k hk=>?_,fun b hb hk=>?_⟩
 · rw [hal]
   change k∈(bif decide (a.kind=18) then st.keys++[_] else st.keys) at hk
   cases hd:decide (a.kind=18) with
   | true =>
    rw [hd,ZC] at hk
    rcases List.mem_append.1 hk with hk|hk
    · have:=h.from_ k hk;omega
    · rw [List.mem_singleton.1 hk];exact Int.le_refl _
   | false=>rw [hd,ZB] at hk;have:=h.from_ k hk;omega
 · rw [hal,Nat.add_sub_cancel] at hb
   change (st.acts++[a])[st.acts.length]?=some b at hb
   rw [Qm (Qp _),Nat.sub_self] at hb
   obtain rfl:a=b:=Option.some.inj hb
   have e:(addS st a).keys=st.keys++[⟨((st.acts.length+1:Nat):Int),a.n,a.m⟩]:=by
    show (bif decide (a.kind=18) then _ else _)=_
    rw [ZA hk,ZC]
   rw [e,hal]
   exact ⟨⟨((st.acts.length+1:Nat):Int),a.n,a.m⟩,uT _ _,rfl⟩
theorem AV {a:ActD} (h:begS a=⟨[a],[⟨0,a.n,a.m⟩],digV a,0⟩) (hk:a.kind=0):HolS (begS a):=by
 rw [h]
 refine ⟨Nat.one_pos,Nat.one_pos,fun k hk=>?_,fun b hb h18=>?_⟩
 · rw [List.mem_singleton.1 hk];exact Int.natCast_nonneg _
 · obtain rfl:a=b:=Option.some.inj hb
   rw [hk] at h18
   exact absurd h18 (by decide)
inductive Scan (W:OfW) (f:ChS):Nat→Nat→ByteArray→Nat→Prop
 | init {a:ActD}:a∈firstL W→Lead W f (begS a)→Scan W f 0 1 ⟨#[]⟩ 0
 | full {st:ChS}:HolS st→Lead W f st→Scan W f st.acts.length st.keys.length st.prev st.gen
 | pend {st:ChS} {j:Nat} {a:ActD} {y:KeyD}:HolS st→Lead W f st→st.keys.length=j+1→st.acts[st.acts.length-1]?=some a→a.kind=18→st.keys[j]?=some ⟨(st.acts.length:Nat),a.n,a.m⟩→0<j→st.keys[j-1]?=some y→y.from_<(st.acts.length:Int)→Scan W f st.acts.length j st.prev st.gen
def MovK (W:OfW) (f:ChS) (i j:Nat) (p:ByteArray) (g:Nat) (x:KeyD):Prop :=
 ∃ a y,f.acts[i-1]?=some a∧a.kind=18∧a.n=x.public_∧a.m=x.home∧0<j∧f.keys[j-1]?=some y∧y.from_<(i:Int)∧Scan W f i (j+1) p g
def ClmK (W:OfW) (f:ChS) (i j:Nat) (p:ByteArray) (g:Nat) (x:KeyD):Prop :=
 (∃ c q,W.won g=some c∧c.base=(i:Int)∧c.pub=x.public_∧c.home=x.home∧c.prev=p∧setI (f.acts.take i) i=some q∧W.clm (f.acts.getD q ActD.zero).m c=true∧Scan W f i (j+1) (W.dgC c) (g+1)) ∧
 0<j∧∃ a y,f.acts[i-1]?=some a∧f.keys[j-1]?=some y∧(a.kind=18→y.from_=(i:Int))
def ActK (W:OfW) (f:ChS) (i j:Nat) (p:ByteArray) (g:Nat) (a:ActD):Prop :=
 a∈W.L∧a.seq=(i:Int)∧a.prev=p∧(i=0→a.kind=0∧a.prev=⟨#[]⟩)∧(∃ y,(cutK f.keys i).getLast?=some y∧W.ver y.public_ a=true)∧Scan W f (i+1) j (digV a) g
theorem ta {kl K:List KeyD} {i:Nat} (h1:∀ k∈kl,k.from_≤(i:Int)) (h2:∀ k∈K,(i:Int)+1≤k.from_):cutK (kl++K) i=kl:=by
 rw [cutK,List.filter_append,List.filter_eq_self.2 fun k hk=>ZA (h1 k hk),List.filter_eq_nil_iff.2 fun k hk=>by have:=h2 k hk;rw [ZT];omega,Z9]
theorem xQ {st:ChS} (h:0<st.keys.length):∃ y,st.keys.getLast?=some y∧y.public_=st.key:=by
 refine ⟨_,List.getLast?_eq_getElem? ..▸Zm ae,?_⟩
 rw [ChS.key,ZL,Zm (by omega)]
 rfl
theorem Scan.next {W:OfW} {f:ChS} {i j:Nat} {p:ByteArray} {g:Nat} (h:Scan W f i j p g) :
  (∃ x,f.keys[j]?=some x∧x.from_=(i:Int)∧1≤i∧i≤f.acts.length∧(MovK W f i j p g x∨ClmK W f i j p g x)) ∨
  ((∀ x,f.keys[j]?=some x→x.from_≠(i:Int))∧∃ a,f.acts[i]?=some a∧ActK W f i j p g a) ∨
  (i=f.acts.length∧j=f.keys.length∧p=f.prev∧g=f.gen∧stepS W f=none):=by
 cases h with
 | @init a ha hl =>
  obtain ⟨e,m1,m2,m3,m4,m5,m6⟩:=ry ha
  have hs:=Scan.full (AV e m4) hl
  obtain ⟨M,K,h1,h2,h3⟩:=hl.ext
  rw [e] at h1 h2 h3 hs
  refine .inr (.inl ⟨fun x hx=>?_,a,by rw [h1];rfl,m1,m2,m3,fun _=>⟨m4,m3⟩,⟨⟨0,a.n,a.m⟩,?_,m6⟩,hs⟩)
  · rw [h2] at hx
    have:=h3 x (List.mem_of_getElem? (show K[0]?=some x from hx))
    simp only [List.length_singleton] at this
    omega
  · rw [h2,ta (fun k hk=>by rw [List.mem_singleton.1 hk];exact Int.le_refl _) fun k hk=>by have:=h3 k hk;simp only [List.length_singleton] at this;omega]
    rfl
 | @pend st _ a y hh hl hj ha hk hx h0 hy hf =>
  obtain ⟨M,K,h1,h2,h3⟩:=hl.ext
  have hs:=Scan.full hh hl
  rw [hj] at hs
  have h5:=hh.one
  refine .inl ⟨_,by rw [h2,Z4 (by omega)];exact hx,rfl,by omega,by rw [h1,ZX];omega,.inl ⟨a,y,by rw [h1,Z4 (by omega)];exact ha,hk,rfl,rfl,h0,by rw [h2,Z4 (by omega)];exact hy,hf,hs⟩⟩
 | @full st hh hl =>
  have h5:=hh.one
  have h6:=hh.key
  cases hl with
  | done hd=>exact .inr (.inr ⟨rfl,rfl,rfl,rfl,hd⟩)
  | @step _ s hst hl =>
   obtain ⟨M,K,h1,h2,h3⟩:=hl.ext
   rcases gk hst with hr|⟨hr,a,hc,rfl⟩
   · obtain ⟨c,q,e1,e2,e3,e4,e5,rfl⟩:=iW hr
     have hs:=Scan.full (xW hh ⟨(st.acts.length:Nat),c.pub,c.home⟩ rfl (W.dgC c) (st.gen+1)) hl
     have hkl:(st.keys++[(⟨(st.acts.length:Nat),c.pub,c.home⟩:KeyD)]).length=st.keys.length+1:=by simp
     simp only at h1 h2 h3 hs
     rw [hkl] at hs
     have hq:q<st.acts.length:=by
      have:∀ (l:List ActD) (n q:Nat),setI l n=some q→q<n:=fun l n=>by
       induction n with
       | zero=>intro q h;cases h
       | succ n ih =>
        intro q h
        rw [setI] at h
        cases hd:decide ((l.getD n ActD.zero).kind=19) with
        | true=>rw [hd,ZC] at h;rw [←Option.some.inj h];omega
        | false=>rw [hd,ZB] at h;have:=ih q h;omega
      exact this _ _ _ e4
     refine .inl ⟨⟨(st.acts.length:Nat),c.pub,c.home⟩,by rw [h2,ZZ,Qm (Qp _),Nat.sub_self];rfl,rfl,h5,by rw [h1,ZX];omega,.inr ⟨⟨c,q,e1,e2,rfl,rfl,e3,by rw [h1,List.take_left];exact e4,?_,hs⟩,h6,?_⟩⟩
     · rw [h1,ZL,Z4 hq,←ZL]
       exact e5
     · refine ⟨_,_,by rw [h1,Z4 (by omega)];exact Zm ae,by rw [h2,ZZ,Z4 (by omega)];exact Zm ae,fun h18=>?_⟩
       obtain ⟨k,hk1,hk2⟩:=hh.mov _ (Zm ae) h18
       rw [Zm (by omega)] at hk1
       rw [Option.some.inj hk1,hk2]
   · have ha:a∈candL W st:=by rw [hc];exact List.mem_singleton.2 rfl
     obtain ⟨m1,m2,m3⟩:=iE ha
     have hp:a.prev=st.prev:=by
      rw [candL,List.mem_filter,List.mem_filter,posB,ZM,seqB_iff] at ha
      exact ha.1.2.2
     rw [candB,ZM] at m3
     have hal:(addS st a).acts=st.acts++[a]:=rfl
     obtain ⟨K1,hk1,hk2⟩:∃ K1,(addS st a).keys=st.keys++K1∧∀ k∈K1,(st.acts.length:Int)+1≤k.from_:=by
      refine ⟨bif decide (a.kind=18) then [⟨((st.acts.length+1:Nat):Int),a.n,a.m⟩] else [],?_,fun k hk=>?_⟩
      · show (bif decide (a.kind=18) then st.keys++[_] else st.keys)=_
        cases decide (a.kind=18) with
        | true=>rfl
        | false=>exact (Z9 _).symm
      · cases hd:decide (a.kind=18) with
        | true=>rw [hd,ZC] at hk;rw [List.mem_singleton.1 hk];show (st.acts.length:Int)+1≤((st.acts.length+1:Nat):Int);omega
        | false=>rw [hd,ZB] at hk;exact (List.not_mem_nil hk).elim
     have hK:∀ k∈K1++K,(st.acts.length:Int)+1≤k.from_:=fun k hk=>by
      rcases List.mem_append.1 hk with hk|hk
      · exact hk2 k hk
      · have:=h3 k hk
        rw [hal,ZX,List.length_singleton] at this
        omega
     have hfk:f.keys=st.keys++(K1++K):=by rw [h2,hk1,ZZ]
     obtain ⟨y,hy1,hy2⟩:=xQ h6
     refine .inr (.inl ⟨fun x hx=>?_,a,by rw [h1,hal,ZZ,Qm (Qp _),Nat.sub_self];rfl,m1,m2,hp,fun h0=>by omega,⟨y,by rw [hfk,ta hh.from_ hK];exact hy1,by rw [hy2];exact m3.2⟩,?_⟩)
     · rw [hfk,Qm (Qp _),Nat.sub_self] at hx
       have:=hK x (List.mem_of_getElem? hx)
       omega
     · have hh':=xX hh a
       have hlen:(addS st a).acts.length=st.acts.length+1:=by rw [hal];simp
       cases hd:decide (a.kind=18) with
       | false =>
        have e:(addS st a).keys=st.keys:=by
         show (bif decide (a.kind=18) then _ else _)=_
         rw [hd,ZB]
        have hs:=Scan.full hh' hl
        rw [hlen,e] at hs
        exact hs
       | true =>
        have e:(addS st a).keys=st.keys++[⟨((st.acts.length+1:Nat):Int),a.n,a.m⟩]:=by
         show (bif decide (a.kind=18) then _ else _)=_
         rw [hd,ZC]
        have hs:=Scan.pend (j:=st.keys.length) (a:=a) (y:=st.keys[st.keys.length-1]'(by omega)) hh' hl (by rw [e];simp) (by rw [hlen,hal];simp) (aP hd) (by rw [e,hlen];simp) h6 (by rw [e,Z4 (by omega)];exact Zm ae) (by
         have:=hh.from_ _ (Qh (show st.keys.length-1<st.keys.length by omega))
         rw [hlen]
         omega)
        rw [hlen] at hs
        exact hs
theorem zT {L:List Int} {I:List ItemD} (h:KnR L I) {au:ByteArray} {c:ChainD} {kl:List KeyD} (q:QK L I au c kl) (h0:0<c.actsL.length) :
  ∃ (A:List ActD) (f:ChS) (a:ActD),A.Perm (selA au rightIt I)∧c.actsL=f.acts∧kl=f.keys∧c.prev=f.prev∧c.gen=(f.gen:Int)∧c.id=au∧c.fork=decide (1<(candL ((OfWK L.length I au).at A) f).length) ∧
   Scan ((OfWK L.length I au).at A) f 0 1 ⟨#[]⟩ 0∧f.acts[0]?=some a∧f.keys[0]?=some ⟨0,a.n,a.m⟩∧idV a.n=au∧a.prev=⟨#[]⟩:=by
 obtain ⟨A,sa,sk,st,fork,hA,hR,rfl,rfl⟩:=q
 rw [OfRes] at hR
 cases ho:oneA (firstL ((OfWK L.length I au).at A)) with
 | none =>
  rw [ho] at hR
  obtain ⟨rfl,rfl⟩:=hR
  exact absurd h0 (by simp)
 | some a =>
  rw [ho] at hR
  obtain ⟨rfl,rfl⟩:=hR
  have ha:a∈firstL ((OfWK L.length I au).at A):=by rw [fM ho];exact List.mem_singleton.2 rfl
  have hB:∀ g c,((OfWK L.length I au).at A).won g=some c→g<((OfWK L.length I au).at A).B:=fun g c hw=>(fB hw).1
  obtain ⟨hi,hm⟩:=oq ha
  have hl:Lead ((OfWK L.length I au).at A) (finS ((OfWK L.length I au).at A) a) (begS a):=pN hB _ _ hi ae
  obtain ⟨e,m1,m2,m3,m4,m5,m6⟩:=ry ha
  obtain ⟨M,K,h1,h2,h3⟩:=hl.ext
  rw [e] at h1 h2
  exact ⟨A,_,a,hA,rfl,rfl,rfl,rfl,rfl,rfl,.init ha hl,by rw [h1];rfl,by rw [h2];rfl,m5,m3⟩
theorem zU {L:List Int} {I:List ItemD} {au:ByteArray} {c:ChainD} {kl:List KeyD} (h:KnR L I) (q:QK L I au c kl) (h0:c.actsL.length=0):kl=[]∧c.prev=⟨#[]⟩∧c.gen=0∧c.id=au:=by
 obtain ⟨A,sa,sk,st,fork,hA,hR,rfl,rfl⟩:=q
 rw [OfRes] at hR
 cases ho:oneA (firstL ((OfWK L.length I au).at A)) with
 | none =>
  rw [ho] at hR
  obtain ⟨rfl,rfl⟩:=hR
  exact ⟨rfl,rfl,rfl,rfl⟩
 | some a =>
  rw [ho] at hR
  obtain ⟨rfl,rfl⟩:=hR
  have ha:a∈firstL ((OfWK L.length I au).at A):=by rw [fM ho];exact List.mem_singleton.2 rfl
  have hB:∀ g c,((OfWK L.length I au).at A).won g=some c→g<((OfWK L.length I au).at A).B:=fun g c hw=>(fB hw).1
  have:=(sW hB ha).one
  exact absurd h0 (by show (finS _ a).acts.length≠0;omega)
theorem wW {W:OfW} {f:ChS} (h:stepS W f=none):(candL W f).length≠1:=by
 intro e
 rw [stepS] at h
 cases hr:regS W f with
 | some s=>rw [hr] at h;cases h
 | none =>
  rw [hr] at h
  cases hc:candL W f with
  | nil=>rw [hc] at e;cases e
  | cons a r=>cases r with
   | nil=>rw [hc] at h;cases h
   | cons b r=>rw [hc,ZY,ZY] at e;omega
def nextB (c:ChainD) (p:Int) (a:ActD):Bool:=fitsV c a (idxV c.actsL a.object)&&verV p a
theorem rt {L:List Int} {I:List ItemD} {au:ByteArray} {A A':List ActD} (hA:A.Perm (selA au rightIt I)) (hA':A'.Perm (selA au rightIt I)) {c:ChainD} {f:ChS} (e1:c.actsL=f.acts) (e2:c.prev=f.prev) (e3:c.id=au) (e4:c.acts.n=c.actsL.length) :
  (A'.filter (nextB c f.key)).length=(candL ((OfWK L.length I au).at A) f).length:=by
 rw [((hA'.trans hA.symm).filter _).length_eq,candL,List.filter_filter]
 congr 1
 refine List.filter_congr fun a _=>?_
 have hf:fitsV (f.ch au) a (idxV f.acts a.object)=fitsV c a (idxV c.actsL a.object):=by
  rw [e1]
  exact jg e3.symm (by show f.acts.length=c.acts.n;rw [e4,e1]) e2.symm e1.symm
 show nextB c f.key a=(candB _ f a&&posB _ _ a)
 have hc:candB ((OfWK L.length I au).at A) f a=nextB c f.key a:=by
  show (fitsV (f.ch au) a (idxV f.acts a.object)&&verV f.key a)=_
  rw [hf]
  rfl
 rw [hc]
 cases hn:nextB c f.key a with
 | false=>rfl
 | true =>
  rw [nextB,ZM] at hn
  have h1:=hn.1
  rw [fitsV] at h1
  cases hb:!rightB a||!seqB a.author c.id||!decide (a.seq=(c.acts.n:Int))||!seqB a.prev c.prev with
  | true=>rw [hb] at h1;cases h1
  | false =>
   simp only [Bool.or_eq_false_iff,Bool.not_eq_false',ZT] at hb
   rw [posB,ZD,←e2,hb.2,ZE]
   exact (ZA (by rw [hb.1.2,e4,e1])).symm
theorem xR {f:ChS} {y:KeyD} (h:f.keys[f.keys.length-1]?=some y):y.public_=f.key:=by
 rw [ChS.key,ZL,h]
 rfl
def pubS (l:List ActD) (n:Nat):Int:=match setI l n with
 | none=>0
 | some q=>(l.getD q ActD.zero).m
theorem mz (l:List ActD) (i:Nat):∀ n,n≤i→setI (l.take i) n=setI l n
 | 0,_=>rfl
 | n+1,h=>by
  have e:(l.take i).getD n ActD.zero=l.getD n ActD.zero:=by rw [ZL,ZL,List.getElem?_take,Qf (by omega)]
  rw [setI,setI,e,mz l i n (by omega)]
theorem uI {l:List ActD} {n:Nat} {a:ActD} (h:l[n]?=some a):pubS l (n+1)=if a.kind=19 then a.m else pubS l n:=by
 have e:l.getD n ActD.zero=a:=by rw [ZL,h];rfl
 rw [pubS,setI,e]
 by_cases hk:a.kind=19
 · rw [ZA hk,ZC,Qf hk]
   show (l.getD n ActD.zero).m=_
   rw [e]
 · rw [Zn hk,ZB,Qg hk,pubS]
theorem rl {a:ActD} {au:ByteArray} (h1:rightB a=true) (h2:a.author=au) (h3:a.seq=0) (h4:a.prev=⟨#[]⟩) (h5:a.kind=0):fitsV ⟨au,⟨none,0,0⟩,⟨none,0,0⟩,⟨#[]⟩,0,false,[]⟩ a (idxV [] a.object)=true:=by
 rw [fitsV,h1,h2,h3,h4,h5]
 simp [bL]
structure DistS (W:OfW):Prop where
 ac:∀ x∈W.L,∀ g c,W.won g=some c→digV x≠W.dgC c
 cc:∀ g g' c c',W.won g=some c→W.won g'=some c'→W.dgC c=W.dgC c'→g=g'
structure KeyS (s:ChS):Prop where
 len:s.keys.length=1+movN s.acts+s.gen
 le:∀ k∈s.keys,k.from_≤(s.acts.length:Int)
end Go.Proofs.YtcdilibijnboeaaGreatDoor
namespace Go.Proofs.YtcdilibijnboeaaGreatDoor
open Go Go.Proofs Sy
section
variable {P:Program} {N:Nat} {av bor:List Nat} {w0:World} {x y:Operand} {t t2:TypeId} {ty:TypeId} {st:St}
end
structure AddI (I:List ItemD) where
 k:Nat
 hk:k≤I.length
end Go.Proofs.YtcdilibijnboeaaGreatDoor
namespace Go.Proofs.YtcdilibijnboeaaGreatDoor
open Go Go.Proofs Sy Go.Shelf
namespace Rf4
theorem Cq (m x:Nat) (hm:m≤64):shrV .u64 (x:Int) (m:Int)=((x/2 ^ m:Nat):Int):=by
 show (x:Int).fdiv (2 ^ (min (m:Int).toNat 64))=_
 rw [Qr,Nat.min_eq_left hm,show (2:Int) ^ m=((2 ^ m:Nat):Int) by rw [Int.natCast_pow];rfl,←Int.ofNat_fdiv]
theorem gE {p:Nat} (h:p<18446744073709551616):IntKind.u64.wrap (p:Int)=(p:Int):=by
 simp [IntKind.wrap,IntKind.signed,IntKind.bits]
 omega
theorem CB (m x:Nat) (hm:m≤62) (hx:x<18446744073709551616):bitsV .and .u64 (x:Int) (((2 ^ m-1:Nat)):Int)=((x%2 ^ m:Nat):Int):=by
 show IntKind.u64.wrap ((((BitVec.ofInt 64 (x:Int)) &&& (BitVec.ofInt 64 (((2 ^ m-1:Nat)):Int))).toNat:Nat):Int)=_
 have h1:2 ^ m≤2 ^ 62:=Nat.pow_le_pow_right (by decide) hm
 have h2:0<2 ^ m:=Nat.two_pow_pos m
 rw [BitVec.toNat_and,BitVec.ofInt_natCast,BitVec.ofInt_natCast,BitVec.toNat_ofNat,BitVec.toNat_ofNat,Z0 (show x<2 ^ 64 by omega),Z0 (show 2 ^ m-1<2 ^ 64 by omega),Nat.and_two_pow_sub_one_eq_mod]
 exact gE (by have:=Nat.mod_lt x h2;omega)
theorem Cu (m x:Nat) (hm:m≤64) (hx:x*2 ^ m<18446744073709551616):shlV .u64 (x:Int) (m:Int)=((x*2 ^ m:Nat):Int):=by
 show IntKind.u64.wrap ((x:Int)*2 ^ (min (m:Int).toNat 64))=_
 rw [Qr,Nat.min_eq_left hm,show (x:Int)*(2:Int) ^ m=((x*2 ^ m:Nat):Int) by rw [Int.natCast_mul,Int.natCast_pow];rfl]
 exact gE hx
section
variable {N:Nat} {av bor:List Nat} {w0:World} {st:St} {ty:TypeId} {x y:Operand} {E:Env} {loc:List Res} {X:World→Prop} {ops:Array Oper} {kk k:St→Prop} {pos:String} {af:Array Edge} {g:Option (Nat×Bool)} {rest:List Oper} {bb want:Bool} {n:Nat} {t t2:TypeId} {d:Option Tmp}
theorem nj {k':IntKind} (m r:Nat) {p:Nat} (hx:ev E x=some (.int .u64 (p:Nat)):=by rfl) (hy:ev E y=some (.int k' (m:Int)):=by rfl) (hm:m≤64∧p/2 ^ m=r) (hg:gdB ops E g=some (bb,want):=by rfl) (hbb:bb=want:=by exact aB) (hd:Nat.blt n N=true:=by rfl) (h:Sw Tryz.prog N av bor w0 ops rest ⟨(n,.int .u64 (r:Nat))::E,loc,X⟩ k) :
  Sw Tryz.prog N av bor w0 ops (⟨some n,.binOp .shr t x y t2,ty,pos,af,g⟩::rest) ⟨E,loc,X⟩ k:=fe hx hy ae hg hbb hd (by rw [Cq m p hm.1,hm.2];exact h)
theorem nq (m r:Nat) {p:Nat} (hx:ev E x=some (.int .u64 (p:Nat)):=by rfl) (hy:ev E y=some (.int .u64 ((2 ^ m-1:Nat):Int)):=by rfl) (hm:m≤62∧p<18446744073709551616∧p%2 ^ m=r) (hg:gdB ops E g=some (bb,want):=by rfl) (hbb:bb=want:=by exact aB) (hd:Nat.blt n N=true:=by rfl) (h:Sw Tryz.prog N av bor w0 ops rest ⟨(n,.int .u64 (r:Nat))::E,loc,X⟩ k) :
  Sw Tryz.prog N av bor w0 ops (⟨some n,.binOp .and t x y t2,ty,pos,af,g⟩::rest) ⟨E,loc,X⟩ k:=am (oF hx hy) hg hbb hd (by rw [CB m p hm.1 hm.2.1,hm.2.2];exact h)
theorem zk {k':IntKind} (m r:Nat) {p:Nat} (hx:ev E x=some (.int .u64 (p:Nat)):=by rfl) (hy:ev E y=some (.int k' (m:Int)):=by rfl) (hm:m≤64∧p*2 ^ m<18446744073709551616∧p*2 ^ m=r) (hg:gdB ops E g=some (bb,want):=by rfl) (hbb:bb=want:=by exact aB) (hd:Nat.blt n N=true:=by rfl) (h:Sw Tryz.prog N av bor w0 ops rest ⟨(n,.int .u64 (r:Nat))::E,loc,X⟩ k) :
  Sw Tryz.prog N av bor w0 ops (⟨some n,.binOp .shl t x y t2,ty,pos,af,g⟩::rest) ⟨E,loc,X⟩ k:=nk hx hy ae hg hbb hd (by rw [Cu m p hm.1 hm.2.1,hm.2.2];exact h)
theorem r8 [hI:TyInt Tryz.prog t .u64] {p q:Nat} (h:Sw Tryz.prog N av bor w0 ops rest ⟨(n,.int .u64 ((p*q:Nat):Int))::E,loc,X⟩ k) (hx:ev E x=some (.int .u64 (p:Nat)):=by rfl) (hy:ev E y=some (.int .u64 (q:Nat)):=by rfl) (hq:p*q<18446744073709551616) (hg:gdB ops E g=some (bb,want):=by rfl) (hbb:bb=want:=by exact aB) (hd:Nat.blt n N=true:=by rfl) :
  Sw Tryz.prog N av bor w0 ops (⟨some n,.binOp .mul t x y t2,ty,pos,af,g⟩::rest) ⟨E,loc,X⟩ k:=eE (c:=((p*q:Nat):Int)) hx hy (by rw [←Int.natCast_mul];exact gE hq) hg hbb hd h
theorem sd [hI:TyInt Tryz.prog t .u64] {p q:Nat} (h:Sw Tryz.prog N av bor w0 ops rest ⟨(n,.int .u64 ((p+q:Nat):Int))::E,loc,X⟩ k) (hx:ev E x=some (.int .u64 (p:Nat)):=by rfl) (hy:ev E y=some (.int .u64 (q:Nat)):=by rfl) (hq:p+q<18446744073709551616) (hg:gdB ops E g=some (bb,want):=by rfl) (hbb:bb=want:=by exact aB) (hd:Nat.blt n N=true:=by rfl) :
  Sw Tryz.prog N av bor w0 ops (⟨some n,.binOp .add t x y t2,ty,pos,af,g⟩::rest) ⟨E,loc,X⟩ k:=be (c:=((p+q:Nat):Int)) hx hy (by rw [←Int.natCast_add];exact gE hq) hg hbb hd h
end
theorem BR {P:Program} {fn:Func} {N t u r:Nat} {s:St} {v x y:Value} (hr:fn.results=#[.tmp t,.tmp u,.tmp r]) (h:Sy.look s.env t=some v) (h':Sy.look s.env u=some x) (h2:Sy.look s.env r=some y):Res1 P fn N s (.tuple #[v,x,y]):=fun av bor w0 a w ok=>by
 have h3:=ok.env t v h
 have h4:=ok.env u x h'
 have h5:=ok.env r y h2
 simp [results,hr,h3,h4,h5]
theorem iZ (a m:Nat) (hm:0<m) (hm2:m<4611686018427387904):Pu Tryz.prog 247 #[.int .i64 (a:Int),.int .i64 (m:Int)] (fun _=>True) (.int .i64 ((a%m:Nat):Int)):=by
 refine ay (args:=[_,_]) _ Tryz.func247 rfl Tryz.ntmps247 rfl fun av bor w0=>?_
 have hr:Eqq ((a:Int).tmod (m:Int)) ((a%m:Nat):Int):=li a m
 repeat' (first|refine fw (hb:=by omega) (hc:=hr) ?_|apply ab|apply Qu|apply Qv|refine aj ?_|refine ad ?_|refine bj ?_|refine be (h:=?_)|apply Qx|apply ar|(refine aG (ht:=?_) (hf:=?_);all_goals (intro hx_;first|have:=aP hx_|have:=aS hx_)))
 · exfalso;omega
 · apply al;apply aq;rfl;rfl
   rfl
theorem py (a b x1 x0 y1 y0:Nat) (ha:a<2305843009213693952) (hb:b<2305843009213693952) (h1:a/2 ^ 31=x1) (h0:a%2 ^ 31=x0) (g1:b/2 ^ 31=y1) (g0:b%2 ^ 31=y0) (hm:x1*y1<1152921504606846976) (hp:x1*y0<4611686018427387904) (hq:x0*y1<4611686018427387904) (hr:x0*y0<4611686018427387904) :
  Pu Tryz.prog 246 #[.int .i64 (a:Int),.int .i64 (b:Int)] (fun _=>True) (.tuple #[.int .u64 ((x1*y1:Nat):Int),.int .u64 ((x1*y0+x0*y1:Nat):Int),.int .u64 ((x0*y0:Nat):Int)]):=by
 refine ay (args:=[_,_]) _ Tryz.func246 rfl Tryz.ntmps246 rfl fun av bor w0=>?_
 repeat' (first|refine SrG.sy_toU_g (hq:=by omega) (h:=?_)|refine nj 31 x1 (hm:=by omega) (h:=?_)|refine nj 31 y1 (hm:=by omega) (h:=?_)|refine nq 31 x0 (hm:=by omega) (h:=?_)|refine nq 31 y0 (hm:=by omega) (h:=?_)|refine r8 (hq:=by omega) ?_|refine sd (hq:=by omega) ?_|apply ab|apply Qu|apply Qv|refine aj ?_|refine ad ?_|apply ar|fail)
 exact al (BR rfl rfl rfl rfl) rfl
theorem mulR {x y x1 x0 y1 y0:Nat} (h1:x/2 ^ 31=x1) (h0:x%2 ^ 31=x0) (g1:y/2 ^ 31=y1) (g0:y%2 ^ 31=y0) :
  x*y%2305843009213693951=(2*(x1*y1)+(x1*y0+x0*y1)/2 ^ 30+(x1*y0+x0*y1)%2 ^ 30*2 ^ 31+x0*y0)%2305843009213693951:=by
 have hx:x=x1*2147483648+x0:=by omega
 have hy:y=y1*2147483648+y0:=by omega
 have e:x*y=x1*y1*4611686018427387904+(x1*y0+x0*y1)*2147483648+x0*y0:=by
  rw [hx,hy,Nat.add_mul,Nat.mul_add,Nat.mul_add,Nat.mul_mul_mul_comm,Nat.mul_right_comm x1 _ y0,←Nat.mul_assoc x0,Nat.add_mul (x1*y0)]
  omega
 rw [e]
 generalize x1*y1=H
 generalize x1*y0+x0*y1=M
 generalize x0*y0=L
 have:H*4611686018427387904+M*2147483648+L=(2*H+M/2 ^ 30+M%2 ^ 30*2 ^ 31+L)+2305843009213693951*(2*H+M/2 ^ 30):=by omega
 rw [this,Nat.add_mul_mod_self_left]
theorem iY (a b:Nat):Pu Tryz.prog 213 #[.int .i64 (a:Int),.int .i64 (b:Int)] (fun _=>True) (.int .i64 ((a*b%2305843009213693951:Nat):Int)):=by
 refine ay (args:=[_,_]) _ Tryz.func213 rfl Tryz.ntmps213 rfl fun av bor w0=>?_
 have c1:=iZ a 2305843009213693951 (by decide) (by decide)
 have c2:=iZ b 2305843009213693951 (by decide) (by decide)
 have hx:=Nat.mod_lt a (show 0<2305843009213693951 by decide)
 have hy:=Nat.mod_lt b (show 0<2305843009213693951 by decide)
 have hab:a*b%2305843009213693951=(a%2305843009213693951)*(b%2305843009213693951)%2305843009213693951:=Nat.mul_mod a b _
 rw [hab]
 generalize a%2305843009213693951=x at *
 generalize b%2305843009213693951=y at *
 obtain ⟨x1,h1⟩:∃ x1,x/2 ^ 31=x1:=⟨_,rfl⟩
 obtain ⟨x0,h0⟩:∃ x0,x%2 ^ 31=x0:=⟨_,rfl⟩
 obtain ⟨y1,g1⟩:∃ y1,y/2 ^ 31=y1:=⟨_,rfl⟩
 obtain ⟨y0,g0⟩:∃ y0,y%2 ^ 31=y0:=⟨_,rfl⟩
 have b1:x1≤1073741823:=by omega
 have b0:x0≤2147483647:=by omega
 have d1:y1≤1073741823:=by omega
 have d0:y0≤2147483647:=by omega
 have m1:x1*y1≤1073741823*1073741823:=Nat.mul_le_mul b1 d1
 have m2:x1*y0≤1073741823*2147483647:=Nat.mul_le_mul b1 d0
 have m3:x0*y1≤2147483647*1073741823:=Nat.mul_le_mul b0 d1
 have m4:x0*y0≤2147483647*2147483647:=Nat.mul_le_mul b0 d0
 have c3:=py x y x1 x0 y1 y0 ae ae h1 h0 g1 g0 ae ae ae ae
 rw [mulR h1 h0 g1 g0]
 generalize x1*y1=H at *
 generalize hM:x1*y0+x0*y1=M at *
 have hM2:M≤1073741823*2147483647+2147483647*1073741823:=by omega
 generalize x0*y0=L at *
 obtain ⟨p,hp⟩:∃ p,M/2 ^ 30=p:=⟨_,rfl⟩
 obtain ⟨q,hq⟩:∃ q,M%2 ^ 30=q:=⟨_,rfl⟩
 obtain ⟨r,hr⟩:∃ r,q*2 ^ 31=r:=⟨_,rfl⟩
 rw [hp,hq,hr]
 have hrm:Eqq (((2*H+p+r+L:Nat):Int).tmod 2305843009213693951) (((2*H+p+r+L)%2305843009213693951:Nat):Int):=li (2*H+p+r+L) 2305843009213693951
 have hz:=Nat.mod_lt (2*H+p+r+L) (show 0<2305843009213693951 by decide)
 repeat' (first|refine SrG.sy_toI_g (hq:=by omega) (h:=?_)|refine nj 30 p (hm:=by omega) (h:=?_)|refine nq 30 q (hm:=by omega) (h:=?_)|refine zk 31 r (hm:=by omega) (h:=?_)|refine r8 (p:=2) (hq:=by omega) ?_|refine sd (hq:=by omega) ?_|refine fw (hb:=by decide) (hc:=hrm) ?_|apply ab|apply Qu|apply Qv|refine aj ?_|refine ad ?_|refine bM ?_|apply ar|(refine ao (hc:=c1) (hX:=fun w h=>h) ?_)|(refine ao (hc:=c2) (hX:=fun w h=>h) ?_)|(refine ao (hc:=c3) (hX:=fun w h=>h) ?_)|fail)
 apply al;apply aq;rfl;rfl
 rfl
end Rf4
namespace Rf4
theorem quo2 (a:Nat) (ha:a<9223372036854775808):IntKind.i64.wrap ((a:Int).tdiv 2)=((a/2:Nat):Int):=by
 rw [show (2:Int)=((2:Nat):Int) from rfl,Int.tdiv_eq_ediv_of_nonneg ae,←Int.natCast_ediv]
 exact IntWalk.i64_in _ ae
structure ExS (a e:Nat) where
 x:Nat
 b:Nat
 f:Nat
 hx:x<2305843009213693951
 hf:f≤e
 inv:x*b ^ f%2305843009213693951=a ^ e%2305843009213693951
theorem xm (b h M:Nat):(b*b%M) ^ h%M=b ^ (h+h)%M:=by
 rw [←Nat.pow_mod,Nat.mul_pow,←Nat.pow_add]
theorem Al {x b f M:Nat} (h:f%2=1):(x*b%M)*(b*b%M) ^ (f/2)%M=x*b ^ f%M:=by
 have hf:f=1+(f/2+f/2):=by omega
 conv=>rhs;rw [hf,Nat.pow_add,Nat.pow_one,←Nat.mul_assoc]
 rw [Nat.mul_mod (x*b%M),Nat.mod_mod,xm,←Nat.mul_mod]
theorem xT {x b f M:Nat} (h:¬ f%2=1):x*(b*b%M) ^ (f/2)%M=x*b ^ f%M:=by
 have hf:f=f/2+f/2:=by omega
 conv=>rhs;rw [hf]
 rw [Nat.mul_mod,xm,←Nat.mul_mod]
theorem uF (a e:Nat) (he:e<9223372036854775808):Pu Tryz.prog 214 #[.int .i64 (a:Int),.int .i64 (e:Int)] (fun _=>True) (.int .i64 ((a ^ e%2305843009213693951:Nat):Int)):=by
 refine ay (args:=[_,_]) _ Tryz.func214 rfl Tryz.ntmps214 rfl fun av bor w0=>?_
 have c1:=iZ a 2305843009213693951 (by decide) (by decide)
 repeat' (first|apply ab|apply Qu|apply Qv|refine aj ?_|refine ad ?_|refine bj ?_|apply Qx|apply Qw|(refine ao (hc:=c1) (hX:=fun w h=>h) ?_)|(refine aG (ht:=?_) (hf:=?_);all_goals (intro hx_;first|have:=aP hx_|have:=aS hx_)))
 · exfalso;omega
 · refine aT (ι:=ExS a e) (fun i=>⟨[(1,.int .i64 (i.f:Nat)),(5,.int .i64 (i.x:Nat)),(6,.int .i64 (i.b:Nat))],[],fun _=>True⟩) (fun i=>i.f) ⟨1,a%2305843009213693951,e,by decide,Qp _,by rw [Nat.one_mul,←Nat.pow_mod]⟩ (aw ⟨rfl,rfl,rfl,trivial⟩ (ZR _) fun _ h=>h) fun i=>?_
   obtain ⟨x,b,f,hx,hf,inv⟩:=i
   simp only
   have hm1:=iY x b
   have hm2:=iY b b
   have hr:Eqq ((f:Int).tmod 2) ((f%2:Nat):Int):=li f 2
   have hq:Eqq (IntKind.i64.wrap ((f:Int).tdiv 2)) ((f/2:Nat):Int):=quo2 f ae
   repeat' (first|refine fw (hb:=by decide) (hc:=hr) ?_|refine kR (hb:=by decide) (hc:=hq) ?_|apply ab|apply Qu|apply Qv|refine aj ?_|refine ad ?_|refine bR ?_|refine cK ?_|apply Qx|apply Qw|apply ar|apply aQ|(refine ao (hc:=hm1) (hX:=fun w h=>h) ?_)|(refine ao (hc:=hm2) (hX:=fun w h=>h) ?_)|(refine aG (ht:=?_) (hf:=?_);all_goals (intro hx_;first|have:=aP hx_|have:=aS hx_)))
   · have hc:f%2=1:=by
      have:=aP hx_
      omega
     exact ⟨(⟨x*b%2305843009213693951,b*b%2305843009213693951,f/2,Nat.mod_lt _ (by decide),by omega,(Al hc).trans inv⟩:ExS a e),(by show f/2<f;omega),aw ⟨rfl,rfl,rfl,trivial⟩ (ZR _) fun _ h=>h⟩
   · have hc:¬ f%2=1:=by
      have:=aS hx_
      omega
     exact ⟨(⟨x,b*b%2305843009213693951,f/2,hx,by omega,(xT hc).trans inv⟩:ExS a e),(by show f/2<f;omega),aw ⟨rfl,rfl,rfl,trivial⟩ (ZR _) fun _ h=>h⟩
   · have hk:f=0:=by omega
     apply al;apply aq;rfl;rfl
     rw [←inv,hk,Nat.pow_zero,Nat.mul_one,Z0 hx]
end Rf4
namespace Rf4
theorem iy:∀ f x:Nat,x<2 ^ f→x<2 ^ Lib.bitLenAux f x
 | 0,x,h=>h
 | f+1,x,h=>by
  rw [Lib.bitLenAux]
  split
  · rename_i h0
    rw [h0]
    decide
  · have h1:=iy f (x/2) (by rw [Nat.pow_succ] at h;omega)
    rw [Nat.pow_add]
    omega
theorem pZ (a e:Nat):∀ i,(expF a e i).1=a ^ (e%2 ^ i)%2305843009213693951∧(expF a e i).2=a ^ 2 ^ i%2305843009213693951
 | 0=>by
  refine ⟨?_,?_⟩
  · show 1=_
    rw [Nat.pow_zero,Nat.mod_one,Nat.pow_zero]
  · show a%_=_
    rw [Nat.pow_zero,Nat.pow_one]
 | i+1=>by
  obtain ⟨h1,h2⟩:=pZ a e i
  refine ⟨?_,?_⟩
  · show (bif decide (e/2 ^ i%2=1) then (expF a e i).1*(expF a e i).2%2305843009213693951 else (expF a e i).1)=_
    rw [Nat.mod_pow_succ,h1,h2]
    by_cases h:e/2 ^ i%2=1
    · rw [ZA h,ZC,h,Nat.mul_one,Nat.pow_add,←Nat.mul_mod]
    · have h0:e/2 ^ i%2=0:=by omega
      rw [Zn h,ZB,h0,Nat.mul_zero,Qk]
  · show (expF a e i).2*(expF a e i).2%2305843009213693951=_
    rw [h2,←Nat.mul_mod,←Nat.pow_add,Nat.pow_succ,Nat.mul_two]
theorem yi (a e:Nat) (he:e<9223372036854775808):expV a e=a ^ e%2305843009213693951:=by
 have h:e<2 ^ Lib.bitLen e:=iy 64 e ae
 rw [expV,(pZ a e _).1,Z0 h]
theorem lk (a e:Nat) (he:e<9223372036854775808):Pu Tryz.prog 214 #[.int .i64 (a:Int),.int .i64 (e:Int)] (fun _=>True) (.int .i64 (expV a e:Nat)):=by
 rw [yi a e he]
 exact uF a e he
def numS (s:ByteArray) (k:Nat):Nat:=bif decide (k=8) then numN (nl s) else numF (nl s) k
theorem nT {s:ByteArray} {k:Nat} (h:k<8):numS s k=numF (nl s) k:=by rw [numS,Zn ae,ZB]
theorem iM {n:Nat} (h:n<9223372036854775808):IntKind.i64.wrap (n:Int)=(n:Int):=IntWalk.i64_in _ ae
theorem stepA {s:ByteArray} {k:Nat} (h:k<7) {b:Int} (hb:b=(((nl s).getD k 0:Nat):Int)):IntKind.i64.wrap (IntKind.i64.wrap (256*((numS s k:Nat):Int))+b)=((numS s (k+1):Nat):Int):=by
 have h1:=numF7 s (show k<8 by omega)
 have h2:=numF7 s (show k+1<8 by omega)
 rw [nT ae,nT ae,hb]
 rw [numF] at h2 ⊢
 generalize numF (nl s) k=x at *
 generalize (nl s).getD k 0=y at *
 rw [show (256:Int)*(x:Int)=((256*x:Nat):Int) by omega,iM ae,←Int.natCast_add,iM (by omega)]
 omega
theorem stepB {s:ByteArray} {b:Int} (hb:b=(((nl s).getD 7 0:Nat):Int)):IntKind.i64.wrap (IntKind.i64.wrap (32*((numS s 7:Nat):Int))+IntKind.i64.wrap (b.tdiv 8))=((numS s 8:Nat):Int):=by
 have h1:=numF7 s (show 7<8 by omega)
 have h2:=fo (ix s) 7
 have e8:numS s 8=(numF (nl s) 7*256+(nl s).getD 7 0)/8:=rfl
 rw [e8,nT ae,hb]
 generalize numF (nl s) 7=x at *
 generalize (nl s).getD 7 0=y at *
 rw [show (32:Int)*(x:Int)=((32*x:Nat):Int) by omega,iM ae,show ((y:Int)).tdiv 8=((y/8:Nat):Int) by rw [Int.tdiv_eq_ediv_of_nonneg (by omega)];omega,iM ae,←Int.natCast_add,iM (by omega)]
 omega
theorem byteIn {s:ByteArray} {k:Nat} (h:k<s.size):IntKind.i64.wrap (byteAt s (k:Int).toNat)=(((nl s).getD k 0:Nat):Int):=by
 have h2:=fo (ix s) k
 rw [show ((k:Int)).toNat=k from rfl,on s _ h,iM (by omega)]
theorem byteOut {s:ByteArray} {k:Nat} (h:s.size≤k):(0:Int)=(((nl s).getD k 0:Nat):Int):=by
 rw [ZL,List.getElem?_eq_none (by rw [dw];exact h),Option.getD_none]
 rfl
theorem pz (s:ByteArray):Pu Tryz.prog 245 #[.string s] (fun _=>True) (.int .i64 (numN (nl s):Nat)):=by
 refine ay (args:=[_]) _ Tryz.func245 rfl Tryz.ntmps245 rfl fun av bor w0=>?_
 repeat' (first|apply ab|apply Qu|apply Qv|refine ad ?_|apply Qw|fail)
 refine aT (ι:=Kth 8) (fun i=>⟨[(0,.string s),(3,.int .i64 ((numS s i.k:Nat):Int)),(4,.int .i64 i.k)],[],fun _=>True⟩) (fun i=>8-i.k) ⟨0,Nat.zero_le _⟩ (aw ⟨rfl,rfl,rfl,trivial⟩ (aE _) fun _ h=>h) fun i=>?_
 have hik:=i.hk
 repeat' (first|refine kR (hb:=by decide) (hc:=rfl) ?_|apply ab|apply Qu|apply Qv|refine aj ?_|refine ad ?_|refine bj ?_|refine bT ?_|refine be (h:=?_)|apply Qx|apply Qw|apply ar|apply aQ|refine eE (h:=?_)|refine d8 (h:=?_)|refine g8 ?_|(refine aG (ht:=?_) (hf:=?_);all_goals (intro hx_;first|have:=aP hx_|have:=aS hx_)))
 · exact ⟨⟨i.k+1,by omega⟩,(by show 8-(i.k+1)<8-i.k;omega),aw ⟨rfl,congrArg (fun z=>some (Value.int IntKind.i64 z)) (stepA ae (byteIn ae)),rfl,trivial⟩ (aE _) fun _ h=>h⟩
 · have e7:i.k=7:=by omega
   obtain ⟨k,hk⟩:=i
   simp only at e7
   subst e7
   have hE:=@stepB s _ (byteIn (k:=7) ae)
   exact ⟨⟨8,by omega⟩,(by show 8-8<8-7;omega),aw ⟨rfl,congrArg (fun z=>some (Value.int IntKind.i64 z)) hE,rfl,trivial⟩ (aE _) fun _ h=>h⟩
 · exact ⟨⟨i.k+1,by omega⟩,(by show 8-(i.k+1)<8-i.k;omega),aw ⟨rfl,congrArg (fun z=>some (Value.int IntKind.i64 z)) (stepA ae (byteOut ae)),rfl,trivial⟩ (aE _) fun _ h=>h⟩
 · have e7:i.k=7:=by omega
   obtain ⟨k,hk⟩:=i
   simp only at e7
   subst e7
   have hE:=@stepB s _ (byteOut (k:=7) ae)
   exact ⟨⟨8,by omega⟩,(by show 8-8<8-7;omega),aw ⟨rfl,congrArg (fun z=>some (Value.int IntKind.i64 z)) hE,rfl,trivial⟩ (aE _) fun _ h=>h⟩
 · have h8:i.k=8:=by omega
   apply al;apply aq;rfl;rfl
   rw [h8]
   rfl
end Rf4
namespace Rf4
theorem qN (s:ByteArray) (hs:s.size≤1099511627776):Pu Tryz.prog 212 #[.string s] (fun _=>True) (.int .i64 (numN (nl (shaV s)):Nat)):=by
 refine ay (args:=[_]) _ Tryz.func212 rfl Tryz.ntmps212 rfl fun av bor w0=>?_
 repeat' (first|apply ab|apply Qu|apply Qv|refine aj ?_|refine ad ?_|apply ar|refine ao (hc:=mF _ hs) ?_|refine ao (hc:=pz _) ?_|fail)
 exact al (aq rfl rfl) rfl
theorem qR (r p:Nat) (msg:ByteArray) (hr:r<9223372036854775808) (hp:p<9223372036854775808) (hm:msg.size≤1000000000000) :
  Pu Tryz.prog 173 #[.int .i64 (r:Int),.int .i64 (p:Int),.string msg] (fun _=>True) (.int .i64 (chalN r p msg:Nat)):=by
 refine ay (args:=[_,_,_]) _ Tryz.func173 rfl Tryz.ntmps173 rfl fun av bor w0=>?_
 have h1:=aX ⟨#[115,105,103,110]⟩
 have h2:=aO (r:Int)
 have h3:=aO (p:Int)
 have h4:=aX msg
 have h5:(⟨#[115,105,103,110]⟩:ByteArray).size=4:=rfl
 have ec:catB (chalP r p msg)=textV ⟨#[115,105,103,110]⟩++numV (r:Int)++numV (p:Int)++textV msg:=by
  show textV ⟨#[115,105,103,110]⟩++(numV (r:Int)++(numV (p:Int)++(textV msg++ByteArray.empty)))=_
  rw [ByteArray.append_empty,ZV,ZV]
 have hsz:(catB (chalP r p msg)).size≤1099511627776:=by
  rw [ec]
  simp only [Zl]
  omega
 have ch:=qN (catB (chalP r p msg)) hsz
 have c1:=bV ⟨#[115,105,103,110]⟩ (by decide)
 rw [ec] at ch
 have hrm:Eqq (((numN (nl (shaV (textV ⟨#[115,105,103,110]⟩++numV (r:Int)++numV (p:Int)++textV msg))):Nat):Int).tmod 2305843009213693950) ((chalN r p msg:Nat):Int):=by
  rw [chalN,hashN,ec]
  exact li _ 2305843009213693950
 repeat' (first|refine kS (hb:=by ((try simp only [Zl]);omega)) ?_|refine fw (hb:=by decide) (hc:=hrm) ?_|apply ab|apply Qu|apply Qv|refine aj ?_|refine ad ?_|apply ar|(refine ao (hc:=c1) (hX:=fun _ _=>trivial) ?_)|refine ao (hc:=bV _ ae) ?_|refine ao (hc:=bz _ ae) ?_|(refine ao (hc:=ch) (hX:=fun _ _=>trivial) ?_)|fail)
 all_goals first
  | exact al (aq rfl rfl) rfl
section
variable {P:Program} {N:Nat} {av bor:List Nat} {w0:World} {st:St} {ty:TypeId} {x y:Operand} {t t2:TypeId}
theorem y_subM [hI:TyInt P t .i64] {p q:Nat} (hx:ev st.env x=some (.int .i64 (p:Nat))) (hy:ev st.env y=some (.int .i64 (q:Nat))) (hq:q≤p∧p<9223372036854775808):Sy.Yields P N av bor w0 st (.binOp .sub t x y t2) ty (.int .i64 ((p-q:Nat):Int)) :=
 mn hx hy (by rw [show (p:Int)-(q:Int)=((p-q:Nat):Int) by omega];exact IntWalk.i64_in _ ae)
end
theorem nL (p e s:Nat) (he:e≤2305843009213693950) (hs:s≤2305843009213693950) :
  Pu Tryz.prog 174 #[.int .i64 (p:Int),SgD.v ⟨(e:Int),(s:Int)⟩] (fun _=>True) (.int .i64 ((expV 37 s*expV p (2305843009213693950-e)%2305843009213693951:Nat):Int)):=by
 refine ay (args:=[_,_]) _ Tryz.func174 rfl Tryz.ntmps174 rfl fun av bor w0=>?_
 have c1:=lk 37 s ae
 have c2:=lk p (2305843009213693950-e) ae
 have c3:=iY (expV 37 s) (expV p (2305843009213693950-e))
 repeat' (first|apply ab|apply Qu|apply Qv|refine ad ?_|refine aN fun _=>?_|fail)
 (apply bH;kernel_rfl)
 all_goals refine aa 0 ?_<;>refine aa 1 ?_<;>refine aa 3 ?_<;>refine aa 4 ?_<;>refine aa 5 ?_<;>(refine aa 6 (hy:=by (apply y_subM (p:=2305843009213693950);rfl;rfl;omega)) ?_)<;>(refine ag 2 ?_;(refine ao (hc:=c1) (hX:=fun _ _=>trivial) ?_);apply ab;refine ai ?_)<;>(refine ag 7 ?_;(refine ao (hc:=c2) (hX:=fun _ _=>trivial) ?_);apply ab;refine ai ?_)<;>(refine ag 8 ?_;(refine ao (hc:=c3) (hX:=fun _ _=>trivial) ?_);apply ab;refine ai ?_)<;>refine aa 9 ?_<;>(refine ax ?_)
 all_goals
  repeat' (first|apply ar|fail)
  exact al (aq rfl rfl) rfl
def ranB (p e s:Int):Bool:=!(decide (p<1)||decide (2305843009213693951≤p)||!ordV e||!ordV s)
theorem qU {p e s:Int}:ranB p e s=(decide (1≤p)&&(decide (p<2305843009213693951)&&(decide (0≤e)&&(decide (e<2305843009213693950)&&(decide (0≤s)&&decide (s<2305843009213693950)))))):=by
 rw [ranB,ordV,ordV]
 have e1:decide (p<1)=!decide (1≤p):=by by_cases h:1≤p<;>simp [h]<;>omega
 have e2:decide (2305843009213693951≤p)=!decide (p<2305843009213693951):=by by_cases h:p<2305843009213693951<;>simp [h]<;>omega
 rw [e1,e2]
 cases decide (1≤p)<;>cases decide (p<2305843009213693951)<;>cases decide (0≤e)<;>cases decide (e<2305843009213693950)<;>cases decide (0≤s)<;>cases decide (s<2305843009213693950)<;>rfl
theorem nH (p e s:Int):Pu Tryz.prog 172 #[.int .i64 p,SgD.v ⟨e,s⟩] (fun _=>True) (.bool (ranB p e s)):=by
 refine ay (args:=[_,_]) _ Tryz.func172 rfl Tryz.ntmps172 rfl fun av bor w0=>?_
 rw [qU]
 repeat' (first|apply ab|apply Qu|apply Qv|refine aj ?_|refine ad ?_|refine aA ?_|refine az ?_|refine aD ?_|refine aF ?_|refine bj ?_|refine cZ ?_|refine aK ?_|refine aN fun _=>?_|apply ar|((fail_if_success (refine aZ ?_));refine aR (ht:=?_) (hf:=?_);all_goals (intro hx_;first|have:=aP hx_|have:=aS hx_))|fail)
 all_goals refine al (aq rfl rfl) ?_
 all_goals simp_all
 all_goals (intros;omega)
theorem refVerify_pu (p:Int) (msg:ByteArray) (e s:Int) (hm:msg.size≤1000000000000):Pu Tryz.prog 105 #[.int .i64 p,.string msg,SgD.v ⟨e,s⟩] (fun _=>True) (.bool (verN p msg e s)):=by
 refine ay (args:=[_,_,_]) _ Tryz.func105 rfl Tryz.ntmps105 rfl fun av bor w0=>?_
 have hrg:=nH p e s
 cases hbad:(decide (p<1)||decide (2305843009213693951≤p)||!ordV e||!ordV s) with
 | true =>
  rw [show ranB p e s=false from by rw [ranB,hbad];rfl] at hrg
  rw [show verN p msg e s=false from by rw [verN,hbad];rfl]
  repeat' (first|apply ab|apply Qu|apply Qv|refine aj ?_|refine ad ?_|refine aH ?_|refine bN ?_|refine aN fun _=>?_|refine Qy ?_|apply ar|(refine ao (hc:=hrg) (hX:=fun _ _=>trivial) ?_)|fail)
  exact al (aq rfl rfl) rfl
 | false =>
  have hb:=hbad
  simp only [Bool.or_eq_false_iff,decide_eq_false_iff_not,Bool.not_eq_false'] at hb
  obtain ⟨⟨⟨h1,h2⟩,h3⟩,h4⟩:=hb
  simp only [ordV,ZM,ZT] at h3 h4
  rw [show ranB p e s=true from by rw [ranB,hbad];rfl] at hrg
  obtain ⟨pn,rfl⟩:∃ n:Nat,p=(n:Int):=⟨p.toNat,by omega⟩
  obtain ⟨en,rfl⟩:∃ n:Nat,e=(n:Int):=⟨e.toNat,by omega⟩
  obtain ⟨sn,rfl⟩:∃ n:Nat,s=(n:Int):=⟨s.toNat,by omega⟩
  have c1:=nL pn en sn ae ae
  obtain ⟨r,hr⟩:∃ r,expV 37 sn*expV pn (2305843009213693950-en)%2305843009213693951=r:=⟨_,rfl⟩
  have hrl:r<2305843009213693951:=by rw [←hr];exact Nat.mod_lt _ (by decide)
  have hV:verN (pn:Int) msg (en:Int) (sn:Int)=decide (((en:Nat):Int)=(chalN r pn msg:Nat)):=by
   rw [verN,hbad,ZB,Qr,Qr,Qr,hr]
  rw [hr] at c1
  rw [hV,show decide (((en:Nat):Int)=(chalN r pn msg:Nat))=decide (((chalN r pn msg:Nat):Int)=(en:Nat)) from by by_cases h:((en:Nat):Int)=(chalN r pn msg:Nat)<;>simp [h,eq_comm]]
  have c2:=qR r pn msg ae ae hm
  clear hbad hV hr
  generalize chalN r pn msg=cn at *
  repeat' (first|apply ab|apply Qu|apply Qv|refine aj ?_|refine ad ?_|refine aH ?_|refine bN ?_|refine aN fun _=>?_|refine Qz ?_|apply Qx|(refine ao (hc:=hrg) (hX:=fun _ _=>trivial) ?_)|fail)
  (apply bH;kernel_rfl)
  all_goals refine aa 0 ?_<;>refine aa 1 ?_<;>refine aa 3 ?_<;>refine aa 4 ?_<;>refine aa 6 ?_<;>refine aa 7 ?_<;>(refine ag 2 ?_;(refine ao (hc:=c1) (hX:=fun _ _=>trivial) ?_);apply ab;refine ai ?_)<;>(refine ag 5 ?_;(refine ao (hc:=c2) (hX:=fun _ _=>trivial) ?_);apply ab;refine ai ?_)<;>refine aa 8 ?_<;>refine aa 9 ?_<;>(refine ax ?_)
  all_goals
   repeat' (first|apply ar|fail)
   exact al (aq rfl rfl) rfl
end Rf4
end Go.Proofs.YtcdilibijnboeaaGreatDoor
namespace Go.Proofs.YtcdilibijnboeaaGreatDoor
open Go Go.Proofs Sy
theorem qG (a:ActD):sameZ a=actZ a:=by
 rw [sameZ,actZ]
 simp only [ActD.zero,ZE]
 cases decide ((a.to.n:Int)=0)<;>cases decide ((a.wraps.n:Int)=0)<;>(simp [Bool.and_comm,Bool.and_left_comm,Bool.and_assoc];try rfl)
set_option maxRecDepth 20000 in
set_option maxHeartbeats 8000000 in
theorem qP (d:DecD):Pu Tryz.prog 167 #[d.v,DecD.zero.v] (fun _=>True) (.bool (decZ d)):=by
 refine ay (args:=[_,_]) _ Tryz.func167 rfl Tryz.ntmps167 rfl fun av bor w0=>?_
 repeat' (first|apply ab|apply Qu|apply Qv|refine ad ?_|refine aA ?_|refine az ?_|refine dJ ?_|refine aY ?_|refine aN fun _=>?_|apply Qx|apply Qw|apply ar|(refine aG (ht:=?_) (hf:=?_);all_goals (intro hx_;skip)))
 · refine al (aq rfl rfl) ?_
   have h0:DecD.zero.to.n=0:=rfl
   rw [h0] at hx_
   simp_all [decZ]
 rename_i b1 b2
 have n1:d.to.n=0:=by
  have h0:DecD.zero.to.n=0:=rfl
  rw [h0] at hx_
  simpa using hx_
 refine aT (ι:=Unit) (fun _=>⟨[(2,.pointer (some ⟨b1,0,none⟩)),(3,.pointer (some ⟨b2,0,none⟩)),(5,.int .i64 0)],[cel b2 55 DecD.zero.cells,cel b1 55 d.cells],fun _=>True⟩) (fun _=>0) () (aw ⟨rfl,rfl,rfl,trivial⟩ (aE _) fun _ h=>h) fun _=>?_
 repeat' (first|apply ab|apply Qu|apply Qv|refine aj ?_|refine ad ?_|refine aA ?_|refine az ?_|refine aD ?_|refine aF ?_|refine bR ?_|refine bj ?_|refine cC ?_|refine aY ?_|refine aK ?_|apply Qx|apply Qw|apply ar|apply aQ|(refine iP (a:=d.e) (b:=d.s) (c:=0) (e:=0) ?_)|(refine aW ?_)|((fail_if_success (refine aZ ?_));refine aR (ht:=?_) (hf:=?_);all_goals (intro hx_;first|have:=aP hx_|have:=aS hx_|skip))|(refine aG (ht:=?_) (hf:=?_);all_goals (intro hx_;first|have:=aP hx_|have:=aS hx_)))
 · exact absurd this (by rw [n1];decide)
 all_goals (
  refine al (aq rfl rfl) ?_
  have q1:decide ((d.to.n:Int)=0)=true:=by rw [n1];rfl
  rw [decZ,q1]
  clear q1 n1
  first
   | rfl
   | (simp_all only [ZD,ZG,ZH,ZQ,ZO,ZE];done)
   | (simp_all;done)
   | skip)
 all_goals simp_all [DecD.zero]
theorem vq:actZ ActD.zero=true:=by decide +kernel
theorem oj:claimEq ClaimD.zero ClaimD.zero=true:=by decide +kernel
theorem ml:ballotEq BallotD.zero BallotD.zero=true:=by decide +kernel
theorem vf:decZ DecD.zero=true:=by decide +kernel
set_option maxRecDepth 20000 in
set_option maxHeartbeats 16000000 in
theorem io (i:ItemD) (hs:i.Str):Pu Tryz.prog 104 #[i.v] (fun w=>i.at_ w) (.bool (rightIt i)):=by
 refine ay (args:=[_]) _ Tryz.func104 rfl Tryz.ntmps104 rfl fun av bor w0=>?_
 have c1:=qL i.act
 rw [qG] at c1
 have c2:=jx i.act hs.act
 have c3:=qP i.dec
 have c4:=md i.claim hs.claim
 have c5:=px i.ballot hs.ballot
 have c6:=mc i.dec hs.dec
 by_cases h0:i.kind=0
 · have e:rightIt i=(rightB i.act&&(claimEq i.claim ClaimD.zero&&(ballotEq i.ballot BallotD.zero&&decZ i.dec))):=by simp [rightIt,rightK2,restI,sameIZ,h0,vq]
   rw [e]
   repeat' (first|refine bm (hab:=by omega) ?_|apply ab|apply Qu|apply Qv|refine aj ?_|refine ad ?_|refine aA ?_|refine az ?_|refine aD ?_|refine aF ?_|refine aK ?_|refine aN fun _=>?_|refine Qy ?_|apply Qw|apply ar|(refine ao (hc:=c1) (hX:=fun _ _=>trivial) ?_)|(refine ao (hc:=c2) (hX:=fun w h=>h.1) ?_)|(refine ao (hc:=c3) (hX:=fun _ _=>trivial) ?_)|(refine eF (a:=i.claim) (b:=ClaimD.zero) ?_)|(refine em (a:=i.ballot) (b:=BallotD.zero) ?_)|(refine br (cs:=ActD.zero.cells) (hf:=by rfl) ?_)|(refine br (cs:=ClaimD.zero.cells) (hf:=by rfl) ?_)|(refine br (cs:=BallotD.zero.cells) (hf:=by rfl) ?_)|(refine br (cs:=DecD.zero.cells) (hf:=by rfl) ?_)|(refine aW (vs:=i.act.cells) (hv:=rfl) ?_)|(refine aW (vs:=i.claim.cells) (hv:=rfl) ?_)|(refine aW (vs:=i.ballot.cells) (hv:=rfl) ?_)|(refine aW (vs:=i.dec.cells) (hv:=rfl) ?_)|((fail_if_success (refine aZ ?_));refine aR (ht:=?_) (hf:=?_);all_goals (intro hx_;skip))|fail)
   all_goals first
    | exact al (aq rfl rfl) rfl
    | (refine al (aq rfl rfl) ?_;simp_all;done)
 by_cases h1:i.kind=1
 · have e:rightIt i=(claimR i.claim&&(actZ i.act&&(ballotEq i.ballot BallotD.zero&&decZ i.dec))):=by simp [rightIt,rightK2,restI,sameIZ,h1,oj]
   rw [e]
   repeat' (first|refine bm (hab:=by omega) ?_|refine bt (hab:=by omega) ?_|apply ab|apply Qu|apply Qv|refine aj ?_|refine ad ?_|refine aA ?_|refine az ?_|refine aD ?_|refine aF ?_|refine aK ?_|refine aN fun _=>?_|refine Qy ?_|refine Qz ?_|apply Qw|apply ar|(refine ao (hc:=c1) (hX:=fun _ _=>trivial) ?_)|(refine ao (hc:=c3) (hX:=fun _ _=>trivial) ?_)|(refine ao (hc:=c4) (hX:=fun _ _=>trivial) ?_)|(refine eF (a:=i.claim) (b:=ClaimD.zero) ?_)|(refine em (a:=i.ballot) (b:=BallotD.zero) ?_)|(refine br (cs:=ActD.zero.cells) (hf:=by rfl) ?_)|(refine br (cs:=ClaimD.zero.cells) (hf:=by rfl) ?_)|(refine br (cs:=BallotD.zero.cells) (hf:=by rfl) ?_)|(refine br (cs:=DecD.zero.cells) (hf:=by rfl) ?_)|(refine aW (vs:=i.act.cells) (hv:=rfl) ?_)|(refine aW (vs:=i.claim.cells) (hv:=rfl) ?_)|(refine aW (vs:=i.ballot.cells) (hv:=rfl) ?_)|(refine aW (vs:=i.dec.cells) (hv:=rfl) ?_)|((fail_if_success (refine aZ ?_));refine aR (ht:=?_) (hf:=?_);all_goals (intro hx_;skip))|fail)
   all_goals first
    | exact al (aq rfl rfl) rfl
    | (refine al (aq rfl rfl) ?_;simp_all;done)
 by_cases h2:i.kind=2
 · have e:rightIt i=(ballotR i.ballot&&(actZ i.act&&(claimEq i.claim ClaimD.zero&&decZ i.dec))):=by simp [rightIt,rightK2,restI,sameIZ,h2,ml]
   rw [e]
   repeat' (first|refine bm (hab:=by omega) ?_|refine bt (hab:=by omega) ?_|apply ab|apply Qu|apply Qv|refine aj ?_|refine ad ?_|refine aA ?_|refine az ?_|refine aD ?_|refine aF ?_|refine aK ?_|refine aN fun _=>?_|refine Qy ?_|refine Qz ?_|apply Qw|apply ar|(refine ao (hc:=c1) (hX:=fun _ _=>trivial) ?_)|(refine ao (hc:=c3) (hX:=fun _ _=>trivial) ?_)|(refine ao (hc:=c5) (hX:=fun _ _=>trivial) ?_)|(refine eF (a:=i.claim) (b:=ClaimD.zero) ?_)|(refine em (a:=i.ballot) (b:=BallotD.zero) ?_)|(refine br (cs:=ActD.zero.cells) (hf:=by rfl) ?_)|(refine br (cs:=ClaimD.zero.cells) (hf:=by rfl) ?_)|(refine br (cs:=BallotD.zero.cells) (hf:=by rfl) ?_)|(refine br (cs:=DecD.zero.cells) (hf:=by rfl) ?_)|(refine aW (vs:=i.act.cells) (hv:=rfl) ?_)|(refine aW (vs:=i.claim.cells) (hv:=rfl) ?_)|(refine aW (vs:=i.ballot.cells) (hv:=rfl) ?_)|(refine aW (vs:=i.dec.cells) (hv:=rfl) ?_)|((fail_if_success (refine aZ ?_));refine aR (ht:=?_) (hf:=?_);all_goals (intro hx_;skip))|fail)
   all_goals first
    | exact al (aq rfl rfl) rfl
    | (refine al (aq rfl rfl) ?_;simp_all;done)
 by_cases h3:i.kind=3
 · have e:rightIt i=(decR i.dec&&(actZ i.act&&(claimEq i.claim ClaimD.zero&&ballotEq i.ballot BallotD.zero))):=by simp [rightIt,rightK2,restI,sameIZ,h3,vf]
   rw [e]
   repeat' (first|refine bm (hab:=by omega) ?_|refine bt (hab:=by omega) ?_|apply ab|apply Qu|apply Qv|refine aj ?_|refine ad ?_|refine aA ?_|refine az ?_|refine aD ?_|refine aF ?_|refine aK ?_|refine aN fun _=>?_|refine Qy ?_|refine Qz ?_|apply Qw|apply ar|(refine ao (hc:=c1) (hX:=fun _ _=>trivial) ?_)|(refine ao (hc:=c3) (hX:=fun _ _=>trivial) ?_)|(refine ao (hc:=c6) (hX:=fun w h=>h.2) ?_)|(refine eF (a:=i.claim) (b:=ClaimD.zero) ?_)|(refine em (a:=i.ballot) (b:=BallotD.zero) ?_)|(refine br (cs:=ActD.zero.cells) (hf:=by rfl) ?_)|(refine br (cs:=ClaimD.zero.cells) (hf:=by rfl) ?_)|(refine br (cs:=BallotD.zero.cells) (hf:=by rfl) ?_)|(refine br (cs:=DecD.zero.cells) (hf:=by rfl) ?_)|(refine aW (vs:=i.act.cells) (hv:=rfl) ?_)|(refine aW (vs:=i.claim.cells) (hv:=rfl) ?_)|(refine aW (vs:=i.ballot.cells) (hv:=rfl) ?_)|(refine aW (vs:=i.dec.cells) (hv:=rfl) ?_)|((fail_if_success (refine aZ ?_));refine aR (ht:=?_) (hf:=?_);all_goals (intro hx_;skip))|fail)
   all_goals first
    | exact al (aq rfl rfl) rfl
    | (refine al (aq rfl rfl) ?_;simp_all;done)
 have e:rightIt i=false:=by simp [rightIt,rightK2,h0,h1,h2,h3]
 rw [e]
 repeat' (first|refine bt (hab:=by omega) ?_|apply ab|apply Qu|apply Qv|refine ad ?_|refine aA ?_|refine az ?_|refine aN fun _=>?_|refine Qz ?_|apply Qx|apply Qw|apply ar|(refine ao (hc:=c1) (hX:=fun _ _=>trivial) ?_)|(refine ao (hc:=c3) (hX:=fun _ _=>trivial) ?_)|(refine eF (a:=i.claim) (b:=ClaimD.zero) ?_)|(refine em (a:=i.ballot) (b:=BallotD.zero) ?_)|(refine br (cs:=ActD.zero.cells) (hf:=by rfl) ?_)|(refine br (cs:=ClaimD.zero.cells) (hf:=by rfl) ?_)|(refine br (cs:=BallotD.zero.cells) (hf:=by rfl) ?_)|(refine br (cs:=DecD.zero.cells) (hf:=by rfl) ?_)|(refine aW (vs:=i.act.cells) (hv:=rfl) ?_)|(refine aW (vs:=i.claim.cells) (hv:=rfl) ?_)|(refine aW (vs:=i.ballot.cells) (hv:=rfl) ?_)|(refine aW (vs:=i.dec.cells) (hv:=rfl) ?_)|fail)
 all_goals first
  | exact al (aq rfl rfl) rfl
  | (refine al (aq rfl rfl) ?_;simp_all;done)
end Go.Proofs.YtcdilibijnboeaaGreatDoor
