/- Joined. -/
import Derived.Test.YtggionfjlgfihaaGreatDoorI0
import Derived.Test.YtggionfjlgfihaaGreatDoorI16
import Derived.Test.YtggionfjlgfihaaGreatDoorI18
import Derived.Test.YtggionfjlgfihaaGreatDoorI8
import Derived.Test.YtggionfjlgfihaaGreatDoorI14
set_option linter.unusedVariables false
set_option linter.unusedSimpArgs false
set_option maxHeartbeats 16000000
namespace Go.Proofs.YtggionfjlgfihaaGreatDoor
open Go Go.Proofs Sy
def encBal (b:Xi):List Value:=[b.v]
structure BalX (ks ki:Xj) (I:List Xb) (bk ba bg:Nat) (au:ByteArray) (gn:Int) (w:World):Prop where
 i:Items w ki I
 g:Xf w
 k:CelD bk [ks.v,ki.v] w
 a:CelD ba [.string au] w
 n:CelD bg [.int .i64 gn] w
theorem rL (ks ki:Xj) (au:ByteArray) (gn:Int):Mk Tryz.prog 211 #[.agg #[ks.v,ki.v],.string au,.int .i64 gn] (fun _=>True)
  fun u X'=>∃ bk ba bg,u=.func (.func 225) #[] #[.pointer (some ⟨bk,0,none⟩),.pointer (some ⟨ba,0,none⟩),.pointer (some ⟨bg,0,none⟩)]∧∀ w,X' w→CelD bk [ks.v,ki.v] w∧CelD ba [.string au] w∧CelD bg [.int .i64 gn] w:=by
 refine cC Tryz.func211 Tryz.ntmps211 fun av bor w0=>?_
 repeat' (first|refine gs ?_|refine gs1 fun _=>?_|(refine cL ?_)|(refine gp ?_ ?_<;>intro hx_ this)|fail)
 exact ab (ai rfl rfl) ⟨_,_,_,rfl,fun w h=>⟨ei (h.2 _ aL),ei (h.2 _ aL),ei (h.2 _ aL)⟩⟩
structure BaI (L:List Xi) (Rs:List Xi→List Xk→Prop) where
 k:Nat
 hk:k≤L.length
 R:List Xk
 hR:Rs (L.take k) R
theorem qi (ks ki:Xj) (I:List Xb) (bk ba bg:Nat) (au:ByteArray) (gn:Int) (L:List Xi) (hL:L.length≤1000000)
  (hK:Mk Tryz.prog 226 #[.agg #[ks.v,ki.v],.string au,.int .i64 gn] (fun w=>Items w ki I∧Xf w) (fun u X'=>∃ s:Xj,u=s.v∧∀ w,X' w→Ballots w s L)) :
  It Tryz.prog 225 [.pointer (some ⟨bk,0,none⟩),.pointer (some ⟨ba,0,none⟩),.pointer (some ⟨bg,0,none⟩)] (BalX ks ki I bk ba bg au gn) encBal L:=by
 intro l X Rs hX hY R0 h0
 refine bT Tryz.func225 Tryz.ntmps225 fun av bor w0=>?_
 refine sZ (st':=⟨[(1,.pointer (some ⟨bk,0,none⟩)),(2,.pointer (some ⟨ba,0,none⟩)),(3,.pointer (some ⟨bg,0,none⟩)),(0,.func (.yield l) #[] #[])],R0++[],X⟩) (by rw [List.append_nil];exact ae al (aj _) fun _ h=>h) ?_
 repeat' (first|(refine bm (hc:=hK) (hX:=fun w h=>⟨(hX w h).i,(hX w h).g⟩) fun v1 X1 h1=>?_;obtain ⟨s,rfl,hs⟩:=h1)|refine gs ?_|refine gs1 fun _=>?_|(refine nu (cs:=[ks.v,ki.v]) (hF:=fun w h=>(hX w h).k) (hl:=rfl) ?_)|(refine vV (v:=.string au) (hF:=fun w h=>(hX w h).a 0 _ rfl) ?_)|(refine vV (v:=.int .i64 gn) (hF:=fun w h=>(hX w h).n 0 _ rfl) ?_)|(refine gp ?_ ?_<;>intro hx_ this)|fail)
 refine aH (p:=s.n=L.length∧s.n≤maxLen∧(0<L.length→s.p.isSome=true)) (fun w h=>⟨by simpa using Xe.len (hs w h.2),Nat.le_trans (Xe.cap (hs w h.2)) (Xe.max (hs w h.2)),fun h0=>(Xe.row (hs w h.2) 0 L[0].cells (by simp [List.getElem?_eq_getElem h0])).2.1⟩) fun ⟨hsn,hsm,hsp⟩=>?_
 simp only [maxLen] at hsm
 refine am (ι:=BaI L Rs) (fun i=>⟨[(0,.func (.yield l) #[] #[]),(10,s.v),(11,.int .i64 (s.n:Nat)),(12,.int .i64 (i.k:Nat))],i.R++[],fun w=>X w∧X1 w⟩) (fun i=>L.length-i.k) ⟨0,Nat.zero_le _,R0,h0⟩ (ae al (aj _) fun _ h=>h) fun i=>?_
 obtain ⟨k,hk,R,hR⟩:=i
 simp only
 by_cases hlt:k<L.length
 · have hsp':=hsp aa
   obtain ⟨x,hx⟩:∃ x,L[k]?=some x:=⟨_,List.getElem?_eq_getElem hlt⟩
   have hrow:∀ w,X w∧X1 w→x.cells.length=7∧s.p.isSome=true∧∀ i u,x.cells[i]?=some u→CellAt w s.p (k*7+i) u:=fun w h=>Xe.row (hs w h.2) k x.cells (by simp [hx])
   have hsplit:L=L.take k++x::L.drop (k+1):=by
    have h1:=List.take_append_drop k L
    rw [List.drop_eq_getElem_cons hlt] at h1
    rw [List.getElem?_eq_getElem hlt,Option.some.injEq] at hx
    rw [hx] at h1
    exact h1.symm
   have htk:L.take (k+1)=L.take k++[x]:=by rw [List.take_add_one,hx,Option.toList_some]
   repeat' (first|apply bz|apply cw_seq|refine cA ?_|refine bK ?_|refine df ?_|refine br ?_|refine dO ?_|refine dv ?_|refine db ?_|refine dQ ?_|refine cH (h:=?_)|refine ca fun _=>?_|refine ci ?_|refine bw ?_|refine cw_cond_t ?_|refine cw_cond_f ?_|apply cw_skip|apply cw_block|apply cw_ret|apply cw_exit|refine cE ?_|refine cD ?_|(refine cw_cond (ht:=?_) (hf:=?_);all_goals (intro hx_;first|have:=cI hx_|have:=d1 hx_|skip)))
   apply cw_reg
   repeat' (first|(refine aO ?_ (bj true rfl rfl (decide_eq_true aa)))|apply bz|apply cw_seq|refine cA ?_|refine bK ?_|refine df ?_|refine br ?_|refine dO ?_|refine dv ?_|refine db ?_|refine dQ ?_|refine cH (h:=?_)|refine ca fun _=>?_|refine ci ?_|refine bw ?_|refine cw_cond_t ?_|refine cw_cond_f ?_|apply cw_skip|apply cw_block|apply cw_ret|apply cw_exit|refine cE ?_|refine cD ?_|(refine cw_cond (ht:=?_) (hf:=?_);all_goals (intro hx_;first|have:=cI hx_|have:=d1 hx_|skip)))
   apply cw_reg
   repeat' (first|apply bz|apply cw_seq|refine cA ?_|refine bK ?_|refine df ?_|refine br ?_|refine dO ?_|refine dv ?_|refine db ?_|refine dQ ?_|refine cH (h:=?_)|refine ca fun _=>?_|refine ci ?_|refine bw ?_|refine cw_cond_t ?_|refine cw_cond_f ?_|apply cw_skip|apply cw_block|apply cw_ret|apply cw_exit|refine cE ?_|refine cD ?_|(refine aE (q:=k*7) ?_)|(refine aS (cs:=x.cells) (hF:=hrow) ?_)|(refine cw_cond (ht:=?_) (hf:=?_);all_goals (intro hx_;first|have:=cI hx_|have:=d1 hx_|skip)))
   rename_i b6
   refine zD ?_
   refine AB (pre:=[_,_]) (rest:=[_,_]) rfl ?_
   refine cA ?_
   refine br ?_
   refine bX (l:=R++[cel b6 41 x.cells]) (by rw [List.append_nil];exact List.perm_append_comm (l₁:=[_]) (l₂:=R)) ?_
   apply bz
   refine yI (pre:=R) (fr:=[cel b6 41 x.cells]) rfl rfl rfl rfl rfl (hY _ _ _ _ hsplit hR) (fun _ h=>h.1) fun v R' X' hv=>?_
   obtain ⟨rfl,hR'⟩:=hv
   refine wb rfl ?_
   repeat' (first|refine gs ?_|refine gs1 fun _=>?_|(refine gp ?_ ?_<;>intro hx_ this)|fail)
   exact ⟨(⟨k+1,hlt,R',by rw [htk];exact hR'⟩:BaI L Rs),(by show L.length-(k+1)<L.length-k;omega),ae al (by rw [List.append_nil];exact List.sublist_append_left _ _) fun _ h=>h.1⟩
 · have hkE:k=L.length:=by omega
   repeat' (first|refine aO ?_ (bj false rfl rfl (decide_eq_false aa))|refine gs ?_|refine gs1 fun _=>?_|(refine gp ?_ ?_<;>intro hx_ this)|fail)
   refine aI (aA rfl) ?_
   rw [hkE,List.take_length] at hR
   simpa using hR
def vpre (d:ByteArray) (l:List Xi):List Int:=(l.filter fun b=>seqB b.claim d).map Xi.server
def votV (d:ByteArray) (l:List Xi):List Int:=Lib.compact ((vpre d l).mergeSort (fun a b=>decide (a≤b)))
theorem Ao {d:ByteArray} {l:List Xi} {x:Xi} (h:seqB x.claim d=true):vpre d (l++[x])=vpre d l++[x.server]:=by simp [vpre,List.filter_append,List.filter_cons,h]
theorem Ap {d:ByteArray} {l:List Xi} {x:Xi} (h:seqB x.claim d=false):vpre d (l++[x])=vpre d l:=by simp [vpre,List.filter_append,List.filter_cons,h]
theorem rV (d:ByteArray) (l:List Xi):(vpre d l).length≤l.length:=by rw [vpre,List.length_map];exact List.length_filter_le _ _
theorem tC (ks ki:Xj) (I:List Xb) (au:ByteArray) (gn:Int) (d:ByteArray) (L:List Xi) (hL:L.length≤1000000)
  (hK:Mk Tryz.prog 226 #[.agg #[ks.v,ki.v],.string au,.int .i64 gn] (fun w=>Items w ki I∧Xf w) (fun u X'=>∃ s:Xj,u=s.v∧∀ w,X' w→Ballots w s L)) :
  Mk Tryz.prog 192 #[.agg #[ks.v,ki.v],.string d,.string au,.int .i64 gn] (fun w=>Items w ki I∧Xf w) (fun u _=>∃ A c,u=.slice A (votV d L).length c):=by
 refine cC Tryz.func192 Tryz.ntmps192 fun av bor w0=>?_
 refine bA 3 1 ?_
 repeat' (first|(refine bm (hc:=rL ks ki au gn) (hX:=fun w h=>trivial) fun v1 X1 h1=>?_;obtain ⟨bk,ba,bg,rfl,hb⟩:=h1)|refine gs ?_|refine gs1 fun _=>?_|(refine gp ?_ ?_<;>intro hx_ this)|fail)
 rename_i b4 b5 b9
 refine xV (ps:=[15]) (xs:=L) (enc:=encBal) (X1:=BalX ks ki I bk ba bg au gn) rfl ⟨ac⟩ (qi ks ki I bk ba bg au gn L hL hK) (fun w h=>⟨h.1.1,h.1.2,(hb w h.2).1,(hb w h.2).2.1,(hb w h.2).2.2⟩) (fun _=>rfl) rfl
  (fun pre loc1=>∃ A q,loc1=[cel b9 24 [.slice A (vpre d pre).length q],cel b5 9 [.string d],cel b4 26 [ks.v,ki.v],orow 3 1 (.slice A (vpre d pre).length q) (vpre d pre).length ((vpre d pre).map encJ)])
  ⟨none,0,rfl⟩ ?_ ?_
 · rintro lo pre x suf loc1 hsp ⟨A,q,rfl⟩ av bor w0
   have hpx:pre.length<L.length:=by rw [hsp];simp
   have hfl:=rV d pre
   repeat' (first|apply bz|apply Rd.cw_seq|refine Rd.cw_reg (h:=?_)|refine cA ?_|refine bK ?_|refine dG ?_|refine df ?_|refine br ?_|refine nz ?_|refine j8 ?_|refine ca fun _=>?_|refine dS fun _=>?_|refine cr fun _=>?_|refine ci ?_|refine bw ?_|refine Rd.cw_cond_t (ht:=?_)|refine Rd.cw_cond_f (hf:=?_)|apply Rd.cw_skip|apply Rd.cw_block|apply Rd.cw_ret|apply Rd.cw_exit|refine iw ?_|refine cE ?_|refine cD ?_)
   intro av bor w0
   cases hmv:seqB x.claim d with
   | true =>
    rw [Ao hmv]
    generalize vpre d pre=ys at *
    repeat' (first|refine aO ?_ (cw true rfl rfl hmv)|apply bz|apply Rd.cw_seq|refine Rd.cw_reg (h:=?_)|refine cA ?_|refine bK ?_|refine dG ?_|refine df ?_|refine br ?_|refine nz ?_|refine j8 ?_|refine ca fun _=>?_|refine dS fun _=>?_|refine cr fun _=>?_|refine ci ?_|refine bw ?_|refine Rd.cw_cond_t (ht:=?_)|refine Rd.cw_cond_f (hf:=?_)|apply Rd.cw_skip|apply Rd.cw_block|apply Rd.cw_ret|apply Rd.cw_exit|refine iw ?_|refine cE ?_|refine cD ?_|(refine cr (len:=1) (vs:=[encJ x.server]) fun _=>?_)|(refine aC (size:=1) (news:=[encJ x.server]) (q:=1) rfl rfl rfl rfl (fun _=>At.there _ (At.there _ (At.there _ (At.there _ (At.there _ (At.here _)))))) (fun w G=>aU G ap rfl rfl 1) aa (by simp only [maxLen];omega) rfl ?_ rfl ?_;(first|with_reducible rfl|with_reducible assumption);intro A3 c3)|(refine Rd.cw_cond (ht:=?_) (hf:=?_);all_goals (intro hx_;first|have:=cI hx_|have:=d1 hx_|skip)))
    have e1:(ys++[x.server]).length=ys.length+1:=by simp
    have e2:(ys++[x.server]).map encJ=ys.map encJ++[encJ x.server]:=by simp
    rw [e1,e2]
    exact ⟨_,.cons _ (.cons _ (aj _)),A3,c3,rfl⟩
   | false =>
    rw [Ap hmv]
    generalize vpre d pre=ys at *
    repeat' (first|refine aO ?_ (cw false rfl rfl hmv)|apply bz|apply Rd.cw_seq|refine Rd.cw_reg (h:=?_)|refine cA ?_|refine bK ?_|refine dG ?_|refine df ?_|refine br ?_|refine nz ?_|refine j8 ?_|refine ca fun _=>?_|refine dS fun _=>?_|refine cr fun _=>?_|refine ci ?_|refine bw ?_|refine Rd.cw_cond_t (ht:=?_)|refine Rd.cw_cond_f (hf:=?_)|apply Rd.cw_skip|apply Rd.cw_block|apply Rd.cw_ret|apply Rd.cw_exit|refine iw ?_|refine cE ?_|refine cD ?_|(refine Rd.cw_cond (ht:=?_) (hf:=?_);all_goals (intro hx_;first|have:=cI hx_|have:=d1 hx_|skip)))
    exact ⟨_,.cons _ (aj _),A,q,rfl⟩
 · rintro loc1 ⟨A,q,rfl⟩
   have hfl:=rV d L
   have hvo:votV d L=Lib.compact ((vpre d L).mergeSort (fun a b=>decide (a≤b))):=rfl
   rw [hvo]
   generalize vpre d L=ys at *
   repeat' (first|refine gs ?_|refine gs1 fun _=>?_|fail)
   refine d9 (hc:=sortI_c.ct (e:=3) (n:=ys.length) (ss:=ys) aa) (hX:=fun _ _=>trivial) ?_
   repeat' (first|refine gs ?_|refine gs1 fun _=>?_|fail)
   refine ec (hc:=compI_c.ct) (hX:=fun _ _=>trivial) ?_
   rintro _ _ X2 ⟨A3,c3,rfl,rfl⟩
   repeat' (first|refine gs ?_|refine gs1 fun _=>?_|fail)
   exact ab (ai rfl rfl) ⟨A3,c3,rfl⟩
end Go.Proofs.YtggionfjlgfihaaGreatDoor
