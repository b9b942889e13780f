/- Joined. -/
import Derived.Test.YtgffbiobmamobaaGreatDoorI0
import Derived.Test.YtgffbiobmamobaaGreatDoorI1
import Derived.Test.YtgffbiobmamobaaGreatDoorI2
import Derived.Test.YtgffbiobmamobaaGreatDoorI21
import Derived.Test.YtgffbiobmamobaaGreatDoorI20
import Derived.Test.YtgffbiobmamobaaGreatDoorI27
set_option linter.unusedVariables false
set_option linter.unusedSimpArgs false
set_option maxHeartbeats 16000000
namespace Go.Proofs.YtgffbiobmamobaaGreatDoor
open Go Go.Proofs Sy
def posG (l:List ByteArray) (id:ByteArray):Nat→Nat
 | 0=>0
 | n+1=>bif gtB (l.getD n .empty) id then posG l id n else n+1
theorem rE (l:List ByteArray) (id:ByteArray):∀ n,posG l id n≤n
 | 0=>Nat.le_refl _
 | n+1=>by
  have:=rE l id n
  rw [posG]
  cases gtB (l.getD n .empty) id
  · exact Nat.le_refl _
  · exact Nat.le_succ_of_le this
def skipP (mask:Int) (i:Nat):Bool:=decide (bitsV .and .i64 (shrV .i64 mask (i:Int)) 1=0)&&!decide ((i:Int)=pickV mask (4:Nat))
def panelS (mask:Int) (l:List ByteArray) (i:Nat):List ByteArray:=bif skipP mask i then l else l.take (posG l (idA21 i) l.length)++idA21 i::l.drop (posG l (idA21 i) l.length)
def panelG (mask:Int) (n:Nat):List ByteArray:=(List.range n).foldl (panelS mask) []
theorem cJ (mask:Int) (n:Nat):panelG mask (n+1)=panelS mask (panelG mask n) n:=by rw [panelG,List.range_succ,List.foldl_append];rfl
theorem eW (mask:Int):∀ n,(panelG mask n).length≤n
 | 0=>Nat.le_refl _
 | n+1=>by
  have:=eW mask n
  rw [cJ,panelS]
  cases skipP mask n
  · rw [cond_false,List.length_append,List.length_cons,List.length_take,List.length_drop]
    omega
  · exact Nat.le_succ_of_le this
theorem ec:∀ l:List ByteArray,(strs l).flatten=l.map encB
 | []=>rfl
 | a::l=>by rw [strs,List.map_cons,List.flatten_cons,List.map_cons,←ec l];rfl
structure PanI (mask:Int) where
 k:Nat
 hk:k≤4
 A:Option Addr
 n:Nat
 hn:n=(panelG mask k).length
 c:Nat
structure PanJ (l:List ByteArray) (id:ByteArray) where
 j:Nat
 hj:j≤l.length
 he:posG l id l.length=posG l id j
set_option maxRecDepth 20000 in
theorem mX (mask:Int):Mk Tryz.prog 49 #[.int .i64 mask] Xg (fun u X'=>∃ s:Xi,u=s.v∧∀ w,X' w→Strs w s (panelG mask 4)):=by
 refine bS Tryz.func49 Tryz.ntmps49 fun av bor w0=>?_
 have hpk:=aV mask 4 (by decide) (by decide)
 repeat' (first|refine gs ?_|refine gs1 fun _=>?_|(refine gp ?_ ?_<;>intro hx_ this)|fail)
 refine az (ι:=PanI mask) (fun i=>⟨[(0,.int .i64 mask),(3,.slice i.A i.n i.c),(4,.int .i64 (i.k:Nat))],[],fun w=>Xg w∧Strs w ⟨i.A,i.n,i.c⟩ (panelG mask i.k)⟩) (fun i=>4-i.k) ⟨0,Nat.zero_le _,none,0,rfl,0⟩ (ak an (List.nil_sublist _) fun w h=>⟨h,aN w 1⟩) fun i=>?_
 obtain ⟨k,hk,A,n,hn,c⟩:=i
 simp only
 have hnx:=cJ mask k
 have hll:=eW mask k
 obtain ⟨l,hl⟩:∃ l,panelG mask k=l:=⟨_,rfl⟩
 rw [hl] at hn hnx hll ⊢
 rw [panelS] at hnx
 by_cases hlt:k<4
 · have hid:=rW k ac
   obtain ⟨B,hB⟩:∃ B,decide (bitsV .and .i64 (shrV .i64 mask (k:Int)) 1=0)=B:=⟨_,rfl⟩
   obtain ⟨Q,hQ⟩:∃ Q,decide ((k:Int)=pickV mask (4:Nat))=Q:=⟨_,rfl⟩
   rw [skipP,hB,hQ] at hnx
   generalize idA21 k=id at *
   have hcase:(B=true∧Q=false)∨(B=false∨(B=true∧Q=true)):=by cases B<;>cases Q<;>simp
   rcases hcase with ⟨hB1,hQ1⟩|hno
   · subst hB1
     subst hQ1
     have hnx':panelG mask (k+1)=l:=hnx
     repeat' (first|refine aw ?_ (be true rfl rfl (decide_eq_true ac))|refine aw ?_ (bg true rfl rfl hB)|refine aw ?_ (cw true rfl rfl (by rw [hQ];rfl))|(refine ag (hc:=hpk) ?_)|refine gs ?_|refine gs1 fun _=>?_|(refine gp ?_ ?_<;>intro hx_ this)|fail)
     all_goals first
      | (exfalso;omega)
      | exact ⟨(⟨k+1,hlt,A,n,by rw [hnx'];exact hn,c⟩:PanI mask),(by show 4-(k+1)<4-k;omega),ak an (List.nil_sublist _) fun w h=>⟨h.1,(congrArg (Strs w ⟨A,n,c⟩) hnx').mpr h.2⟩⟩
   · have hnx':panelG mask (k+1)=l.take (posG l id l.length)++id::l.drop (posG l id l.length):=by
      rw [hnx]
      rcases hno with h|⟨h1,h2⟩
      · rw [h];rfl
      · rw [h1,h2];rfl
     refine aD (p:=n≤maxLen∧n≤c∧(0<l.length→A.isSome=true)) (fun w h=>⟨by have:=Nat.le_trans (Xe.cap h.2) (Xe.max h.2);exact this,Xe.cap h.2,h.2.some_⟩) fun ⟨hnm,hnc,hAp⟩=>?_
     simp only [maxLen] at hnm
     rcases hno with hB0|⟨hB1,hQ1⟩
     all_goals
      first|subst hB0|(subst hB1;subst hQ1)
      repeat' (first|refine aw ?_ (be true rfl rfl (decide_eq_true ac))|refine aw ?_ (bg _ rfl rfl hB)|refine aw ?_ (cw false rfl rfl (by rw [hQ];rfl))|(refine ag (hc:=hpk) ?_)|(refine ag (hc:=hid) ?_)|refine gs ?_|refine gs1 fun _=>?_|(refine gp ?_ ?_<;>intro hx_ this)|fail)
      refine az (ι:=PanJ l id) (fun j=>⟨[(0,.int .i64 mask),(3,.slice A n c),(4,.int .i64 (k:Nat)),(5,.string id),(6,.int .i64 (j.j:Nat))],[],fun w=>Xg w∧Strs w ⟨A,n,c⟩ l⟩) (fun j=>j.j) ⟨l.length,Nat.le_refl _,rfl⟩ (ak ⟨rfl,rfl,rfl,rfl,by rw [hn];rfl,trivial⟩ (List.nil_sublist _) fun w h=>h) fun j=>?_
      obtain ⟨j,hj,he⟩:=j
      simp only
      cases j with
      | zero =>
       have hfin:panelG mask (k+1)=l.take 0++id::l.drop 0:=by rw [hnx',he];rfl
       repeat' (first|refine aw ?_ (eQ false rfl rfl (by simp))|refine gs ?_|refine gs1 fun _=>?_|(refine gp ?_ ?_<;>intro hx_ this)|fail)
       have hs1:∀ w,(Xg w∧Strs w ⟨A,n,c⟩ l)→Src Tryz.prog w 1 (.slice A (0) c) (0) (strs (l.take (0))).flatten:=fun w h=>by
        have h1:=Xe.take (n:=0) h.2 (by simp [strs]<;>omega)
        rw [show (strs l).take (0)=strs (l.take (0)) by simp [strs,List.map_take]] at h1
        exact cO h1 (fun cs hcs=>by simp only [strs,List.mem_map] at hcs;obtain ⟨x,_,rfl⟩:=hcs;rfl)
       have hs2:∀ w,(Xg w∧Strs w ⟨A,n,c⟩ l)→Src Tryz.prog w 1 ((⟨A,n,c⟩:Xi).from 1 (0)).v ((⟨A,n,c⟩:Xi).from 1 (0)).n (strs (l.drop (0))).flatten:=fun w h=>by
        have h1:=Xe.drop (n:=0) h.2 (by simp [strs]<;>omega)
        rw [show (strs l).drop (0)=strs (l.drop (0)) by simp [strs,List.map_drop]] at h1
        exact cO h1 (fun cs hcs=>by simp only [strs,List.mem_map] at hcs;obtain ⟨x,_,rfl⟩:=hcs;rfl)
       (refine ao ⟨[1,2,3,5,8,9,10],[(0,⟨[],[(4,⟨[],[(6,⟨[],[(7,⟨[],[(11,⟨[12],[]⟩)]⟩)]⟩)]⟩),(6,⟨[],[(4,⟨[],[(7,⟨[],[(11,⟨[12],[]⟩)]⟩)]⟩)]⟩)]⟩),(6,⟨[],[(0,⟨[],[(4,⟨[],[(7,⟨[],[(11,⟨[12],[]⟩)]⟩)]⟩)]⟩)]⟩)]⟩ [] (fun _=>True) (h:=?_))
       all_goals repeat' (first|refine gd ?_|refine aJ (hy:=by first|(apply mx;rfl;rfl;omega;omega)|(apply pE (s:=⟨A,n,c⟩);rfl;rfl;omega;(show _≤(n:Int);omega))) ?_|refine aF ?_ (h':=?_)|exact aG|refine fk fun _=>?_|refine bH (size:=1) (vs:=[.string id]) (css:=[.string id]) (hsz:=by rfl) (hcs:=by rfl) fun _=>?_|(refine fI ?_;refine aH (size:=1) (news:=(strs (l.take (0))).flatten) (q:=0) rfl rfl rfl rfl (fun _=>by (repeat (first|exact At.here _|apply At.there))) (fun w G=>hs1 w G.keep.now) ac (by simp only [maxLen];omega) rfl ?_ rfl ?_;(first|with_reducible rfl|with_reducible assumption|with_reducible exact Bool.not_false|with_reducible exact Bool.not_true);intro A2 c2)|(refine fI ?_;refine aH (size:=1) (news:=[.string id]) (q:=1) rfl rfl rfl rfl (fun _=>by (repeat (first|exact At.here _|apply At.there))) (fun w G=>bu G aC rfl rfl 1) ac (by simp only [maxLen];omega) rfl ?_ rfl ?_;(first|with_reducible rfl|with_reducible assumption|with_reducible exact Bool.not_false|with_reducible exact Bool.not_true);intro A3 c3)|(refine fI ?_;refine aH (size:=1) (news:=(strs (l.drop (0))).flatten) (q:=n-(0)) rfl rfl rfl rfl (fun _=>by (repeat (first|exact At.here _|apply At.there))) (fun w G=>hs2 w G.keep.now) ac (by simp only [maxLen];omega) rfl ?_ rfl ?_;(first|with_reducible rfl|with_reducible assumption|with_reducible exact Bool.not_false|with_reducible exact Bool.not_true);intro A4 c4)|refine gs1 fun _=>?_|(refine gq ?_ ?_<;>intro hx_ this)|fail)
       all_goals
        repeat' (first|refine gs ?_|refine gs1 fun _=>?_|(refine gp ?_ ?_<;>intro hx_ this)|fail)
        have hN:0+(0)+1+(n-(0))=(panelG mask (k+1)).length:=by
         rw [hfin,List.length_append,List.length_cons,List.length_take,List.length_drop]
         omega
        have hfl:([]++(strs (l.take (0))).flatten++[.string id]++(strs (l.drop (0))).flatten)=((panelG mask (k+1)).map encB):=by
         rw [hfin,ec,ec,List.map_append,List.map_cons,List.nil_append,List.append_assoc]
         rfl
        refine ⟨(⟨k+1,hlt,A4,0+(0)+1+(n-(0)),hN,c4⟩:PanI mask),(by show 4-(k+1)<4-k;omega),fm (r:=orow 9 1 (.slice A4 (0+(0)+1+(n-(0))) c4) (0+(0)+1+(n-(0))) ([]++(strs (l.take (0))).flatten++[.string id]++(strs (l.drop (0))).flatten)) ⟨rfl,rfl,rfl,trivial⟩ ?_ fun w h hr=>⟨h.1,?_⟩⟩
        · first
           | exact .cons _ (al _)
           | exact .cons_cons _ (List.nil_sublist _)
        · have hr':=hr
          rw [hfl] at hr'
          exact dr hr' hN
      | succ m =>
       have hAp':=hAp ac
       obtain ⟨x,hx⟩:∃ x,l[m]?=some x:=⟨_,List.getElem?_eq_getElem ac⟩
       have hxD:l.getD m .empty=x:=by rw [List.getD_eq_getElem?_getD,hx];rfl
       rw [posG,hxD] at he
       cases hg:gtB x id with
       | true =>
        rw [hg,cond_true] at he
        repeat' (first|refine aw ?_ (eQ true rfl rfl (decide_eq_true ac))|refine SrG.sy_subN_g (p:=m+1) (q:=1) (hq:=by omega) (h:=?_)|refine aw ?_ (gD true rfl rfl hg)|refine gs ?_|refine gs1 fun _=>?_|(refine aA (q:=m) ?_)|(refine bE (q:=m) (u:=.string x) (hF:=fun w h=>h.2.at_ hx) ?_)|(refine gp ?_ ?_<;>intro hx_ this)|fail)
        all_goals first
         | (exfalso;omega)
         | exact ⟨(⟨m,by omega,he⟩:PanJ l id),(by show m<m+1;omega),ak ⟨rfl,rfl,rfl,rfl,congrArg (fun z:Int=>some (Value.int .i64 z)) (by first | rfl | omega),trivial⟩ (List.nil_sublist _) fun w h=>h⟩
       | false =>
        rw [hg,cond_false] at he
        have hfin:panelG mask (k+1)=l.take (m+1)++id::l.drop (m+1):=by rw [hnx',he]
        repeat' (first|refine aw ?_ (eQ true rfl rfl (decide_eq_true ac))|refine SrG.sy_subN_g (p:=m+1) (q:=1) (hq:=by omega) (h:=?_)|refine aw ?_ (gD false rfl rfl hg)|refine gs ?_|refine gs1 fun _=>?_|(refine aA (q:=m) ?_)|(refine bE (q:=m) (u:=.string x) (hF:=fun w h=>h.2.at_ hx) ?_)|(refine gp ?_ ?_<;>intro hx_ this)|fail)
        have hs1:∀ w,(Xg w∧Strs w ⟨A,n,c⟩ l)→Src Tryz.prog w 1 (.slice A (m+1) c) (m+1) (strs (l.take (m+1))).flatten:=fun w h=>by
         have h1:=Xe.take (n:=m+1) h.2 (by simp [strs]<;>omega)
         rw [show (strs l).take (m+1)=strs (l.take (m+1)) by simp [strs,List.map_take]] at h1
         exact cO h1 (fun cs hcs=>by simp only [strs,List.mem_map] at hcs;obtain ⟨x,_,rfl⟩:=hcs;rfl)
        have hs2:∀ w,(Xg w∧Strs w ⟨A,n,c⟩ l)→Src Tryz.prog w 1 ((⟨A,n,c⟩:Xi).from 1 (m+1)).v ((⟨A,n,c⟩:Xi).from 1 (m+1)).n (strs (l.drop (m+1))).flatten:=fun w h=>by
         have h1:=Xe.drop (n:=m+1) h.2 (by simp [strs]<;>omega)
         rw [show (strs l).drop (m+1)=strs (l.drop (m+1)) by simp [strs,List.map_drop]] at h1
         exact cO h1 (fun cs hcs=>by simp only [strs,List.mem_map] at hcs;obtain ⟨x,_,rfl⟩:=hcs;rfl)
        (refine ao ⟨[1,2,3,5,8,9,10],[(0,⟨[],[(4,⟨[],[(6,⟨[],[(7,⟨[],[(11,⟨[12],[]⟩)]⟩)]⟩)]⟩),(6,⟨[],[(4,⟨[],[(7,⟨[],[(11,⟨[12],[]⟩)]⟩)]⟩)]⟩)]⟩),(6,⟨[],[(0,⟨[],[(4,⟨[],[(7,⟨[],[(11,⟨[12],[]⟩)]⟩)]⟩)]⟩)]⟩)]⟩ [] (fun _=>True) (h:=?_))
        all_goals repeat' (first|refine gd ?_|refine aJ (hy:=by first|(apply mx;rfl;rfl;omega;omega)|(apply pE (s:=⟨A,n,c⟩);rfl;rfl;omega;(show _≤(n:Int);omega))) ?_|refine aF ?_ (h':=?_)|exact aG|refine fk fun _=>?_|refine bH (size:=1) (vs:=[.string id]) (css:=[.string id]) (hsz:=by rfl) (hcs:=by rfl) fun _=>?_|(refine fI ?_;refine aH (size:=1) (news:=(strs (l.take (m+1))).flatten) (q:=m+1) rfl rfl rfl rfl (fun _=>by (repeat (first|exact At.here _|apply At.there))) (fun w G=>hs1 w G.keep.now) ac (by simp only [maxLen];omega) rfl ?_ rfl ?_;(first|with_reducible rfl|with_reducible assumption|with_reducible exact Bool.not_false|with_reducible exact Bool.not_true);intro A2 c2)|(refine fI ?_;refine aH (size:=1) (news:=[.string id]) (q:=1) rfl rfl rfl rfl (fun _=>by (repeat (first|exact At.here _|apply At.there))) (fun w G=>bu G aC rfl rfl 1) ac (by simp only [maxLen];omega) rfl ?_ rfl ?_;(first|with_reducible rfl|with_reducible assumption|with_reducible exact Bool.not_false|with_reducible exact Bool.not_true);intro A3 c3)|(refine fI ?_;refine aH (size:=1) (news:=(strs (l.drop (m+1))).flatten) (q:=n-(m+1)) rfl rfl rfl rfl (fun _=>by (repeat (first|exact At.here _|apply At.there))) (fun w G=>hs2 w G.keep.now) ac (by simp only [maxLen];omega) rfl ?_ rfl ?_;(first|with_reducible rfl|with_reducible assumption|with_reducible exact Bool.not_false|with_reducible exact Bool.not_true);intro A4 c4)|refine gs1 fun _=>?_|(refine gq ?_ ?_<;>intro hx_ this)|fail)
        all_goals
         repeat' (first|refine gs ?_|refine gs1 fun _=>?_|(refine gp ?_ ?_<;>intro hx_ this)|fail)
         have hN:0+(m+1)+1+(n-(m+1))=(panelG mask (k+1)).length:=by
          rw [hfin,List.length_append,List.length_cons,List.length_take,List.length_drop]
          omega
         have hfl:([]++(strs (l.take (m+1))).flatten++[.string id]++(strs (l.drop (m+1))).flatten)=((panelG mask (k+1)).map encB):=by
          rw [hfin,ec,ec,List.map_append,List.map_cons,List.nil_append,List.append_assoc]
          rfl
         refine ⟨(⟨k+1,hlt,A4,0+(m+1)+1+(n-(m+1)),hN,c4⟩:PanI mask),(by show 4-(k+1)<4-k;omega),fm (r:=orow 9 1 (.slice A4 (0+(m+1)+1+(n-(m+1))) c4) (0+(m+1)+1+(n-(m+1))) ([]++(strs (l.take (m+1))).flatten++[.string id]++(strs (l.drop (m+1))).flatten)) ⟨rfl,rfl,rfl,trivial⟩ ?_ fun w h hr=>⟨h.1,?_⟩⟩
         · first
            | exact .cons _ (al _)
            | exact .cons_cons _ (List.nil_sublist _)
         · have hr':=hr
           rw [hfl] at hr'
           exact dr hr' hN
 · obtain rfl:k=4:=by omega
   repeat' (first|refine aw ?_ (be false rfl rfl (decide_eq_false ac))|refine gs ?_|refine gs1 fun _=>?_|(refine gp ?_ ?_<;>intro hx_ this)|fail)
   exact ae (aj rfl rfl) ⟨⟨A,n,c⟩,rfl,fun w h=>by rw [hl];exact h.1.2⟩
end Go.Proofs.YtgffbiobmamobaaGreatDoor
