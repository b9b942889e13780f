/- Joined. -/
import Derived.Test.YtggionfjlgfihaaGreatDoorI0
import Derived.Test.YtggionfjlgfihaaGreatDoorI14
set_option linter.unusedVariables false
set_option linter.unusedSimpArgs false
set_option maxHeartbeats 16000000
namespace Go.Proofs.YtggionfjlgfihaaGreatDoor
open Go Go.Proofs Sy
def OwnStrs (l:List ByteArray) (u:Value) (R:List Xk):Prop:=∃ A c,u=.slice A l.length c∧R=[orow 9 1 u l.length (l.map encB)]
theorem mF {f:FuncId} {args:Array Value} {X:World→Prop} {l:List ByteArray} (h:Ct Tryz.prog f args [] X (fun u R _=>OwnStrs l u R)):Mk Tryz.prog f args X (StrsAt l):=by
 unfold Mk
 exact Ct.mk fun w av G=>(Ct.run h w av G).mono fun e w' ⟨u,R,X',he,hu,G'⟩=>⟨u,[],_,he,⟨by
  obtain ⟨A,c,rfl,rfl⟩:=hu
  exact ⟨⟨A,_,c⟩,rfl,fun w h=>eA (h.2 _ ap) rfl⟩,rfl⟩,G'.giveAll⟩
theorem lg (c:Xd) (hc:Xt c.actsL) (hcl:c.actsL.length≤1000000) (hto:∀ x∈c.actsL,x.to.n≤1000000) (n sc:Int) (g:ByteArray) (st:Xj) (toL:List ByteArray) (htl:toL.length≤1000000) :
    Ct Tryz.prog 148 #[c.v,.int .i64 n,.int .i64 sc,.string g,st.v] [] (fun w=>XC c w∧Strs w st toL) (fun u R _=>OwnStrs (membersV c n sc g toL) u R):=by
  refine cX (args:=[_,_,_,_,_]) (Post:=OwnStrs (membersV c n sc g toL)) _ Tryz.func148 rfl Tryz.ntmps148 rfl fun av bor w0=>?_
  refine aH (fun w h=>XC.know w h.1) fun ⟨hl,hm,hp,hcap⟩=>?_
  simp only [maxLen] at hm
  have hB:=oF hc n
  have hM:membersV c n sc g toL=compB (sortB ((listOf c n sc g toL).filter (keepM c (sortB (tieV c.actsL n).b)))):=rfl
  repeat' (first|refine gs ?_|refine gs1 fun _=>?_|fail)
  refine bm (hc:=wE c hc hcl n) fun v1 X1 h1=>?_
  obtain ⟨s1,s2,s3,s4,rfl,hties⟩:=h1
  have hLo:listOf c n sc g toL=bif decide (sc=1) then sortB (tieV c.actsL n).a else bif decide (sc=2) then ((circF c.actsL g (limN n c.actsL.length)).map (·.toL)).getD [] else bif decide (sc=3) then toL else []:=rfl
  generalize tieV c.actsL n=t at *
  have hlim:=iM n c.acts.n
  repeat' (first|refine gs ?_|refine gs1 fun _=>?_|fail)
  rename_i b5 b11
  repeat' (first|refine ag (hc:=jv c n) ?_|refine gs ?_|refine gs1 fun _=>?_|(refine gp ?_ ?_<;>intro hx_ this)|fail)
  case refine_1 =>
    have hLe:listOf c n sc g toL=sortB t.a:=by rw [hLo,hx_];rfl
    have hSL:∀ w,(XC c w∧Strs w st toL)∧X1 w→Strs w s2 (sortB t.a):=fun w h=>(hties w h.2).2.1
    have hLl:(sortB t.a).length≤1000000:=by rw [gN];have:=hB.a.len;omega
    generalize hLL:sortB t.a=L at *
    refine aH (p:=(s2).n=(L).length∧(s2).n≤maxLen∧(0<(L).length→(s2).p.isSome=true)) (fun w h=>⟨(hSL w h).len_,Nat.le_trans (Xe.cap (hSL w h)) (Xe.max (hSL w h)),(hSL w h).some_⟩) fun ⟨hSl,hSm,hSp⟩=>?_
    simp only [maxLen] at hSm
    refine bA 9 1 ?_
    refine am (ι:=FilS (L).length) (fun i=>⟨[(5,.pointer (some ⟨b5,0,none⟩)),(11,.pointer (some ⟨b11,0,none⟩)),(15,.slice i.A (((L).take i.k).filter (keepM c (sortB t.b))).length i.c),(54,(s2).v),(55,.int .i64 (s2).n),(56,.int .i64 i.k)],
      [orow 9 1 (.slice i.A (((L).take i.k).filter (keepM c (sortB t.b))).length i.c) (((L).take i.k).filter (keepM c (sortB t.b))).length ((((L).take i.k).filter (keepM c (sortB t.b))).map encB),cel b11 252 [s1.v,s2.v,s3.v,s4.v],cel b5 67 c.cells],fun w=>(XC c w∧Strs w st toL)∧X1 w⟩) (fun i=>(L).length-i.k) ⟨0,Nat.zero_le _,none,0⟩ (ae al (aj _) fun _ h=>h) fun i=>?_
    have hik:=i.hk
    repeat' (first|refine gs ?_|refine gs1 fun _=>?_|(refine gp ?_ ?_<;>intro hx_ this)|fail)
    · have hlt:i.k<(L).length:=by omega
      have hp2:=hSp aa
      have hfs:=eW (p:=(keepM c (sortB t.b))) (L) hlt
      have hfl:(((L).take i.k).filter (keepM c (sortB t.b))).length≤1000000:=by
        have h1:=List.length_filter_le (keepM c (sortB t.b)) ((L).take i.k)
        have h2:=List.length_take_le i.k (L)
        omega
      generalize hacc:((L).take i.k).filter (keepM c (sortB t.b))=acc at *
      generalize hxe:(L).getD i.k .empty=x at *
      repeat' (first|(refine ag (hc:=dW s3 (sortB t.b) x) (hX:=fun w h=>(hties w h.2).2.2.1) ?_)|(refine aC (size:=1) (z:=.string ⟨#[]⟩) (news:=[encB x]) (q:=1) rfl rfl rfl rfl (fun _=>At.there _ (At.here _)) (fun w G=>aU G ap rfl rfl 1) aa (by simp only [maxLen];omega) rfl ?_ rfl ?_;(first|with_reducible rfl|with_reducible assumption|with_reducible exact Bool.not_false|with_reducible exact Bool.not_true);intro A2 c2)|refine gs ?_|refine gs1 fun _=>?_|(refine aE (q:=i.k) ?_)|(refine cg (u:=.string x) (hF:=fun w h=>hxe▸Strs.get (hSL w h) hlt) ?_)|(refine gp ?_ ?_<;>intro hx_ this)|fail)
      all_goals first
        | (have e:((L).take (i.k+1)).filter (keepM c (sortB t.b))=acc++[x]:=by rw [hfs];simp only [keepM, *,decide_true,decide_false,cond_true,cond_false,Bool.and_true,Bool.true_and,Bool.and_false,Bool.false_and,Bool.not_true,Bool.not_false,Bool.or_true,Bool.true_or,Bool.or_false,Bool.false_or]
           refine ⟨(⟨i.k+1,hlt,A2,c2⟩:FilS (L).length),(by show (L).length-(i.k+1)<(L).length-i.k;omega),ae ?_ ?_ fun _ h=>h⟩
           · simp only [e,List.length_append,List.length_cons,List.length_nil,Nat.zero_add];exact ⟨rfl,rfl,rfl,rfl,rfl,rfl,trivial⟩
           · simp only [e,List.length_append,List.length_cons,List.length_nil,Nat.zero_add,List.map_append,List.map_cons,List.map_nil];exact List.Sublist.cons _ (aj _))
        | (have e:((L).take (i.k+1)).filter (keepM c (sortB t.b))=acc:=by rw [hfs];simp only [keepM, *,decide_true,decide_false,cond_true,cond_false,Bool.and_true,Bool.true_and,Bool.and_false,Bool.false_and,Bool.not_true,Bool.not_false,Bool.or_true,Bool.true_or,Bool.or_false,Bool.false_or,List.append_nil]
           refine ⟨(⟨i.k+1,hlt,i.A,i.c⟩:FilS (L).length),(by show (L).length-(i.k+1)<(L).length-i.k;omega),ae ?_ ?_ fun _ h=>h⟩
           · simp only [e];exact ⟨rfl,rfl,rfl,rfl,rfl,rfl,trivial⟩
           · simp only [e];exact aj _)
    have hfl:(((L).take i.k).filter (keepM c (sortB t.b))).length≤1000000000:=by
      have h1:=List.length_filter_le (keepM c (sortB t.b)) ((L).take i.k)
      have h2:=List.length_take_le i.k (L)
      omega
    have hk:i.k=(L).length:=by omega
    have hfin:membersV c n sc g toL=compB (sortB (((L).take i.k).filter (keepM c (sortB t.b)))):=by rw [hM,hLe,hk,List.take_length]
    refine d9 (hc:=gc hfl) (hX:=fun _ _=>trivial) ?_
    repeat' (first|refine gs ?_|refine gs1 fun _=>?_|fail)
    refine ec (hc:=gH) (hX:=fun _ _=>trivial) ?_
    rintro _ _ X2 ⟨A3,c3,rfl,rfl⟩
    repeat' (first|refine gs ?_|refine gs1 fun _=>?_|fail)
    rw [hfin]
    exact ab (ai rfl rfl) ⟨_,List.Sublist.cons_cons _ (List.nil_sublist _),A3,c3,rfl,rfl⟩
  case refine_2.refine_1 =>
    refine am (ι:=Kth (limN n c.acts.n)) (fun i=>⟨[(3,.string g),(5,.pointer (some ⟨b5,0,none⟩)),(11,.pointer (some ⟨b11,0,none⟩)),(12,((((circF c.actsL g i.k).map (fun x:Xa=>x.to)).getD (⟨none,0,0⟩:Xj)):Xj).v),(21,.int .i64 sc),(30,.int .i64 (limN n c.acts.n)),(31,.int .i64 i.k)],
      [cel b11 252 [s1.v,s2.v,s3.v,s4.v],cel b5 67 c.cells],fun w=>(XC c w∧Strs w st toL)∧X1 w⟩) (fun i=>limN n c.acts.n-i.k) ⟨0,Nat.zero_le _⟩ (ae al (aj _) fun _ h=>h) fun i=>?_
    have hik:=i.hk
    repeat' (first|refine gs ?_|refine gs1 fun _=>?_|(refine gp ?_ ?_<;>intro hx_ this)|fail)
    · have hlt:i.k<limN n c.acts.n:=by omega
      have hltL:i.k<c.actsL.length:=by omega
      have hp':=hp aa
      obtain ⟨x,hx⟩:∃ x,c.actsL[i.k]?=some x:=⟨_,List.getElem?_eq_getElem hltL⟩
      have hstep:circF c.actsL g (i.k+1)=bif decide (x.kind=15)&&seqB x.group g then some x else circF c.actsL g i.k:=by simp only [circF,List.getD_eq_getElem?_getD,hx,Option.getD_some]
      repeat' (first|refine gs ?_|refine gs1 fun _=>?_|(refine aE (q:=i.k*20) ?_)|(refine aS (cs:=x.cells) (hF:=fun w h=>Acts.get h.1.1.1 hx) ?_)|(refine gp ?_ ?_<;>intro hx_ this)|fail)
      all_goals exact ⟨(⟨i.k+1,hlt⟩:Kth (limN n c.acts.n)),(by show limN n c.acts.n-(i.k+1)<limN n c.acts.n-i.k;omega),ae (by
        have e:circF c.actsL g (i.k+1)=_:=hstep.trans (by simp only [*,Int.reduceEq,decide_true,decide_false,cond_true,cond_false,Bool.and_true,Bool.true_and,Bool.and_false,Bool.false_and,Bool.not_true,Bool.not_false,Bool.or_true,Bool.true_or,Bool.or_false,Bool.false_or];rfl)
        simp only [e]
        exact ⟨rfl,rfl,rfl,rfl,rfl,rfl,rfl,trivial⟩) (List.Sublist.cons _ (aj _)) fun _ h=>h⟩
    have hk:i.k=limN n c.acts.n:=by omega
    have hLe:listOf c n sc g toL=((circF c.actsL g i.k).map (·.toL)).getD []:=by
      rw [hLo,‹decide (sc=1)=false›,‹decide (sc=2)=true›,hk,hl]
      rfl
    have hmem:∀ x,circF c.actsL g i.k=some x→x∈c.actsL:=fun x hx=>mX aa hx
    repeat' (first|refine ag (hc:=jv c n) ?_|refine gs ?_|refine gs1 fun _=>?_|(refine gp ?_ ?_<;>intro hx_ this)|fail)
    generalize circF c.actsL g i.k=o at *
    obtain ⟨S,L,hS1,hL1,hSL,hLl⟩:∃ (S:Xj) (L:List ByteArray),(o.map (fun x:Xa=>x.to)).getD (⟨none,0,0⟩:Xj)=S∧(o.map (fun x:Xa=>x.toL)).getD []=L∧(∀ w,(XC c w∧Strs w st toL)∧X1 w→Strs w S L)∧L.length≤1000000:=by
      cases o with
      | none=>exact ⟨_,_,rfl,rfl,fun w _=>aJ w 1,by simp⟩
      | some x=>exact ⟨_,_,rfl,rfl,fun w h=>(h.1.1.1.2 x (hmem x rfl)).1,by have h1:=(hc.rng x (hmem x rfl)).to_len;have h2:=hto x (hmem x rfl);show x.toL.length≤1000000;omega⟩
    rw [hL1] at hLe
    rw [hS1]
    refine aH (p:=(S).n=(L).length∧(S).n≤maxLen∧(0<(L).length→(S).p.isSome=true)) (fun w h=>⟨(hSL w h).len_,Nat.le_trans (Xe.cap (hSL w h)) (Xe.max (hSL w h)),(hSL w h).some_⟩) fun ⟨hSl,hSm,hSp⟩=>?_
    simp only [maxLen] at hSm
    refine bA 9 1 ?_
    refine am (ι:=FilS (L).length) (fun i=>⟨[(5,.pointer (some ⟨b5,0,none⟩)),(11,.pointer (some ⟨b11,0,none⟩)),(15,.slice i.A (((L).take i.k).filter (keepM c (sortB t.b))).length i.c),(54,(S).v),(55,.int .i64 (S).n),(56,.int .i64 i.k)],
      [orow 9 1 (.slice i.A (((L).take i.k).filter (keepM c (sortB t.b))).length i.c) (((L).take i.k).filter (keepM c (sortB t.b))).length ((((L).take i.k).filter (keepM c (sortB t.b))).map encB),cel b11 252 [s1.v,s2.v,s3.v,s4.v],cel b5 67 c.cells],fun w=>(XC c w∧Strs w st toL)∧X1 w⟩) (fun i=>(L).length-i.k) ⟨0,Nat.zero_le _,none,0⟩ (ae al (aj _) fun _ h=>h) fun i=>?_
    have hik:=i.hk
    repeat' (first|refine gs ?_|refine gs1 fun _=>?_|(refine gp ?_ ?_<;>intro hx_ this)|fail)
    · have hlt:i.k<(L).length:=by omega
      have hp2:=hSp aa
      have hfs:=eW (p:=(keepM c (sortB t.b))) (L) hlt
      have hfl:(((L).take i.k).filter (keepM c (sortB t.b))).length≤1000000:=by
        have h1:=List.length_filter_le (keepM c (sortB t.b)) ((L).take i.k)
        have h2:=List.length_take_le i.k (L)
        omega
      generalize hacc:((L).take i.k).filter (keepM c (sortB t.b))=acc at *
      generalize hxe:(L).getD i.k .empty=x at *
      repeat' (first|(refine ag (hc:=dW s3 (sortB t.b) x) (hX:=fun w h=>(hties w h.2).2.2.1) ?_)|(refine aC (size:=1) (z:=.string ⟨#[]⟩) (news:=[encB x]) (q:=1) rfl rfl rfl rfl (fun _=>At.there _ (At.here _)) (fun w G=>aU G ap rfl rfl 1) aa (by simp only [maxLen];omega) rfl ?_ rfl ?_;(first|with_reducible rfl|with_reducible assumption|with_reducible exact Bool.not_false|with_reducible exact Bool.not_true);intro A2 c2)|refine gs ?_|refine gs1 fun _=>?_|(refine aE (q:=i.k) ?_)|(refine cg (u:=.string x) (hF:=fun w h=>hxe▸Strs.get (hSL w h) hlt) ?_)|(refine gp ?_ ?_<;>intro hx_ this)|fail)
      all_goals first
        | (have e:((L).take (i.k+1)).filter (keepM c (sortB t.b))=acc++[x]:=by rw [hfs];simp only [keepM, *,decide_true,decide_false,cond_true,cond_false,Bool.and_true,Bool.true_and,Bool.and_false,Bool.false_and,Bool.not_true,Bool.not_false,Bool.or_true,Bool.true_or,Bool.or_false,Bool.false_or]
           refine ⟨(⟨i.k+1,hlt,A2,c2⟩:FilS (L).length),(by show (L).length-(i.k+1)<(L).length-i.k;omega),ae ?_ ?_ fun _ h=>h⟩
           · simp only [e,List.length_append,List.length_cons,List.length_nil,Nat.zero_add];exact ⟨rfl,rfl,rfl,rfl,rfl,rfl,trivial⟩
           · simp only [e,List.length_append,List.length_cons,List.length_nil,Nat.zero_add,List.map_append,List.map_cons,List.map_nil];exact List.Sublist.cons _ (aj _))
        | (have e:((L).take (i.k+1)).filter (keepM c (sortB t.b))=acc:=by rw [hfs];simp only [keepM, *,decide_true,decide_false,cond_true,cond_false,Bool.and_true,Bool.true_and,Bool.and_false,Bool.false_and,Bool.not_true,Bool.not_false,Bool.or_true,Bool.true_or,Bool.or_false,Bool.false_or,List.append_nil]
           refine ⟨(⟨i.k+1,hlt,i.A,i.c⟩:FilS (L).length),(by show (L).length-(i.k+1)<(L).length-i.k;omega),ae ?_ ?_ fun _ h=>h⟩
           · simp only [e];exact ⟨rfl,rfl,rfl,rfl,rfl,rfl,trivial⟩
           · simp only [e];exact aj _)
    have hfl:(((L).take i.k).filter (keepM c (sortB t.b))).length≤1000000000:=by
      have h1:=List.length_filter_le (keepM c (sortB t.b)) ((L).take i.k)
      have h2:=List.length_take_le i.k (L)
      omega
    have hk:i.k=(L).length:=by omega
    have hfin:membersV c n sc g toL=compB (sortB (((L).take i.k).filter (keepM c (sortB t.b)))):=by rw [hM,hLe,hk,List.take_length]
    refine d9 (hc:=gc hfl) (hX:=fun _ _=>trivial) ?_
    repeat' (first|refine gs ?_|refine gs1 fun _=>?_|fail)
    refine ec (hc:=gH) (hX:=fun _ _=>trivial) ?_
    rintro _ _ X2 ⟨A3,c3,rfl,rfl⟩
    repeat' (first|refine gs ?_|refine gs1 fun _=>?_|fail)
    rw [hfin]
    exact ab (ai rfl rfl) ⟨_,List.Sublist.cons_cons _ (List.nil_sublist _),A3,c3,rfl,rfl⟩
  case refine_2.refine_2.refine_1 =>
    have hLe:listOf c n sc g toL=toL:=by
      rw [hLo,‹decide (sc=1)=false›,‹decide (sc=2)=false›,‹decide (sc=3)=true›]
      rfl
    have hSL:∀ w,(XC c w∧Strs w st toL)∧X1 w→Strs w st toL:=fun w h=>h.1.2
    have hLl:=htl
    refine aH (p:=(st).n=(toL).length∧(st).n≤maxLen∧(0<(toL).length→(st).p.isSome=true)) (fun w h=>⟨(hSL w h).len_,Nat.le_trans (Xe.cap (hSL w h)) (Xe.max (hSL w h)),(hSL w h).some_⟩) fun ⟨hSl,hSm,hSp⟩=>?_
    simp only [maxLen] at hSm
    refine bA 9 1 ?_
    refine am (ι:=FilS (toL).length) (fun i=>⟨[(5,.pointer (some ⟨b5,0,none⟩)),(11,.pointer (some ⟨b11,0,none⟩)),(15,.slice i.A (((toL).take i.k).filter (keepM c (sortB t.b))).length i.c),(54,(st).v),(55,.int .i64 (st).n),(56,.int .i64 i.k)],
      [orow 9 1 (.slice i.A (((toL).take i.k).filter (keepM c (sortB t.b))).length i.c) (((toL).take i.k).filter (keepM c (sortB t.b))).length ((((toL).take i.k).filter (keepM c (sortB t.b))).map encB),cel b11 252 [s1.v,s2.v,s3.v,s4.v],cel b5 67 c.cells],fun w=>(XC c w∧Strs w st toL)∧X1 w⟩) (fun i=>(toL).length-i.k) ⟨0,Nat.zero_le _,none,0⟩ (ae al (aj _) fun _ h=>h) fun i=>?_
    have hik:=i.hk
    repeat' (first|refine gs ?_|refine gs1 fun _=>?_|(refine gp ?_ ?_<;>intro hx_ this)|fail)
    · have hlt:i.k<(toL).length:=by omega
      have hp2:=hSp aa
      have hfs:=eW (p:=(keepM c (sortB t.b))) (toL) hlt
      have hfl:(((toL).take i.k).filter (keepM c (sortB t.b))).length≤1000000:=by
        have h1:=List.length_filter_le (keepM c (sortB t.b)) ((toL).take i.k)
        have h2:=List.length_take_le i.k (toL)
        omega
      generalize hacc:((toL).take i.k).filter (keepM c (sortB t.b))=acc at *
      generalize hxe:(toL).getD i.k .empty=x at *
      repeat' (first|(refine ag (hc:=dW s3 (sortB t.b) x) (hX:=fun w h=>(hties w h.2).2.2.1) ?_)|(refine aC (size:=1) (z:=.string ⟨#[]⟩) (news:=[encB x]) (q:=1) rfl rfl rfl rfl (fun _=>At.there _ (At.here _)) (fun w G=>aU G ap rfl rfl 1) aa (by simp only [maxLen];omega) rfl ?_ rfl ?_;(first|with_reducible rfl|with_reducible assumption|with_reducible exact Bool.not_false|with_reducible exact Bool.not_true);intro A2 c2)|refine gs ?_|refine gs1 fun _=>?_|(refine aE (q:=i.k) ?_)|(refine cg (u:=.string x) (hF:=fun w h=>hxe▸Strs.get (hSL w h) hlt) ?_)|(refine gp ?_ ?_<;>intro hx_ this)|fail)
      all_goals first
        | (have e:((toL).take (i.k+1)).filter (keepM c (sortB t.b))=acc++[x]:=by rw [hfs];simp only [keepM, *,decide_true,decide_false,cond_true,cond_false,Bool.and_true,Bool.true_and,Bool.and_false,Bool.false_and,Bool.not_true,Bool.not_false,Bool.or_true,Bool.true_or,Bool.or_false,Bool.false_or]
           refine ⟨(⟨i.k+1,hlt,A2,c2⟩:FilS (toL).length),(by show (toL).length-(i.k+1)<(toL).length-i.k;omega),ae ?_ ?_ fun _ h=>h⟩
           · simp only [e,List.length_append,List.length_cons,List.length_nil,Nat.zero_add];exact ⟨rfl,rfl,rfl,rfl,rfl,rfl,trivial⟩
           · simp only [e,List.length_append,List.length_cons,List.length_nil,Nat.zero_add,List.map_append,List.map_cons,List.map_nil];exact List.Sublist.cons _ (aj _))
        | (have e:((toL).take (i.k+1)).filter (keepM c (sortB t.b))=acc:=by rw [hfs];simp only [keepM, *,decide_true,decide_false,cond_true,cond_false,Bool.and_true,Bool.true_and,Bool.and_false,Bool.false_and,Bool.not_true,Bool.not_false,Bool.or_true,Bool.true_or,Bool.or_false,Bool.false_or,List.append_nil]
           refine ⟨(⟨i.k+1,hlt,i.A,i.c⟩:FilS (toL).length),(by show (toL).length-(i.k+1)<(toL).length-i.k;omega),ae ?_ ?_ fun _ h=>h⟩
           · simp only [e];exact ⟨rfl,rfl,rfl,rfl,rfl,rfl,trivial⟩
           · simp only [e];exact aj _)
    have hfl:(((toL).take i.k).filter (keepM c (sortB t.b))).length≤1000000000:=by
      have h1:=List.length_filter_le (keepM c (sortB t.b)) ((toL).take i.k)
      have h2:=List.length_take_le i.k (toL)
      omega
    have hk:i.k=(toL).length:=by omega
    have hfin:membersV c n sc g toL=compB (sortB (((toL).take i.k).filter (keepM c (sortB t.b)))):=by rw [hM,hLe,hk,List.take_length]
    refine d9 (hc:=gc hfl) (hX:=fun _ _=>trivial) ?_
    repeat' (first|refine gs ?_|refine gs1 fun _=>?_|fail)
    refine ec (hc:=gH) (hX:=fun _ _=>trivial) ?_
    rintro _ _ X2 ⟨A3,c3,rfl,rfl⟩
    repeat' (first|refine gs ?_|refine gs1 fun _=>?_|fail)
    rw [hfin]
    exact ab (ai rfl rfl) ⟨_,List.Sublist.cons_cons _ (List.nil_sublist _),A3,c3,rfl,rfl⟩
  case refine_2.refine_2.refine_2 =>
    have hLe:listOf c n sc g toL=[]:=by
      rw [hLo,‹decide (sc=1)=false›,‹decide (sc=2)=false›,‹decide (sc=3)=false›]
      rfl
    have hSL:∀ w,(XC c w∧Strs w st toL)∧X1 w→Strs w ⟨none,0,0⟩ []:=fun w _=>aJ w 1
    have hLl:([]:List ByteArray).length≤1000000:=by simp
    refine aH (p:=((⟨none,0,0⟩:Xj)).n=(([]:List ByteArray)).length∧((⟨none,0,0⟩:Xj)).n≤maxLen∧(0<(([]:List ByteArray)).length→((⟨none,0,0⟩:Xj)).p.isSome=true)) (fun w h=>⟨((show Strs w ⟨none,0,0⟩ [] from aJ w 1)).len_,Nat.le_trans (Xe.cap ((show Strs w ⟨none,0,0⟩ [] from aJ w 1))) (Xe.max ((show Strs w ⟨none,0,0⟩ [] from aJ w 1))),((show Strs w ⟨none,0,0⟩ [] from aJ w 1)).some_⟩) fun ⟨hSl,hSm,hSp⟩=>?_
    simp only [maxLen] at hSm
    refine bA 9 1 ?_
    refine am (ι:=FilS (([]:List ByteArray)).length) (fun i=>⟨[(5,.pointer (some ⟨b5,0,none⟩)),(11,.pointer (some ⟨b11,0,none⟩)),(15,.slice i.A (((([]:List ByteArray)).take i.k).filter (keepM c (sortB t.b))).length i.c),(54,((⟨none,0,0⟩:Xj)).v),(55,.int .i64 ((⟨none,0,0⟩:Xj)).n),(56,.int .i64 i.k)],
      [orow 9 1 (.slice i.A (((([]:List ByteArray)).take i.k).filter (keepM c (sortB t.b))).length i.c) (((([]:List ByteArray)).take i.k).filter (keepM c (sortB t.b))).length ((((([]:List ByteArray)).take i.k).filter (keepM c (sortB t.b))).map encB),cel b11 252 [s1.v,s2.v,s3.v,s4.v],cel b5 67 c.cells],fun w=>(XC c w∧Strs w st toL)∧X1 w⟩) (fun i=>(([]:List ByteArray)).length-i.k) ⟨0,Nat.zero_le _,none,0⟩ (ae al (aj _) fun _ h=>h) fun i=>?_
    have hik:=i.hk
    repeat' (first|refine gs ?_|refine gs1 fun _=>?_|(refine gp ?_ ?_<;>intro hx_ this)|fail)
    · have hlt:i.k<(([]:List ByteArray)).length:=by omega
      have hp2:=hSp aa
      have hfs:=eW (p:=(keepM c (sortB t.b))) (([]:List ByteArray)) hlt
      have hfl:(((([]:List ByteArray)).take i.k).filter (keepM c (sortB t.b))).length≤1000000:=by
        have h1:=List.length_filter_le (keepM c (sortB t.b)) ((([]:List ByteArray)).take i.k)
        have h2:=List.length_take_le i.k (([]:List ByteArray))
        omega
      generalize hacc:((([]:List ByteArray)).take i.k).filter (keepM c (sortB t.b))=acc at *
      generalize hxe:(([]:List ByteArray)).getD i.k .empty=x at *
      repeat' (first|(refine ag (hc:=dW s3 (sortB t.b) x) (hX:=fun w h=>(hties w h.2).2.2.1) ?_)|(refine aC (size:=1) (z:=.string ⟨#[]⟩) (news:=[encB x]) (q:=1) rfl rfl rfl rfl (fun _=>At.there _ (At.here _)) (fun w G=>aU G ap rfl rfl 1) aa (by simp only [maxLen];omega) rfl ?_ rfl ?_;(first|with_reducible rfl|with_reducible assumption|with_reducible exact Bool.not_false|with_reducible exact Bool.not_true);intro A2 c2)|refine gs ?_|refine gs1 fun _=>?_|(refine aE (q:=i.k) ?_)|(refine cg (u:=.string x) (hF:=fun w h=>hxe▸Strs.get ((show Strs w ⟨none,0,0⟩ [] from aJ w 1)) hlt) ?_)|(refine gp ?_ ?_<;>intro hx_ this)|fail)
      all_goals first
        | (have e:((([]:List ByteArray)).take (i.k+1)).filter (keepM c (sortB t.b))=acc++[x]:=by rw [hfs];simp only [keepM, *,decide_true,decide_false,cond_true,cond_false,Bool.and_true,Bool.true_and,Bool.and_false,Bool.false_and,Bool.not_true,Bool.not_false,Bool.or_true,Bool.true_or,Bool.or_false,Bool.false_or]
           refine ⟨(⟨i.k+1,hlt,A2,c2⟩:FilS (([]:List ByteArray)).length),(by show (([]:List ByteArray)).length-(i.k+1)<(([]:List ByteArray)).length-i.k;omega),ae ?_ ?_ fun _ h=>h⟩
           · simp only [e,List.length_append,List.length_cons,List.length_nil,Nat.zero_add];exact ⟨rfl,rfl,rfl,rfl,rfl,rfl,trivial⟩
           · simp only [e,List.length_append,List.length_cons,List.length_nil,Nat.zero_add,List.map_append,List.map_cons,List.map_nil];exact List.Sublist.cons _ (aj _))
        | (have e:((([]:List ByteArray)).take (i.k+1)).filter (keepM c (sortB t.b))=acc:=by rw [hfs];simp only [keepM, *,decide_true,decide_false,cond_true,cond_false,Bool.and_true,Bool.true_and,Bool.and_false,Bool.false_and,Bool.not_true,Bool.not_false,Bool.or_true,Bool.true_or,Bool.or_false,Bool.false_or,List.append_nil]
           refine ⟨(⟨i.k+1,hlt,i.A,i.c⟩:FilS (([]:List ByteArray)).length),(by show (([]:List ByteArray)).length-(i.k+1)<(([]:List ByteArray)).length-i.k;omega),ae ?_ ?_ fun _ h=>h⟩
           · simp only [e];exact ⟨rfl,rfl,rfl,rfl,rfl,rfl,trivial⟩
           · simp only [e];exact aj _)
    have hfl:(((([]:List ByteArray)).take i.k).filter (keepM c (sortB t.b))).length≤1000000000:=by
      have h1:=List.length_filter_le (keepM c (sortB t.b)) ((([]:List ByteArray)).take i.k)
      have h2:=List.length_take_le i.k (([]:List ByteArray))
      omega
    have hk:i.k=(([]:List ByteArray)).length:=by omega
    have hfin:membersV c n sc g toL=compB (sortB (((([]:List ByteArray)).take i.k).filter (keepM c (sortB t.b)))):=by rw [hM,hLe,hk,List.take_length]
    refine d9 (hc:=gc hfl) (hX:=fun _ _=>trivial) ?_
    repeat' (first|refine gs ?_|refine gs1 fun _=>?_|fail)
    refine ec (hc:=gH) (hX:=fun _ _=>trivial) ?_
    rintro _ _ X2 ⟨A3,c3,rfl,rfl⟩
    repeat' (first|refine gs ?_|refine gs1 fun _=>?_|fail)
    rw [hfin]
    exact ab (ai rfl rfl) ⟨_,List.Sublist.cons_cons _ (List.nil_sublist _),A3,c3,rfl,rfl⟩
theorem ri (c:Xd) (hc:Xt c.actsL) (hcl:c.actsL.length≤1000000) (hto:∀ x∈c.actsL,x.to.n≤1000000) (n sc:Int) (g:ByteArray) (st:Xj) (toL:List ByteArray) (htl:toL.length≤1000000) :
  Mk Tryz.prog 148 #[c.v,.int .i64 n,.int .i64 sc,.string g,st.v] (fun w=>XC c w∧Strs w st toL) (StrsAt (membersV c n sc g toL)):=mF (lg c hc hcl hto n sc g st toL htl)
end Go.Proofs.YtggionfjlgfihaaGreatDoor
