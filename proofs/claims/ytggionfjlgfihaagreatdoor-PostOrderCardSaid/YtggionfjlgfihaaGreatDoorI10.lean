/- Joined. -/
import Derived.Test.YtggionfjlgfihaaGreatDoorI0
import Derived.Test.YtggionfjlgfihaaGreatDoorI7
set_option linter.unusedVariables false
set_option linter.unusedSimpArgs false
set_option maxHeartbeats 16000000
namespace Go.Proofs.YtggionfjlgfihaaGreatDoor
open Go Go.Proofs Sy
theorem yV (c:Xd) (hc:Xt c.actsL) (hcl:c.actsL.length≤1000000):Ct Tryz.prog 77 #[c.v] [] (fun w=>c.at_ w∧Xf w) (RegAt c):=by
  refine bT Tryz.func77 Tryz.ntmps77 fun av bor w0=>?_
  refine aH (p:=c.acts.n=c.actsL.length∧c.acts.n≤maxLen∧(0<c.actsL.length→c.acts.p.isSome=true)) (fun w h=>⟨h.1.len_,h.1.max_,h.1.some_⟩) fun ⟨hl,hm,hp⟩=>?_
  simp only [maxLen] at hm
  refine bA 54 11 ?_
  repeat' (first|apply bz|apply cw_seq|apply cw_reg|refine cA ?_|refine bK ?_|refine bR ?_|refine dG ?_|refine df ?_|refine br ?_|refine dO ?_|refine dv ?_|refine db ?_|refine dQ ?_|refine cq ?_|refine cH (h:=?_)|refine ca fun _=>?_|refine dS fun _=>?_|refine cr fun _=>?_|refine ci ?_|refine bw ?_|refine cw_cond_t ?_|refine cw_cond_f ?_|apply cw_skip|apply cw_block|apply cw_ret|apply cw_exit|refine cE ?_|refine cD ?_)
  refine eK Int (h:=fun q1=>?_)
  refine eK ByteArray (h:=fun q2=>?_)
  repeat' (first|apply bz|apply cw_seq|apply cw_reg|refine cA ?_|refine bK ?_|refine bR ?_|refine dG ?_|refine df ?_|refine br ?_|refine dO ?_|refine dv ?_|refine db ?_|refine dQ ?_|refine cq ?_|refine cH (h:=?_)|refine ca fun _=>?_|refine dS fun _=>?_|refine cr fun _=>?_|refine ci ?_|refine bw ?_|refine cw_cond_t ?_|refine cw_cond_f ?_|apply cw_skip|apply cw_block|apply cw_ret|apply cw_exit|refine cE ?_|refine cD ?_|(refine aM (cs:=regC c (.slice none 0 0) q1 q2) (hf:=by rfl) ?_)|(refine cw_cond (ht:=?_) (hf:=?_);all_goals (intro hx_;first|have:=cI hx_|have:=d1 hx_|skip)))
  rename_i b1 b
  refine am (ι:=RegI c) (fun r=>⟨[(1,.pointer (some ⟨b1,0,none⟩)),(3,.pointer (some ⟨b,0,none⟩)),(15,c.acts.v),(16,.int .i64 (c.acts.n:Nat)),(17,.int .i64 (r.k:Nat))],[cel b 145 (regC c (.slice r.A r.n r.cp) q1 q2),mapr q2 r.pl,mapr q1 r.num,cel b1 67 c.cells,orow 54 11 (.slice r.A r.n r.cp) r.n r.xs],fun w=>(c.at_ w∧Xf w)∧∀ p∈r.P,Strs w p.to p.toL⟩) (fun r=>c.actsL.length-r.k)
    ⟨0,Nat.zero_le _,[],rfl,(fun p hp=>(List.not_mem_nil hp).elim),[],(fun d=>rfl),[],(fun j=>rfl),0,rfl,[],rfl,none,0⟩ (ae al (aj _) fun w h=>⟨h,fun p hp=>(List.not_mem_nil hp).elim⟩) fun r=>?_
  obtain ⟨k,hk,P,hP,hz,pl,hpl,num,hnum,n,hn,xs,hxs,A,cp⟩:=r
  simp only [RegI.s]
  have hPl:P.length≤k:=by
    have h1:=ji c k
    rw [←hP,List.length_map] at h1
    exact h1
  repeat' (first|apply bz|apply cw_seq|apply cw_reg|refine cA ?_|refine bK ?_|refine bR ?_|refine dG ?_|refine df ?_|refine br ?_|refine dO ?_|refine dv ?_|refine db ?_|refine dQ ?_|refine cq ?_|refine cH (h:=?_)|refine ca fun _=>?_|refine dS fun _=>?_|refine cr fun _=>?_|refine ci ?_|refine bw ?_|refine cw_cond_t ?_|refine cw_cond_f ?_|apply cw_skip|apply cw_block|apply cw_ret|apply cw_exit|refine cE ?_|refine cD ?_|(refine cw_cond (ht:=?_) (hf:=?_);all_goals (intro hx_;first|have:=cI hx_|have:=d1 hx_|skip)))
  · have hlt:k<c.actsL.length:=by omega
    have hp':=hp aa
    obtain ⟨x,hx⟩:∃ x,c.actsL[k]?=some x:=⟨_,List.getElem?_eq_getElem hlt⟩
    have hxm:x∈c.actsL:=List.mem_of_getElem? hx
    have hxD:c.actsL.getD k Xa.zero=x:=by rw [List.getD_eq_getElem?_getD,hx];rfl
    have hpo:=eO x.kind
    have hlk:=hpl (digV x)
    have hpos:∀ p∈P,p.pos<k:=fun p hp=>by
      have h1:=mz c k p.can (by rw [←hP];exact List.mem_map_of_mem hp)
      exact h1
    have hidx:=uG hx
    have hcl2:=eH x.to (strs x.toL) (hc.sm x hxm).to (jc _)
    have hpl2n:idxV (c.actsL.take k) (digV x)=none→∀ d,mget (mput pl (digV x) (Value.int .i64 (k:Int))) d=(idxV (c.actsL.take (k+1)) d).map fun (j:Nat)=>Value.int .i64 (j:Int):=fun hj d=>by
      rw [fM,hidx d,eqbB]
      cases hs:seqB d (digV x) with
      | true =>
        obtain rfl:=seqB_iff.1 hs
        rw [hj,hs]
        rfl
      | false =>
        rw [mo (digV x) d,hs,hpl d]
        cases idxV (c.actsL.take k) d<;>rfl
    have hpl2s:∀ j,idxV (c.actsL.take k) (digV x)=some j→∀ d,mget pl d=(idxV (c.actsL.take (k+1)) d).map fun (j:Nat)=>Value.int .i64 (j:Int):=fun j hj d=>by
      rw [hidx d,hpl d]
      cases hs:seqB (digV x) d with
      | true =>
        obtain rfl:=seqB_iff.1 hs
        rw [hj]
        rfl
      | false=>cases idxV (c.actsL.take k) d<;>rfl
    repeat' (first|apply bz|apply cw_seq|apply cw_reg|refine cA ?_|refine bK ?_|refine bR ?_|refine dG ?_|refine df ?_|refine br ?_|refine dO ?_|refine dv ?_|refine db ?_|refine dQ ?_|refine cq ?_|refine cH (h:=?_)|refine ca fun _=>?_|refine dS fun _=>?_|refine cr fun _=>?_|refine ci ?_|refine bw ?_|refine cw_cond_t ?_|refine cw_cond_f ?_|apply cw_skip|apply cw_block|apply cw_ret|apply cw_exit|refine cE ?_|refine cD ?_|(refine aE (q:=k*20) ?_)|(refine aS (cs:=x.cells) (hF:=fun w h=>Acts.get h.1.1 hx) ?_)|(refine cw_cond (ht:=?_) (hf:=?_);all_goals (intro hx_;first|have:=cI hx_|have:=d1 hx_|skip)))
    rename_i b5
    refine bm (hc:=iI x (hc.rng x hxm) (hc.sm x hxm)) (hX:=fun w h=>h.1.1.2 x hxm) fun v1 X1 h1=>?_
    obtain ⟨x',rfl,hdig,hr',hat⟩:=h1
    refine ag (hc:=fq x' hr') (hX:=fun w h=>⟨hat w h.2,h.1.1.2⟩) ?_
    rw [hdig]
    cases hpk:postK x.kind with
    | false =>
      rw [hpk] at hpo
      have hP2:P.map Xc.can=openF c (k+1):=by rw [openF,hxD,hpk,cond_false,List.append_nil];exact hP
      cases hj:idxV (c.actsL.take k) (digV x) with
      | none =>
        rw [hj] at hlk
        repeat' (first|apply bz|apply cw_seq|apply cw_reg|refine cA ?_|refine bK ?_|refine bR ?_|refine dG ?_|refine df ?_|refine br ?_|refine dO ?_|refine dv ?_|refine db ?_|refine dQ ?_|refine cq ?_|refine cH (h:=?_)|refine ca fun _=>?_|refine dS fun _=>?_|refine cr fun _=>?_|refine ci ?_|refine bw ?_|refine cw_cond_t ?_|refine cw_cond_f ?_|apply cw_skip|apply cw_block|apply cw_ret|apply cw_exit|refine cE ?_|refine cD ?_|(refine bF (κ:=ByteArray) (kk:=digV x) (b:=false) (v:=.int .i64 0) (hl:=dD aL) (ho:=hlk) ?_)|(refine fe (κ:=ByteArray) (kk:=digV x) (v:=.int .i64 (k:Nat)) ?_)|(refine ag (hc:=hpo) ?_)|(refine cw_cond (ht:=?_) (hf:=?_);all_goals (intro hx_;first|have:=cI hx_|have:=d1 hx_|skip)))
        exact ⟨(⟨k+1,hlt,P,hP2,hz,_,hpl2n hj,num,hnum,n,hn,xs,hxs,A,cp⟩:RegI c),(by show c.actsL.length-(k+1)<c.actsL.length-k;omega),ae al (List.Sublist.cons _ (aj _)) fun w h=>h.1⟩
      | some j =>
        rw [hj] at hlk
        repeat' (first|apply bz|apply cw_seq|apply cw_reg|refine cA ?_|refine bK ?_|refine bR ?_|refine dG ?_|refine df ?_|refine br ?_|refine dO ?_|refine dv ?_|refine db ?_|refine dQ ?_|refine cq ?_|refine cH (h:=?_)|refine ca fun _=>?_|refine dS fun _=>?_|refine cr fun _=>?_|refine ci ?_|refine bw ?_|refine cw_cond_t ?_|refine cw_cond_f ?_|apply cw_skip|apply cw_block|apply cw_ret|apply cw_exit|refine cE ?_|refine cD ?_|(refine bF (κ:=ByteArray) (kk:=digV x) (b:=true) (v:=.int .i64 (j:Nat)) (hl:=dD aL) (ho:=hlk) ?_)|(refine ag (hc:=hpo) ?_)|(refine cw_cond (ht:=?_) (hf:=?_);all_goals (intro hx_;first|have:=cI hx_|have:=d1 hx_|skip)))
        exact ⟨(⟨k+1,hlt,P,hP2,hz,_,hpl2s j hj,num,hnum,n,hn,xs,hxs,A,cp⟩:RegI c),(by show c.actsL.length-(k+1)<c.actsL.length-k;omega),ae al (List.Sublist.cons _ (aj _)) fun w h=>h.1⟩
    | true =>
      rw [hpk] at hpo
      obtain ⟨p,hpd⟩:∃ p:Xj→Xc,p=fun s2=>⟨digV x,c.id,k,x.kind,x.scope,x.group,s2,x.object,x.time,⟨none,0,0⟩,false,x.toL,[]⟩:=⟨_,rfl⟩
      have hP2:∀ s2,(P++[p s2]).map Xc.can=openF c (k+1):=fun s2=>by
        rw [openF,hxD,hpk,cond_true,List.map_append,hP,hpd]
        rfl
      have hz2:∀ s2,∀ q∈P++[p s2],q.ed=⟨none,0,0⟩∧q.edL=[]:=fun s2 q hq=>by
        rcases List.mem_append.1 hq with hq|hq
        · exact hz q hq
        · rw [List.mem_singleton] at hq
          subst hq
          rw [hpd]
          exact ⟨rfl,rfl⟩
      have hnum2:∀ s2,∀ j:Nat,mget (mput num (k:Int) (Value.int .i64 (n:Int))) (j:Int)=(posP (P++[p s2]) j).map fun (n:Nat)=>Value.int .i64 (n:Int):=fun s2 j=>by
        rw [fM,pm,eqbI,hnum j,hn]
        have e1:(p s2).pos=k:=by rw [hpd]
        rw [e1]
        by_cases hjk:j=k
        · subst hjk
          rw [ul (fun q hq=>Nat.ne_of_lt (hpos q hq)),decide_eq_true rfl,beq_self_eq_true]
          rfl
        · rw [decide_eq_false aa,show (k==j)=false from by simpa using fun e=>hjk e.symm,cond_false,cond_false,Option.or_none]
      rcases hj:idxV (c.actsL.take k) (digV x) with _|j
      all_goals rw [hj] at hlk
      all_goals first
        | (have hpl2:=hpl2n hj
           repeat' (first|apply bz|apply cw_seq|apply cw_reg|refine cA ?_|refine bK ?_|refine bR ?_|refine dG ?_|refine df ?_|refine br ?_|refine dO ?_|refine dv ?_|refine db ?_|refine dQ ?_|refine cq ?_|refine cH (h:=?_)|refine ca fun _=>?_|refine dS fun _=>?_|refine cr fun _=>?_|refine ci ?_|refine bw ?_|refine cw_cond_t ?_|refine cw_cond_f ?_|apply cw_skip|apply cw_block|apply cw_ret|apply cw_exit|refine cE ?_|refine cD ?_|(refine bF (κ:=ByteArray) (kk:=digV x) (b:=false) (v:=.int .i64 0) (hl:=dD aL) (ho:=hlk) ?_)|(refine fe (κ:=ByteArray) (kk:=digV x) (v:=.int .i64 (k:Nat)) ?_)|(refine ag (hc:=hpo) ?_)|(refine cw_cond (ht:=?_) (hf:=?_);all_goals (intro hx_;first|have:=cI hx_|have:=d1 hx_|skip))))
        | (have hpl2:=hpl2s j hj
           repeat' (first|apply bz|apply cw_seq|apply cw_reg|refine cA ?_|refine bK ?_|refine bR ?_|refine dG ?_|refine df ?_|refine br ?_|refine dO ?_|refine dv ?_|refine db ?_|refine dQ ?_|refine cq ?_|refine cH (h:=?_)|refine ca fun _=>?_|refine dS fun _=>?_|refine cr fun _=>?_|refine ci ?_|refine bw ?_|refine cw_cond_t ?_|refine cw_cond_f ?_|apply cw_skip|apply cw_block|apply cw_ret|apply cw_exit|refine cE ?_|refine cD ?_|(refine bF (κ:=ByteArray) (kk:=digV x) (b:=true) (v:=.int .i64 (j:Nat)) (hl:=dD aL) (ho:=hlk) ?_)|(refine ag (hc:=hpo) ?_)|(refine cw_cond (ht:=?_) (hf:=?_);all_goals (intro hx_;first|have:=cI hx_|have:=d1 hx_|skip))))
      all_goals
        (refine kn [cel b 145 (regC c (.slice A n cp) q1 q2)] (fun w=>((c.at_ w∧Xf w)∧∀ p∈P,Strs w p.to p.toL)∧X1 w) ac ?_)
        all_goals refine aT 0 ?_<;>refine aT 1 ?_<;>refine aT 2 ?_<;>refine aT 3 ?_<;>refine aT 4 ?_<;>refine aT 5 ?_<;>refine aT 6 ?_<;>refine aT 7 ?_<;>refine aT 8 ?_<;>refine aT 9 ?_<;>(refine dY 10 ?_;(first|(refine fe (κ:=Int) (kk:=(k:Int)) (v:=.int .i64 (n:Nat)) ?_));apply bz;refine dL ?_)<;>(refine iV (h:=?_))
        all_goals
          repeat' (first|apply bz|apply cw_seq|apply cw_reg|refine cA ?_|refine bK ?_|refine bR ?_|refine dG ?_|refine df ?_|refine br ?_|refine dO ?_|refine dv ?_|refine db ?_|refine dQ ?_|refine cq ?_|refine cH (h:=?_)|refine ca fun _=>?_|refine dS fun _=>?_|refine cr fun _=>?_|refine ci ?_|refine bw ?_|refine cw_cond_t ?_|refine cw_cond_f ?_|apply cw_skip|apply cw_block|apply cw_ret|apply cw_exit|refine cE ?_|refine cD ?_|(refine cw_cond (ht:=?_) (hf:=?_);all_goals (intro hx_;first|have:=cI hx_|have:=d1 hx_|skip)))
          (refine kn [cel b5 37 x.cells,cel b1 67 c.cells] (fun w=>((c.at_ w∧Xf w)∧∀ p∈P,Strs w p.to p.toL)∧X1 w) ac ?_)
          all_goals refine aT 0 ?_<;>refine aT 1 ?_<;>refine aT 2 ?_<;>refine aT 3 ?_<;>refine aT 5 ?_<;>refine aT 6 ?_<;>refine aT 7 ?_<;>refine aT 8 ?_<;>refine aT 9 ?_<;>refine aT 10 ?_<;>refine aT 11 ?_<;>refine aT 12 ?_<;>refine aT 13 ?_<;>refine aT 14 ?_<;>refine aT 15 ?_<;>refine aT 16 ?_<;>refine aT 18 ?_<;>refine aT 19 ?_<;>refine aT 20 ?_<;>refine aT 21 ?_<;>(refine x8 4 17 (h:=?_) (h':=?_);(focus (((first|(refine df ?_)|(refine br ?_));apply bz;refine dL ?_);all_goals ((refine dY 17 ?_;(first|(refine bm (hc:=hcl2) (hX:=fun w h=>(h.1.1.1.2 x hxm).1) fun v2 X2 h2=>?_;obtain ⟨s2,rfl,hn2,hw2⟩:=h2));apply bz;refine dL ?_);all_goals (first|refine aT 22 ?_|refine aT 22 (hy:=by (first|(apply dp (cs:=Xc.cells (⟨digV x,c.id,k,x.kind,x.scope,x.group,s2,x.object,x.time,⟨none,0,0⟩,false,x.toL,[]⟩:Xc));rfl;rfl))) ?_);all_goals (refine dY 23 ?_;(first|refine bL (size:=11) (vs:=[.agg (Xc.cells (⟨digV x,c.id,k,x.kind,x.scope,x.group,s2,x.object,x.time,⟨none,0,0⟩,false,x.toL,[]⟩:Xc)).toArray]) (css:=Xc.cells (⟨digV x,c.id,k,x.kind,x.scope,x.group,s2,x.object,x.time,⟨none,0,0⟩,false,x.toL,[]⟩:Xc)) (hsz:=by rfl) (hcs:=by rfl) fun _=>?_);apply bz;refine dL ?_);all_goals (refine dY 24 ?_;(first|refine aC (size:=11) (news:=Xc.cells (⟨digV x,c.id,k,x.kind,x.scope,x.group,s2,x.object,x.time,⟨none,0,0⟩,false,x.toL,[]⟩:Xc)) (q:=1) rfl rfl rfl rfl (fun _=>At.there _ (At.there _ (At.there _ (At.there _ (At.there _ (At.there _ (At.here _))))))) (fun w G=>aU G ap rfl rfl 1) aa (by simp only [maxLen];omega) rfl ?_ rfl ?_;(first|with_reducible rfl|with_reducible assumption|with_reducible exact Bool.not_false|with_reducible exact Bool.not_true);intro A2 c2);apply bz;refine dL ?_);all_goals (refine aT 25 ?_);all_goals (refine aT 26 ?_);all_goals (refine dY 27 ?_;(first|(refine ci ?_)|(refine bw ?_));apply bz;refine dL ?_);all_goals (refine iV (h:=?_)))));rotate_right;(focus (((first|(refine bm (hc:=hcl2) (hX:=fun w h=>(h.1.1.1.2 x hxm).1) fun v2 X2 h2=>?_;obtain ⟨s2,rfl,hn2,hw2⟩:=h2));apply bz;refine dL ?_);all_goals ((first|refine aT 22 ?_|refine aT 22 (hy:=by (first|(apply dp (cs:=Xc.cells (⟨digV x,c.id,k,x.kind,x.scope,x.group,s2,x.object,x.time,⟨none,0,0⟩,false,x.toL,[]⟩:Xc));rfl;rfl))) ?_);all_goals (refine x8 4 23 (h:=?_) (h':=?_);(focus (((first|(refine df ?_)|(refine br ?_));apply bz;refine dL ?_);all_goals ((refine dY 23 ?_;(first|refine bL (size:=11) (vs:=[.agg (Xc.cells (⟨digV x,c.id,k,x.kind,x.scope,x.group,s2,x.object,x.time,⟨none,0,0⟩,false,x.toL,[]⟩:Xc)).toArray]) (css:=Xc.cells (⟨digV x,c.id,k,x.kind,x.scope,x.group,s2,x.object,x.time,⟨none,0,0⟩,false,x.toL,[]⟩:Xc)) (hsz:=by rfl) (hcs:=by rfl) fun _=>?_);apply bz;refine dL ?_);all_goals (refine dY 24 ?_;(first|refine aC (size:=11) (news:=Xc.cells (⟨digV x,c.id,k,x.kind,x.scope,x.group,s2,x.object,x.time,⟨none,0,0⟩,false,x.toL,[]⟩:Xc)) (q:=1) rfl rfl rfl rfl (fun _=>At.there _ (At.there _ (At.there _ (At.there _ (At.there _ (At.there _ (At.here _))))))) (fun w G=>aU G ap rfl rfl 1) aa (by simp only [maxLen];omega) rfl ?_ rfl ?_;(first|with_reducible rfl|with_reducible assumption|with_reducible exact Bool.not_false|with_reducible exact Bool.not_true);intro A2 c2);apply bz;refine dL ?_);all_goals (refine aT 25 ?_);all_goals (refine aT 26 ?_);all_goals (refine dY 27 ?_;(first|(refine ci ?_)|(refine bw ?_));apply bz;refine dL ?_);all_goals (refine iV (h:=?_)))));rotate_right;(focus (((first|refine bL (size:=11) (vs:=[.agg (Xc.cells (⟨digV x,c.id,k,x.kind,x.scope,x.group,s2,x.object,x.time,⟨none,0,0⟩,false,x.toL,[]⟩:Xc)).toArray]) (css:=Xc.cells (⟨digV x,c.id,k,x.kind,x.scope,x.group,s2,x.object,x.time,⟨none,0,0⟩,false,x.toL,[]⟩:Xc)) (hsz:=by rfl) (hcs:=by rfl) fun _=>?_);apply bz;refine dL ?_);all_goals ((refine dY 4 ?_;(first|(refine df ?_)|(refine br ?_));apply bz;refine dL ?_);all_goals (refine dY 24 ?_;(first|refine aC (size:=11) (news:=Xc.cells (⟨digV x,c.id,k,x.kind,x.scope,x.group,s2,x.object,x.time,⟨none,0,0⟩,false,x.toL,[]⟩:Xc)) (q:=1) rfl rfl rfl rfl (fun _=>At.there _ (At.there _ (At.there _ (At.there _ (At.there _ (At.there _ (At.here _))))))) (fun w G=>aU G ap rfl rfl 1) aa (by simp only [maxLen];omega) rfl ?_ rfl ?_;(first|with_reducible rfl|with_reducible assumption|with_reducible exact Bool.not_false|with_reducible exact Bool.not_true);intro A2 c2);apply bz;refine dL ?_);all_goals (refine aT 25 ?_);all_goals (refine aT 26 ?_);all_goals (refine dY 27 ?_;(first|(refine ci ?_)|(refine bw ?_));apply bz;refine dL ?_);all_goals (refine iV (h:=?_))))))))))
          all_goals
            repeat' (first|apply bz|apply cw_seq|apply cw_reg|refine cA ?_|refine bK ?_|refine bR ?_|refine dG ?_|refine df ?_|refine br ?_|refine dO ?_|refine dv ?_|refine db ?_|refine dQ ?_|refine cq ?_|refine cH (h:=?_)|refine ca fun _=>?_|refine dS fun _=>?_|refine cr fun _=>?_|refine ci ?_|refine bw ?_|refine cw_cond_t ?_|refine cw_cond_f ?_|apply cw_skip|apply cw_block|apply cw_ret|apply cw_exit|refine cE ?_|refine cD ?_|(refine cw_cond (ht:=?_) (hf:=?_);all_goals (intro hx_;first|have:=cI hx_|have:=d1 hx_|skip)))
            exact ⟨(⟨k+1,hlt,P++[p s2],hP2 s2,hz2 s2,_,hpl2,_,hnum2 s2,n+1,by rw [List.length_append,hn];rfl,xs++Xc.cells (⟨digV x,c.id,k,x.kind,x.scope,x.group,s2,x.object,x.time,⟨none,0,0⟩,false,x.toL,[]⟩:Xc),by rw [hxs,List.map_append,List.flatten_append,List.map_cons,List.map_nil,List.flatten_cons,List.flatten_nil,List.append_nil,hpd],A2,c2⟩:RegI c),(by show c.actsL.length-(k+1)<c.actsL.length-k;omega),
              ae al (List.Sublist.cons _ (List.Sublist.cons _ (aj _))) fun w h=>⟨h.1.1.1,fun q hq=>(List.mem_append.1 hq).elim (h.1.1.2 q) fun e=>by
                rw [List.mem_singleton] at e
                subst e
                rw [hpd]
                exact hw2 w h.2⟩⟩
  · subst hn hxs
    have hkE:k=c.actsL.length:=by omega
    exact ab (ai rfl rfl) ⟨⟨k,hk,P,hP,hz,pl,hpl,num,hnum,_,rfl,_,rfl,A,cp⟩,b,b1,q1,q2,hkE,rfl,rfl,fun w h=>h.2⟩
end Go.Proofs.YtggionfjlgfihaaGreatDoor
