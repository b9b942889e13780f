/- Joined by program out of: Pb Pg Ph Rx Kc Ci Ks Rl Ro Me We Fs Rp. -/
import Derived.Test.YtjmpdkmboheknaaGreatDoorQ10
import Derived.Shelf.Slices.CompactS
import Derived.Lib.RowBridge
set_option linter.unusedVariables false
set_option linter.unusedSimpArgs false
namespace Go.Proofs.YtjmpdkmboheknaaGreatDoor
open Go Go.Proofs Sy
set_option maxHeartbeats 8000000 in
theorem open_ct (c : ChainD) (hc : ActsOk c.actsL) (hcl : c.actsL.length ≤ 1000000) : Ct Tryz.prog 32 #[c.v] [] (fun w => c.at_ w ∧ Glob w) (RegAt c) := by
  refine ct_of_cw (args:=[_]) _ Tryz.func32 rfl Tryz.ntmps32 rfl fun av bor w0 => ?_
  refine cw_know (p:=c.acts.n = c.actsL.length ∧ c.acts.n ≤ maxLen ∧ (0 < c.actsL.length → c.acts.p.isSome = true)) (fun w h => ⟨h.1.len_,h.1.max_,h.1.some_⟩) fun ⟨hl,hm,hp⟩ => ?_
  simp only [maxLen] at hm
  refine cw_nilRow 26 11 ?_
  repeat' (first | apply sw_nil | apply cw_seq | apply cw_reg | refine sy_assign (h:=?_) | refine sy_ldAll (h:=?_) | refine sw_box (h:=fun _ => ?_) | fail)
  refine sw_makeMap Int (h:=fun q1 => ?_)
  refine sw_makeMap ByteArray (h:=fun q2 => ?_)
  repeat' (first | apply sw_nil | apply cw_seq | apply cw_reg | refine sy_move (h:=?_) | refine sy_assign (h:=?_) | refine sy_fld (h:=?_) | refine sy_ld (h:=?_) | refine sy_len (h:=?_) | refine sw_box (h:=fun _ => ?_) | apply cw_block | (refine sy_build (cs:=regC c (.slice none 0 0) q1 q2) (hf:=by rfl) (h:=?_)) | fail)
  rename_i b1 b
  refine cw_loop (ι:=RegI c) (fun r => ⟨[(1,.pointer (some ⟨b1,0,none⟩)),(3,.pointer (some ⟨b,0,none⟩)),(15,c.acts.v),(16,.int .i64 (c.acts.n : Nat)),(17,.int .i64 (r.k : Nat))], [cel b 88 (regC c (.slice r.A r.n r.cp) q1 q2),mapr q2 r.pl,mapr q1 r.num,cel b1 39 c.cells,orow 26 11 (.slice r.A r.n r.cp) r.n r.xs],fun w => (c.at_ w ∧ Glob w) ∧ ∀ p ∈ r.P,Strs w p.to p.toL⟩) (fun r => c.actsL.length - r.k)
    ⟨0,Nat.zero_le _, [],rfl,(fun p hp => (List.not_mem_nil hp).elim), [],(fun d => rfl), [],(fun j => rfl),0,rfl, [],rfl,none,0⟩ (ok_sub ⟨rfl,rfl,rfl,rfl,rfl,trivial⟩ (List.Sublist.refl _) fun w h => ⟨h,fun p hp => (List.not_mem_nil hp).elim⟩) fun r => ?_
  obtain ⟨k,hk,P,hP,hz,pl,hpl,num,hnum,n,hn,xs,hxs,A,cp⟩ := r
  simp only [RegI.s]
  have hPl : P.length ≤ k := by
    have h1 := openF_len c k
    rw [← hP,List.length_map] at h1
    exact h1
  repeat' (first | apply sw_nil | apply cw_seq | apply cw_reg | refine sy_move (h:=?_) | refine sy_assign (h:=?_) | refine sy_lss (h:=?_) | apply cw_skip | apply cw_block | apply cw_ret | apply cw_exit | (refine cw_cond (ht:=?_) (hf:=?_);all_goals (intro hx_;first | have := of_decide_eq_true hx_ | have := of_decide_eq_false hx_)))
  · have hlt : k < c.actsL.length := by omega
    have hp' := hp (by omega)
    obtain ⟨x,hx⟩ : ∃ x,c.actsL[k]? = some x := ⟨_,List.getElem?_eq_getElem hlt⟩
    have hxm : x ∈ c.actsL := List.mem_of_getElem? hx
    have hxD : c.actsL.getD k ActD.zero = x := by rw [List.getD_eq_getElem?_getD,hx];rfl
    have hpo := posting_pu x.kind
    have hlk := hpl (digV x)
    have hpos : ∀ p ∈ P,p.pos < k := fun p hp => by
      have h1 := openF_pos c k p.can (by rw [← hP];exact List.mem_map_of_mem hp)
      exact h1
    have hidx := idxV_take hx
    have hcl2 := cloneS_mk x.to (strs x.toL) (hc.sm x hxm).to (strs_ones _)
    have hpl2n : idxV (c.actsL.take k) (digV x) = none → ∀ d,mget (mput pl (digV x) (Value.int .i64 (k : Int))) d = (idxV (c.actsL.take (k + 1)) d).map fun (j : Nat) => Value.int .i64 (j : Int) := fun hj d => by
      rw [mget_mputG,hidx d,eqbB]
      cases hs : seqB d (digV x) with
      | true =>
        obtain rfl := seqB_iff.1 hs
        rw [hj,hs]
        rfl
      | false =>
        rw [seqB_comm (digV x) d,hs,hpl d]
        cases idxV (c.actsL.take k) d <;> rfl
    have hpl2s : ∀ j,idxV (c.actsL.take k) (digV x) = some j → ∀ d,mget pl d = (idxV (c.actsL.take (k + 1)) d).map fun (j : Nat) => Value.int .i64 (j : Int) := fun j hj d => by
      rw [hidx d,hpl d]
      cases hs : seqB (digV x) d with
      | true =>
        obtain rfl := seqB_iff.1 hs
        rw [hj]
        rfl
      | false => cases idxV (c.actsL.take k) d <;> rfl
    repeat' (first | apply sw_nil | apply cw_seq | apply cw_reg | refine sy_assign (h:=?_) | refine sy_ldAll (h:=?_) | refine sw_alloc (h:=fun _ => ?_) | refine sw_stAll (h:=?_) | (refine sy_idxX (q:=k * 20) (h:=?_)) | (refine sy_ldXs (cs:=x.cells) (hF:=fun w h => Acts.get h.1.1 hx) (h:=?_)) | fail)
    rename_i b5
    refine sw_mk (hc:=ofAct_mk x (hc.rng x hxm) (hc.sm x hxm)) (hX:=fun w h => h.1.1.2 x hxm) (h:=fun v1 X1 h1 => ?_)
    obtain ⟨x',rfl,hdig,hr',hat⟩ := h1
    refine sw_pu (hc:=digest_pu x' hr') (hX:=fun w h => ⟨hat w h.2,h.1.1.2⟩) (h:=?_)
    rw [hdig]
    cases hpk : postK x.kind with
    | false =>
      rw [hpk] at hpo
      have hP2 : P.map PostD.can = openF c (k + 1) := by rw [openF,hxD,hpk,cond_false,List.append_nil];exact hP
      cases hj : idxV (c.actsL.take k) (digV x) with
      | none =>
        rw [hj] at hlk
        repeat' (first | apply sw_nil | apply cw_seq | apply cw_reg | refine sy_move (h:=?_) | refine sy_assign (h:=?_) | refine sy_nilCheck (h:=?_) | refine sy_fld (h:=?_) | refine sy_ld (h:=?_) | refine sy_not (h:=?_) | refine sy_extract (h:=?_) | refine sy_add (h:=?_) | refine cw_cond_t (ht:=?_) | refine cw_cond_f (hf:=?_) | apply cw_skip | (refine sy_lookup2 (κ:=ByteArray) (kk:=digV x) (b:=false) (v:=.int .i64 0) (hl:=map_loc (by (repeat (first | exact List.mem_cons_self | apply List.mem_cons_of_mem)))) (ho:=hlk) (h:=?_)) | (refine sw_update (κ:=ByteArray) (kk:=digV x) (v:=.int .i64 (k : Nat)) (h:=?_)) | (refine sw_pu (hc:=hpo) (hX:=fun _ _ => trivial) (h:=?_)) | fail)
        exact ⟨(⟨k + 1,hlt,P,hP2,hz,_,hpl2n hj,num,hnum,n,hn,xs,hxs,A,cp⟩ : RegI c),(by show c.actsL.length - (k + 1) < c.actsL.length - k;omega),ok_sub ⟨rfl,rfl,rfl,rfl,rfl,trivial⟩ (List.Sublist.cons _ (List.Sublist.refl _)) fun w h => h.1⟩
      | some j =>
        rw [hj] at hlk
        repeat' (first | apply sw_nil | apply cw_seq | apply cw_reg | refine sy_move (h:=?_) | refine sy_assign (h:=?_) | refine sy_nilCheck (h:=?_) | refine sy_fld (h:=?_) | refine sy_ld (h:=?_) | refine sy_not (h:=?_) | refine sy_extract (h:=?_) | refine sy_add (h:=?_) | refine cw_cond_f (hf:=?_) | apply cw_skip | (refine sy_lookup2 (κ:=ByteArray) (kk:=digV x) (b:=true) (v:=.int .i64 (j : Nat)) (hl:=map_loc (by (repeat (first | exact List.mem_cons_self | apply List.mem_cons_of_mem)))) (ho:=hlk) (h:=?_)) | (refine sw_pu (hc:=hpo) (hX:=fun _ _ => trivial) (h:=?_)) | fail)
        exact ⟨(⟨k + 1,hlt,P,hP2,hz,_,hpl2s j hj,num,hnum,n,hn,xs,hxs,A,cp⟩ : RegI c),(by show c.actsL.length - (k + 1) < c.actsL.length - k;omega),ok_sub ⟨rfl,rfl,rfl,rfl,rfl,trivial⟩ (List.Sublist.cons _ (List.Sublist.refl _)) fun w h => h.1⟩
    | true =>
      rw [hpk] at hpo
      obtain ⟨p,hpd⟩ : ∃ p : SlV → PostD,p = fun s2 => ⟨digV x,c.id,k,x.kind,x.scope,x.group,s2,x.object,x.time,⟨none,0,0⟩,false,x.toL, []⟩ := ⟨_,rfl⟩
      have hP2 : ∀ s2,(P ++ [p s2]).map PostD.can = openF c (k + 1) := fun s2 => by
        rw [openF,hxD,hpk,cond_true,List.map_append,hP,hpd]
        rfl
      have hz2 : ∀ s2, ∀ q ∈ P ++ [p s2],q.ed = ⟨none,0,0⟩ ∧ q.edL = [] := fun s2 q hq => by
        rcases List.mem_append.1 hq with hq | hq
        · exact hz q hq
        · rw [List.mem_singleton] at hq
          subst hq
          rw [hpd]
          exact ⟨rfl,rfl⟩
      have hnum2 : ∀ s2, ∀ j : Nat,mget (mput num (k : Int) (Value.int .i64 (n : Int))) (j : Int) = (posP (P ++ [p s2]) j).map fun (n : Nat) => Value.int .i64 (n : Int) := fun s2 j => by
        rw [mget_mputG,posP_append,eqbI,hnum j,hn]
        have e1 : (p s2).pos = k := by rw [hpd]
        rw [e1]
        by_cases hjk : j = k
        · subst hjk
          rw [posP_none (fun q hq => Nat.ne_of_lt (hpos q hq)),decide_eq_true rfl,beq_self_eq_true]
          rfl
        · rw [decide_eq_false (by omega),show (k == j) = false from by simpa using fun e => hjk e.symm,cond_false,cond_false,Option.or_none]
      rcases hj : idxV (c.actsL.take k) (digV x) with _ | j
      all_goals rw [hj] at hlk
      all_goals first
        | (have hpl2 := hpl2n hj
           repeat' (first | apply sw_nil | apply cw_seq | apply cw_reg | refine sy_move (h:=?_) | refine sy_assign (h:=?_) | refine sy_nilCheck (h:=?_) | refine sy_fld (h:=?_) | refine sy_ld (h:=?_) | refine sy_not (h:=?_) | refine sy_extract (h:=?_) | refine cw_cond_t (ht:=?_) | (refine sy_lookup2 (κ:=ByteArray) (kk:=digV x) (b:=false) (v:=.int .i64 0) (hl:=map_loc (by (repeat (first | exact List.mem_cons_self | apply List.mem_cons_of_mem)))) (ho:=hlk) (h:=?_)) | (refine sw_update (κ:=ByteArray) (kk:=digV x) (v:=.int .i64 (k : Nat)) (h:=?_)) | (refine sw_pu (hc:=hpo) (hX:=fun _ _ => trivial) (h:=?_)) | fail))
        | (have hpl2 := hpl2s j hj
           repeat' (first | apply sw_nil | apply cw_seq | apply cw_reg | refine sy_move (h:=?_) | refine sy_assign (h:=?_) | refine sy_nilCheck (h:=?_) | refine sy_fld (h:=?_) | refine sy_ld (h:=?_) | refine sy_not (h:=?_) | refine sy_extract (h:=?_) | refine cw_cond_t (ht:=?_) | refine cw_cond_f (hf:=?_) | apply cw_skip | (refine sy_lookup2 (κ:=ByteArray) (kk:=digV x) (b:=true) (v:=.int .i64 (j : Nat)) (hl:=map_loc (by (repeat (first | exact List.mem_cons_self | apply List.mem_cons_of_mem)))) (ho:=hlk) (h:=?_)) | (refine sw_pu (hc:=hpo) (hX:=fun _ _ => trivial) (h:=?_)) | fail))
      all_goals
        (refine cw_draw [cel b 88 (regC c (.slice A n cp) q1 q2)] (fun w => ((c.at_ w ∧ Glob w) ∧ ∀ p ∈ P,Strs w p.to p.toL) ∧ X1 w) (by kernel_rfl) ?_)
        all_goals (refine aw_take 0 (hsub:=by (exact fun _ h => h.drop (by ((repeat (first | exact List.nil_sublist _ | apply List.Sublist.cons_cons | apply List.Sublist.cons));done)))) (h:=?_))
        all_goals (refine aw_take 1 (hsub:=by (exact fun _ h => h.drop (by ((repeat (first | exact List.nil_sublist _ | apply List.Sublist.cons_cons | apply List.Sublist.cons));done)))) (h:=?_))
        all_goals (refine aw_take 2 (hsub:=by (exact fun _ h => h.drop (by ((repeat (first | exact List.nil_sublist _ | apply List.Sublist.cons_cons | apply List.Sublist.cons));done)))) (h:=?_))
        all_goals (refine aw_take 3 (hsub:=by (exact fun _ h => h.drop (by ((repeat (first | exact List.nil_sublist _ | apply List.Sublist.cons_cons | apply List.Sublist.cons));done)))) (h:=?_))
        all_goals (refine aw_take 4 (hsub:=by (exact fun _ h => h.drop (by ((repeat (first | exact List.nil_sublist _ | apply List.Sublist.cons_cons | apply List.Sublist.cons));done)))) (h:=?_))
        all_goals (refine aw_take 5 (hsub:=by (exact fun _ h => h.drop (by ((repeat (first | exact List.nil_sublist _ | apply List.Sublist.cons_cons | apply List.Sublist.cons));done)))) (h:=?_))
        all_goals (refine aw_take 6 (hsub:=by (exact fun _ h => h.drop (by ((repeat (first | exact List.nil_sublist _ | apply List.Sublist.cons_cons | apply List.Sublist.cons));done)))) (h:=?_))
        all_goals (refine aw_take 7 (hsub:=by (exact fun _ h => h.drop (by ((repeat (first | exact List.nil_sublist _ | apply List.Sublist.cons_cons | apply List.Sublist.cons));done)))) (h:=?_))
        all_goals (refine aw_take 8 (hsub:=by (exact fun _ h => h.drop (by ((repeat (first | exact List.nil_sublist _ | apply List.Sublist.cons_cons | apply List.Sublist.cons));done)))) (h:=?_))
        all_goals (refine aw_take 9 (hsub:=by (exact fun _ h => h.drop (by ((repeat (first | exact List.nil_sublist _ | apply List.Sublist.cons_cons | apply List.Sublist.cons));done)))) (h:=?_))
        all_goals (refine aw_step 10 (h:=?_);(refine sw_update (κ:=Int) (kk:=(k : Int)) (v:=.int .i64 (n : Nat)) (h:=?_));apply sw_nil;refine aw_fin (hsub:=by (exact fun _ h => h.drop (by ((repeat (first | exact List.nil_sublist _ | apply List.Sublist.cons_cons | apply List.Sublist.cons));done)))) (h:=?_))
        all_goals (refine aw_done (h:=?_))
        all_goals
          repeat' (first | apply sw_nil | fail)
          (refine cw_draw [cel b5 46 x.cells,cel b1 39 c.cells] (fun w => ((c.at_ w ∧ Glob w) ∧ ∀ p ∈ P,Strs w p.to p.toL) ∧ X1 w) (by kernel_rfl) ?_)
          all_goals (refine aw_take 0 (hsub:=by (exact fun _ h => h.drop (by ((repeat (first | exact List.nil_sublist _ | apply List.Sublist.cons_cons | apply List.Sublist.cons));done)))) (h:=?_))
          all_goals (refine aw_take 1 (hsub:=by (exact fun _ h => h.drop (by ((repeat (first | exact List.nil_sublist _ | apply List.Sublist.cons_cons | apply List.Sublist.cons));done)))) (h:=?_))
          all_goals (refine aw_take 2 (hsub:=by (exact fun _ h => h.drop (by ((repeat (first | exact List.nil_sublist _ | apply List.Sublist.cons_cons | apply List.Sublist.cons));done)))) (h:=?_))
          all_goals (refine aw_take 3 (hsub:=by (exact fun _ h => h.drop (by ((repeat (first | exact List.nil_sublist _ | apply List.Sublist.cons_cons | apply List.Sublist.cons));done)))) (h:=?_))
          all_goals (refine aw_take 5 (hsub:=by (exact fun _ h => h.drop (by ((repeat (first | exact List.nil_sublist _ | apply List.Sublist.cons_cons | apply List.Sublist.cons));done)))) (h:=?_))
          all_goals (refine aw_take 6 (hsub:=by (exact fun _ h => h.drop (by ((repeat (first | exact List.nil_sublist _ | apply List.Sublist.cons_cons | apply List.Sublist.cons));done)))) (h:=?_))
          all_goals (refine aw_take 7 (hsub:=by (exact fun _ h => h.drop (by ((repeat (first | exact List.nil_sublist _ | apply List.Sublist.cons_cons | apply List.Sublist.cons));done)))) (h:=?_))
          all_goals (refine aw_take 8 (hsub:=by (exact fun _ h => h.drop (by ((repeat (first | exact List.nil_sublist _ | apply List.Sublist.cons_cons | apply List.Sublist.cons));done)))) (h:=?_))
          all_goals (refine aw_take 9 (hsub:=by (exact fun _ h => h.drop (by ((repeat (first | exact List.nil_sublist _ | apply List.Sublist.cons_cons | apply List.Sublist.cons));done)))) (h:=?_))
          all_goals (refine aw_take 10 (hsub:=by (exact fun _ h => h.drop (by ((repeat (first | exact List.nil_sublist _ | apply List.Sublist.cons_cons | apply List.Sublist.cons));done)))) (h:=?_))
          all_goals (refine aw_take 11 (hsub:=by (exact fun _ h => h.drop (by ((repeat (first | exact List.nil_sublist _ | apply List.Sublist.cons_cons | apply List.Sublist.cons));done)))) (h:=?_))
          all_goals (refine aw_take 12 (hsub:=by (exact fun _ h => h.drop (by ((repeat (first | exact List.nil_sublist _ | apply List.Sublist.cons_cons | apply List.Sublist.cons));done)))) (h:=?_))
          all_goals (refine aw_take 13 (hsub:=by (exact fun _ h => h.drop (by ((repeat (first | exact List.nil_sublist _ | apply List.Sublist.cons_cons | apply List.Sublist.cons));done)))) (h:=?_))
          all_goals (refine aw_take 14 (hsub:=by (exact fun _ h => h.drop (by ((repeat (first | exact List.nil_sublist _ | apply List.Sublist.cons_cons | apply List.Sublist.cons));done)))) (h:=?_))
          all_goals (refine aw_take 15 (hsub:=by (exact fun _ h => h.drop (by ((repeat (first | exact List.nil_sublist _ | apply List.Sublist.cons_cons | apply List.Sublist.cons));done)))) (h:=?_))
          all_goals (refine aw_take 16 (hsub:=by (exact fun _ h => h.drop (by ((repeat (first | exact List.nil_sublist _ | apply List.Sublist.cons_cons | apply List.Sublist.cons));done)))) (h:=?_))
          all_goals (refine aw_take 18 (hsub:=by (exact fun _ h => h.drop (by ((repeat (first | exact List.nil_sublist _ | apply List.Sublist.cons_cons | apply List.Sublist.cons));done)))) (h:=?_))
          all_goals (refine aw_take 19 (hsub:=by (exact fun _ h => h.drop (by ((repeat (first | exact List.nil_sublist _ | apply List.Sublist.cons_cons | apply List.Sublist.cons));done)))) (h:=?_))
          all_goals (refine aw_take 20 (hsub:=by (exact fun _ h => h.drop (by ((repeat (first | exact List.nil_sublist _ | apply List.Sublist.cons_cons | apply List.Sublist.cons));done)))) (h:=?_))
          all_goals (refine aw_take 21 (hsub:=by (exact fun _ h => h.drop (by ((repeat (first | exact List.nil_sublist _ | apply List.Sublist.cons_cons | apply List.Sublist.cons));done)))) (h:=?_))
          all_goals (refine aw_two 4 17 (h:=?_) (h':=?_);(focus (((refine sy_ld (h:=?_));apply sw_nil;refine aw_fin (hsub:=by (exact fun _ h => h.drop (by ((repeat (first | exact List.nil_sublist _ | apply List.Sublist.cons_cons | apply List.Sublist.cons));done)))) (h:=?_));all_goals ((refine aw_step 17 (h:=?_);(refine sw_mk (hc:=hcl2) (hX:=fun w h => (h.1.1.1.2 x hxm).1) (h:=fun v2 X2 h2 => ?_);obtain ⟨s2,rfl,hn2,hw2⟩ := h2);apply sw_nil;refine aw_fin (hsub:=by (exact fun _ h => (h.drop (by ((repeat (first | exact List.nil_sublist _ | apply List.Sublist.cons_cons | apply List.Sublist.cons));done))).imp (fun _ h => h.1))) (h:=?_));all_goals (refine aw_take 22 (hsub:=by (exact fun _ h => (h.drop (by ((repeat (first | exact List.nil_sublist _ | apply List.Sublist.cons_cons | apply List.Sublist.cons));done))).imp (fun _ h => h.1))) (hy:=by (apply y_build (cs:=PostD.cells (⟨digV x,c.id,k,x.kind,x.scope,x.group,s2,x.object,x.time,⟨none,0,0⟩,false,x.toL, []⟩ : PostD));rfl;rfl)) (h:=?_));all_goals (refine aw_step 23 (h:=?_);(refine sw_bslS (size:=11) (vs:=[.agg (PostD.cells (⟨digV x,c.id,k,x.kind,x.scope,x.group,s2,x.object,x.time,⟨none,0,0⟩,false,x.toL, []⟩ : PostD)).toArray]) (css:=PostD.cells (⟨digV x,c.id,k,x.kind,x.scope,x.group,s2,x.object,x.time,⟨none,0,0⟩,false,x.toL, []⟩ : PostD)) (hsz:=by rfl) (hcs:=by rfl) (h:=fun _ => ?_));apply sw_nil;refine aw_fin (hsub:=by (exact fun _ h => (h.drop (by ((repeat (first | exact List.nil_sublist _ | apply List.Sublist.cons_cons | apply List.Sublist.cons));done))).imp (fun _ h => h.1))) (h:=?_));all_goals (refine aw_step 24 (h:=?_);(refine sw_append (size:=11) (news:=PostD.cells (⟨digV x,c.id,k,x.kind,x.scope,x.group,s2,x.object,x.time,⟨none,0,0⟩,false,x.toL, []⟩ : PostD)) (q:=1) rfl rfl rfl rfl (fun _ => At.there _ (At.there _ (At.there _ (At.there _ (At.there _ (At.there _ (At.here _))))))) (fun w G => src_cel G List.mem_cons_self rfl rfl 1) (by omega) (by simp only [maxLen];omega) rfl ?_ rfl ?_;(with_reducible rfl);intro A2 c2);apply sw_nil;refine aw_fin (hsub:=by (exact fun _ h => (h.drop (by ((repeat (first | exact List.nil_sublist _ | apply List.Sublist.cons_cons | apply List.Sublist.cons));done))).imp (fun _ h => h.1))) (h:=?_));all_goals (refine aw_take 25 (hsub:=by (exact fun _ h => (h.drop (by ((repeat (first | exact List.nil_sublist _ | apply List.Sublist.cons_cons | apply List.Sublist.cons));done))).imp (fun _ h => h.1))) (h:=?_));all_goals (refine aw_take 26 (hsub:=by (exact fun _ h => (h.drop (by ((repeat (first | exact List.nil_sublist _ | apply List.Sublist.cons_cons | apply List.Sublist.cons));done))).imp (fun _ h => h.1))) (h:=?_));all_goals (refine aw_step 27 (h:=?_);(refine sw_st1 (h:=?_));apply sw_nil;refine aw_fin (hsub:=by (exact fun _ h => (h.drop (by ((repeat (first | exact List.nil_sublist _ | apply List.Sublist.cons_cons | apply List.Sublist.cons));done))).imp (fun _ h => h.1))) (h:=?_));all_goals (refine aw_done (h:=?_)))));rotate_right;(focus (((refine sw_mk (hc:=hcl2) (hX:=fun w h => (h.1.1.1.2 x hxm).1) (h:=fun v2 X2 h2 => ?_);obtain ⟨s2,rfl,hn2,hw2⟩ := h2);apply sw_nil;refine aw_fin (hsub:=by (exact fun _ h => (h.drop (by ((repeat (first | exact List.nil_sublist _ | apply List.Sublist.cons_cons | apply List.Sublist.cons));done))).imp (fun _ h => h.1))) (h:=?_));all_goals ((refine aw_take 22 (hsub:=by (exact fun _ h => (h.drop (by ((repeat (first | exact List.nil_sublist _ | apply List.Sublist.cons_cons | apply List.Sublist.cons));done))).imp (fun _ h => h.1))) (hy:=by (apply y_build (cs:=PostD.cells (⟨digV x,c.id,k,x.kind,x.scope,x.group,s2,x.object,x.time,⟨none,0,0⟩,false,x.toL, []⟩ : PostD));rfl;rfl)) (h:=?_));all_goals (refine aw_two 4 23 (h:=?_) (h':=?_);(focus (((refine sy_ld (h:=?_));apply sw_nil;refine aw_fin (hsub:=by (exact fun _ h => (h.drop (by ((repeat (first | exact List.nil_sublist _ | apply List.Sublist.cons_cons | apply List.Sublist.cons));done))).imp (fun _ h => h.1))) (h:=?_));all_goals ((refine aw_step 23 (h:=?_);(refine sw_bslS (size:=11) (vs:=[.agg (PostD.cells (⟨digV x,c.id,k,x.kind,x.scope,x.group,s2,x.object,x.time,⟨none,0,0⟩,false,x.toL, []⟩ : PostD)).toArray]) (css:=PostD.cells (⟨digV x,c.id,k,x.kind,x.scope,x.group,s2,x.object,x.time,⟨none,0,0⟩,false,x.toL, []⟩ : PostD)) (hsz:=by rfl) (hcs:=by rfl) (h:=fun _ => ?_));apply sw_nil;refine aw_fin (hsub:=by (exact fun _ h => (h.drop (by ((repeat (first | exact List.nil_sublist _ | apply List.Sublist.cons_cons | apply List.Sublist.cons));done))).imp (fun _ h => h.1))) (h:=?_));all_goals (refine aw_step 24 (h:=?_);(refine sw_append (size:=11) (news:=PostD.cells (⟨digV x,c.id,k,x.kind,x.scope,x.group,s2,x.object,x.time,⟨none,0,0⟩,false,x.toL, []⟩ : PostD)) (q:=1) rfl rfl rfl rfl (fun _ => At.there _ (At.there _ (At.there _ (At.there _ (At.there _ (At.there _ (At.here _))))))) (fun w G => src_cel G List.mem_cons_self rfl rfl 1) (by omega) (by simp only [maxLen];omega) rfl ?_ rfl ?_;(with_reducible rfl);intro A2 c2);apply sw_nil;refine aw_fin (hsub:=by (exact fun _ h => (h.drop (by ((repeat (first | exact List.nil_sublist _ | apply List.Sublist.cons_cons | apply List.Sublist.cons));done))).imp (fun _ h => h.1))) (h:=?_));all_goals (refine aw_take 25 (hsub:=by (exact fun _ h => (h.drop (by ((repeat (first | exact List.nil_sublist _ | apply List.Sublist.cons_cons | apply List.Sublist.cons));done))).imp (fun _ h => h.1))) (h:=?_));all_goals (refine aw_take 26 (hsub:=by (exact fun _ h => (h.drop (by ((repeat (first | exact List.nil_sublist _ | apply List.Sublist.cons_cons | apply List.Sublist.cons));done))).imp (fun _ h => h.1))) (h:=?_));all_goals (refine aw_step 27 (h:=?_);(refine sw_st1 (h:=?_));apply sw_nil;refine aw_fin (hsub:=by (exact fun _ h => (h.drop (by ((repeat (first | exact List.nil_sublist _ | apply List.Sublist.cons_cons | apply List.Sublist.cons));done))).imp (fun _ h => h.1))) (h:=?_));all_goals (refine aw_done (h:=?_)))));rotate_right;(focus (((refine sw_bslS (size:=11) (vs:=[.agg (PostD.cells (⟨digV x,c.id,k,x.kind,x.scope,x.group,s2,x.object,x.time,⟨none,0,0⟩,false,x.toL, []⟩ : PostD)).toArray]) (css:=PostD.cells (⟨digV x,c.id,k,x.kind,x.scope,x.group,s2,x.object,x.time,⟨none,0,0⟩,false,x.toL, []⟩ : PostD)) (hsz:=by rfl) (hcs:=by rfl) (h:=fun _ => ?_));apply sw_nil;refine aw_fin (hsub:=by (exact fun _ h => (h.drop (by ((repeat (first | exact List.nil_sublist _ | apply List.Sublist.cons_cons | apply List.Sublist.cons));done))).imp (fun _ h => h.1))) (h:=?_));all_goals ((refine aw_step 4 (h:=?_);(refine sy_ld (h:=?_));apply sw_nil;refine aw_fin (hsub:=by (exact fun _ h => (h.drop (by ((repeat (first | exact List.nil_sublist _ | apply List.Sublist.cons_cons | apply List.Sublist.cons));done))).imp (fun _ h => h.1))) (h:=?_));all_goals (refine aw_step 24 (h:=?_);(refine sw_append (size:=11) (news:=PostD.cells (⟨digV x,c.id,k,x.kind,x.scope,x.group,s2,x.object,x.time,⟨none,0,0⟩,false,x.toL, []⟩ : PostD)) (q:=1) rfl rfl rfl rfl (fun _ => At.there _ (At.there _ (At.there _ (At.there _ (At.there _ (At.there _ (At.here _))))))) (fun w G => src_cel G List.mem_cons_self rfl rfl 1) (by omega) (by simp only [maxLen];omega) rfl ?_ rfl ?_;(with_reducible rfl);intro A2 c2);apply sw_nil;refine aw_fin (hsub:=by (exact fun _ h => (h.drop (by ((repeat (first | exact List.nil_sublist _ | apply List.Sublist.cons_cons | apply List.Sublist.cons));done))).imp (fun _ h => h.1))) (h:=?_));all_goals (refine aw_take 25 (hsub:=by (exact fun _ h => (h.drop (by ((repeat (first | exact List.nil_sublist _ | apply List.Sublist.cons_cons | apply List.Sublist.cons));done))).imp (fun _ h => h.1))) (h:=?_));all_goals (refine aw_take 26 (hsub:=by (exact fun _ h => (h.drop (by ((repeat (first | exact List.nil_sublist _ | apply List.Sublist.cons_cons | apply List.Sublist.cons));done))).imp (fun _ h => h.1))) (h:=?_));all_goals (refine aw_step 27 (h:=?_);(refine sw_st1 (h:=?_));apply sw_nil;refine aw_fin (hsub:=by (exact fun _ h => (h.drop (by ((repeat (first | exact List.nil_sublist _ | apply List.Sublist.cons_cons | apply List.Sublist.cons));done))).imp (fun _ h => h.1))) (h:=?_));all_goals (refine aw_done (h:=?_))))))))))
          all_goals
            repeat' (first | apply sw_nil | apply cw_reg | refine sy_move (h:=?_) | refine sy_add (h:=?_) | fail)
            exact ⟨(⟨k + 1,hlt,P ++ [p s2],hP2 s2,hz2 s2,_,hpl2,_,hnum2 s2,n + 1,by rw [List.length_append,hn];rfl,xs ++ PostD.cells (⟨digV x,c.id,k,x.kind,x.scope,x.group,s2,x.object,x.time,⟨none,0,0⟩,false,x.toL, []⟩ : PostD),by rw [hxs,List.map_append,List.flatten_append,List.map_cons,List.map_nil,List.flatten_cons,List.flatten_nil,List.append_nil,hpd],A2,c2⟩ : RegI c),(by show c.actsL.length - (k + 1) < c.actsL.length - k;omega),
              ok_sub ⟨rfl,rfl,rfl,rfl,rfl,trivial⟩ (List.Sublist.cons _ (List.Sublist.cons _ (List.Sublist.refl _))) fun w h => ⟨h.1.1.1,fun q hq => (List.mem_append.1 hq).elim (h.1.1.2 q) fun e => by
                rw [List.mem_singleton] at e
                subst e
                rw [hpd]
                exact hw2 w h.2⟩⟩
  · subst hn hxs
    have hkE : k = c.actsL.length := by omega
    exact ends_ret (res_tmp rfl rfl) ⟨⟨k,hk,P,hP,hz,pl,hpl,num,hnum,_,rfl,_,rfl,A,cp⟩,b,b1,q1,q2,hkE,rfl,rfl,fun w h => h.2⟩
end Go.Proofs.YtjmpdkmboheknaaGreatDoor

namespace Go.Proofs.YtjmpdkmboheknaaGreatDoor
open Go Go.Proofs Sy
section
variable {P : Program} {N : Nat} {av bor : List Nat} {w0 : World} {E : Env} {loc : List Res} {X : World → Prop} {K : Exit → St → Prop} {c : Code}
theorem gam_edR {w : World} : ∀ (P : List PostD),(∀ p ∈ P,p.ed = ⟨none,0,0⟩ ∧ p.edL = []) → Gam av bor w0 loc X w → Gam av bor w0 (P.map edR ++ loc) X w
  | [],_,G => G
  | p :: P,h,G => by
    have h1 := h p List.mem_cons_self
    have e : edR p = orow 3 1 (.slice none 0 0) 0 [] := by rw [edR,h1.1,h1.2];rfl
    rw [List.map_cons,e]
    exact (gam_edR P (fun q hq => h q (List.mem_cons_of_mem _ hq)) G).nilRow _ _
theorem cw_edR (L : List PostD) (hz : ∀ p ∈ L,p.ed = ⟨none,0,0⟩ ∧ p.edL = []) (h : Cw P N av bor w0 c ⟨E,L.map edR ++ loc,X⟩ K) : Cw P N av bor w0 c ⟨E,loc,X⟩ K := Cw.mk fun a w ok => h.run a w (ok.via fun M G => by
  have := gam_edR L hz G
  rwa [← List.append_assoc] at this)
theorem cw_perm {l : List Res} (hs : loc.Perm l) (h : Cw P N av bor w0 c ⟨E,l,X⟩ K) : Cw P N av bor w0 c ⟨E,loc,X⟩ K := Cw.mk fun a w ok => h.run a w (ok.via fun M G => G.perm (hs.append_right M))
theorem y_makeFunc1 {st : St} {ty : TypeId} {fn : Fn} {xs : List Operand} {vs : List Value} (hx : evs st.env xs = some vs) : Sy.Yields P N av bor w0 st (.makeFunc fn xs.toArray #[]) ty (.func fn vs.toArray #[]) := Sy.Yields.mk fun A w ok d pos af g => by
  have e := evs_eval (E:=st.env) (loc:=st.loc) (X:=st.ext) ok xs vs hx
  have e1 : xs.toArray.map A.eval = vs.toArray := by rw [List.map_toArray,e]
  simp [execOp,Instr.makeFunc,e1,e]
theorem cw_knowAll {p : Prop} (hp : ∀ w,(∀ r ∈ loc,r.F w) → p) (h : p → Cw P N av bor w0 c ⟨E,loc,X⟩ K) : Cw P N av bor w0 c ⟨E,loc,X⟩ K := Cw.mk fun a w ok => (h (hp w fun r hr => (ok.gam.here r hr).now)).run a w ok
end
theorem PostTo.len {P Q : List PostD} (h : PostTo P Q) : Q.length = P.length := by have := congrArg List.length h.to;simpa using this
theorem PostTo.trans {P Q R : List PostD} (h : PostTo P Q) (k : PostTo Q R) : PostTo P R := ⟨k.to.trans h.to⟩
theorem PostTo.pos {P Q : List PostD} (h : PostTo P Q) (j : Nat) : posP Q j = posP P j := by
  have e : ∀ L : List PostD,posP L j = (L.map fun p => (p.to,p.toL,p.pos)).findIdx? fun t => t.2.2 == j := fun L => by rw [posP,List.findIdx?_map];rfl
  rw [e,e,h.to]
theorem PostTo.mem {P Q : List PostD} (h : PostTo P Q) {p : PostD} (hp : p ∈ Q) : ∃ q ∈ P,q.to = p.to ∧ q.toL = p.toL := by
  have h1 : (p.to,p.toL,p.pos) ∈ Q.map fun p => (p.to,p.toL,p.pos) := List.mem_map_of_mem (f:=fun p : PostD => (p.to,p.toL,p.pos)) hp
  rw [h.to] at h1
  obtain ⟨q,hq,e⟩ := List.mem_map.1 h1
  simp only [Prod.mk.injEq] at e
  exact ⟨q,hq,e.1,e.2.1⟩
theorem modP_ed {P : List PostD} {o : Option Nat} {f : PostD → PostD} {m : Nat} (h : ∀ p ∈ P,p.edL.length ≤ m) (hf : ∀ p : PostD,(f p).edL.length ≤ p.edL.length + 1) : ∀ p ∈ modP P o f,p.edL.length ≤ m + 1 := fun p hp => by
  cases o with
  | none => exact Nat.le_succ_of_le (h p hp)
  | some n =>
    rcases List.mem_or_eq_of_mem_set hp with hp | rfl
    · exact Nat.le_succ_of_le (h p hp)
    · refine Nat.le_trans (hf _) ?_
      by_cases hn : n < P.length
      · have := h (P.getD n PostD.zero) (by rw [List.getD_eq_getElem?_getD,List.getElem?_eq_getElem hn];exact List.getElem_mem hn)
        omega
      · rw [List.getD_eq_getElem?_getD,List.getElem?_eq_none (by omega)]
        exact Nat.succ_le_succ (Nat.zero_le m)
theorem openF_ed (c : ChainD) : ∀ i, ∀ p ∈ openF c i,p.edL = []
  | 0,p,h => (List.not_mem_nil h).elim
  | i + 1,p,h => by
    rw [openF] at h
    rcases List.mem_append.1 h with h | h
    · exact openF_ed c i p h
    · revert h
      cases postK (c.actsL.getD i ActD.zero).kind with
      | true => intro h;rw [cond_true,List.mem_singleton] at h;subst h;rfl
      | false => intro h;exact (List.not_mem_nil h).elim
theorem editP_ed (a : ActD) (i : Nat) (p : PostD) : (editP a i p).edL.length ≤ p.edL.length + 1 := by
  rw [editP]
  cases editB a p with
  | true => rw [cond_true];show (p.edL ++ [(i : Int)]).length ≤ _;rw [List.length_append];exact Nat.le_refl _
  | false => exact Nat.le_succ _
theorem ofP_ed (c : ChainD) : ∀ i, ∀ p ∈ ofP c i,p.edL.length ≤ i
  | 0,p,h => by rw [openF_ed c _ p h];exact Nat.le_refl 0
  | i + 1,p,h => by
    have ih := ofP_ed c i
    rw [ofP,stepP] at h
    revert h
    cases decide ((c.actsL.getD i ActD.zero).kind = 13) with
    | true => exact fun h => modP_ed (f:=goneP) ih (fun p => Nat.le_succ _) p h
    | false =>
      cases decide ((c.actsL.getD i ActD.zero).kind = 14) with
      | true => exact fun h => modP_ed (f:=editP _ _) ih (editP_ed _ _) p h
      | false => exact fun h => Nat.le_succ_of_le (ih p h)
theorem editP_can (a : ActD) (i : Nat) (p : PostD) : (editP a i p).can = editP a i p.can := by
  have h : editB a p.can = editB a p := rfl
  rw [editP,editP,h]
  cases editB a p <;> rfl
theorem editP_pos (a : ActD) (i : Nat) (p : PostD) : (editP a i p).pos = p.pos := by
  rw [editP]
  cases editB a p <;> rfl
theorem permD (c m2 m1 b1 po b0 : Res) (M : List Res) : (M ++ ([c,m2,m1,b1,po] ++ [b0])).Perm ((c :: m2 :: m1 :: po :: M) ++ [b1,b0]) := by
  have h1 : ([c,m2,m1,b1,po] ++ [b0]).Perm ([c,m2,m1,po] ++ [b1,b0]) := (((List.Perm.swap po b1 [b0]).cons m1).cons m2).cons c
  have h2 := (List.perm_append_comm (l₁:=M) (l₂:=[c,m2,m1,b1,po] ++ [b0])).trans (h1.append_right M)
  rw [List.append_assoc] at h2
  exact h2.trans ((List.perm_append_comm (l₁:=[b1,b0]) (l₂:=M)).append_left [c,m2,m1,po])
def PostsAt (c : ChainD) (u : Value) (X : World → Prop) : Prop := ∃ (s : SlV) (P : List PostD),u = s.v ∧ P.map PostD.can = postsV c ∧ P.length ≤ c.actsL.length ∧ ∀ w,X w → RowsD w 11 s (P.map PostD.cells)
theorem mk_weak {P : Program} {f : FuncId} {args : Array Value} {X : World → Prop} {Φ Ψ : Value → (World → Prop) → Prop} (h : Mk P f args X Φ) (hp : ∀ u X',Φ u X' → Ψ u X') : Mk P f args X Ψ := by
  unfold Mk at *
  exact Ct.mono h fun v R X' ⟨a,b⟩ => ⟨hp _ _ a,b⟩
theorem ints_edR {w : World} {p : PostD} (hl : p.edL.length = p.ed.n) (h : (edR p).F w) : Ints w p.ed p.edL := by
  have h' : ORow w 3 1 (.slice p.ed.p p.ed.n p.ed.c) p.ed.n (p.edL.map fun n => [(.int .i64 n : Value)]).flatten := by
    have e : (p.edL.map fun n => [(.int .i64 n : Value)]).flatten = p.edL.map fun n => (.int .i64 n : Value) := by
      induction p.edL with
      | nil => rfl
      | cons a l ih => rw [List.map_cons,List.flatten_cons,ih];rfl
    rw [e]
    exact h
  exact rows_of_orow h' (by rw [List.length_map,hl]) fun r hr => by
    obtain ⟨n,_,rfl⟩ := List.mem_map.1 hr
    rfl
def PostsAtS (c : ChainD) (u : Value) (X : World → Prop) : Prop := ∃ (s : SlV) (P : List PostD),u = s.v ∧ P.map PostD.can = postsV c ∧ P.length ≤ c.actsL.length ∧ ∀ w,X w → RowsD w 11 s (P.map PostD.cells) ∧ ∀ p ∈ P,Strs w p.to p.toL ∧ Ints w p.ed p.edL
theorem PostsAtS.weak {c : ChainD} {u : Value} {X : World → Prop} (h : PostsAtS c u X) : PostsAt c u X := by
  obtain ⟨s,P,h1,h2,h3,h4⟩ := h
  exact ⟨s,P,h1,h2,h3,fun w hw => (h4 w hw).1⟩
structure OfI (c : ChainD) (P : List PostD) where
  k : Nat
  hk : k ≤ c.actsL.length
  Q : List PostD
  hQ : Q.map PostD.can = ofP c k
  hT : PostTo P Q
set_option maxHeartbeats 8000000 in
theorem of_mkS (c : ChainD) (hc : ActsOk c.actsL) (hcl : c.actsL.length ≤ 1000000) : Mk Tryz.prog 15 #[c.v] (fun w => c.at_ w ∧ Glob w) (PostsAtS c) := by
  refine mk_of_cw2 (args:=[_]) _ Tryz.func15 rfl Tryz.ntmps15 rfl fun av bor w0 => ?_
  refine cw_know (p:=c.acts.n = c.actsL.length ∧ c.acts.n ≤ maxLen ∧ (0 < c.actsL.length → c.acts.p.isSome = true)) (fun w h => ⟨h.1.len_,h.1.max_,h.1.some_⟩) fun ⟨hl,hm,hp⟩ => ?_
  simp only [maxLen] at hm
  repeat' (first | apply sw_nil | apply cw_seq | apply cw_reg | refine sy_assign (h:=?_) | refine sy_ldAll (h:=?_) | refine sw_box (h:=fun _ => ?_) | fail)
  refine sw_fn0 (hc:=open_ct c hc hcl) (hX:=fun w h => h) (h:=?_)
  rintro _ _ X1 ⟨r,b,b1,q1,q2,hrk,rfl,rfl,hX1⟩
  repeat' (first | apply sw_nil | apply cw_seq | apply cw_reg | refine sy_move (h:=?_) | refine sy_assign (h:=?_) | refine sy_fld (h:=?_) | refine sy_ld (h:=?_) | refine sy_len (h:=?_) | apply cw_block | fail)
  have hrP : r.P.map PostD.can = openF c c.actsL.length := by rw [← hrk];exact r.hP
  have hrl : r.P.length ≤ c.actsL.length := by
    have h1 := openF_len c c.actsL.length
    rw [← hrP,List.length_map] at h1
    exact h1
  have hpl : ∀ d,mget r.pl d = (idxV c.actsL d).map fun (j : Nat) => Value.int .i64 (j : Int) := fun d => by
    rw [r.hpl d,hrk,List.take_length]
  have hsn : r.s.n = r.P.length := r.hn
  have hnum := r.hnum
  have hz := r.hz
  generalize hs : r.s = s at *
  generalize r.P = P at *
  generalize r.pl = pl at *
  generalize r.num = num at *
  rename_i b0
  refine cw_edR P hz ?_
  refine cw_perm (permD _ _ _ _ _ _ _) ?_
  refine cw_loop (ι:=OfI c P) (fun i => ⟨[(3,.pointer (some ⟨b,0,none⟩)),(9,c.acts.v),(10,.int .i64 (c.acts.n : Nat)),(11,.int .i64 (i.k : Nat))],cel b 88 (regC c s.v q1 q2) :: mapr q2 pl :: mapr q1 num :: postR s i.Q :: i.Q.map edR,fun w => (c.at_ w ∧ Glob w) ∧ ∀ p ∈ P,Strs w p.to p.toL⟩) (fun i => c.actsL.length - i.k)
    ⟨0,Nat.zero_le _,P,hrP,⟨rfl⟩⟩ (ok_sub ⟨rfl,rfl,rfl,rfl,trivial⟩ (List.sublist_append_left _ _) fun w h => ⟨h.1,hX1 w h.2⟩) fun i => ?_
  obtain ⟨k,hk,Q,hQ,hT⟩ := i
  simp only
  have hQl := hT.len
  have hsQ : s.n = Q.length := by omega
  refine cw_knowAll (p:=∀ p ∈ Q,p.edL.length = p.ed.n) (fun w hr p hp => by
    have h1 := (hr (edR p) (List.mem_cons_of_mem _ (List.mem_cons_of_mem _ (List.mem_cons_of_mem _ (List.mem_cons_of_mem _ (List.mem_map_of_mem hp)))))).1
    simpa using h1) fun hed => ?_
  have hsto : ∀ w,(∀ p ∈ P,Strs w p.to p.toL) → ∀ p ∈ Q,Strs w p.to p.toL := fun w h p hp => by
    obtain ⟨q,hq,e1,e2⟩ := hT.mem hp
    rw [← e1, ← e2]
    exact h q hq
  have hnQ : ∀ j : Nat,mget num (j : Int) = (posP Q j).map fun (n : Nat) => Value.int .i64 (n : Int) := fun j => by rw [hT.pos j];exact hnum j
  have hem : ∀ p ∈ Q,p.ed.n ≤ 1000000 := fun p hp => by
    have h1 := ofP_ed c k p.can (by rw [← hQ];exact List.mem_map_of_mem hp)
    have h2 : p.edL.length ≤ k := h1
    have h3 := hed p hp
    omega
  repeat' (first | apply sw_nil | apply cw_seq | apply cw_reg | refine sy_move (h:=?_) | refine sy_assign (h:=?_) | refine sy_nilCheck (h:=?_) | refine sy_fld (h:=?_) | refine sy_ld (h:=?_) | refine sy_lss (h:=?_) | apply cw_skip | apply cw_block | apply cw_ret | apply cw_exit | (refine cw_cond (ht:=?_) (hf:=?_);all_goals (intro hx_;first | have := of_decide_eq_true hx_ | have := of_decide_eq_false hx_)))
  · have hlt : k < c.actsL.length := by omega
    have hp' := hp (by omega)
    obtain ⟨x,hx⟩ : ∃ x,c.actsL[k]? = some x := ⟨_,List.getElem?_eq_getElem hlt⟩
    have hxD : c.actsL.getD k ActD.zero = x := by rw [List.getD_eq_getElem?_getD,hx];rfl
    by_cases h13 : x.kind = 13
    · repeat' (first | refine sy_eqlT (hab:=by omega) (h:=?_) | apply sw_nil | apply cw_seq | apply cw_reg | refine sy_move (h:=?_) | refine sy_assign (h:=?_) | refine sy_fld (h:=?_) | refine sy_ld (h:=?_) | refine sw_alloc (h:=fun _ => ?_) | refine sw_stAll (h:=?_) | refine cw_cond_t (ht:=?_) | apply cw_block | (refine sy_idxX (q:=k * 20) (h:=?_)) | (refine sy_ldXs (cs:=x.cells) (hF:=fun w h => Acts.get h.1.1 hx) (h:=?_)) | (refine sw_yield (y_makeFunc1 (xs:=[_]) (vs:=[_]) rfl) rfl rfl rfl ?_) | fail)
      rename_i b5
      refine sw_perm (List.perm_append_singleton _ _).symm ?_
      refine sw_fn (first:=#[]) (caps:=#[]) (pre:=[cel b 88 (regC c s.v q1 q2),mapr q2 pl,mapr q1 num,postR s Q] ++ Q.map edR) (fr:=[cel b5 46 x.cells]) (hc:=refer_ct c s Q b q1 q2 k 34 inferInstance pl num x (goneP) hsQ hx (by omega) hpl hnQ hcl (by omega) (fun p => rfl) (fun p => rfl) (fun n p hn => remove_note _ s Q n p _ k hsQ hn)) (hX:=fun w h => ⟨h.1,hsto w h.2⟩) (h:=?_)
      rintro _ _ X' ⟨rfl,Q',ex,hcan,hto,rfl⟩
      have HQ : Q'.map PostD.can = ofP c (k + 1) := by
        rw [hcan,ofP,stepP,hxD,decide_eq_true h13,cond_true, ← hQ,refV_can]
      repeat' (first | apply sw_nil | apply cw_reg | refine sy_move (h:=?_) | refine sy_add (h:=?_) | fail)
      exact ⟨(⟨k + 1,hlt,Q',HQ,hT.trans hto⟩ : OfI c P),(by show c.actsL.length - (k + 1) < c.actsL.length - k;omega),ok_sub ⟨rfl,rfl,rfl,rfl,trivial⟩ ((List.sublist_append_right ex _).trans (List.sublist_append_left _ _)) fun w h => h.1⟩
    by_cases h14 : x.kind = 14
    · repeat' (first | refine sy_eqlT (hab:=by omega) (h:=?_) | refine sy_eqlF (hab:=by omega) (h:=?_) | apply sw_nil | apply cw_seq | apply cw_reg | refine sy_move (h:=?_) | refine sy_assign (h:=?_) | refine sy_fld (h:=?_) | refine sy_ld (h:=?_) | refine sw_alloc (h:=fun _ => ?_) | refine sw_stAll (h:=?_) | refine cw_cond_t (ht:=?_) | refine cw_cond_f (hf:=?_) | apply cw_block | (refine sy_idxX (q:=k * 20) (h:=?_)) | (refine sy_ldXs (cs:=x.cells) (hF:=fun w h => Acts.get h.1.1 hx) (h:=?_)) | (refine sw_yield (y_makeFunc1 (xs:=[_]) (vs:=[_]) rfl) rfl rfl rfl ?_) | fail)
      rename_i b5
      refine sw_perm (List.perm_append_singleton _ _).symm ?_
      refine sw_fn (first:=#[]) (caps:=#[]) (pre:=[cel b 88 (regC c s.v q1 q2),mapr q2 pl,mapr q1 num,postR s Q] ++ Q.map edR) (fr:=[cel b5 46 x.cells]) (hc:=refer_ct c s Q b q1 q2 k 35 inferInstance pl num x (editP x k) hsQ hx (by omega) hpl hnQ hcl (by omega) (editP_can x k) (editP_pos x k) (fun n p hn => edit_note c s Q n p b q1 q2 k x hsQ hn hx (by omega) (hed p (List.mem_of_getElem? hn)).symm (hem p (List.mem_of_getElem? hn)))) (hX:=fun w h => ⟨h.1,hsto w h.2⟩) (h:=?_)
      rintro _ _ X' ⟨rfl,Q',ex,hcan,hto,rfl⟩
      have HQ : Q'.map PostD.can = ofP c (k + 1) := by
        rw [hcan,ofP,stepP,hxD,decide_eq_false h13,cond_false,decide_eq_true h14,cond_true, ← hQ,refV_can]
      repeat' (first | apply sw_nil | apply cw_reg | refine sy_move (h:=?_) | refine sy_add (h:=?_) | fail)
      exact ⟨(⟨k + 1,hlt,Q',HQ,hT.trans hto⟩ : OfI c P),(by show c.actsL.length - (k + 1) < c.actsL.length - k;omega),ok_sub ⟨rfl,rfl,rfl,rfl,trivial⟩ ((List.sublist_append_right ex _).trans (List.sublist_append_left _ _)) fun w h => h.1⟩
    · have HQ : Q.map PostD.can = ofP c (k + 1) := by
        rw [ofP,stepP,hxD,decide_eq_false h13,cond_false,decide_eq_false h14,cond_false]
        exact hQ
      repeat' (first | refine sy_eqlF (hab:=by omega) (h:=?_) | apply sw_nil | apply cw_seq | apply cw_reg | refine sy_move (h:=?_) | refine sy_assign (h:=?_) | refine sy_fld (h:=?_) | refine sy_ld (h:=?_) | refine sy_add (h:=?_) | refine sw_alloc (h:=fun _ => ?_) | refine sw_stAll (h:=?_) | refine cw_cond_f (hf:=?_) | apply cw_skip | apply cw_block | (refine sy_idxX (q:=k * 20) (h:=?_)) | (refine sy_ldXs (cs:=x.cells) (hF:=fun w h => Acts.get h.1.1 hx) (h:=?_)) | fail)
      exact ⟨(⟨k + 1,hlt,Q,HQ,hT⟩ : OfI c P),(by show c.actsL.length - (k + 1) < c.actsL.length - k;omega),ok_sub ⟨rfl,rfl,rfl,rfl,trivial⟩ (List.Sublist.cons _ (List.Sublist.refl _)) fun w h => h⟩
  · have hkE : k = c.actsL.length := by omega
    exact ends_ret (res_tmp rfl rfl) ⟨s,Q,rfl,by rw [hQ,hkE];rfl,by omega,fun w h => ⟨rows_of_orow (h.2 (postR s Q) (List.mem_cons_of_mem _ (List.mem_cons_of_mem _ (List.mem_cons_of_mem _ List.mem_cons_self)))) (by simp [hsQ]) (cells11 Q),fun p hp => ⟨hsto w h.1.2 p hp,ints_edR (hed p hp) (h.2 (edR p) (List.mem_cons_of_mem _ (List.mem_cons_of_mem _ (List.mem_cons_of_mem _ (List.mem_cons_of_mem _ (List.mem_map_of_mem hp))))))⟩⟩⟩
theorem of_mk (c : ChainD) (hc : ActsOk c.actsL) (hcl : c.actsL.length ≤ 1000000) : Mk Tryz.prog 15 #[c.v] (fun w => c.at_ w ∧ Glob w) (PostsAt c) := mk_weak (of_mkS c hc hcl) fun u X h => h.weak
end Go.Proofs.YtjmpdkmboheknaaGreatDoor

namespace Go.Proofs.YtjmpdkmboheknaaGreatDoor
open Go Go.Proofs Sy
instance : TyAgg Tryz.prog 26 11 := ⟨by kernel_rfl⟩
def isPost (id : ByteArray) (p : PostD) : Bool := seqB p.id id
def findPV (l : List ChainD) (id : ByteArray) : Option PostD := (l.flatMap postsV).find? (isPost id)
theorem findPV_none {l : List ChainD} {id : ByteArray} (h : ∀ c ∈ l, ∀ p ∈ postsV c,isPost id p = false) : findPV l id = none := by
  rw [findPV,List.find?_eq_none]
  intro p hp
  obtain ⟨c,hc,h1⟩ := List.mem_flatMap.1 hp
  rw [h c hc p h1]
  decide
theorem findPV_at {l : List ChainD} {id : ByteArray} {k j : Nat} {c : ChainD} {P : List PostD} {p : PostD} (hc : l[k]? = some c) (hP : P.map PostD.can = postsV c) (hp : P[j]? = some p) (h1 : ∀ i x,i < k → l[i]? = some x → ∀ q ∈ postsV x,isPost id q = false) (h2 : ∀ i q,i < j → P[i]? = some q → isPost id q = false) (h3 : isPost id p = true) :
    findPV l id = some p.can := by
  obtain ⟨hk,rfl⟩ := List.getElem?_eq_some_iff.1 hc
  have e : l = l.take k ++ l[k] :: l.drop (k + 1) := by rw [← List.drop_eq_getElem_cons hk,List.take_append_drop]
  rw [findPV,e,List.flatMap_append,List.flatMap_cons,List.find?_append,List.find?_append,List.find?_eq_none.2 (fun q hq => by
    obtain ⟨x,hx,hq⟩ := List.mem_flatMap.1 hq
    obtain ⟨i,hi⟩ := List.mem_iff_getElem?.1 hx
    rw [List.getElem?_take] at hi
    split at hi
    · rename_i hik
      rw [h1 i x hik hi q hq]
      decide
    · cases hi),Option.none_or]
  have e2 : (postsV l[k]).find? (isPost id) = some p.can := by
    rw [← hP,List.find?_map]
    have e3 : (isPost id ∘ PostD.can) = isPost id := rfl
    rw [e3]
    obtain ⟨hj,rfl⟩ := List.getElem?_eq_some_iff.1 hp
    have e4 : P.find? (isPost id) = some P[j] := by
      rw [List.find?_eq_some_iff_getElem]
      refine ⟨h3,j,hj,rfl,fun i hi => ?_⟩
      rw [h2 i P[i] hi (List.getElem?_eq_getElem (by omega))]
      decide
    rw [e4]
    rfl
  rw [e2]
  rfl
def FoundAt (l : List ChainD) (id : ByteArray) (u : Value) (X : World → Prop) : Prop := ∃ p : PostD,u = .tuple #[p.v,.bool (findPV l id).isSome] ∧ p.can = (findPV l id).getD PostD.zero
structure FinI (l : List ChainD) (id : ByteArray) where
  k : Nat
  hk : k ≤ l.length
  no : ∀ i x,i < k → l[i]? = some x → ∀ q ∈ postsV x,isPost id q = false
structure FinJ (P : List PostD) (id : ByteArray) where
  j : Nat
  hj : j ≤ P.length
  no : ∀ i q,i < j → P[i]? = some q → isPost id q = false
set_option maxHeartbeats 4000000 in
theorem findP_mk (s : SlV) (l : List ChainD) (id : ByteArray) (hok : ∀ c ∈ l,ActsOk c.actsL) (hlen : ∀ c ∈ l,c.actsL.length ≤ 1000000) : Mk Tryz.prog 27 #[s.v,.string id] (fun w => Chains w s l ∧ Glob w) (FoundAt l id) := by
  refine mk_of_cw2 (args:=[_,_]) _ Tryz.func27 rfl Tryz.ntmps27 rfl fun av bor w0 => ?_
  refine cw_know (p:=s.n = l.length ∧ s.n ≤ maxLen ∧ (0 < l.length → s.p.isSome = true)) (fun w h => ⟨h.1.len_,h.1.max_,h.1.some_⟩) fun ⟨hl,hm,hp⟩ => ?_
  simp only [maxLen] at hm
  repeat' (first | apply sw_nil | apply cw_seq | apply cw_reg | refine sy_move (h:=?_) | refine sy_assign (h:=?_) | refine sy_len (h:=?_) | refine sw_alloc (h:=fun _ => ?_) | apply cw_block | fail)
  rename_i b
  refine cw_loop (ι:=FinI l id) (fun i => ⟨[(1,.string id),(4,.pointer (some ⟨b,0,none⟩)),(10,s.v),(11,.int .i64 (s.n : Nat)),(12,.int .i64 (i.k : Nat))], [cel b 26 PostD.zero.cells],fun w => Chains w s l ∧ Glob w⟩) (fun i => l.length - i.k) ⟨0,Nat.zero_le _,fun i x h => absurd h (Nat.not_lt_zero _)⟩ (ok_sub ⟨rfl,rfl,rfl,rfl,rfl,trivial⟩ (List.Sublist.refl _) fun _ h => h) fun i => ?_
  obtain ⟨k,hk,hno⟩ := i
  simp only
  repeat' (first | apply sw_nil | apply cw_seq | apply cw_reg | refine sy_lss (h:=?_) | apply cw_skip | apply cw_block | apply cw_exit | (refine cw_cond (ht:=?_) (hf:=?_);all_goals (intro hx_;first | have := of_decide_eq_true hx_ | have := of_decide_eq_false hx_)))
  · have hlt : k < l.length := by omega
    have hp' := hp (by omega)
    obtain ⟨c,hc⟩ : ∃ c,l[k]? = some c := ⟨_,List.getElem?_eq_getElem hlt⟩
    have hcm := List.mem_of_getElem? hc
    have hof := of_mk c (hok c hcm) (hlen c hcm)
    repeat' (first | apply sw_nil | apply cw_seq | apply cw_reg | refine sy_move (h:=?_) | refine sy_ldAll (h:=?_) | refine sy_len (h:=?_) | refine sw_alloc (h:=fun _ => ?_) | refine sw_stAll (h:=?_) | apply cw_block | (refine sy_idxX (q:=k * 6) (h:=?_)) | (refine sy_ldXs (cs:=c.cells) (hF:=fun w h => Chains.get h.1 hc) (h:=?_)) | (refine sw_mk (hc:=hof) (hX:=fun w h => ⟨h.1.2 c hcm,h.2⟩) (h:=fun v1 X1 h1 => ?_);obtain ⟨s1,P,rfl,hP,hPl,hw⟩ := h1) | fail)
    refine cw_know (p:=s1.n = P.length ∧ s1.n ≤ maxLen ∧ (0 < P.length → s1.p.isSome = true)) (fun w h => ⟨by simpa using RowsD.len (hw w h.2),Nat.le_trans (RowsD.cap (hw w h.2)) (RowsD.max (hw w h.2)),fun h0 => (RowsD.row (hw w h.2) 0 P[0].cells (by simp [List.getElem?_eq_getElem h0])).2.1⟩) fun ⟨hl1,hm1,hp1⟩ => ?_
    simp only [maxLen] at hm1
    refine cw_loop (ι:=FinJ P id) (fun i => ⟨[(1,.string id),(4,.pointer (some ⟨b,0,none⟩)),(10,s.v),(11,.int .i64 (s.n : Nat)),(12,.int .i64 (k : Nat)),(17,s1.v),(18,.int .i64 (s1.n : Nat)),(19,.int .i64 (i.j : Nat))], [cel b 26 PostD.zero.cells],fun w => (Chains w s l ∧ Glob w) ∧ X1 w⟩) (fun i => P.length - i.j) ⟨0,Nat.zero_le _,fun i x h => absurd h (Nat.not_lt_zero _)⟩ (ok_sub ⟨rfl,rfl,rfl,rfl,rfl,rfl,rfl,rfl,trivial⟩ (List.Sublist.cons _ (List.Sublist.refl _)) fun _ h => h) fun i => ?_
    obtain ⟨j,hj,hno2⟩ := i
    simp only
    repeat' (first | apply sw_nil | apply cw_seq | apply cw_reg | refine sy_move (h:=?_) | refine sy_lss (h:=?_) | refine sy_add (h:=?_) | apply cw_skip | apply cw_block | apply cw_exit | (refine cw_cond (ht:=?_) (hf:=?_);all_goals (intro hx_;first | have := of_decide_eq_true hx_ | have := of_decide_eq_false hx_)))
    · have hjl : j < P.length := by omega
      have hp2 := hp1 (by omega)
      obtain ⟨p,hpj⟩ : ∃ p,P[j]? = some p := ⟨_,List.getElem?_eq_getElem hjl⟩
      repeat' (first | apply sw_nil | apply cw_seq | apply cw_reg | refine sy_move (h:=?_) | refine sy_assign (h:=?_) | refine sy_fld (h:=?_) | refine sy_ld (h:=?_) | refine sy_ldAll (h:=?_) | refine sy_seql (h:=?_) | refine sy_add (h:=?_) | refine sw_alloc (h:=fun _ => ?_) | refine sw_stAll (h:=?_) | apply cw_skip | apply cw_ret | (refine sy_idxX (q:=j * 11) (h:=?_)) | (refine sy_ldXs (cs:=p.cells) (hF:=fun w h => RowsD.row (hw w h.2) j p.cells (by simp [hpj])) (h:=?_)) | (refine cw_cond (ht:=?_) (hf:=?_);all_goals (intro hx_;skip)))
      · have hf := findPV_at hc hP hpj hno hno2 (by assumption)
        apply ends_ret;refine res_cellTmp rfl rfl rfl (by (repeat (first | exact List.mem_cons_self | apply List.mem_cons_of_mem))) ?_
        · rfl
        exact ⟨p,by rw [hf];rfl,by rw [hf];rfl⟩
      · exact ⟨(⟨j + 1,hjl,fun i q hi hq => by
          by_cases e : i = j
          · subst e
            obtain rfl := Option.some.inj (hpj.symm.trans hq)
            assumption
          · exact hno2 i q (by omega) hq⟩ : FinJ P id),(by show P.length - (j + 1) < P.length - j;omega),ok_sub ⟨rfl,rfl,rfl,rfl,rfl,rfl,rfl,rfl,trivial⟩ (List.Sublist.cons _ (List.Sublist.refl _)) fun _ h => h⟩
    · exact ⟨(⟨k + 1,hlt,fun i x hi hx q hq => by
        by_cases e : i = k
        · subst e
          obtain rfl := Option.some.inj (hc.symm.trans hx)
          rw [← hP] at hq
          obtain ⟨p,hpm,rfl⟩ := List.mem_map.1 hq
          obtain ⟨j2,hj2⟩ := List.mem_iff_getElem?.1 hpm
          exact hno2 j2 p (by have := (List.getElem?_eq_some_iff.1 hj2).1;omega) hj2
        · exact hno i x (by omega) hx q hq⟩ : FinI l id),(by show l.length - (k + 1) < l.length - k;omega),ok_sub ⟨rfl,rfl,rfl,rfl,rfl,trivial⟩ (List.Sublist.refl _) fun _ h => h.1⟩
  · have hf : findPV l id = none := findPV_none fun c hc q hq => by
      obtain ⟨i,hi⟩ := List.mem_iff_getElem?.1 hc
      exact hno i c (by have := (List.getElem?_eq_some_iff.1 hi).1;omega) hi q hq
    repeat' (first | apply sw_nil | refine sy_assign (h:=?_) | refine sw_stAll (h:=?_) | apply cw_ret | (refine sy_build (h:=?_)))
    apply ends_ret;refine res_cellTmp rfl rfl rfl (by (repeat (exact List.mem_cons_self))) ?_
    · rfl
    exact ⟨PostD.zero,by rw [hf];rfl,by rw [hf];rfl⟩
end Go.Proofs.YtjmpdkmboheknaaGreatDoor

namespace Go.Proofs.YtjmpdkmboheknaaGreatDoor
open Go Go.Proofs Sy
theorem indexS_pu (s : SlV) (l : List ByteArray) (x : ByteArray) : Pu Tryz.prog 78 #[s.v,.string x] (fun w => Strs w s l) (.int .i64 (idxS l x)) := by
  refine pu_of_cw (args:=[_,_]) _ Tryz.func78 rfl Tryz.ntmps78 rfl fun av bor w0 => ?_
  refine cw_know (p:=s.n = l.length ∧ s.n ≤ maxLen ∧ (0 < l.length → s.p.isSome = true)) (fun w h => ⟨h.len_,Nat.le_trans (RowsD.cap h) (RowsD.max h),h.some_⟩) fun ⟨hl,hm,hp⟩ => ?_
  simp only [maxLen] at hm
  repeat' (first | apply sw_nil | apply cw_seq | apply cw_reg | refine sy_move (h:=?_) | refine sy_assign (h:=?_) | refine sy_len (h:=?_) | apply cw_block | fail)
  refine cw_loop (ι:=Upto l.length (fun k => seqB x (l.getD k .empty))) (fun i => ⟨[(0,s.v),(1,.string x),(7,.int .i64 s.n),(8,.int .i64 i.k)], [],fun w => Strs w s l⟩) (fun i => l.length - i.k) (Upto.zero _ _) (ok_sub ⟨rfl,rfl,rfl,rfl,trivial⟩ (List.Sublist.refl _) fun _ h => h) fun i => ?_
  have hik := i.hk
  repeat' (first | apply sw_nil | apply cw_seq | apply cw_reg | refine sy_move (h:=?_) | refine sy_assign (h:=?_) | refine sy_lss (h:=?_) | apply cw_skip | apply cw_block | apply cw_ret | apply cw_exit | (refine cw_cond (ht:=?_) (hf:=?_);all_goals (intro hx_;first | have := of_decide_eq_true hx_ | have := of_decide_eq_false hx_)))
  · have hlt : i.k < l.length := by omega
    have hp' := hp (by omega)
    repeat' (first | apply sw_nil | apply cw_seq | apply cw_reg | refine sy_move (h:=?_) | refine sy_assign (h:=?_) | refine sy_seql (h:=?_) | refine sy_add (h:=?_) | apply cw_skip | apply cw_ret | (refine sy_idxX (q:=i.k) (h:=?_)) | (refine sy_ldX (hF:=fun w h => Strs.get h hlt) (h:=?_)) | (refine cw_cond (ht:=?_) (hf:=?_);all_goals (intro hx_;skip)))
    · apply ends_ret;apply res_tmp;rfl;rfl
      rw [idxS_found i hlt (by assumption)]
    · exact ⟨i.next hlt (by assumption),(by show l.length - (i.k + 1) < l.length - i.k;omega),ok_sub ⟨rfl,rfl,rfl,rfl,trivial⟩ (List.Sublist.refl _) fun _ h => h⟩
  · apply ends_ret;apply res_tmp;rfl;rfl
    rw [idxS_none i (by omega)]
theorem containsS_pu (s : SlV) (l : List ByteArray) (x : ByteArray) : Pu Tryz.prog 41 #[s.v,.string x] (fun w => Strs w s l) (.bool (hasS l x)) := by
  refine pu_of_cw (args:=[_,_]) _ Tryz.func41 rfl Tryz.ntmps41 rfl fun av bor w0 => ?_
  repeat' (first | apply sw_nil | apply cw_seq | apply cw_reg | refine sy_move (h:=?_) | refine sy_assign (h:=?_) | refine sy_geq (h:=?_) | apply cw_ret | refine sw_pu (hc:=indexS_pu s l x) (h:=?_))
  apply ends_ret;apply res_tmp;rfl;rfl
  rw [idxS_has]
end Go.Proofs.YtjmpdkmboheknaaGreatDoor

namespace Go.Proofs.YtjmpdkmboheknaaGreatDoor
open Go Go.Proofs Sy Go.Shelf Go.Maps Go.Sort
theorem compS_c : CompC Tryz.prog 132 encStr [] Lib.compact where
  some_ := fun blk off cap ss w h1 h2 h3 => Any.slices_Compact_string Tryz.compS blk off cap ss w h1 h2 h3
  none_ := fun p cap w => Any.slices_Compact_string_empty Tryz.compS p cap w
  len := fun ss => Lib.compact_length_le ss
end Go.Proofs.YtjmpdkmboheknaaGreatDoor

namespace Go.Proofs.YtjmpdkmboheknaaGreatDoor
open Go Go.Proofs Sy
theorem climit_pu (c : ChainD) (n : Int) : Pu Tryz.prog 130 #[c.v,.int .i64 n] (fun _ => True) (.int .i64 (limN n c.acts.n)) := by
  refine pu_of_cw (args:=[_,_]) _ Tryz.func130 rfl Tryz.ntmps130 rfl fun av bor w0 => ?_
  repeat' (first | apply sw_nil | apply cw_seq | apply cw_reg | refine sy_move (h:=?_) | refine sy_assign (h:=?_) | refine sy_fld (h:=?_) | refine sy_ld (h:=?_) | refine sy_len (h:=?_) | refine sw_box (h:=fun _ => ?_) | apply cw_ret | refine sy_min (h:=?_) | refine sy_max (h:=?_) | fail)
  apply ends_ret;apply res_tmp;rfl;rfl
  congr 1
  unfold limN
  split <;> split <;> omega
def gOk (a : ActD) (sc : Int) (g : ByteArray) (nx : Nat) : Bool := decide (a.kind = 16) && decide (a.scope = sc) && seqB a.group g && decide (a.epoch = (nx : Int))
def grantF (l : List ActD) (sc : Int) (g : ByteArray) : Nat → Nat × Nat
  | 0 => (0,0)
  | i + 1 => bif gOk (l.getD i ActD.zero) sc g (grantF l sc g i).2 then (i,(grantF l sc g i).2 + 1) else grantF l sc g i
theorem grantF_le (l : List ActD) (sc : Int) (g : ByteArray) : ∀ k,(grantF l sc g k).2 ≤ k ∧ (0 < (grantF l sc g k).2 → (grantF l sc g k).1 < k)
  | 0 => ⟨Nat.le_refl _,fun h => absurd h (Nat.lt_irrefl _)⟩
  | k + 1 => by
    have ih := grantF_le l sc g k
    simp only [grantF]
    cases gOk (l.getD k ActD.zero) sc g (grantF l sc g k).2 with
    | true => exact ⟨by simp only [cond_true];omega,fun _ => by simp only [cond_true];omega⟩
    | false => exact ⟨by simp only [cond_false];omega,fun h => by simp only [cond_false] at h ⊢;have := ih.2 h;omega⟩
def grantV (l : List ActD) (n sc : Int) (g : ByteArray) : Nat × Nat := grantF l sc g (limN n l.length)
theorem cgrant_pu (c : ChainD) (n sc : Int) (g : ByteArray) : Pu Tryz.prog 98 #[c.v,.int .i64 n,.int .i64 sc,.string g] (XC c) (.tuple #[.int .i64 ((grantV c.actsL n sc g).1 : Nat),.bool (decide ((0 : Int) < ((grantV c.actsL n sc g).2 : Nat)))]) := by
  refine pu_of_cw (args:=[_,_,_,_]) _ Tryz.func98 rfl Tryz.ntmps98 rfl fun av bor w0 => ?_
  refine cw_know XC.know fun ⟨hl,hm,hp,hcap⟩ => ?_
  simp only [maxLen] at hm
  have hlim := limN_eq n c.acts.n
  repeat' (first | apply sw_nil | apply cw_seq | apply cw_reg | refine sy_move (h:=?_) | refine sy_assign (h:=?_) | refine sy_ldAll (h:=?_) | refine sw_box (h:=fun _ => ?_) | apply cw_block | refine sw_pu (hc:=climit_pu c n) (h:=?_))
  rename_i b4
  refine cw_loop (ι:=Kth (limN n c.acts.n)) (fun i => ⟨[(2,.int .i64 sc),(3,.string g),(4,.pointer (some ⟨b4,0,none⟩)),(10,.int .i64 ((grantF c.actsL sc g i.k).1 : Nat)),(11,.int .i64 ((grantF c.actsL sc g i.k).2 : Nat)),(16,.int .i64 (limN n c.acts.n)),(17,.int .i64 i.k)], [cel b4 39 c.cells],XC c⟩) (fun i => limN n c.acts.n - i.k) ⟨0,Nat.zero_le _⟩
    (ok_sub ⟨rfl,rfl,rfl,rfl,rfl,rfl,rfl,trivial⟩ (List.Sublist.refl _) fun _ h => h) fun i => ?_
  have hik := i.hk
  have hg := (grantF_le c.actsL sc g i.k).1
  repeat' (first | apply sw_nil | apply cw_seq | apply cw_reg | refine sy_move (h:=?_) | refine sy_assign (h:=?_) | refine sy_fld (h:=?_) | refine sy_ld (h:=?_) | refine sy_lss (h:=?_) | refine sy_gtr (h:=?_) | apply cw_skip | apply cw_block | apply cw_ret | apply cw_exit | (refine cw_cond (ht:=?_) (hf:=?_);all_goals (intro hx_;first | have := of_decide_eq_true hx_ | have := of_decide_eq_false hx_)))
  · have hlt : i.k < limN n c.acts.n := by omega
    have hltL : i.k < c.actsL.length := by omega
    have hp' := hp (by omega)
    obtain ⟨x,hx⟩ : ∃ x,c.actsL[i.k]? = some x := ⟨_,List.getElem?_eq_getElem hltL⟩
    have hstep : grantF c.actsL sc g (i.k + 1) = bif gOk x sc g (grantF c.actsL sc g i.k).2 then (i.k,(grantF c.actsL sc g i.k).2 + 1) else grantF c.actsL sc g i.k := by simp only [grantF,List.getD_eq_getElem?_getD,hx,Option.getD_some]
    repeat' (first | apply sw_nil | apply cw_seq | apply cw_reg | refine sy_move (h:=?_) | refine sy_assign (h:=?_) | refine sy_fld (h:=?_) | refine sy_ld (h:=?_) | refine sy_pick_t (h:=?_) | refine sy_pick_f (h:=?_) | refine sy_eql (h:=?_) | refine sy_seql (h:=?_) | refine sy_add (h:=?_) | refine sw_skipT (h:=?_) | refine sw_alloc (h:=fun _ => ?_) | refine sw_stAll (h:=?_) | refine cw_cond_f (hf:=?_) | apply cw_skip | (refine sy_idxX (q:=i.k * 20) (h:=?_)) | (refine sy_ldXs (cs:=x.cells) (hF:=fun w h => Acts.get h.1 hx) (h:=?_)) | ((fail_if_success (refine sw_chk (h:=?_)));refine sw_guard (ht:=?_) (hf:=?_);all_goals (intro hx_;first | have := of_decide_eq_true hx_ | have := of_decide_eq_false hx_ | skip)) | (refine cw_cond (ht:=?_) (hf:=?_);all_goals (intro hx_;first | have := of_decide_eq_true hx_ | have := of_decide_eq_false hx_)))
    all_goals exact ⟨(⟨i.k + 1,hlt⟩ : Kth (limN n c.acts.n)),(by show limN n c.acts.n - (i.k + 1) < limN n c.acts.n - i.k;omega),ok_sub (by
      simp only [hstep,gOk, *,decide_true,decide_false,cond_true,cond_false,Bool.and_true,Bool.true_and,Bool.and_false,Bool.false_and,Bool.not_true,Bool.not_false,Bool.or_true,Bool.true_or,Bool.or_false,Bool.false_or]
      exact ⟨rfl,rfl,rfl,rfl,rfl,rfl,rfl,trivial⟩) (List.Sublist.cons _ (List.Sublist.refl _)) fun _ h => h⟩
  have hk : i.k = limN n c.acts.n := by omega
  apply ends_ret;apply res_tmp2;rfl;rfl;rfl
  simp only [grantV, ← hl]
  rw [hk]
def epochO (l : List ActD) (n sc : Int) (g : ByteArray) : Option ActD := bif decide ((0 : Int) < ((grantV l n sc g).2 : Nat)) then l[(grantV l n sc g).1]? else none
def EpochAt (o : Option ActD) (u : Value) (X : World → Prop) : Prop := ∃ s : SlV,u = .tuple #[.int .i64 ((o.map (·.epoch)).getD 0),s.v,.bool o.isSome] ∧ ∀ w,X w → Strs w s ((o.map (·.toL)).getD [])
theorem epoch_mk (c : ChainD) (hc : ActsOk c.actsL) (n sc : Int) (g : ByteArray) : Mk Tryz.prog 99 #[c.v,.int .i64 n,.int .i64 sc,.string g] (XC c) (EpochAt (epochO c.actsL n sc g)) := by
  refine mk_of_cw2 (args:=[_,_,_,_]) _ Tryz.func99 rfl Tryz.ntmps99 rfl fun av bor w0 => ?_
  refine cw_know XC.know fun ⟨hl,hm,hp,hcap⟩ => ?_
  simp only [maxLen] at hm
  have hgl := grantF_le c.actsL sc g (limN n c.actsL.length)
  have hlim := limN_eq n c.actsL.length
  have hO : epochO c.actsL n sc g = bif decide ((0 : Int) < ((grantV c.actsL n sc g).2 : Nat)) then c.actsL[(grantV c.actsL n sc g).1]? else none := rfl
  have hgp := cgrant_pu c n sc g
  change (grantV c.actsL n sc g).2 ≤ _ ∧ (0 < (grantV c.actsL n sc g).2 → (grantV c.actsL n sc g).1 < _) at hgl
  generalize grantV c.actsL n sc g = gv at *
  obtain ⟨k,nx⟩ := gv
  simp only at hgl hgp hO
  repeat' (first | apply sw_nil | apply cw_seq | apply cw_reg | refine sy_move (h:=?_) | refine sy_assign (h:=?_) | refine sy_ldAll (h:=?_) | refine sy_not (h:=?_) | refine sy_extract (h:=?_) | refine sw_box (h:=fun _ => ?_) | apply cw_skip | apply cw_ret | refine sw_pu (hc:=hgp) (h:=?_) | (refine cw_cond (ht:=?_) (hf:=?_);all_goals (intro hx_;skip)))
  · have hz : decide ((0 : Int) < (nx : Nat)) = false := by simpa using hx_
    apply ends_ret
    · apply res_tmp3;rfl;rfl;rfl;rfl
    · rw [hO,hz]
      exact ⟨⟨none,0,0⟩,rfl,fun w _ => rowsD_nil w 1⟩
  · have hz : decide ((0 : Int) < (nx : Nat)) = true := by simpa using hx_
    have hnx := of_decide_eq_true hz
    have hkl : k < c.actsL.length := by have := hgl.2 (by omega);omega
    have hp' := hp (by omega)
    obtain ⟨x,hx⟩ : ∃ x,c.actsL[k]? = some x := ⟨_,List.getElem?_eq_getElem hkl⟩
    have hxm : x ∈ c.actsL := List.mem_of_getElem? hx
    (apply cw_draw0;kernel_rfl)
    all_goals (refine aw_take 0 (h:=?_))
    all_goals (refine aw_take 1 (h:=?_))
    all_goals (refine aw_take 2 (h:=?_))
    all_goals (refine aw_take 3 (hy:=by (apply y_idxX (q:=k * 20);rfl;rfl;omega;omega;assumption;omega)) (h:=?_))
    all_goals (refine aw_take 4 (hy:=by (apply y_fldX;rfl;assumption;rfl)) (h:=?_))
    all_goals (refine aw_take 5 (hy:=by (apply y_ldX;rfl;exact fun w h => (Acts.get h.1 hx).2.2 14 _ rfl)) (h:=?_))
    all_goals (refine aw_take 6 (h:=?_))
    all_goals (refine aw_take 7 (h:=?_))
    all_goals (refine aw_take 8 (h:=?_))
    all_goals (refine aw_take 9 (hy:=by (apply y_idxX (q:=k * 20);rfl;rfl;omega;omega;assumption;omega)) (h:=?_))
    all_goals (refine aw_take 10 (hy:=by (apply y_fldX;rfl;assumption;rfl)) (h:=?_))
    all_goals (refine aw_take 11 (hy:=by (apply y_ldX;rfl;exact fun w h => (Acts.get h.1 hx).2.2 9 _ rfl)) (h:=?_))
    all_goals (refine aw_step 12 (h:=?_);(refine sw_mk (hc:=cloneS_mk x.to (strs x.toL) (hc.sm x hxm).to (strs_ones _)) (hX:=fun w h => (h.1.2 x hxm).1) (h:=fun v1 X1 h1 => ?_);obtain ⟨s1,rfl,hn1,hw1⟩ := h1);apply sw_nil;refine aw_fin (h:=?_))
    all_goals (refine aw_take 13 (h:=?_))
    all_goals (refine aw_take 14 (h:=?_))
    all_goals (refine aw_take 15 (h:=?_))
    all_goals (refine aw_done (h:=?_))
    repeat' (first | apply cw_ret | fail)
    apply ends_ret
    · apply res_tmp3;rfl;rfl;rfl;rfl
    · rw [hO,hz,cond_true,hx]
      exact ⟨s1,rfl,fun w h => hw1 w h.1.2⟩
theorem compB_ct {e n : Nat} {v : Value} {ss : List ByteArray} : Ct Tryz.prog 132 #[v] [orow e 1 v n (ss.map encB)] (fun _ => True) fun u R _ => ∃ A c,u = .slice A (compB ss).length c ∧ R = [orow e 1 u (compB ss).length ((compB ss).map encB)] := by
  have h := compS_c.ct (e:=e) (n:=n) (v:=v) (ss:=ss.map bl)
  rw [map_encB ss]
  refine h.mono fun u R X' ⟨A,c,h1,h2⟩ => ⟨A,c, ?_, ?_⟩
  · rw [h1];simp [compB]
  · rw [h2,map_encStr,compB];simp
def circF (l : List ActD) (g : ByteArray) : Nat → Option ActD
  | 0 => none
  | i + 1 => bif decide ((l.getD i ActD.zero).kind = 15) && seqB (l.getD i ActD.zero).group g then some (l.getD i ActD.zero) else circF l g i
theorem circF_mem {l : List ActD} {g : ByteArray} : ∀ {k : Nat} {x : ActD},k ≤ l.length → circF l g k = some x → x ∈ l
  | 0,x,_,h => by cases h
  | k + 1,x,hk,h => by
    simp only [circF] at h
    have h0 : l.getD k ActD.zero ∈ l := by
      rw [List.getD_eq_getElem?_getD,List.getElem?_eq_getElem (by omega)]
      exact List.getElem_mem (by omega)
    cases hb : (decide ((l.getD k ActD.zero).kind = 15) && seqB (l.getD k ActD.zero).group g) with
    | true => rw [hb] at h;simp only [cond_true,Option.some.injEq] at h;exact h ▸ h0
    | false => rw [hb] at h;exact circF_mem (by omega) h
def listOf (c : ChainD) (n sc : Int) (g : ByteArray) (toL : List ByteArray) : List ByteArray :=
  bif decide (sc = 1) then sortB (tieV c.actsL n).a else bif decide (sc = 2) then ((circF c.actsL g (limN n c.actsL.length)).map (·.toL)).getD [] else bif decide (sc = 3) then toL else []
def keepM (c : ChainD) (bs : List ByteArray) (x : ByteArray) : Bool := !seqB x c.id && !hasS bs x
def membersV (c : ChainD) (n sc : Int) (g : ByteArray) (toL : List ByteArray) : List ByteArray := compB (sortB ((listOf c n sc g toL).filter (keepM c (sortB (tieV c.actsL n).b))))
structure FilS (m : Nat) where
  k : Nat
  hk : k ≤ m
  A : Option Addr
  c : Nat
end Go.Proofs.YtjmpdkmboheknaaGreatDoor

namespace Go.Proofs.YtjmpdkmboheknaaGreatDoor
open Go Go.Proofs Sy Go.Shelf Go.Maps Go.Sort
theorem keysSet_c : KeysC Tryz.prog 226 259 229 where
  keys := fun mb W => (callsIn_wide (n:=5)).1 (AnyZ.keys_in Tryz.keys_agora_relation_set_string_bool Fence.wide 5 trivial rfl mb W)
theorem sortedSet_c : SortedSC Tryz.prog 225 259 9 where
  key := Tryz.underlying9
  sorted := fun w Bm q nn D0 hB hc hown h1 h2 => (callsIn_wide (n:=5)).1 (AnyZ.sorted_in Tryz.sortedS Fence.wide 5 trivial trivial trivial trivial rfl (by omega) (sortsS _) (enters_of Tryz.func131 (by kernel_rfl) rfl) _ _ trivial (enters_of Tryz.func259 (by kernel_rfl) rfl) _ _ h1 h2 _
    (AnyZ.keys_gives (ρ:=Tryz.keys_agora_relation_set_string_bool_ren) { Tryz.keys_agora_relation_set_string_bool with } Fence.wide _ trivial rfl (by omega) Bm q nn D0 w hB hc hown))
end Go.Proofs.YtjmpdkmboheknaaGreatDoor

namespace Go.Proofs.YtjmpdkmboheknaaGreatDoor
open Go Go.Proofs Sy
theorem setList_ct (q : Nat) (ks : List ByteArray) (hs : ∀ k ∈ ks,k.size ≤ maxLen) (hl : ks.length ≤ 1000000) :
    Ct Tryz.prog 193 #[.map (some q)] [mapr q (setM ks)] (fun _ => True) fun u R _ => ∃ A c,u = .slice A ks.length c ∧ R = [orow 9 1 u ks.length ((sortB ks).map encB),mapr q (setM ks)] := by
  refine ct_of_cwS (args:=[_]) (Post:=fun u R => ∃ A c,u = .slice A ks.length c ∧ R = [orow 9 1 u ks.length ((sortB ks).map encB),mapr q (setM ks)]) _ Tryz.func193 rfl Tryz.ntmps193 rfl fun av bor w0 => ?_
  have hsl : (setM ks).length = ks.length := by simp [setM]
  have hsm : (setM ks).map (·.1) = ks := by simp [setM,Function.comp_def]
  have hsk := sortedSet_c.ct (M:=229)
  repeat' (first | apply sw_nil | apply cw_seq | apply cw_reg | refine sy_move (h:=?_) | refine sy_assign (h:=?_) | fail)
  refine sw_fn (pre:=[]) (fr:=[mapr q (setM ks)]) (hc:=keysSet_c.ct (some q)) (hX:=fun _ _ => trivial) (h:=?_)
  rintro v R X' ⟨b,rfl,rfl⟩
  refine sw_fn (pre:=[cel b 229 [.map (some q)],mapr q (setM ks)]) (fr:=[]) (hc:=sortedSet_c.ct b q (setM ks) (fun p hp => by simp only [setM,List.mem_map] at hp;obtain ⟨k,hk,rfl⟩ := hp;exact hs k hk) (by rw [hsl];exact hl)) (hX:=fun _ _ => trivial) (h:=?_)
  rintro v R X' ⟨A,c,rfl,rfl⟩
  rw [hsl,hsm]
  repeat' (first | apply sw_nil | refine sy_assign (h:=?_) | apply cw_ret | fail)
  exact ends_ret (res_tmp rfl rfl) ⟨_,List.Sublist.cons_cons _ (List.Sublist.cons _ (List.Sublist.refl _)),A,c,rfl,rfl⟩

end Go.Proofs.YtjmpdkmboheknaaGreatDoor

namespace Go.Proofs.YtjmpdkmboheknaaGreatDoor
open Go Go.Proofs Sy
theorem relOf_mk (c : ChainD) (hc : ActsOk c.actsL) (hl : c.actsL.length ≤ 1000000) (n : Int) : Mk Tryz.prog 129 #[c.v,.int .i64 n] (fun w => c.at_ w ∧ Glob w) (TiesAt (tieV c.actsL n)) := by
  refine mk_of_cw (args:=[_,_]) _ Tryz.func129 rfl Tryz.ntmps129 rfl fun av bor w0 => ?_
  have hB := tieV_bnd hc n
  repeat' (first | apply sw_nil | apply cw_seq | apply cw_reg | refine sy_move (h:=?_) | refine sy_ldAll (h:=?_) | refine sw_alloc (h:=fun _ => ?_) | refine sw_box (h:=fun _ => ?_) | fail)
  rename_i b2 b4
  refine sw_fn (pre:=[]) (fr:=[cel b4 188 [.slice none 0 0,.slice none 0 0,.slice none 0 0,.slice none 0 0],cel b2 39 c.cells]) (hc:=tie_ct c hc n) (hX:=fun _ h => h) (h:=?_)
  rintro _ _ X' ⟨q1,q2,q3,q4,rfl,rfl⟩
  generalize tieV c.actsL n = t at *
  repeat' (first | apply sw_nil | apply cw_seq | refine sw_alloc (h:=fun _ => ?_) | refine sw_stAll (h:=?_) | fail)
  rename_i b5
  unfold setsR
  (refine cw_draw [cel b5 231 (setsV q1 q2 q3 q4).cells.toList] (fun _ => True) (by kernel_rfl) ?_)
  all_goals (refine aw_take 0 (hsub:=by (exact fun _ h => (h.drop (by repeat (exact List.Sublist.cons_cons _ (List.nil_sublist _)))).imp (fun _ _ => trivial))) (h:=?_))
  all_goals (refine aw_take 1 (hsub:=by (exact fun _ h => (h.drop (by repeat (exact List.Sublist.cons_cons _ (List.nil_sublist _)))).imp (fun _ _ => trivial))) (h:=?_))
  all_goals (refine aw_take 3 (hsub:=by (exact fun _ h => (h.drop (by repeat (exact List.Sublist.cons_cons _ (List.nil_sublist _)))).imp (fun _ _ => trivial))) (h:=?_))
  all_goals (refine aw_take 4 (hsub:=by (exact fun _ h => (h.drop (by repeat (exact List.Sublist.cons_cons _ (List.nil_sublist _)))).imp (fun _ _ => trivial))) (h:=?_))
  all_goals (refine aw_take 6 (hsub:=by (exact fun _ h => (h.drop (by repeat (exact List.Sublist.cons_cons _ (List.nil_sublist _)))).imp (fun _ _ => trivial))) (h:=?_))
  all_goals (refine aw_take 7 (hsub:=by (exact fun _ h => (h.drop (by repeat (exact List.Sublist.cons_cons _ (List.nil_sublist _)))).imp (fun _ _ => trivial))) (h:=?_))
  all_goals (refine aw_take 9 (hsub:=by (exact fun _ h => (h.drop (by repeat (exact List.Sublist.cons_cons _ (List.nil_sublist _)))).imp (fun _ _ => trivial))) (h:=?_))
  all_goals (refine aw_take 10 (hsub:=by (exact fun _ h => (h.drop (by repeat (exact List.Sublist.cons_cons _ (List.nil_sublist _)))).imp (fun _ _ => trivial))) (h:=?_))
  all_goals (refine aw_step 2 (h:=?_);(refine sw_fnAt (hc:=setList_ct q1 t.f hB.f.size (Nat.le_trans hB.f.len hl)) (hX:=fun _ _ => trivial) (h:=?_);rintro _ _ X1 ⟨A1,c1,rfl,rfl⟩;refine sw_give ?_);apply sw_nil;refine aw_fin (hsub:=by (exact fun _ h => (h.drop (by repeat (first | exact List.Sublist.cons_cons _ (List.nil_sublist _) | apply List.Sublist.cons))).imp (fun _ _ => trivial))) (h:=?_))
  all_goals (refine aw_step 5 (h:=?_);(refine sw_fnAt (hc:=setList_ct q2 t.a hB.a.size (Nat.le_trans hB.a.len hl)) (hX:=fun _ _ => trivial) (h:=?_);rintro _ _ X2 ⟨A2,c2,rfl,rfl⟩;refine sw_give ?_);apply sw_nil;refine aw_fin (hsub:=by (exact fun _ h => (h.drop (by repeat (first | exact List.Sublist.cons_cons _ (List.nil_sublist _) | apply List.Sublist.cons))).imp (fun _ _ => trivial))) (h:=?_))
  all_goals (refine aw_step 8 (h:=?_);(refine sw_fnAt (hc:=setList_ct q3 t.b hB.b.size (Nat.le_trans hB.b.len hl)) (hX:=fun _ _ => trivial) (h:=?_);rintro _ _ X3 ⟨A3,c3,rfl,rfl⟩;refine sw_give ?_);apply sw_nil;refine aw_fin (hsub:=by (exact fun _ h => (h.drop (by repeat (first | exact List.Sublist.cons_cons _ (List.nil_sublist _) | apply List.Sublist.cons))).imp (fun _ _ => trivial))) (h:=?_))
  all_goals (refine aw_step 11 (h:=?_);(refine sw_fnAt (hc:=setList_ct q4 t.m hB.m.size (Nat.le_trans hB.m.len hl)) (hX:=fun _ _ => trivial) (h:=?_);rintro _ _ X4 ⟨A4,c4,rfl,rfl⟩;refine sw_give ?_);apply sw_nil;refine aw_fin (hsub:=by (exact fun _ h => (h.drop (by repeat (first | exact List.Sublist.cons_cons _ (List.nil_sublist _) | apply List.Sublist.cons))).imp (fun _ _ => trivial))) (h:=?_))
  all_goals (refine aw_take 12 (hsub:=by (exact fun _ h => (h.drop (by repeat (first | exact List.Sublist.cons_cons _ (List.nil_sublist _) | apply List.Sublist.cons))).imp (fun _ _ => trivial))) (hy:=by (apply y_build;rfl;rfl)) (h:=?_))
  all_goals (refine aw_step 13 (h:=?_);(refine sw_stAll (h:=?_));apply sw_nil;refine aw_fin (hsub:=by (exact fun _ h => (h.drop (by repeat (first | exact List.Sublist.cons_cons _ (List.nil_sublist _) | apply List.Sublist.cons))).imp (fun _ _ => trivial))) (h:=?_))
  all_goals (refine aw_done (h:=?_))
  repeat' (first | apply cw_ret | fail)
  refine ends_ret (res_cell rfl rfl (by (repeat (first | exact List.mem_cons_self | apply List.mem_cons_of_mem))) (by rfl)) ⟨⟨A1,t.f.length,c1⟩,⟨A2,t.a.length,c2⟩,⟨A3,t.b.length,c3⟩,⟨A4,t.m.length,c4⟩,rfl,fun w h => ⟨strs_given h.1.1.1.1.1.1.2 rfl,strs_given h.1.1.1.1.2 rfl,strs_given h.1.1.2 rfl,strs_given h.2 rfl⟩⟩

end Go.Proofs.YtjmpdkmboheknaaGreatDoor

namespace Go.Proofs.YtjmpdkmboheknaaGreatDoor
open Go Go.Proofs Sy
def OwnStrs (l : List ByteArray) (u : Value) (R : List Res) : Prop := ∃ A c,u = .slice A l.length c ∧ R = [orow 9 1 u l.length (l.map encB)]
theorem mk_of_own {f : FuncId} {args : Array Value} {X : World → Prop} {l : List ByteArray} (h : Ct Tryz.prog f args [] X (fun u R _ => OwnStrs l u R)) : Mk Tryz.prog f args X (StrsAt l) := by
  unfold Mk
  exact Ct.mk fun w av G => (Ct.run h w av G).mono fun e w' ⟨u,R,X',he,hu,G'⟩ => ⟨u, [],_,he,⟨by
    obtain ⟨A,c,rfl,rfl⟩ := hu
    exact ⟨⟨A,_,c⟩,rfl,fun w h => strs_of_orow (h.2 _ List.mem_cons_self) rfl⟩,rfl⟩,G'.giveAll⟩
set_option maxHeartbeats 2000000 in
theorem members_ct (c : ChainD) (hc : ActsOk c.actsL) (hcl : c.actsL.length ≤ 1000000) (hto : ∀ x ∈ c.actsL,x.to.n ≤ 1000000) (n sc : Int) (g : ByteArray) (st : SlV) (toL : List ByteArray) (htl : toL.length ≤ 1000000) :
    Ct Tryz.prog 80 #[c.v,.int .i64 n,.int .i64 sc,.string g,st.v] [] (fun w => XC c w ∧ Strs w st toL) (fun u R _ => OwnStrs (membersV c n sc g toL) u R) := by
  refine ct_of_cwS (args:=[_,_,_,_,_]) (Post:=OwnStrs (membersV c n sc g toL)) _ Tryz.func80 rfl Tryz.ntmps80 rfl fun av bor w0 => ?_
  refine cw_know (fun w h => XC.know w h.1) fun ⟨hl,hm,hp,hcap⟩ => ?_
  simp only [maxLen] at hm
  have hB := tieV_bnd hc n
  have hM : membersV c n sc g toL = compB (sortB ((listOf c n sc g toL).filter (keepM c (sortB (tieV c.actsL n).b)))) := rfl
  repeat' (first | apply sw_nil | apply cw_seq | apply cw_reg | refine sy_move (h:=?_) | refine sy_assign (h:=?_) | refine sy_ldAll (h:=?_) | refine sw_box (h:=fun _ => ?_) | fail)
  refine sw_mk (hc:=relOf_mk c hc hcl n) (hX:=fun w h => h.1) (h:=fun v1 X1 h1 => ?_)
  obtain ⟨s1,s2,s3,s4,rfl,hties⟩ := h1
  have hLo : listOf c n sc g toL = bif decide (sc = 1) then sortB (tieV c.actsL n).a else bif decide (sc = 2) then ((circF c.actsL g (limN n c.actsL.length)).map (·.toL)).getD [] else bif decide (sc = 3) then toL else [] := rfl
  generalize tieV c.actsL n = t at *
  have hlim := limN_eq n c.acts.n
  repeat' (first | apply sw_nil | apply cw_seq | apply cw_reg | refine sy_move (h:=?_) | refine sy_assign (h:=?_) | refine sy_eql (h:=?_) | refine sw_alloc (h:=fun _ => ?_) | refine sw_stAll (h:=?_) | apply cw_block | fail)
  rename_i b5 b11
  repeat' (first | apply sw_nil | apply cw_seq | apply cw_reg | refine sy_move (h:=?_) | refine sy_assign (h:=?_) | refine sy_fld (h:=?_) | refine sy_ld (h:=?_) | refine sy_ldAll (h:=?_) | refine sy_eql (h:=?_) | refine sy_len (h:=?_) | apply cw_skip | apply cw_block | refine sw_pu (hc:=climit_pu c n) (h:=?_) | (refine cw_cond (ht:=?_) (hf:=?_);all_goals (intro hx_;first | have := of_decide_eq_true hx_ | have := of_decide_eq_false hx_)))
  case refine_1 =>
    have hLe : listOf c n sc g toL = sortB t.a := by rw [hLo,hx_];rfl
    have hSL : ∀ w,(XC c w ∧ Strs w st toL) ∧ X1 w → Strs w s2 (sortB t.a) := fun w h => (hties w h.2).2.1
    have hLl : (sortB t.a).length ≤ 1000000 := by rw [sortB_len];have := hB.a.len;omega
    generalize hLL : sortB t.a = L at *
    refine cw_know (p:=(s2).n = (L).length ∧ (s2).n ≤ maxLen ∧ (0 < (L).length → (s2).p.isSome = true)) (fun w h => ⟨(hSL w h).len_,Nat.le_trans (RowsD.cap (hSL w h)) (RowsD.max (hSL w h)),(hSL w h).some_⟩) fun ⟨hSl,hSm,hSp⟩ => ?_
    simp only [maxLen] at hSm
    refine cw_nilRow 9 1 ?_
    refine cw_loop (ι:=FilS (L).length) (fun i => ⟨[(5,.pointer (some ⟨b5,0,none⟩)),(11,.pointer (some ⟨b11,0,none⟩)),(15,.slice i.A (((L).take i.k).filter (keepM c (sortB t.b))).length i.c),(54,(s2).v),(55,.int .i64 (s2).n),(56,.int .i64 i.k)],
      [orow 9 1 (.slice i.A (((L).take i.k).filter (keepM c (sortB t.b))).length i.c) (((L).take i.k).filter (keepM c (sortB t.b))).length ((((L).take i.k).filter (keepM c (sortB t.b))).map encB),cel b11 188 [s1.v,s2.v,s3.v,s4.v],cel b5 39 c.cells],fun w => (XC c w ∧ Strs w st toL) ∧ X1 w⟩) (fun i => (L).length - i.k) ⟨0,Nat.zero_le _,none,0⟩ (ok_sub ⟨rfl,rfl,rfl,rfl,rfl,rfl,trivial⟩ (List.Sublist.refl _) fun _ h => h) fun i => ?_
    have hik := i.hk
    repeat' (first | apply sw_nil | apply cw_seq | apply cw_reg | refine sy_move (h:=?_) | refine sy_lss (h:=?_) | apply cw_skip | apply cw_block | apply cw_exit | (refine cw_cond (ht:=?_) (hf:=?_);all_goals (intro hx_;first | have := of_decide_eq_true hx_ | have := of_decide_eq_false hx_)))
    · have hlt : i.k < (L).length := by omega
      have hp2 := hSp (by omega)
      have hfs := filter_succ (p:=(keepM c (sortB t.b))) (L) hlt
      have hfl : (((L).take i.k).filter (keepM c (sortB t.b))).length ≤ 1000000 := by
        have h1 := List.length_filter_le (keepM c (sortB t.b)) ((L).take i.k)
        have h2 := List.length_take_le i.k (L)
        omega
      generalize hacc : ((L).take i.k).filter (keepM c (sortB t.b)) = acc at *
      generalize hxe : (L).getD i.k .empty = x at *
      repeat' (first | apply sw_nil | apply cw_seq | apply cw_reg | refine sy_move (h:=?_) | refine sy_assign (h:=?_) | refine sy_fld (h:=?_) | refine sy_ld (h:=?_) | refine sy_pick_t (h:=?_) | refine sy_pick_f (h:=?_) | refine sy_not (h:=?_) | refine sy_sneq (h:=?_) | refine sy_add (h:=?_) | refine sw_skipT (h:=?_) | refine sw_bsl (h:=fun _ => ?_) | refine cw_cond_f (hf:=?_) | apply cw_skip | (refine sy_idxX (q:=i.k) (h:=?_)) | (refine sy_ldX (u:=.string x) (hF:=fun w h => hxe ▸ Strs.get (hSL w h) hlt) (h:=?_)) | (refine sw_pu (hc:=containsS_pu s3 (sortB t.b) x) (hX:=fun w h => (hties w h.2).2.2.1) (h:=?_)) | (refine sw_append (size:=1) (z:=.string ⟨#[]⟩) (news:=[encB x]) (q:=1) rfl rfl rfl rfl (fun _ => At.there _ (At.here _)) (fun w G => src_cel G List.mem_cons_self rfl rfl 1) (by omega) (by simp only [maxLen];omega) rfl ?_ rfl ?_;(with_reducible rfl);intro A2 c2) | ((fail_if_success (refine sw_chk (h:=?_)));refine sw_guard (ht:=?_) (hf:=?_);all_goals (intro hx_;skip)) | (refine cw_cond (ht:=?_) (hf:=?_);all_goals (intro hx_;skip)))
      all_goals first
        | (have e : ((L).take (i.k + 1)).filter (keepM c (sortB t.b)) = acc ++ [x] := by rw [hfs];simp only [keepM, *,decide_true,decide_false,cond_true,cond_false,Bool.and_true,Bool.true_and,Bool.and_false,Bool.false_and,Bool.not_true,Bool.not_false,Bool.or_true,Bool.true_or,Bool.or_false,Bool.false_or]
           refine ⟨(⟨i.k + 1,hlt,A2,c2⟩ : FilS (L).length),(by show (L).length - (i.k + 1) < (L).length - i.k;omega),ok_sub ?_ ?_ fun _ h => h⟩
           · simp only [e,List.length_append,List.length_cons,List.length_nil,Nat.zero_add];exact ⟨rfl,rfl,rfl,rfl,rfl,rfl,trivial⟩
           · simp only [e,List.length_append,List.length_cons,List.length_nil,Nat.zero_add,List.map_append,List.map_cons,List.map_nil];exact List.Sublist.cons _ (List.Sublist.refl _))
        | (have e : ((L).take (i.k + 1)).filter (keepM c (sortB t.b)) = acc := by rw [hfs];simp only [keepM, *,decide_true,decide_false,cond_true,cond_false,Bool.and_true,Bool.true_and,Bool.and_false,Bool.false_and,Bool.not_true,Bool.not_false,Bool.or_true,Bool.true_or,Bool.or_false,Bool.false_or,List.append_nil]
           refine ⟨(⟨i.k + 1,hlt,i.A,i.c⟩ : FilS (L).length),(by show (L).length - (i.k + 1) < (L).length - i.k;omega),ok_sub ?_ ?_ fun _ h => h⟩
           · simp only [e];exact ⟨rfl,rfl,rfl,rfl,rfl,rfl,trivial⟩
           · simp only [e];exact List.Sublist.refl _)
    have hfl : (((L).take i.k).filter (keepM c (sortB t.b))).length ≤ 1000000000 := by
      have h1 := List.length_filter_le (keepM c (sortB t.b)) ((L).take i.k)
      have h2 := List.length_take_le i.k (L)
      omega
    have hk : i.k = (L).length := by omega
    have hfin : membersV c n sc g toL = compB (sortB (((L).take i.k).filter (keepM c (sortB t.b)))) := by rw [hM,hLe,hk,List.take_length]
    refine sw_turn (hc:=sortB_ct hfl) (hX:=fun _ _ => trivial) (h:=?_)
    repeat' (first | apply sw_nil | apply cw_seq | apply cw_reg | refine sy_move (h:=?_) | fail)
    refine sw_fnAt (hc:=compB_ct) (hX:=fun _ _ => trivial) (h:=?_)
    rintro _ _ X2 ⟨A3,c3,rfl,rfl⟩
    repeat' (first | apply sw_nil | refine sy_assign (h:=?_) | apply cw_ret | fail)
    rw [hfin]
    exact ends_ret (res_tmp rfl rfl) ⟨_,List.Sublist.cons_cons _ (List.nil_sublist _),A3,c3,rfl,rfl⟩

  case refine_2.refine_1 =>
    refine cw_loop (ι:=Kth (limN n c.acts.n)) (fun i => ⟨[(3,.string g),(5,.pointer (some ⟨b5,0,none⟩)),(11,.pointer (some ⟨b11,0,none⟩)),(12,((((circF c.actsL g i.k).map (fun x : ActD => x.to)).getD (⟨none,0,0⟩ : SlV)) : SlV).v),(21,.int .i64 sc),(30,.int .i64 (limN n c.acts.n)),(31,.int .i64 i.k)],
      [cel b11 188 [s1.v,s2.v,s3.v,s4.v],cel b5 39 c.cells],fun w => (XC c w ∧ Strs w st toL) ∧ X1 w⟩) (fun i => limN n c.acts.n - i.k) ⟨0,Nat.zero_le _⟩ (ok_sub ⟨rfl,rfl,rfl,rfl,rfl,rfl,rfl,trivial⟩ (List.Sublist.refl _) fun _ h => h) fun i => ?_
    have hik := i.hk
    repeat' (first | apply sw_nil | apply cw_seq | apply cw_reg | refine sy_move (h:=?_) | refine sy_assign (h:=?_) | refine sy_fld (h:=?_) | refine sy_ld (h:=?_) | refine sy_lss (h:=?_) | refine sy_len (h:=?_) | apply cw_skip | apply cw_block | apply cw_exit | (refine cw_cond (ht:=?_) (hf:=?_);all_goals (intro hx_;first | have := of_decide_eq_true hx_ | have := of_decide_eq_false hx_)))
    · have hlt : i.k < limN n c.acts.n := by omega
      have hltL : i.k < c.actsL.length := by omega
      have hp' := hp (by omega)
      obtain ⟨x,hx⟩ : ∃ x,c.actsL[i.k]? = some x := ⟨_,List.getElem?_eq_getElem hltL⟩
      have hstep : circF c.actsL g (i.k + 1) = bif decide (x.kind = 15) && seqB x.group g then some x else circF c.actsL g i.k := by simp only [circF,List.getD_eq_getElem?_getD,hx,Option.getD_some]
      repeat' (first | apply sw_nil | apply cw_seq | apply cw_reg | refine sy_move (h:=?_) | refine sy_assign (h:=?_) | refine sy_fld (h:=?_) | refine sy_ld (h:=?_) | refine sy_pick_t (h:=?_) | refine sy_pick_f (h:=?_) | refine sy_eql (h:=?_) | refine sy_seql (h:=?_) | refine sy_add (h:=?_) | refine sw_skipT (h:=?_) | refine sw_alloc (h:=fun _ => ?_) | refine sw_stAll (h:=?_) | refine cw_cond_f (hf:=?_) | apply cw_skip | (refine sy_idxX (q:=i.k * 20) (h:=?_)) | (refine sy_ldXs (cs:=x.cells) (hF:=fun w h => Acts.get h.1.1.1 hx) (h:=?_)) | ((fail_if_success (refine sw_chk (h:=?_)));refine sw_guard (ht:=?_) (hf:=?_);all_goals (intro hx_;first | have := of_decide_eq_true hx_ | have := of_decide_eq_false hx_)) | (refine cw_cond (ht:=?_) (hf:=?_);all_goals (intro hx_;skip)))
      all_goals exact ⟨(⟨i.k + 1,hlt⟩ : Kth (limN n c.acts.n)),(by show limN n c.acts.n - (i.k + 1) < limN n c.acts.n - i.k;omega),ok_sub (by
        have e : circF c.actsL g (i.k + 1) = _ := hstep.trans (by simp only [*,Int.reduceEq,decide_true,decide_false,cond_true,cond_false,Bool.and_true,Bool.true_and,Bool.and_false,Bool.false_and,Bool.not_true,Bool.not_false,Bool.or_true,Bool.true_or,Bool.or_false,Bool.false_or];rfl)
        simp only [e]
        exact ⟨rfl,rfl,rfl,rfl,rfl,rfl,rfl,trivial⟩) (List.Sublist.cons _ (List.Sublist.refl _)) fun _ h => h⟩
    have hk : i.k = limN n c.acts.n := by omega
    have hLe : listOf c n sc g toL = ((circF c.actsL g i.k).map (·.toL)).getD [] := by
      rw [hLo, ‹decide (sc = 1) = false›, ‹decide (sc = 2) = true›,hk,hl]
      rfl
    have hmem : ∀ x,circF c.actsL g i.k = some x → x ∈ c.actsL := fun x hx => circF_mem (by omega) hx
    repeat' (first | apply sw_nil | fail)
    generalize circF c.actsL g i.k = o at *
    obtain ⟨S,L,hS1,hL1,hSL,hLl⟩ : ∃ (S : SlV) (L : List ByteArray),(o.map (fun x : ActD => x.to)).getD (⟨none,0,0⟩ : SlV) = S ∧ (o.map (fun x : ActD => x.toL)).getD [] = L ∧ (∀ w,(XC c w ∧ Strs w st toL) ∧ X1 w → Strs w S L) ∧ L.length ≤ 1000000 := by
      cases o with
      | none => exact ⟨_,_,rfl,rfl,fun w _ => rowsD_nil w 1,by simp⟩
      | some x => exact ⟨_,_,rfl,rfl,fun w h => (h.1.1.1.2 x (hmem x rfl)).1,by have h1 := (hc.rng x (hmem x rfl)).to_len;have h2 := hto x (hmem x rfl);show x.toL.length ≤ 1000000;omega⟩
    rw [hL1] at hLe
    rw [hS1]
    refine cw_know (p:=(S).n = (L).length ∧ (S).n ≤ maxLen ∧ (0 < (L).length → (S).p.isSome = true)) (fun w h => ⟨(hSL w h).len_,Nat.le_trans (RowsD.cap (hSL w h)) (RowsD.max (hSL w h)),(hSL w h).some_⟩) fun ⟨hSl,hSm,hSp⟩ => ?_
    simp only [maxLen] at hSm
    refine cw_nilRow 9 1 ?_
    refine cw_loop (ι:=FilS (L).length) (fun i => ⟨[(5,.pointer (some ⟨b5,0,none⟩)),(11,.pointer (some ⟨b11,0,none⟩)),(15,.slice i.A (((L).take i.k).filter (keepM c (sortB t.b))).length i.c),(54,(S).v),(55,.int .i64 (S).n),(56,.int .i64 i.k)],
      [orow 9 1 (.slice i.A (((L).take i.k).filter (keepM c (sortB t.b))).length i.c) (((L).take i.k).filter (keepM c (sortB t.b))).length ((((L).take i.k).filter (keepM c (sortB t.b))).map encB),cel b11 188 [s1.v,s2.v,s3.v,s4.v],cel b5 39 c.cells],fun w => (XC c w ∧ Strs w st toL) ∧ X1 w⟩) (fun i => (L).length - i.k) ⟨0,Nat.zero_le _,none,0⟩ (ok_sub ⟨rfl,rfl,rfl,rfl,rfl,rfl,trivial⟩ (List.Sublist.refl _) fun _ h => h) fun i => ?_
    have hik := i.hk
    repeat' (first | apply sw_nil | apply cw_seq | apply cw_reg | refine sy_move (h:=?_) | refine sy_lss (h:=?_) | apply cw_skip | apply cw_block | apply cw_exit | (refine cw_cond (ht:=?_) (hf:=?_);all_goals (intro hx_;first | have := of_decide_eq_true hx_ | have := of_decide_eq_false hx_)))
    · have hlt : i.k < (L).length := by omega
      have hp2 := hSp (by omega)
      have hfs := filter_succ (p:=(keepM c (sortB t.b))) (L) hlt
      have hfl : (((L).take i.k).filter (keepM c (sortB t.b))).length ≤ 1000000 := by
        have h1 := List.length_filter_le (keepM c (sortB t.b)) ((L).take i.k)
        have h2 := List.length_take_le i.k (L)
        omega
      generalize hacc : ((L).take i.k).filter (keepM c (sortB t.b)) = acc at *
      generalize hxe : (L).getD i.k .empty = x at *
      repeat' (first | apply sw_nil | apply cw_seq | apply cw_reg | refine sy_move (h:=?_) | refine sy_assign (h:=?_) | refine sy_fld (h:=?_) | refine sy_ld (h:=?_) | refine sy_pick_t (h:=?_) | refine sy_pick_f (h:=?_) | refine sy_not (h:=?_) | refine sy_sneq (h:=?_) | refine sy_add (h:=?_) | refine sw_skipT (h:=?_) | refine sw_bsl (h:=fun _ => ?_) | refine cw_cond_f (hf:=?_) | apply cw_skip | (refine sy_idxX (q:=i.k) (h:=?_)) | (refine sy_ldX (u:=.string x) (hF:=fun w h => hxe ▸ Strs.get (hSL w h) hlt) (h:=?_)) | (refine sw_pu (hc:=containsS_pu s3 (sortB t.b) x) (hX:=fun w h => (hties w h.2).2.2.1) (h:=?_)) | (refine sw_append (size:=1) (z:=.string ⟨#[]⟩) (news:=[encB x]) (q:=1) rfl rfl rfl rfl (fun _ => At.there _ (At.here _)) (fun w G => src_cel G List.mem_cons_self rfl rfl 1) (by omega) (by simp only [maxLen];omega) rfl ?_ rfl ?_;(with_reducible rfl);intro A2 c2) | ((fail_if_success (refine sw_chk (h:=?_)));refine sw_guard (ht:=?_) (hf:=?_);all_goals (intro hx_;skip)) | (refine cw_cond (ht:=?_) (hf:=?_);all_goals (intro hx_;skip)))
      all_goals first
        | (have e : ((L).take (i.k + 1)).filter (keepM c (sortB t.b)) = acc ++ [x] := by rw [hfs];simp only [keepM, *,decide_true,decide_false,cond_true,cond_false,Bool.and_true,Bool.true_and,Bool.and_false,Bool.false_and,Bool.not_true,Bool.not_false,Bool.or_true,Bool.true_or,Bool.or_false,Bool.false_or]
           refine ⟨(⟨i.k + 1,hlt,A2,c2⟩ : FilS (L).length),(by show (L).length - (i.k + 1) < (L).length - i.k;omega),ok_sub ?_ ?_ fun _ h => h⟩
           · simp only [e,List.length_append,List.length_cons,List.length_nil,Nat.zero_add];exact ⟨rfl,rfl,rfl,rfl,rfl,rfl,trivial⟩
           · simp only [e,List.length_append,List.length_cons,List.length_nil,Nat.zero_add,List.map_append,List.map_cons,List.map_nil];exact List.Sublist.cons _ (List.Sublist.refl _))
        | (have e : ((L).take (i.k + 1)).filter (keepM c (sortB t.b)) = acc := by rw [hfs];simp only [keepM, *,decide_true,decide_false,cond_true,cond_false,Bool.and_true,Bool.true_and,Bool.and_false,Bool.false_and,Bool.not_true,Bool.not_false,Bool.or_true,Bool.true_or,Bool.or_false,Bool.false_or,List.append_nil]
           refine ⟨(⟨i.k + 1,hlt,i.A,i.c⟩ : FilS (L).length),(by show (L).length - (i.k + 1) < (L).length - i.k;omega),ok_sub ?_ ?_ fun _ h => h⟩
           · simp only [e];exact ⟨rfl,rfl,rfl,rfl,rfl,rfl,trivial⟩
           · simp only [e];exact List.Sublist.refl _)
    have hfl : (((L).take i.k).filter (keepM c (sortB t.b))).length ≤ 1000000000 := by
      have h1 := List.length_filter_le (keepM c (sortB t.b)) ((L).take i.k)
      have h2 := List.length_take_le i.k (L)
      omega
    have hk : i.k = (L).length := by omega
    have hfin : membersV c n sc g toL = compB (sortB (((L).take i.k).filter (keepM c (sortB t.b)))) := by rw [hM,hLe,hk,List.take_length]
    refine sw_turn (hc:=sortB_ct hfl) (hX:=fun _ _ => trivial) (h:=?_)
    repeat' (first | apply sw_nil | apply cw_seq | apply cw_reg | refine sy_move (h:=?_) | fail)
    refine sw_fnAt (hc:=compB_ct) (hX:=fun _ _ => trivial) (h:=?_)
    rintro _ _ X2 ⟨A3,c3,rfl,rfl⟩
    repeat' (first | apply sw_nil | refine sy_assign (h:=?_) | apply cw_ret | fail)
    rw [hfin]
    exact ends_ret (res_tmp rfl rfl) ⟨_,List.Sublist.cons_cons _ (List.nil_sublist _),A3,c3,rfl,rfl⟩

  case refine_2.refine_2.refine_1 =>
    have hLe : listOf c n sc g toL = toL := by
      rw [hLo, ‹decide (sc = 1) = false›, ‹decide (sc = 2) = false›, ‹decide (sc = 3) = true›]
      rfl
    have hSL : ∀ w,(XC c w ∧ Strs w st toL) ∧ X1 w → Strs w st toL := fun w h => h.1.2
    have hLl := htl
    refine cw_know (p:=(st).n = (toL).length ∧ (st).n ≤ maxLen ∧ (0 < (toL).length → (st).p.isSome = true)) (fun w h => ⟨(hSL w h).len_,Nat.le_trans (RowsD.cap (hSL w h)) (RowsD.max (hSL w h)),(hSL w h).some_⟩) fun ⟨hSl,hSm,hSp⟩ => ?_
    simp only [maxLen] at hSm
    refine cw_nilRow 9 1 ?_
    refine cw_loop (ι:=FilS (toL).length) (fun i => ⟨[(5,.pointer (some ⟨b5,0,none⟩)),(11,.pointer (some ⟨b11,0,none⟩)),(15,.slice i.A (((toL).take i.k).filter (keepM c (sortB t.b))).length i.c),(54,(st).v),(55,.int .i64 (st).n),(56,.int .i64 i.k)],
      [orow 9 1 (.slice i.A (((toL).take i.k).filter (keepM c (sortB t.b))).length i.c) (((toL).take i.k).filter (keepM c (sortB t.b))).length ((((toL).take i.k).filter (keepM c (sortB t.b))).map encB),cel b11 188 [s1.v,s2.v,s3.v,s4.v],cel b5 39 c.cells],fun w => (XC c w ∧ Strs w st toL) ∧ X1 w⟩) (fun i => (toL).length - i.k) ⟨0,Nat.zero_le _,none,0⟩ (ok_sub ⟨rfl,rfl,rfl,rfl,rfl,rfl,trivial⟩ (List.Sublist.refl _) fun _ h => h) fun i => ?_
    have hik := i.hk
    repeat' (first | apply sw_nil | apply cw_seq | apply cw_reg | refine sy_move (h:=?_) | refine sy_lss (h:=?_) | apply cw_skip | apply cw_block | apply cw_exit | (refine cw_cond (ht:=?_) (hf:=?_);all_goals (intro hx_;first | have := of_decide_eq_true hx_ | have := of_decide_eq_false hx_)))
    · have hlt : i.k < (toL).length := by omega
      have hp2 := hSp (by omega)
      have hfs := filter_succ (p:=(keepM c (sortB t.b))) (toL) hlt
      have hfl : (((toL).take i.k).filter (keepM c (sortB t.b))).length ≤ 1000000 := by
        have h1 := List.length_filter_le (keepM c (sortB t.b)) ((toL).take i.k)
        have h2 := List.length_take_le i.k (toL)
        omega
      generalize hacc : ((toL).take i.k).filter (keepM c (sortB t.b)) = acc at *
      generalize hxe : (toL).getD i.k .empty = x at *
      repeat' (first | apply sw_nil | apply cw_seq | apply cw_reg | refine sy_move (h:=?_) | refine sy_assign (h:=?_) | refine sy_fld (h:=?_) | refine sy_ld (h:=?_) | refine sy_pick_t (h:=?_) | refine sy_pick_f (h:=?_) | refine sy_not (h:=?_) | refine sy_sneq (h:=?_) | refine sy_add (h:=?_) | refine sw_skipT (h:=?_) | refine sw_bsl (h:=fun _ => ?_) | refine cw_cond_f (hf:=?_) | apply cw_skip | (refine sy_idxX (q:=i.k) (h:=?_)) | (refine sy_ldX (u:=.string x) (hF:=fun w h => hxe ▸ Strs.get (hSL w h) hlt) (h:=?_)) | (refine sw_pu (hc:=containsS_pu s3 (sortB t.b) x) (hX:=fun w h => (hties w h.2).2.2.1) (h:=?_)) | (refine sw_append (size:=1) (z:=.string ⟨#[]⟩) (news:=[encB x]) (q:=1) rfl rfl rfl rfl (fun _ => At.there _ (At.here _)) (fun w G => src_cel G List.mem_cons_self rfl rfl 1) (by omega) (by simp only [maxLen];omega) rfl ?_ rfl ?_;(with_reducible rfl);intro A2 c2) | ((fail_if_success (refine sw_chk (h:=?_)));refine sw_guard (ht:=?_) (hf:=?_);all_goals (intro hx_;skip)) | (refine cw_cond (ht:=?_) (hf:=?_);all_goals (intro hx_;skip)))
      all_goals first
        | (have e : ((toL).take (i.k + 1)).filter (keepM c (sortB t.b)) = acc ++ [x] := by rw [hfs];simp only [keepM, *,decide_true,decide_false,cond_true,cond_false,Bool.and_true,Bool.true_and,Bool.and_false,Bool.false_and,Bool.not_true,Bool.not_false,Bool.or_true,Bool.true_or,Bool.or_false,Bool.false_or]
           refine ⟨(⟨i.k + 1,hlt,A2,c2⟩ : FilS (toL).length),(by show (toL).length - (i.k + 1) < (toL).length - i.k;omega),ok_sub ?_ ?_ fun _ h => h⟩
           · simp only [e,List.length_append,List.length_cons,List.length_nil,Nat.zero_add];exact ⟨rfl,rfl,rfl,rfl,rfl,rfl,trivial⟩
           · simp only [e,List.length_append,List.length_cons,List.length_nil,Nat.zero_add,List.map_append,List.map_cons,List.map_nil];exact List.Sublist.cons _ (List.Sublist.refl _))
        | (have e : ((toL).take (i.k + 1)).filter (keepM c (sortB t.b)) = acc := by rw [hfs];simp only [keepM, *,decide_true,decide_false,cond_true,cond_false,Bool.and_true,Bool.true_and,Bool.and_false,Bool.false_and,Bool.not_true,Bool.not_false,Bool.or_true,Bool.true_or,Bool.or_false,Bool.false_or,List.append_nil]
           refine ⟨(⟨i.k + 1,hlt,i.A,i.c⟩ : FilS (toL).length),(by show (toL).length - (i.k + 1) < (toL).length - i.k;omega),ok_sub ?_ ?_ fun _ h => h⟩
           · simp only [e];exact ⟨rfl,rfl,rfl,rfl,rfl,rfl,trivial⟩
           · simp only [e];exact List.Sublist.refl _)
    have hfl : (((toL).take i.k).filter (keepM c (sortB t.b))).length ≤ 1000000000 := by
      have h1 := List.length_filter_le (keepM c (sortB t.b)) ((toL).take i.k)
      have h2 := List.length_take_le i.k (toL)
      omega
    have hk : i.k = (toL).length := by omega
    have hfin : membersV c n sc g toL = compB (sortB (((toL).take i.k).filter (keepM c (sortB t.b)))) := by rw [hM,hLe,hk,List.take_length]
    refine sw_turn (hc:=sortB_ct hfl) (hX:=fun _ _ => trivial) (h:=?_)
    repeat' (first | apply sw_nil | apply cw_seq | apply cw_reg | refine sy_move (h:=?_) | fail)
    refine sw_fnAt (hc:=compB_ct) (hX:=fun _ _ => trivial) (h:=?_)
    rintro _ _ X2 ⟨A3,c3,rfl,rfl⟩
    repeat' (first | apply sw_nil | refine sy_assign (h:=?_) | apply cw_ret | fail)
    rw [hfin]
    exact ends_ret (res_tmp rfl rfl) ⟨_,List.Sublist.cons_cons _ (List.nil_sublist _),A3,c3,rfl,rfl⟩

  case refine_2.refine_2.refine_2 =>
    have hLe : listOf c n sc g toL = [] := by
      rw [hLo, ‹decide (sc = 1) = false›, ‹decide (sc = 2) = false›, ‹decide (sc = 3) = false›]
      rfl
    have hSL : ∀ w,(XC c w ∧ Strs w st toL) ∧ X1 w → Strs w ⟨none,0,0⟩ [] := fun w _ => rowsD_nil w 1
    have hLl : ([] : List ByteArray).length ≤ 1000000 := by simp
    refine cw_know (p:=((⟨none,0,0⟩ : SlV)).n = (([] : List ByteArray)).length ∧ ((⟨none,0,0⟩ : SlV)).n ≤ maxLen ∧ (0 < (([] : List ByteArray)).length → ((⟨none,0,0⟩ : SlV)).p.isSome = true)) (fun w h => ⟨((show Strs w ⟨none,0,0⟩ [] from rowsD_nil w 1)).len_,Nat.le_trans (RowsD.cap ((show Strs w ⟨none,0,0⟩ [] from rowsD_nil w 1))) (RowsD.max ((show Strs w ⟨none,0,0⟩ [] from rowsD_nil w 1))),((show Strs w ⟨none,0,0⟩ [] from rowsD_nil w 1)).some_⟩) fun ⟨hSl,hSm,hSp⟩ => ?_
    simp only [maxLen] at hSm
    refine cw_nilRow 9 1 ?_
    refine cw_loop (ι:=FilS (([] : List ByteArray)).length) (fun i => ⟨[(5,.pointer (some ⟨b5,0,none⟩)),(11,.pointer (some ⟨b11,0,none⟩)),(15,.slice i.A (((([] : List ByteArray)).take i.k).filter (keepM c (sortB t.b))).length i.c),(54,((⟨none,0,0⟩ : SlV)).v),(55,.int .i64 ((⟨none,0,0⟩ : SlV)).n),(56,.int .i64 i.k)],
      [orow 9 1 (.slice i.A (((([] : List ByteArray)).take i.k).filter (keepM c (sortB t.b))).length i.c) (((([] : List ByteArray)).take i.k).filter (keepM c (sortB t.b))).length ((((([] : List ByteArray)).take i.k).filter (keepM c (sortB t.b))).map encB),cel b11 188 [s1.v,s2.v,s3.v,s4.v],cel b5 39 c.cells],fun w => (XC c w ∧ Strs w st toL) ∧ X1 w⟩) (fun i => (([] : List ByteArray)).length - i.k) ⟨0,Nat.zero_le _,none,0⟩ (ok_sub ⟨rfl,rfl,rfl,rfl,rfl,rfl,trivial⟩ (List.Sublist.refl _) fun _ h => h) fun i => ?_
    have hik := i.hk
    repeat' (first | apply sw_nil | apply cw_seq | apply cw_reg | refine sy_move (h:=?_) | refine sy_lss (h:=?_) | apply cw_skip | apply cw_block | apply cw_exit | (refine cw_cond (ht:=?_) (hf:=?_);all_goals (intro hx_;first | have := of_decide_eq_true hx_ | have := of_decide_eq_false hx_)))
    · have hlt : i.k < (([] : List ByteArray)).length := by omega
      have hp2 := hSp (by omega)
      have hfs := filter_succ (p:=(keepM c (sortB t.b))) (([] : List ByteArray)) hlt
      have hfl : (((([] : List ByteArray)).take i.k).filter (keepM c (sortB t.b))).length ≤ 1000000 := by
        have h1 := List.length_filter_le (keepM c (sortB t.b)) ((([] : List ByteArray)).take i.k)
        have h2 := List.length_take_le i.k (([] : List ByteArray))
        omega
      generalize hacc : ((([] : List ByteArray)).take i.k).filter (keepM c (sortB t.b)) = acc at *
      generalize hxe : (([] : List ByteArray)).getD i.k .empty = x at *
      repeat' (first | apply sw_nil | apply cw_seq | apply cw_reg | refine sy_move (h:=?_) | refine sy_assign (h:=?_) | refine sy_fld (h:=?_) | refine sy_ld (h:=?_) | refine sy_pick_t (h:=?_) | refine sy_pick_f (h:=?_) | refine sy_not (h:=?_) | refine sy_sneq (h:=?_) | refine sy_add (h:=?_) | refine sw_skipT (h:=?_) | refine sw_bsl (h:=fun _ => ?_) | refine cw_cond_f (hf:=?_) | apply cw_skip | (refine sy_idxX (q:=i.k) (h:=?_)) | (refine sy_ldX (u:=.string x) (hF:=fun w h => hxe ▸ Strs.get ((show Strs w ⟨none,0,0⟩ [] from rowsD_nil w 1)) hlt) (h:=?_)) | (refine sw_pu (hc:=containsS_pu s3 (sortB t.b) x) (hX:=fun w h => (hties w h.2).2.2.1) (h:=?_)) | (refine sw_append (size:=1) (z:=.string ⟨#[]⟩) (news:=[encB x]) (q:=1) rfl rfl rfl rfl (fun _ => At.there _ (At.here _)) (fun w G => src_cel G List.mem_cons_self rfl rfl 1) (by omega) (by simp only [maxLen];omega) rfl ?_ rfl ?_;(with_reducible rfl);intro A2 c2) | ((fail_if_success (refine sw_chk (h:=?_)));refine sw_guard (ht:=?_) (hf:=?_);all_goals (intro hx_;skip)) | (refine cw_cond (ht:=?_) (hf:=?_);all_goals (intro hx_;skip)))
      all_goals first
        | (have e : ((([] : List ByteArray)).take (i.k + 1)).filter (keepM c (sortB t.b)) = acc ++ [x] := by rw [hfs];simp only [keepM, *,decide_true,decide_false,cond_true,cond_false,Bool.and_true,Bool.true_and,Bool.and_false,Bool.false_and,Bool.not_true,Bool.not_false,Bool.or_true,Bool.true_or,Bool.or_false,Bool.false_or]
           refine ⟨(⟨i.k + 1,hlt,A2,c2⟩ : FilS (([] : List ByteArray)).length),(by show (([] : List ByteArray)).length - (i.k + 1) < (([] : List ByteArray)).length - i.k;omega),ok_sub ?_ ?_ fun _ h => h⟩
           · simp only [e,List.length_append,List.length_cons,List.length_nil,Nat.zero_add];exact ⟨rfl,rfl,rfl,rfl,rfl,rfl,trivial⟩
           · simp only [e,List.length_append,List.length_cons,List.length_nil,Nat.zero_add,List.map_append,List.map_cons,List.map_nil];exact List.Sublist.cons _ (List.Sublist.refl _))
        | (have e : ((([] : List ByteArray)).take (i.k + 1)).filter (keepM c (sortB t.b)) = acc := by rw [hfs];simp only [keepM, *,decide_true,decide_false,cond_true,cond_false,Bool.and_true,Bool.true_and,Bool.and_false,Bool.false_and,Bool.not_true,Bool.not_false,Bool.or_true,Bool.true_or,Bool.or_false,Bool.false_or,List.append_nil]
           refine ⟨(⟨i.k + 1,hlt,i.A,i.c⟩ : FilS (([] : List ByteArray)).length),(by show (([] : List ByteArray)).length - (i.k + 1) < (([] : List ByteArray)).length - i.k;omega),ok_sub ?_ ?_ fun _ h => h⟩
           · simp only [e];exact ⟨rfl,rfl,rfl,rfl,rfl,rfl,trivial⟩
           · simp only [e];exact List.Sublist.refl _)
    have hfl : (((([] : List ByteArray)).take i.k).filter (keepM c (sortB t.b))).length ≤ 1000000000 := by
      have h1 := List.length_filter_le (keepM c (sortB t.b)) ((([] : List ByteArray)).take i.k)
      have h2 := List.length_take_le i.k (([] : List ByteArray))
      omega
    have hk : i.k = (([] : List ByteArray)).length := by omega
    have hfin : membersV c n sc g toL = compB (sortB (((([] : List ByteArray)).take i.k).filter (keepM c (sortB t.b)))) := by rw [hM,hLe,hk,List.take_length]
    refine sw_turn (hc:=sortB_ct hfl) (hX:=fun _ _ => trivial) (h:=?_)
    repeat' (first | apply sw_nil | apply cw_seq | apply cw_reg | refine sy_move (h:=?_) | fail)
    refine sw_fnAt (hc:=compB_ct) (hX:=fun _ _ => trivial) (h:=?_)
    rintro _ _ X2 ⟨A3,c3,rfl,rfl⟩
    repeat' (first | apply sw_nil | refine sy_assign (h:=?_) | apply cw_ret | fail)
    rw [hfin]
    exact ends_ret (res_tmp rfl rfl) ⟨_,List.Sublist.cons_cons _ (List.nil_sublist _),A3,c3,rfl,rfl⟩

theorem members_mk (c : ChainD) (hc : ActsOk c.actsL) (hcl : c.actsL.length ≤ 1000000) (hto : ∀ x ∈ c.actsL,x.to.n ≤ 1000000) (n sc : Int) (g : ByteArray) (st : SlV) (toL : List ByteArray) (htl : toL.length ≤ 1000000) :
    Mk Tryz.prog 80 #[c.v,.int .i64 n,.int .i64 sc,.string g,st.v] (fun w => XC c w ∧ Strs w st toL) (StrsAt (membersV c n sc g toL)) := mk_of_own (members_ct c hc hcl hto n sc g st toL htl)
end Go.Proofs.YtjmpdkmboheknaaGreatDoor

namespace Go.Proofs.YtjmpdkmboheknaaGreatDoor
open Go Go.Proofs Sy
def wellA (c : ChainD) (i : Int) (a : ActD) : Bool := (postK a.kind || decide (a.kind = 14)) && (decide (a.scope = 1) || decide (a.scope = 2) || decide (a.scope = 3)) && (match epochO c.actsL i a.scope a.group with
  | some e => decide (e.epoch = a.epoch) && eqL e.toL (membersV c i a.scope a.group a.toL)
  | none => false)
def wellV (c : ChainD) (i : Int) : Bool := decide (0 ≤ i) && (match c.actsL[i.toNat]? with
  | some a => wellA c i a
  | none => false)
set_option maxHeartbeats 2000000 in
theorem well_pu (c : ChainD) (hc : ActsOk c.actsL) (hcl : c.actsL.length ≤ 1000000) (hto : ∀ x ∈ c.actsL,x.to.n ≤ 1000000) (i : Int) : Pu Tryz.prog 79 #[c.v,.int .i64 i] (XC c) (.bool (wellV c i)) := by
  refine pu_of_cw (args:=[_,_]) _ Tryz.func79 rfl Tryz.ntmps79 rfl fun av bor w0 => ?_
  refine cw_know XC.know fun ⟨hl,hm,hp,hcap⟩ => ?_
  simp only [maxLen] at hm
  repeat' (first | apply sw_nil | apply cw_seq | apply cw_reg | refine sy_move (h:=?_) | refine sy_assign (h:=?_) | refine sy_fld (h:=?_) | refine sy_ld (h:=?_) | refine sy_pick_t (h:=?_) | refine sy_pick_f (h:=?_) | refine sy_lss (h:=?_) | refine sy_geq (h:=?_) | refine sy_len (h:=?_) | refine sw_skipF (h:=?_) | refine sw_box (h:=fun _ => ?_) | refine cw_cond_t (ht:=?_) | apply cw_skip | apply cw_ret | ((fail_if_success (refine sw_chk (h:=?_)));refine sw_guard (ht:=?_) (hf:=?_);all_goals (intro hx_;first | have := of_decide_eq_true hx_ | have := of_decide_eq_false hx_)) | (refine cw_cond (ht:=?_) (hf:=?_);all_goals (intro hx_;first | have := of_decide_eq_true hx_ | have := of_decide_eq_false hx_)))
  · apply ends_ret;apply res_tmp;rfl;rfl
    rw [wellV,decide_eq_false (by omega),Bool.false_and]
  · apply ends_ret;apply res_tmp;rfl;rfl
    rw [wellV,List.getElem?_eq_none (by omega),Bool.and_false]
  have hi0 : 0 ≤ i := by omega
  obtain ⟨q,rfl⟩ := Int.eq_ofNat_of_zero_le hi0
  have hlt : q < c.actsL.length := by omega
  have hp' := hp (by omega)
  obtain ⟨x,hx⟩ : ∃ x,c.actsL[q]? = some x := ⟨_,List.getElem?_eq_getElem hlt⟩
  have hxm : x ∈ c.actsL := List.mem_of_getElem? hx
  have hW : wellV c (q : Int) = wellA c q x := by
    rw [wellV,decide_eq_true (by omega),Bool.true_and]
    show (match c.actsL[q]? with | some a => wellA c q a | none => false) = _
    rw [hx]
  have hA : wellA c q x = ((postK x.kind || decide (x.kind = 14)) && (decide (x.scope = 1) || decide (x.scope = 2) || decide (x.scope = 3)) && (match epochO c.actsL q x.scope x.group with
    | some e => decide (e.epoch = x.epoch) && eqL e.toL (membersV c q x.scope x.group x.toL)
    | none => false)) := rfl
  have hxr := (hc.rng x hxm).to_len
  have hxs := hto x hxm
  have hep := epoch_mk c hc q x.scope x.group
  have hme := members_mk c hc hcl hto q x.scope x.group x.to x.toL (by omega)
  generalize epochO c.actsL q x.scope x.group = o at *
  generalize membersV c q x.scope x.group x.toL = M at *
  rw [hW,hA]
  repeat' (first | apply sw_nil | apply cw_seq | apply cw_reg | refine sy_move (h:=?_) | refine sy_assign (h:=?_) | refine sy_fld (h:=?_) | refine sy_ld (h:=?_) | refine sy_ldAll (h:=?_) | refine sy_pick_t (h:=?_) | refine sy_pick_f (h:=?_) | refine sy_not (h:=?_) | refine sy_eql (h:=?_) | refine sy_neq (h:=?_) | refine sy_extract (h:=?_) | refine sw_skipT (h:=?_) | refine sw_alloc (h:=fun _ => ?_) | refine sw_stAll (h:=?_) | refine cw_cond_t (ht:=?_) | refine cw_cond_f (hf:=?_) | apply cw_skip | apply cw_block | apply cw_ret | (refine sy_idxX (q:=q * 20) (h:=?_)) | (refine sy_ldXs (cs:=x.cells) (hF:=fun w h => Acts.get h.1 hx) (h:=?_)) | refine sw_pu (hc:=posting_pu x.kind) (h:=?_) | (refine sw_mk (hc:=hep) (hX:=fun w h => h) (h:=fun v1 X1 h1 => ?_);obtain ⟨s1,rfl,hs1⟩ := h1) | (refine sw_mk (hc:=hme) (hX:=fun w h => ⟨h.1,(h.1.1.2 x hxm).1⟩) (h:=fun v2 X2 h2 => ?_);obtain ⟨s2,rfl,hs2⟩ := h2) | (refine sw_pu (hc:=equalL_pu s1 s2 _ _) (hX:=fun w h => ⟨hs1 w h.1.2,hs2 w h.2⟩) (h:=?_)) | ((fail_if_success (refine sw_chk (h:=?_)));refine sw_guard (ht:=?_) (hf:=?_);all_goals (intro hx_;first | have := of_decide_eq_true hx_ | have := of_decide_eq_false hx_ | skip)) | (refine cw_cond (ht:=?_) (hf:=?_);all_goals (intro hx_;first | have := of_decide_eq_true hx_ | have := of_decide_eq_false hx_ | skip)))
  all_goals
    apply ends_ret;apply res_tmp;rfl;rfl
    cases o <;> simp only [*,decide_true,decide_false,cond_true,cond_false,Bool.and_true,Bool.true_and,Bool.and_false,Bool.false_and,Bool.not_true,Bool.not_false,Bool.or_true,Bool.true_or,Bool.or_false,Bool.false_or,Option.isSome_some,Option.isSome_none,Option.map_some,Option.map_none,Option.getD_some,Option.getD_none] <;> simp_all
end Go.Proofs.YtjmpdkmboheknaaGreatDoor

namespace Go.Proofs.YtjmpdkmboheknaaGreatDoor
open Go Go.Proofs Sy
structure Agree (n : Nat) (l l' : List ActD) : Prop where
  at_ : ∀ k,k < n → l[k]? = l'[k]?
  left : n ≤ l.length
  right : n ≤ l'.length
theorem Agree.getD {n : Nat} {l l' : List ActD} (h : Agree n l l') {k : Nat} (hk : k < n) : l.getD k ActD.zero = l'.getD k ActD.zero := by
  rw [List.getD_eq_getElem?_getD,List.getD_eq_getElem?_getD,h.at_ k hk]
theorem Agree.symm {n : Nat} {l l' : List ActD} (h : Agree n l l') : Agree n l' l := ⟨fun k hk => (h.at_ k hk).symm,h.right,h.left⟩
end Go.Proofs.YtjmpdkmboheknaaGreatDoor

namespace Go.Proofs.YtjmpdkmboheknaaGreatDoor
open Go Go.Proofs Sy
def rtextV (c : ChainD) (i : Int) : Bool := decide (0 ≤ i) && (match c.actsL[i.toNat]? with
  | some a => postK a.kind || decide (a.kind = 14)
  | none => false)
def rmemV (c : ChainD) (i : Int) : List ByteArray := bif wellV c i then (match c.actsL[i.toNat]? with
  | some a => membersV c i a.scope a.group a.toL
  | none => []) else []
def pubV (c : ChainD) (i : Int) : Bool := match c.actsL[i.toNat]? with
  | some a => decide (a.scope = 0)
  | none => false
def mayV (c : ChainD) (i : Int) (r : ByteArray) : Bool := rtextV c i && (seqB r c.id || pubV c i || hasS (rmemV c i) r)
theorem rmem_some {c : ChainD} {i : Int} {a : ActD} (h : c.actsL[i.toNat]? = some a) : rmemV c i = bif wellV c i then membersV c i a.scope a.group a.toL else [] := by
  rw [rmemV,h]
structure ReadF (c : ChainD) (i : Int) (a : ActD) (l : List ByteArray) : Prop where
  asc : Asc l
  own : c.id ∈ l
  mem : ∀ x ∈ l,x ≠ c.id → x ∈ membersV c i a.scope a.group a.toL
  len : l.length = 1 + (bif wellV c i then (membersV c i a.scope a.group a.toL).length else 0)

end Go.Proofs.YtjmpdkmboheknaaGreatDoor
