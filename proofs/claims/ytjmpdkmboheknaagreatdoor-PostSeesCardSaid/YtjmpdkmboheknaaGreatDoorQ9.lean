/- Joined by program out of: Jx Ja Jb Jg Jh Jc Jd Je. -/
import Derived.Test.YtjmpdkmboheknaaGreatDoorQ8
set_option linter.unusedVariables false
set_option linter.unusedSimpArgs false
namespace Go.Proofs.YtjmpdkmboheknaaGreatDoor
open Go Go.Proofs Sy
def OfW.at (W : OfW) (L : List ActD) : OfW := { W with L := L }
def OfRes (W : OfW) (st : ChS) (fork : Bool) : Prop := match oneA (firstL W) with
  | some a => st = finS W a ∧ fork = decide (1 < (candL W (finS W a)).length)
  | none => st = ⟨[], [],⟨#[]⟩,0⟩ ∧ fork = decide (1 < (firstL W).length)
def OfAt19 (W : OfW) (PL : List ActD → Prop) (u : Value) (X : World → Prop) : Prop := ∃ (L : List ActD) (sa sk : SlV) (st : ChS) (fork : Bool),PL L ∧ OfRes (W.at L) st fork ∧ u = (⟨W.id,sa,sk,st.prev,(st.gen : Nat),fork,st.acts⟩ : ChainD).v ∧ ∀ w,X w → Acts w sa st.acts ∧ Keyz w sk st.keys
structure OfHyp (ks ki : SlV) (W : OfW) (PL : List ActD → Prop) (Y : World → Prop) : Prop where
  acts : Mk Tryz.prog 90 #[.agg #[ks.v,ki.v],.string W.id] (fun w => Y w ∧ Glob w) (fun u X' => ∃ (s : SlV) (L : List ActD),u = s.v ∧ PL L ∧ ∀ w,X' w → Acts w s L)
  ok : ∀ L,PL L → ActsOk L ∧ L.length ≤ 100000
  bB : W.B ≤ 100000
  won : ∀ g : Nat,g ≤ W.B → Pu Tryz.prog 148 #[.agg #[ks.v,ki.v],.string W.id,.int .i64 (g : Nat)] (fun w => Y w ∧ Glob w) (.tuple #[((W.won g).getD ClaimD.zero).v,.bool (W.won g).isSome])
  bnd : ∀ g c,W.won g = some c → g < W.B
  clm : ∀ g c,W.won g = some c → ∀ p : Int,Pu Tryz.prog 149 #[.int .i64 p,c.v] (fun w => Y w ∧ Glob w) (.bool (W.clm p c))
  dg : ∀ g c,W.won g = some c → Pu Tryz.prog 20 #[(ofClaimI c).v] (fun w => Y w ∧ Glob w) (.string (W.dgC c))
  ver : ∀ L,PL L → ∀ a ∈ L, ∀ p : Int,Pu Tryz.prog 91 #[.int .i64 p,a.v] (fun w => a.at_ w ∧ Glob w) (.bool (W.ver p a))
def chZ (id : ByteArray) : List Value := [.string id,.slice none 0 0,.slice none 0 0,.string ⟨#[]⟩,.int .i64 0,.bool false]
def bldH0 (ks ki : SlV) (id : ByteArray) (q1 q2 : Nat) : BldH := ⟨ks,ki,id,false,q1,q2,ClaimD.zero,false⟩
structure GroI (L : List ActD) where
  k : Nat
  hk : k ≤ L.length
  G : List (PosK × Grp)
  hG : GrpOk G (L.take k)
theorem regained_ct {ks ki : SlV} {W : OfW} {PL : List ActD → Prop} {Y : World → Prop} (H : OfHyp ks ki W PL Y) (L : List ActD) (b q1 q2 : Nat) (sa sk : SlV) (st : ChS) (pl : List (ByteArray × Value)) (ok : BldOk sa sk st pl)
    (hl : st.acts.length ≤ 1000000) (hl2 : st.keys.length ≤ 1000000) :
    Ct Tryz.prog 94 #[.pointer (some ⟨b,0,none⟩)] (bldR b ((bldH0 ks ki W.id q1 q2).look (W.won st.gen)) sa sk st pl) (fun w => Y w ∧ Glob w)
      (fun u R _ => (∀ s,regS (W.at L) st = some s → BldAt b ((bldH0 ks ki W.id q1 q2).look (W.won s.gen)) s (.bool true) u R) ∧ (regS (W.at L) st = none → BldAt b ((bldH0 ks ki W.id q1 q2).look (W.won st.gen)) st (.bool false) u R)) := by
  have hwA : (W.at L).won = W.won := rfl
  cases hw : W.won st.gen with
  | none =>
    refine (regained_none b ((bldH0 ks ki W.id q1 q2).look none) sa sk st pl ok rfl _).mono fun v R X' h => ⟨fun s hs => ?_,fun _ => h⟩
    rw [regS,hwA,hw] at hs
    cases hs
  | some c =>
    have hg := H.bnd _ _ hw
    have hB := H.bB
    refine (regained_some b ((bldH0 ks ki W.id q1 q2).look (some c)) sa sk st pl ok (W.at L) c hw rfl rfl Y hl hl2 (by omega) (H.clm _ _ hw) (H.dg _ _ hw) (H.won (st.gen + 1) hg)).mono fun v R X' h => ⟨fun s hs => ?_,h.2⟩
    obtain ⟨_,_,_,e,_⟩ := regS_some hs
    rw [e]
    exact h.1 s hs
structure RunI (W : OfW) (a : ActD) where
  st : ChS
  sa : SlV
  sk : SlV
  pl : List (ByteArray × Value)
  ok : BldOk sa sk st pl
  inv : InvS W st
  j : Nat
  hj : muS W st ≤ j
  hr : runS W j st = finS W a
theorem RunI.next {W : OfW} (hB : ∀ g c,W.won g = some c → g < W.B) {a : ActD} {st s : ChS} {j : Nat} (hI : InvS W st) (hj : muS W st ≤ j) (hr : runS W j st = finS W a) (hs : stepS W st = some s) : InvS W s ∧ muS W s < muS W st ∧ muS W s ≤ j - 1 ∧ runS W (j - 1) s = finS W a := by
  obtain ⟨h1,h2⟩ := step_inv hB hI hs
  cases j with
  | zero => omega
  | succ j => exact ⟨h1,by omega,by rw [Nat.add_sub_cancel];omega,by rw [run_step hs] at hr;exact hr⟩
set_option maxHeartbeats 16000000 in
theorem of19_mk (ks ki : SlV) (W : OfW) (PL : List ActD → Prop) (Y : World → Prop) (H : OfHyp ks ki W PL Y) :
    Mk Tryz.prog 51 #[.agg #[ks.v,ki.v],.string W.id] (fun w => Y w ∧ Glob w) (OfAt19 W PL) := by
  refine mk_of_cw2 (args:=[_,_]) _ Tryz.func51 rfl Tryz.ntmps51 rfl fun av bor w0 => ?_
  repeat' (first | refine sy_build (cs:=chZ W.id) (hf:=by rfl) (h:=?_) | apply sw_nil | apply cw_seq | apply cw_reg | refine sy_move (h:=?_) | refine sy_ldAll (h:=?_) | refine sw_alloc (h:=fun _ => ?_) | refine sw_box (h:=fun _ => ?_) | fail)
  refine sw_makeMapS PosK 149 (h:=fun q1 => ?_)
  refine sw_makeMap ByteArray (h:=fun q2 => ?_)
  repeat' (first | refine sy_build (cs:=bldC (bldH0 ks ki W.id q1 q2) ⟨none,0,0⟩ ⟨none,0,0⟩ ⟨#[]⟩ ((0 : Nat) : Int)) (hf:=by rfl) (h:=?_) | apply sw_nil | apply cw_seq | apply cw_reg | refine sy_move (h:=?_) | refine sy_assign (h:=?_) | refine sy_ldAll (h:=?_) | refine sy_len (h:=?_) | refine sw_box (h:=fun _ => ?_) | apply cw_block | (refine sw_mk (hc:=H.acts) (hX:=fun w h => h) (h:=fun v1 X1 h1 => ?_);obtain ⟨s,L,rfl,hPL,hw1⟩ := h1) | fail)
  rename_i b2 b4 b
  refine cw_know (p:=s.n = L.length ∧ s.n ≤ maxLen ∧ (0 < L.length → s.p.isSome = true)) (fun w h => ⟨(hw1 w h.2).len_,(hw1 w h.2).max_,(hw1 w h.2).some_⟩) fun ⟨hsn,hsm,hsp⟩ => ?_
  simp only [maxLen] at hsm
  obtain ⟨hok,hL⟩ := H.ok L hPL
  refine cw_loop (ι:=GroI L) (fun i => ⟨[(1,.string W.id),(4,.pointer (some ⟨b4,0,none⟩)),(5,.pointer (some ⟨b,0,none⟩)),(21,s.v),(22,.int .i64 (s.n : Nat)),(23,.int .i64 (i.k : Nat))], [cel b 146 (bldC (bldH0 ks ki W.id q1 q2) ⟨none,0,0⟩ ⟨none,0,0⟩ ⟨#[]⟩ ((0 : Nat) : Int)),mapr q2 ([] : List (ByteArray × Value)),smapr Tryz.prog 149 q1 (i.G.map fun g => (g.1,g.2.s.v)),cel b4 39 (chZ ⟨#[]⟩)] ++ i.G.map grpR,fun w => (Y w ∧ Glob w) ∧ X1 w⟩) (fun i => L.length - i.k) ⟨0,Nat.zero_le _, [],⟨fun _ => rfl,fun _ _ h => by cases h⟩⟩ ?_ fun i => ?_
  · exact ok_sub ⟨rfl,rfl,rfl,rfl,rfl,rfl,trivial⟩ (.cons_cons _ (.cons_cons _ (.cons_cons _ (.cons_cons _ (List.nil_sublist _))))) fun _ h => h
  obtain ⟨k,hk,G,hG⟩ := i
  simp only
  repeat' (first | apply sw_nil | apply cw_seq | apply cw_reg | refine sy_move (h:=?_) | refine sy_assign (h:=?_) | refine sy_nilCheck (h:=?_) | refine sy_fld (h:=?_) | refine sy_ld (h:=?_) | refine sy_lss (h:=?_) | apply cw_skip | apply cw_block | apply cw_exit | (refine cw_cond (ht:=?_) (hf:=?_);all_goals (intro hx_;first | have := of_decide_eq_true hx_ | have := of_decide_eq_false hx_)))
  · have hlt : k < L.length := by omega
    have hsp' := hsp (by omega)
    obtain ⟨a,ha⟩ : ∃ a,L[k]? = some a := ⟨_,List.getElem?_eq_getElem hlt⟩
    have ham := List.mem_of_getElem? ha
    repeat' (first | apply sw_nil | apply cw_seq | apply cw_reg | refine sy_fld (h:=?_) | refine sy_ld (h:=?_) | refine sw_alloc (h:=fun _ => ?_) | refine sw_stAll (h:=?_) | (refine sy_idxX (q:=k * 20) (h:=?_)) | (refine sy_ldXs (cs:=a.cells) (hF:=fun w h => Acts.get (hw1 w h.2) ha) (h:=?_)) | (refine sy_build (cs:=[.int .i64 a.seq,.string a.prev]) (hf:=by rfl) (h:=?_)) | fail)
    rename_i b7 b8
    obtain ⟨rest,hp1,hp2,hp3⟩ := grp_perm grpR G ((a.seq,a.prev) : PosK)
    obtain ⟨l,hl⟩ : ∃ l,grpL (dget G ((a.seq,a.prev) : PosK)) = l := ⟨_,rfl⟩
    have hns : (grpS (dget G ((a.seq,a.prev) : PosK))).n = l.length := by
      rw [← hl]
      cases hd : dget G ((a.seq,a.prev) : PosK) with
      | none => rfl
      | some g => exact hG.len _ g hd
    have hll : l.length ≤ 100000 := by
      rw [← hl,hG.all]
      have h1 := List.length_filter_le (fun x : ActD => decide (x.seq = a.seq) && seqB x.prev a.prev) (L.take k)
      rw [List.length_take] at h1
      exact Nat.le_trans h1 (by omega)
    have hof : (dget (G.map fun g => (g.1,g.2.s.v)) ((a.seq,a.prev) : PosK)).getD (.slice none 0 0) = (grpS (dget G ((a.seq,a.prev) : PosK))).v := by
      rw [dget_map (fun g : Grp => g.s.v)]
      cases dget G ((a.seq,a.prev) : PosK) <;> rfl
    have hst := fun (s' : SlV) (h : s'.n = l.length + 1) => hG.step a s' (by rw [hl];exact h)
    rw [hl] at hst
    obtain ⟨⟨A,n,c⟩,hs⟩ : ∃ s',grpS (dget G ((a.seq,a.prev) : PosK)) = s' := ⟨_,rfl⟩
    rw [hs] at hns hof
    simp only at hns
    refine cw_grp (k:=((a.seq,a.prev) : PosK)) (rest:=rest) [cel b8 149 [.int .i64 a.seq,.string a.prev],cel b7 46 a.cells,cel b 146 (bldC (bldH0 ks ki W.id q1 q2) ⟨none,0,0⟩ ⟨none,0,0⟩ ⟨#[]⟩ ((0 : Nat) : Int)),mapr q2 ([] : List (ByteArray × Value)),smapr Tryz.prog 149 q1 (G.map fun g => (g.1,g.2.s.v)),cel b4 39 (chZ ⟨#[]⟩)] hp2 hp3 ?_
    rw [hs,hl]
    unfold actR
    simp only [List.cons_append,List.nil_append]
    (refine cw_draw [cel b8 149 [.int .i64 a.seq,.string a.prev],cel b7 46 a.cells,cel b 146 (bldC (bldH0 ks ki W.id q1 q2) ⟨none,0,0⟩ ⟨none,0,0⟩ ⟨#[]⟩ ((0 : Nat) : Int))] (fun w => (Y w ∧ Glob w) ∧ X1 w) (by kernel_rfl) ?_)
    all_goals (refine aw_take 0 (hsub:=by (exact fun _ h => h.drop (by ((repeat (first | exact List.nil_sublist _ | with_reducible apply List.Sublist.cons_cons | apply List.Sublist.cons));done)))) (h:=?_))
    all_goals (refine aw_take 1 (hsub:=by (exact fun _ h => h.drop (by ((repeat (first | exact List.nil_sublist _ | with_reducible apply List.Sublist.cons_cons | apply List.Sublist.cons));done)))) (h:=?_))
    all_goals (refine aw_take 2 (hsub:=by (exact fun _ h => h.drop (by ((repeat (first | exact List.nil_sublist _ | with_reducible apply List.Sublist.cons_cons | apply List.Sublist.cons));done)))) (h:=?_))
    all_goals (refine aw_take 3 (hsub:=by (exact fun _ h => h.drop (by ((repeat (first | exact List.nil_sublist _ | with_reducible apply List.Sublist.cons_cons | apply List.Sublist.cons));done)))) (h:=?_))
    all_goals (refine aw_take 4 (hsub:=by (exact fun _ h => h.drop (by ((repeat (first | exact List.nil_sublist _ | with_reducible apply List.Sublist.cons_cons | apply List.Sublist.cons));done)))) (h:=?_))
    all_goals (refine aw_take 5 (hsub:=by (exact fun _ h => h.drop (by ((repeat (first | exact List.nil_sublist _ | with_reducible apply List.Sublist.cons_cons | apply List.Sublist.cons));done)))) (h:=?_))
    all_goals (refine aw_step 6 (h:=?_);(refine sw_bslS (size:=20) (vs:=[a.v]) (css:=a.cells) (hsz:=by rfl) (hcs:=by rfl) (h:=fun _ => ?_));apply sw_nil;refine aw_fin (hsub:=by (exact fun _ h => h.drop (by ((repeat (first | exact List.nil_sublist _ | with_reducible apply List.Sublist.cons_cons | apply List.Sublist.cons));done)))) (h:=?_))
    all_goals (refine aw_step 7 (h:=?_);(refine sw_mapEntryS (κ:=PosK) (kk:=((a.seq,a.prev) : PosK)) (z:=.slice none 0 0) (u:=.slice A n c) rfl rfl rfl hof (fun _ => At.there _ (At.there _ (At.there _ (At.there _ (At.there _ (At.there _ (At.here _))))))) rfl rfl rfl (fun _ => ?_));apply sw_nil;refine aw_fin (hsub:=by (exact fun _ h => h.drop (by ((repeat (first | exact List.nil_sublist _ | with_reducible apply List.Sublist.cons_cons | apply List.Sublist.cons));done)))) (h:=?_))
    all_goals (refine aw_take 8 (hsub:=by (exact fun _ h => h.drop (by ((repeat (first | exact List.nil_sublist _ | with_reducible apply List.Sublist.cons_cons | apply List.Sublist.cons));done)))) (h:=?_))
    all_goals (refine aw_take 10 (hsub:=by (exact fun _ h => h.drop (by ((repeat (first | exact List.nil_sublist _ | with_reducible apply List.Sublist.cons_cons | apply List.Sublist.cons));done)))) (h:=?_))
    all_goals (refine aw_step 9 (h:=?_);(refine sw_append (size:=20) (news:=a.cells) (q:=1) rfl rfl rfl rfl (fun _ => At.there _ (At.here _)) (fun w G => src_cel G List.mem_cons_self rfl rfl 1) (by omega) (by simp only [maxLen];omega) rfl ?_ rfl ?_;(with_reducible rfl);intro A2 c2);apply sw_nil;refine aw_fin (hsub:=by (exact fun _ h => h.drop (by ((repeat (first | exact List.nil_sublist _ | with_reducible apply List.Sublist.cons_cons | apply List.Sublist.cons));done)))) (h:=?_))
    all_goals (refine aw_step 11 (h:=?_);(refine sw_entryStoreS (κ:=PosK) (kk:=((a.seq,a.prev) : PosK)) rfl rfl rfl (At.there _ (At.there _ (At.there _ (At.there _ (At.there _ (At.there _ (At.here _))))))) rfl rfl rfl ?_);apply sw_nil;refine aw_fin (hsub:=by (exact fun _ h => h.drop (by ((repeat (first | exact List.nil_sublist _ | with_reducible apply List.Sublist.cons_cons | apply List.Sublist.cons));done)))) (h:=?_))
    all_goals (refine aw_done (h:=?_))
    all_goals
      have hmp : dput (dput (G.map fun g => (g.1,g.2.s.v)) ((a.seq,a.prev) : PosK) (.slice A n c)) ((a.seq,a.prev) : PosK) (.slice A2 (n + 1) c2) = (dput G ((a.seq,a.prev) : PosK) ⟨⟨A2,n + 1,c2⟩,l ++ [a]⟩).map (fun g => (g.1,g.2.s.v)) := by
        rw [dput_dput]
        exact (dput_map (fun g : Grp => g.s.v) G ((a.seq,a.prev) : PosK) ⟨⟨A2,n + 1,c2⟩,l ++ [a]⟩).symm
      have hfl : ((l ++ [a]).map ActD.cells).flatten = (l.map ActD.cells).flatten ++ a.cells := by simp
      rw [hmp, ← hfl]
      refine cw_permJ (permG (C:=[cel b8 149 [.int .i64 a.seq,.string a.prev],cel b7 46 a.cells,cel b 146 (bldC (bldH0 ks ki W.id q1 q2) ⟨none,0,0⟩ ⟨none,0,0⟩ ⟨#[]⟩ ((0 : Nat) : Int)),mapr q2 ([] : List (ByteArray × Value)),smapr Tryz.prog 149 q1 ((dput G ((a.seq,a.prev) : PosK) ⟨⟨A2,n + 1,c2⟩,l ++ [a]⟩).map (fun g => (g.1,g.2.s.v))),cel b4 39 (chZ ⟨#[]⟩)]) (hp1 ⟨⟨A2,n + 1,c2⟩,l ++ [a]⟩)) ?_
      repeat' (first | apply sw_nil | apply cw_reg | refine sy_move (h:=?_) | refine sy_add (h:=?_) | fail)
      exact ⟨(⟨k + 1,hlt,dput G ((a.seq,a.prev) : PosK) ⟨⟨A2,n + 1,c2⟩,l ++ [a]⟩,by rw [List.take_add_one,ha];exact hst _ (by show n + 1 = _;rw [hns])⟩ : GroI L),(by show L.length - (k + 1) < L.length - k;omega),ok_sub ⟨rfl,rfl,rfl,rfl,rfl,rfl,trivial⟩ (.cons _ (.cons _ (.cons _ (List.Sublist.refl _)))) fun w h => h⟩
  have hkE : k = L.length := by omega
  rw [hkE,List.take_length] at hG
  refine sw_perm permH ?_
  refine sw_giveL _ ?_
  refine sw_imp (X':=fun w => (Y w ∧ Glob w) ∧ (NextD q1 (G.map fun g => (g.1,g.2.s)) L w ∧ ∀ a ∈ L,a.at_ w)) (fun w h => ⟨h.1.1,next_of hG (h.2 _ (.head _)) (fun r hr => h.2 r (.tail _ hr)) (hw1 w h.1.2).2,(hw1 w h.1.2).2⟩) ?_
  clear hsp hsn hk
  obtain ⟨M,hM⟩ : ∃ M,actsFor L ((0 : Int),⟨#[]⟩) = M := ⟨_,rfl⟩
  have hfl : firstL (W.at L) = M.filter (firstB (W.at L)) := by rw [← hM];rfl
  have hMm : ∀ a ∈ M,a ∈ L := fun a ha => by rw [← hM] at ha;exact (List.mem_filter.1 ha).1
  have hMl : M.length ≤ L.length := by rw [← hM];exact List.length_filter_le _ _
  obtain ⟨G',hG'⟩ : ∃ G',(G.map fun g => (g.1,g.2.s)) = G' := ⟨_,rfl⟩
  rw [hG']
  obtain ⟨s0,hs0⟩ : ∃ s0,(dget G' ((0 : Int),⟨#[]⟩)).getD ⟨none,0,0⟩ = s0 := ⟨_,rfl⟩
  have hgl : ∃ o,dget (G'.map fun g => (g.1,g.2.v)) ((0 : Int),⟨#[]⟩) = o ∧ o.getD (.slice none 0 0) = s0.v := by
    refine ⟨_,rfl, ?_⟩
    rw [dget_map, ← hs0]
    cases dget G' ((0 : Int),⟨#[]⟩) <;> rfl
  obtain ⟨o,ho,hov⟩ := hgl
  have hro : ∀ w,((Y w ∧ Glob w) ∧ (NextD q1 G' L w ∧ ∀ a ∈ L,a.at_ w)) → Acts w s0 M := fun w h => by
    have h1 := h.2.1.rows ((0 : Int),⟨#[]⟩)
    rwa [hs0,hM] at h1
  repeat' (first | apply sw_nil | refine sy_move (h:=?_) | refine sy_len (h:=?_) | apply cw_block | (refine sy_build (cs:=[.int .i64 0,.string ⟨#[]⟩]) (hf:=by rfl) (h:=?_)) | (refine sw_yield (y_lookupS (κ:=PosK) (kk:=((0 : Int),⟨#[]⟩)) (z:=.slice none 0 0) (o:=o) (v:=s0.v) rfl rfl (smap_ext fun w h => h.2.1.map) ho hov) rfl rfl rfl ?_) | fail)
  refine cw_know (p:=s0.n = M.length ∧ s0.n ≤ maxLen ∧ (0 < M.length → s0.p.isSome = true)) (fun w h => ⟨(hro w h).len_,(hro w h).max_,(hro w h).some_⟩) fun ⟨hsn,hsm,hsp⟩ => ?_
  simp only [maxLen] at hsm
  refine cw_nilRow 46 20 ?_
  refine cw_loop (ι:=CanI M (firstB (W.at L))) (fun i => ⟨[(1,.string W.id),(4,.pointer (some ⟨b4,0,none⟩)),(5,.pointer (some ⟨b,0,none⟩)),(9,.slice i.A i.n i.c),(49,s0.v),(50,.int .i64 (s0.n : Nat)),(51,.int .i64 (i.k : Nat))], [orow 46 20 (.slice i.A i.n i.c) i.n i.xs,cel b 146 (bldC (bldH0 ks ki W.id q1 q2) ⟨none,0,0⟩ ⟨none,0,0⟩ ⟨#[]⟩ ((0 : Nat) : Int)),mapr q2 ([] : List (ByteArray × Value)),cel b4 39 (chZ ⟨#[]⟩)],fun w => (Y w ∧ Glob w) ∧ (NextD q1 G' L w ∧ ∀ a ∈ L,a.at_ w)⟩) (fun i => M.length - i.k) ⟨0,Nat.zero_le _,none,0,0,rfl, [],rfl⟩ (ok_sub ⟨rfl,rfl,rfl,rfl,rfl,rfl,rfl,trivial⟩ (List.Sublist.refl _) fun _ h => h) fun i => ?_
  clear hkE this
  obtain ⟨k,hk',A,cc,n,hn',xs,hxs⟩ := i
  simp only
  have hnl : n ≤ 100000 := by have h1 := List.length_filter_le (firstB (W.at L)) (M.take k);rw [← hn',List.length_take] at h1;omega
  repeat' (first | apply sw_nil | apply cw_seq | apply cw_reg | refine sy_move (h:=?_) | refine sy_nilCheck (h:=?_) | refine sy_fld (h:=?_) | refine sy_neq (h:=?_) | refine sy_lss (h:=?_) | refine sy_gtr (h:=?_) | refine sy_len (h:=?_) | refine sw_st1 (h:=?_) | apply cw_skip | apply cw_block | apply cw_exit | (refine cw_cond (ht:=?_) (hf:=?_);all_goals (intro hx_;first | have := of_decide_eq_true hx_ | have := of_decide_eq_false hx_ | skip)))
  · have hlt : k < M.length := by omega
    have hsp' := hsp (by omega)
    obtain ⟨a,ha⟩ : ∃ a,M[k]? = some a := ⟨_,List.getElem?_eq_getElem hlt⟩
    have ham : a ∈ M := List.mem_of_getElem? ha
    have hamL := hMm a ham
    have hnn : a.n < 9223372036854775808 := (hok.rng a hamL).ints.2.2.2.2.2.1
    have hv := H.ver L hPL a hamL a.n
    have htk : ((M.take (k + 1)).filter (firstB (W.at L))) = (M.take k).filter (firstB (W.at L)) ++ (bif firstB (W.at L) a then [a] else []) := by
      rw [List.take_add_one,ha,List.filter_append,Option.toList_some]
      congr 1
    have hfb : firstB (W.at L) a = (decide (a.kind = 0) && seqB (idV a.n) W.id && W.ver a.n a) := rfl
    by_cases h0 : a.kind = 0
    · cases hid : seqB (idV a.n) W.id with
      | false =>
        have hno : (M.take (k + 1)).filter (firstB (W.at L)) = (M.take k).filter (firstB (W.at L)) := by simp [htk,hfb,hid]
        repeat' (first | refine sy_eqlT (hab:=h0) (h:=?_) | refine sw_yield (y_seqlW _ rfl rfl hid) rfl (by (with_reducible rfl)) rfl ?_ | apply sw_nil | apply cw_seq | apply cw_reg | refine sy_move (h:=?_) | refine sy_fld (h:=?_) | refine sy_ld (h:=?_) | refine sy_pick_t (h:=?_) | refine sy_pick_f (h:=?_) | refine sy_add (h:=?_) | refine sw_skipT (h:=?_) | refine sw_alloc (h:=fun _ => ?_) | refine sw_stAll (h:=?_) | refine cw_cond_f (hf:=?_) | apply cw_skip | (refine sy_idxX (q:=k * 20) (h:=?_)) | (refine sy_ldXs (cs:=a.cells) (hF:=fun w h => Acts.get (hro w h) ha) (h:=?_)) | (refine sw_pu (hc:=identOf_pu a.n hnn) (hX:=fun w h => h.1.2) (h:=?_)) | fail)
        exact ⟨(⟨k + 1,hlt,A,cc,n,by rw [hno];exact hn',xs,by rw [hno];exact hxs⟩ : CanI M (firstB (W.at L))),(by show M.length - (k + 1) < M.length - k;omega),ok_sub ⟨rfl,rfl,rfl,rfl,rfl,rfl,rfl,trivial⟩ (List.Sublist.cons _ (List.Sublist.refl _)) fun _ h => h⟩
      | true =>
        cases hve : W.ver a.n a with
        | false =>
          rw [hve] at hv
          have hno : (M.take (k + 1)).filter (firstB (W.at L)) = (M.take k).filter (firstB (W.at L)) := by simp [htk,hfb,hve]
          repeat' (first | refine sy_eqlT (hab:=h0) (h:=?_) | refine sw_yield (y_seqlW _ rfl rfl hid) rfl (by (with_reducible rfl)) rfl ?_ | apply sw_nil | apply cw_seq | apply cw_reg | refine sy_move (h:=?_) | refine sy_fld (h:=?_) | refine sy_ld (h:=?_) | refine sy_ldAll (h:=?_) | refine sy_pick_t (h:=?_) | refine sy_add (h:=?_) | refine sw_alloc (h:=fun _ => ?_) | refine sw_stAll (h:=?_) | refine cw_cond_f (hf:=?_) | apply cw_skip | (refine sy_idxX (q:=k * 20) (h:=?_)) | (refine sy_ldXs (cs:=a.cells) (hF:=fun w h => Acts.get (hro w h) ha) (h:=?_)) | (refine sw_pu (hc:=identOf_pu a.n hnn) (hX:=fun w h => h.1.2) (h:=?_)) | (refine sw_pu (hc:=hv) (hX:=fun w h => ⟨h.2.2 a hamL,h.1.2⟩) (h:=?_)) | fail)
          exact ⟨(⟨k + 1,hlt,A,cc,n,by rw [hno];exact hn',xs,by rw [hno];exact hxs⟩ : CanI M (firstB (W.at L))),(by show M.length - (k + 1) < M.length - k;omega),ok_sub ⟨rfl,rfl,rfl,rfl,rfl,rfl,rfl,trivial⟩ (List.Sublist.cons _ (List.Sublist.refl _)) fun _ h => h⟩
        | true =>
          rw [hve] at hv
          have hyes : (M.take (k + 1)).filter (firstB (W.at L)) = (M.take k).filter (firstB (W.at L)) ++ [a] := by rw [htk,hfb,hid,hve,decide_eq_true h0];rfl
          repeat' (first | refine sw_bslS (size:=20) (vs:=[a.v]) (css:=a.cells) (hsz:=by rfl) (hcs:=by rfl) (h:=fun _ => ?_) | refine sy_eqlT (hab:=h0) (h:=?_) | refine sw_yield (y_seqlW _ rfl rfl hid) rfl (by (with_reducible rfl)) rfl ?_ | apply sw_nil | apply cw_seq | apply cw_reg | refine sy_move (h:=?_) | refine sy_fld (h:=?_) | refine sy_ld (h:=?_) | refine sy_ldAll (h:=?_) | refine sy_pick_t (h:=?_) | refine sw_alloc (h:=fun _ => ?_) | refine sw_stAll (h:=?_) | refine cw_cond_t (ht:=?_) | (refine sy_idxX (q:=k * 20) (h:=?_)) | (refine sy_ldXs (cs:=a.cells) (hF:=fun w h => Acts.get (hro w h) ha) (h:=?_)) | (refine sw_pu (hc:=identOf_pu a.n hnn) (hX:=fun w h => h.1.2) (h:=?_)) | (refine sw_pu (hc:=hv) (hX:=fun w h => ⟨h.2.2 a hamL,h.1.2⟩) (h:=?_)) | fail)
          refine sw_append (size:=20) (news:=a.cells) (q:=1) rfl rfl rfl rfl (fun _ => At.there _ (At.there _ (At.here _))) (fun w G => src_cel G List.mem_cons_self rfl rfl 1) (by omega) (by simp only [maxLen];omega) rfl ?_ rfl ?_
          · (with_reducible rfl)
          intro A2 c2
          repeat' (first | apply sw_nil | apply cw_reg | refine sy_move (h:=?_) | refine sy_assign (h:=?_) | refine sy_add (h:=?_) | fail)
          exact ⟨(⟨k + 1,hlt,A2,c2,n + 1,by rw [hyes,List.length_append, ← hn'];rfl,xs ++ a.cells,by rw [hyes,hxs];simp⟩ : CanI M (firstB (W.at L))),(by show M.length - (k + 1) < M.length - k;omega),ok_sub ⟨rfl,rfl,rfl,rfl,rfl,rfl,rfl,trivial⟩ (List.Sublist.cons _ (List.Sublist.cons _ (List.Sublist.refl _))) fun _ h => h⟩
    · have hno : (M.take (k + 1)).filter (firstB (W.at L)) = (M.take k).filter (firstB (W.at L)) := by simp [htk,hfb,h0]
      repeat' (first | refine sy_eqlF (hab:=h0) (h:=?_) | apply sw_nil | apply cw_seq | apply cw_reg | refine sy_move (h:=?_) | refine sy_fld (h:=?_) | refine sy_ld (h:=?_) | refine sy_pick_f (h:=?_) | refine sy_add (h:=?_) | refine sw_skipT (h:=?_) | refine sw_alloc (h:=fun _ => ?_) | refine sw_stAll (h:=?_) | refine cw_cond_f (hf:=?_) | apply cw_skip | (refine sy_idxX (q:=k * 20) (h:=?_)) | (refine sy_ldXs (cs:=a.cells) (hF:=fun w h => Acts.get (hro w h) ha) (h:=?_)) | fail)
      exact ⟨(⟨k + 1,hlt,A,cc,n,by rw [hno];exact hn',xs,by rw [hno];exact hxs⟩ : CanI M (firstB (W.at L))),(by show M.length - (k + 1) < M.length - k;omega),ok_sub ⟨rfl,rfl,rfl,rfl,rfl,rfl,rfl,trivial⟩ (List.Sublist.cons _ (List.Sublist.refl _)) fun _ h => h⟩
  have hkE : k = M.length := by omega
  have hfin : firstL (W.at L) = (M.take k).filter (firstB (W.at L)) := by rw [hfl,hkE,List.take_length]
  have hnc : n = (firstL (W.at L)).length := by rw [hfin];exact hn'
  · have hn1 : n ≠ 1 := by
      intro e
      rw [e] at hx_
      exact absurd hx_ (by decide)
    have hone : oneA (firstL (W.at L)) = none := oneA_none (by omega)
    have hdc : decide ((1 : Int) < (n : Int)) = decide (1 < (firstL (W.at L)).length) := by
      rw [← hnc]
      by_cases h1 : 1 < n
      · rw [decide_eq_true h1,decide_eq_true (by omega)]
      · rw [decide_eq_false h1,decide_eq_false (by omega)]
    repeat' (first | apply sw_nil | refine sw_stAll (h:=?_) | apply cw_ret | (refine sy_ldSub (vs:=[.string W.id,.slice none 0 0,.slice none 0 0,.string ⟨#[]⟩,.int .i64 0,.bool (decide ((1 : Int) < (n : Int)))]) (hv:=rfl) (h:=?_)) | fail)
    exact ends_ret (res_cell rfl rfl (by (repeat (first | exact List.mem_cons_self | apply List.mem_cons_of_mem))) (by rfl)) ⟨L,⟨none,0,0⟩,⟨none,0,0⟩,⟨[], [],⟨#[]⟩,0⟩,decide ((1 : Int) < (n : Int)),hPL,(by rw [OfRes,hone];exact ⟨rfl,hdc⟩),rfl,fun w h => ⟨⟨rowsD_nil w 20,fun a h => by cases h⟩,rowsD_nil w 3⟩⟩
  have hkE : k = M.length := by omega
  have hfin : firstL (W.at L) = (M.take k).filter (firstB (W.at L)) := by rw [hfl,hkE,List.take_length]
  have hnc : n = (firstL (W.at L)).length := by rw [hfin];exact hn'
  have hn1 : n = 1 := by
    by_cases e : n = 1
    · exact e
    · exact absurd hx_ (by simp;omega)
  obtain ⟨a,ha⟩ : ∃ a,firstL (W.at L) = [a] := List.length_eq_one_iff.1 (by omega)
  have ham : a ∈ firstL (W.at L) := by rw [ha];exact List.mem_singleton.2 rfl
  have hamL : a ∈ L := hMm a (by rw [hfl] at ham;exact (List.mem_filter.1 ham).1)
  have hxa : xs = a.cells := by rw [hxs, ← hfin,ha];simp
  subst hxa
  subst hn1
  refine cw_knowR (r:=orow 46 20 (.slice A 1 cc) 1 a.cells) (by (repeat (exact List.mem_cons_self))) (p:=A.isSome = true) (fun w h => orow_some h (by decide)) fun hAp => ?_
  have hcr : orow 46 20 (.slice A 1 cc) 1 a.cells ∈ [orow 46 20 (.slice A 1 cc) 1 a.cells] := .head _
  (refine cw_draw [orow 46 20 (.slice A 1 cc) 1 a.cells] (fun w => (Y w ∧ Glob w) ∧ (NextD q1 G' L w ∧ ∀ a ∈ L,a.at_ w)) (by kernel_rfl) ?_)
  all_goals (refine aw_take 0 (hsub:=by (exact fun _ h => h.drop (by ((repeat (first | exact List.nil_sublist _ | with_reducible apply List.Sublist.cons_cons));done)))) (h:=?_))
  all_goals (refine aw_take 1 (hsub:=by (exact fun _ h => h.drop (by ((repeat (first | exact List.nil_sublist _ | with_reducible apply List.Sublist.cons_cons));done)))) (h:=?_))
  all_goals (refine aw_take 2 (hsub:=by (exact fun _ h => h.drop (by ((repeat (first | exact List.nil_sublist _ | with_reducible apply List.Sublist.cons_cons));done)))) (hy:=by (apply y_idxX (q:=0);rfl;rfl;omega;omega;assumption;rfl)) (h:=?_))
  all_goals (refine aw_take 3 (hsub:=by (exact fun _ h => h.drop (by ((repeat (first | exact List.nil_sublist _ | with_reducible apply List.Sublist.cons_cons));done)))) (hy:=by (apply y_fldX;rfl;assumption;rfl)) (h:=?_))
  all_goals (refine aw_take 4 (hsub:=by (exact fun _ h => h.drop (by ((repeat (first | exact List.nil_sublist _ | with_reducible apply List.Sublist.cons_cons));done)))) (hy:=by (apply y_ldO1' (size:=20) (i:=0) (j:=16) (xs:=[a.cells]) (cs:=a.cells) (u:=.int .i64 a.n);rfl;exact .head _;rfl;exact (fun r hr => by rw [List.mem_singleton.1 hr];rfl);rfl;rfl)) (h:=?_))
  all_goals (refine aw_take 5 (hsub:=by (exact fun _ h => h.drop (by ((repeat (first | exact List.nil_sublist _ | with_reducible apply List.Sublist.cons_cons));done)))) (h:=?_))
  all_goals (refine aw_take 6 (hsub:=by (exact fun _ h => h.drop (by ((repeat (first | exact List.nil_sublist _ | with_reducible apply List.Sublist.cons_cons));done)))) (hy:=by (apply y_idxX (q:=0);rfl;rfl;omega;omega;assumption;rfl)) (h:=?_))
  all_goals (refine aw_take 7 (hsub:=by (exact fun _ h => h.drop (by ((repeat (first | exact List.nil_sublist _ | with_reducible apply List.Sublist.cons_cons));done)))) (hy:=by (apply y_fldX;rfl;assumption;rfl)) (h:=?_))
  all_goals (refine aw_take 8 (hsub:=by (exact fun _ h => h.drop (by ((repeat (first | exact List.nil_sublist _ | with_reducible apply List.Sublist.cons_cons));done)))) (hy:=by (apply y_ldO1' (size:=20) (i:=0) (j:=17) (xs:=[a.cells]) (cs:=a.cells) (u:=.int .i64 a.m);rfl;exact .head _;rfl;exact (fun r hr => by rw [List.mem_singleton.1 hr];rfl);rfl;rfl)) (h:=?_))
  all_goals (refine aw_take 9 (hsub:=by (exact fun _ h => h.drop (by ((repeat (first | exact List.nil_sublist _ | with_reducible apply List.Sublist.cons_cons));done)))) (hy:=by (apply y_build (cs:=KeyD.cells ⟨0,a.n,a.m⟩);rfl;rfl)) (h:=?_))
  all_goals (refine aw_step 10 (h:=?_);(refine sw_bslS (size:=3) (vs:=[KeyD.v ⟨0,a.n,a.m⟩]) (css:=KeyD.cells ⟨0,a.n,a.m⟩) (hsz:=by rfl) (hcs:=by rfl) (h:=fun bk => ?_));apply sw_nil;refine aw_fin (hsub:=by (exact fun _ h => h.drop (by ((repeat (first | exact List.nil_sublist _ | with_reducible apply List.Sublist.cons_cons | apply List.Sublist.cons));done)))) (h:=?_))
  all_goals (refine aw_take 11 (hsub:=by (exact fun _ h => h.drop (by ((repeat (first | exact List.nil_sublist _ | with_reducible apply List.Sublist.cons_cons | apply List.Sublist.cons));done)))) (h:=?_))
  all_goals (refine aw_take 12 (hsub:=by (exact fun _ h => h.drop (by ((repeat (first | exact List.nil_sublist _ | with_reducible apply List.Sublist.cons_cons | apply List.Sublist.cons));done)))) (h:=?_))
  all_goals (refine aw_take 13 (hsub:=by (exact fun _ h => h.drop (by ((repeat (first | exact List.nil_sublist _ | with_reducible apply List.Sublist.cons_cons | apply List.Sublist.cons));done)))) (h:=?_))
  all_goals (refine aw_step 14 (h:=?_);(refine sw_st1 (h:=?_));apply sw_nil;refine aw_fin (hsub:=by (exact fun _ h => h.drop (by ((repeat (first | exact List.nil_sublist _ | with_reducible apply List.Sublist.cons_cons | apply List.Sublist.cons));done)))) (h:=?_))
  all_goals (refine aw_done (h:=?_))
  refine cw_orowJ 3 1 rfl (by decide) ?_
  refine cw_nilRow 46 20 ?_
  refine cw_permJ permK ?_
  have hadd := add_ct b (bldH0 ks ki W.id q1 q2) ⟨none,0,0⟩ ⟨some ⟨bk,0,none⟩,1,1⟩ (⟨[], [⟨0,a.n,a.m⟩],⟨#[]⟩,0⟩ : ChS) [] ⟨rfl,rfl,fun d => rfl⟩ a (hok.rng a hamL) (hok.sm a hamL) (by simp) (by simp)
  repeat' (first | apply cw_seq | apply cw_reg | refine sy_move (h:=?_) | (refine sy_idxX (q:=0) (h:=?_)) | (refine sw_yield (y_ldOs (size:=20) (m:=1) (i:=0) (xs:=[a.cells]) (cs:=a.cells) rfl (.tail _ (.tail _ (.tail _ (.tail _ (.head _))))) rfl (fun r hr => by rw [List.mem_singleton.1 hr];rfl) rfl) rfl rfl rfl ?_) | fail)
  refine sw_fn (pre:=bldR b (bldH0 ks ki W.id q1 q2) ⟨none,0,0⟩ ⟨some ⟨bk,0,none⟩,1,1⟩ (⟨[], [⟨0,a.n,a.m⟩],⟨#[]⟩,0⟩ : ChS) []) (fr:=[orow 46 20 (.slice A 1 cc) 1 a.cells,cel b4 39 (chZ ⟨#[]⟩)]) (first:=#[]) (caps:=#[]) (hc:=hadd) (hX:=fun w h => ⟨h.2.2 a hamL,h.1.2⟩) (h:=?_)
  rintro v R X' ⟨rfl,sa,sk,pl,ok,rfl⟩
  refine sw_imp (X':=fun w => (Y w ∧ Glob w) ∧ (NextD q1 G' L w ∧ ∀ a ∈ L,a.at_ w)) (fun w h => h.1) ?_
  repeat' (first | apply sw_nil | apply cw_seq | apply cw_reg | refine sy_move (h:=?_) | fail)
  have hlook := look_ct b (bldH0 ks ki W.id q1 q2) sa sk (begS a) (W.won 0) (fun w => Y w ∧ Glob w) (H.won 0 (Nat.zero_le _))
  refine sw_fn (pre:=[bldCel b (bldH0 ks ki W.id q1 q2) sa sk (begS a)]) (fr:=[actR sa (begS a).acts,keyR sk (begS a).keys,mapr q2 pl,orow 46 20 (.slice A 1 cc) 1 a.cells,cel b4 39 (chZ ⟨#[]⟩)]) (first:=#[]) (caps:=#[]) (hc:=hlook) (hX:=fun w h => h.1) (h:=?_)
  rintro v R X' ⟨rfl,rfl⟩
  repeat' (first | apply sw_nil | apply cw_seq | apply cw_block | fail)
  have hbI := beg_inv ham
  refine cw_loop (ι:=RunI (W.at L) a) (fun i => ⟨[(4,.pointer (some ⟨b4,0,none⟩)),(5,.pointer (some ⟨b,0,none⟩))],bldR b ((bldH0 ks ki W.id q1 q2).look (W.won i.st.gen)) i.sa i.sk i.st i.pl ++ [cel b4 39 (chZ ⟨#[]⟩)],fun w => (Y w ∧ Glob w) ∧ (NextD q1 G' L w ∧ ∀ a ∈ L,a.at_ w)⟩) (fun i => muS (W.at L) i.st) ⟨begS a,sa,sk,pl,ok,hbI.1,L.length + W.B,Nat.le_of_succ_le hbI.2,rfl⟩ (ok_sub ⟨rfl,rfl,trivial⟩ (.cons_cons _ (.cons_cons _ (.cons_cons _ (.cons_cons _ (.cons _ (List.Sublist.refl _)))))) fun w h => h.1) fun i => ?_
  clear ok hlook hadd
  obtain ⟨st,sa2,sk2,pl2,ok2,inv,j,hj,hr⟩ := i
  simp only
  have hlen := inv.len
  have hlen' : st.acts.length ≤ L.length := hlen
  have hkn := inv.keyn
  have hgn : st.gen ≤ W.B := inv.gen
  have hbB := H.bB
  have hreg := regained_ct H L b q1 q2 sa2 sk2 st pl2 ok2 (by omega) (by omega)
  repeat' (first | apply cw_seq | apply cw_reg | refine sy_move (h:=?_) | fail)
  refine sw_fn (pre:=bldR b ((bldH0 ks ki W.id q1 q2).look (W.won st.gen)) sa2 sk2 st pl2) (fr:=[cel b4 39 (chZ ⟨#[]⟩)]) (first:=#[]) (caps:=#[]) (hc:=hreg) (hX:=fun w h => h.1) (h:=?_)
  rintro v R X' ⟨h1,h2⟩
  refine sw_imp (X':=fun w => (Y w ∧ Glob w) ∧ (NextD q1 G' L w ∧ ∀ a ∈ L,a.at_ w)) (fun w h => h.1) ?_
  cases hrg : regS (W.at L) st with
  | some s1 =>
    obtain ⟨rfl,sa3,sk3,pl3,ok3,rfl⟩ := h1 s1 hrg
    have hstep : stepS (W.at L) st = some s1 := by rw [stepS,hrg]
    obtain ⟨n1,n2,n3,n4⟩ := RunI.next (W:=W.at L) H.bnd inv hj hr hstep
    repeat' (first | apply sw_nil | refine sy_move (h:=?_) | refine sy_pick_t (h:=?_) | refine sw_skipF (h:=?_) | refine cw_cond_t (ht:=?_) | apply cw_skip | apply cw_block | fail)
    exact ⟨(⟨s1,sa3,sk3,pl3,ok3,n1,j - 1,n3,n4⟩ : RunI (W.at L) a),n2,ok_sub ⟨rfl,rfl,trivial⟩ (List.Sublist.refl _) fun w h => h⟩
  | none =>
    obtain ⟨rfl,sa3,sk3,pl3,ok3,rfl⟩ := h2 hrg
    have hct := continued_ct b ((bldH0 ks ki W.id q1 q2).look (W.won st.gen)) sa3 sk3 st pl3 ok3 (W.at L) G' inv rfl hok hL H.bB (H.ver L hPL)
    repeat' (first | refine sy_move (h:=?_) | fail)
    refine sw_fn (pre:=bldR b ((bldH0 ks ki W.id q1 q2).look (W.won st.gen)) sa3 sk3 st pl3) (fr:=[cel b4 39 (chZ ⟨#[]⟩)]) (first:=#[]) (caps:=#[]) (hc:=hct) (hX:=fun w h => ⟨h.2,h.1.2⟩) (h:=?_)
    rintro v R X' ⟨g1,g2⟩
    refine sw_imp (X':=fun w => (Y w ∧ Glob w) ∧ (NextD q1 G' L w ∧ ∀ a ∈ L,a.at_ w)) (fun w h => h.1) ?_
    cases ho2 : oneA (candL (W.at L) st) with
    | some a2 =>
      obtain ⟨rfl,sa4,sk4,pl4,ok4,rfl⟩ := g1 a2 ho2
      have hstep : stepS (W.at L) st = some (addS st a2) := by rw [stepS,hrg,ho2];rfl
      obtain ⟨n1,n2,n3,n4⟩ := RunI.next (W:=W.at L) H.bnd inv hj hr hstep
      repeat' (first | apply sw_nil | refine sy_pick_f (h:=?_) | refine cw_cond_t (ht:=?_) | apply cw_skip | apply cw_block | fail)
      exact ⟨(⟨addS st a2,sa4,sk4,pl4,ok4,n1,j - 1,n3,n4⟩ : RunI (W.at L) a),n2,ok_sub ⟨rfl,rfl,trivial⟩ (List.Sublist.refl _) fun w h => h⟩
    | none =>
      obtain ⟨rfl,sa4,sk4,pl4,ok4,rfl⟩ := g2 ho2
      have hstep : stepS (W.at L) st = none := by rw [stepS,hrg,ho2];rfl
      rw [run_stop hstep] at hr
      repeat' (first | apply sw_nil | apply cw_seq | apply cw_reg | refine sy_move (h:=?_) | refine sy_nilCheck (h:=?_) | refine sy_fld (h:=?_) | refine sy_pick_f (h:=?_) | refine sw_stAll (h:=?_) | refine cw_cond_f (hf:=?_) | apply cw_ret | apply cw_exit | (refine sy_ldSub (vs:=[.string W.id,.slice sa4.p sa4.n sa4.c,.slice sk4.p sk4.n sk4.c,.string st.prev,.int .i64 (st.gen : Nat),.bool (decide (1 < (candL (W.at L) st).length))]) (hv:=rfl) (h:=?_)) | fail)
      refine ends_ret (res_cell rfl rfl (by (repeat (first | exact List.mem_cons_self | apply List.mem_cons_of_mem))) (by rfl)) ⟨L,sa4,sk4,st,decide (1 < (candL (W.at L) st).length),hPL, ?_,rfl,fun w h => ⟨?_, ?_⟩⟩
      · rw [OfRes,show oneA (firstL (W.at L)) = some a from by rw [ha];rfl]
        exact ⟨hr,by rw [← hr]⟩
      · exact acts_of_orow (h.2 (actR sa4 st.acts) (.tail _ (.head _))) ok4.hn fun x hx => h.1.2.2 x (inv.mem x hx)
      · exact rows_of_orow (h.2 (keyR sk4 st.keys) (.tail _ (.tail _ (.head _)))) (by rw [List.length_map];exact ok4.hk) (keys_len3 _)
end Go.Proofs.YtjmpdkmboheknaaGreatDoor

namespace Go.Proofs.YtjmpdkmboheknaaGreatDoor
open Go Go.Proofs Sy
structure FndA where
  rank : Int
  dg : ByteArray
  a : ActD
def FndA.cells (f : FndA) : List Value := .int .i64 f.rank :: .string f.dg :: f.a.cells
def fndR (s : SlV) (P : List FndA) : Res := orow 242 22 (.slice s.p s.n s.c) s.n (P.map FndA.cells).flatten
theorem fnd_len (P : List FndA) : ∀ r ∈ P.map FndA.cells,r.length = 22 := fun r hr => by
  obtain ⟨c,_,rfl⟩ := List.mem_map.1 hr
  rfl
def cmpA : Value := .func (.func 203) #[] #[]
def PermA (s : SlV) (P : List FndA) (u : Value) (R : List Res) (X : World → Prop) : Prop := u = .tuple #[] ∧ ∃ Q : List FndA,Q.Perm P ∧ R = [fndR s Q]
def SortA (n : Nat) : Prop := ∀ (s : SlV) (P : List FndA),s.n = P.length → P.length ≤ n → Ct Tryz.prog 202 #[s.v,cmpA] [fndR s P] (fun _ => True) (PermA s P)
theorem insA_one (s : SlV) (P : List FndA) (hs : s.n = P.length) (h1 : P.length ≤ 1) : Ct Tryz.prog 266 #[s.v,.int .i64 0,.int .i64 (s.n : Nat),cmpA] [fndR s P] (fun _ => True) (PermA s P) := by
  refine ct_of_cw (args:=[_,_,_,_]) _ Tryz.func266 rfl Tryz.ntmps266 rfl fun av bor w0 => ?_
  repeat' (first | apply sw_nil | apply cw_seq | apply cw_reg | refine sy_move (h:=?_) | refine sy_assign (h:=?_) | refine sy_add (h:=?_) | apply cw_block | fail)
  refine cw_loop (ι:=Unit) (fun _ => ⟨[(2,.int .i64 (s.n : Nat)),(8,.int .i64 1)], [fndR s P],fun _ => True⟩) (fun _ => 0) () (ok_sub ⟨rfl,rfl,trivial⟩ (List.Sublist.refl _) fun _ h => h) fun _ => ?_
  repeat' (first | apply sw_nil | apply cw_seq | apply cw_reg | refine sy_move (h:=?_) | refine sy_assign (h:=?_) | refine sy_lss (h:=?_) | apply cw_skip | apply cw_block | apply cw_exit | (refine cw_cond (ht:=?_) (hf:=?_);all_goals (intro hx_;first | have := of_decide_eq_true hx_ | have := of_decide_eq_false hx_)))
  all_goals first
    | (exfalso;omega)
    | exact ends_end (res_none rfl) ⟨rfl,P,List.Perm.refl _,rfl⟩
theorem stabA_one (s : SlV) (P : List FndA) (hs : s.n = P.length) (h1 : P.length ≤ 1) : Ct Tryz.prog 241 #[s.v,.int .i64 (s.n : Nat),cmpA] [fndR s P] (fun _ => True) (PermA s P) := by
  refine ct_of_cw (args:=[_,_,_]) _ Tryz.func241 rfl Tryz.ntmps241 rfl fun av bor w0 => ?_
  repeat' (first | apply sw_nil | apply cw_seq | apply cw_reg | refine sy_move (h:=?_) | refine sy_assign (h:=?_) | apply cw_block | fail)
  refine cw_loop (ι:=Unit) (fun _ => ⟨[(0,s.v),(1,.int .i64 (s.n : Nat)),(2,cmpA),(6,.int .i64 20),(7,.int .i64 0),(8,.int .i64 20)], [fndR s P],fun _ => True⟩) (fun _ => 0) () (ok_sub ⟨rfl,rfl,rfl,rfl,rfl,rfl,trivial⟩ (List.Sublist.refl _) fun _ h => h) fun _ => ?_
  repeat' (first | apply sw_nil | apply cw_seq | apply cw_reg | refine sy_move (h:=?_) | refine sy_leq (h:=?_) | apply cw_skip | apply cw_block | apply cw_exit | (refine cw_cond (ht:=?_) (hf:=?_);all_goals (intro hx_;first | have := of_decide_eq_true hx_ | have := of_decide_eq_false hx_)))
  · exfalso;omega
  refine sw_fn (pre:=[fndR s P]) (fr:=[]) (first:=#[]) (caps:=#[]) (hc:=insA_one s P hs h1) (hX:=fun _ _ => trivial) (h:=?_)
  rintro v R X' ⟨rfl,Q,hQ,rfl⟩
  repeat' (first | apply sw_nil | apply cw_block | fail)
  refine cw_loop (ι:=Unit) (fun _ => ⟨[(1,.int .i64 (s.n : Nat)),(6,.int .i64 20)], [fndR s Q],fun _ => True⟩) (fun _ => 0) () (ok_sub ⟨rfl,rfl,trivial⟩ (List.Sublist.refl _) fun _ h => trivial) fun _ => ?_
  repeat' (first | apply sw_nil | apply cw_seq | apply cw_reg | refine sy_move (h:=?_) | refine sy_assign (h:=?_) | refine sy_lss (h:=?_) | apply cw_skip | apply cw_block | apply cw_exit | refine sy_mul (h:=?_) | (refine cw_cond (ht:=?_) (hf:=?_);all_goals (intro hx_;first | have := of_decide_eq_true hx_ | have := of_decide_eq_false hx_)))
  · exfalso;omega
  exact ends_end (res_none rfl) ⟨rfl,Q,hQ,rfl⟩
theorem sortA_one : SortA 1 := fun s P hs h1 => by
  refine ct_of_cw (args:=[_,_]) _ Tryz.func202 rfl Tryz.ntmps202 rfl fun av bor w0 => ?_
  repeat' (first | apply cw_reg | refine sy_move (h:=?_) | refine sy_len (h:=?_) | fail)
  refine sw_fn (pre:=[fndR s P]) (fr:=[]) (first:=#[]) (caps:=#[]) (hc:=stabA_one s P hs h1) (hX:=fun _ _ => trivial) (h:=?_)
  rintro v R X' ⟨rfl,Q,hQ,rfl⟩
  repeat' (first | apply sw_nil | fail)
  exact ends_end (res_none rfl) ⟨rfl,Q,hQ,rfl⟩
end Go.Proofs.YtjmpdkmboheknaaGreatDoor

namespace Go.Proofs.YtjmpdkmboheknaaGreatDoor
open Go Go.Proofs Sy
theorem res_cellTmp2 {P : Program} {fn : Func} {N t u u2 ty n : Nat} {s : St} {b T : Nat} {cs : List Value} {x y : Value} [hI : TyAgg P ty n] (hr : fn.results = #[.cell t ty,.tmp u,.tmp u2]) (h : Sy.look s.env t = some (.pointer (some ⟨b,0,none⟩))) (h' : Sy.look s.env u = some x) (h2' : Sy.look s.env u2 = some y) (hm : cel b T cs ∈ s.loc) (hn : cs.length = n) :
    Res1 P fn N s (.tuple #[.agg cs.toArray,x,y]) := fun av bor w0 a w ok => by
  obtain ⟨D,h1,h2,h3⟩ := aggSize_spec hI.out
  have ht := ok.env t _ h
  have hu := ok.env u _ h'
  have hu2 := ok.env u2 _ h2'
  have : (loadVar ty ⟨b,0,none⟩).run P w = .ok (.agg cs.toArray) w := by
    cases D <;> simp at h2
    · exact run_loadVar_row w b T ty cs.toArray (0,0) _ (cel_in ok hm) h1 rfl (by rw [h3];simp [hn])
    · exact run_loadVar_row w b T ty cs.toArray (0,0) _ (cel_in ok hm) h1 rfl (by rw [h3];simp [hn])
  simp [results,hr,ht,hu,hu2,asAddr,this]
def wantA (au : ByteArray) (it : ItemD) : Bool := decide (it.kind = 0) && seqB it.act.author au
theorem wantA_pu (bW : Nat) (au : ByteArray) (it : ItemD) : Pu Tryz.prog 146 #[it.v,.pointer (some ⟨bW,0,none⟩)] (CelD bW [.string au]) (.tuple #[it.act.v,.int .i64 it.act.seq,.bool (wantA au it)]) := by
  refine pu_of_cw (args:=[_,_]) _ Tryz.func146 rfl Tryz.ntmps146 rfl fun av bor w0 => ?_
  repeat' (first | apply sw_nil | apply cw_seq | apply cw_reg | refine sy_assign (h:=?_) | refine sw_alloc (h:=fun _ => ?_) | refine sw_box (h:=fun _ => ?_) | fail)
  rename_i b2 b3
  by_cases h0 : it.kind = 0
  · (refine cw_draw [cel b2 61 it.cells] (CelD bW [.string au]) (by kernel_rfl) ?_)
    all_goals (refine aw_take 0 (hsub:=by (exact fun _ h => h.drop (by ((repeat (first | exact List.Sublist.refl _ | apply List.Sublist.cons));done)))) (h:=?_))
    all_goals (refine aw_take 1 (hsub:=by (exact fun _ h => h.drop (by ((repeat (first | exact List.Sublist.refl _ | apply List.Sublist.cons));done)))) (hy:=by (apply y_ldSub (vs:=it.act.cells);rfl;exact .head _;rfl;rfl)) (h:=?_))
    all_goals (refine aw_take 2 (hsub:=by (exact fun _ h => h.drop (by ((repeat (first | exact List.Sublist.refl _ | apply List.Sublist.cons));done)))) (h:=?_))
    all_goals (refine aw_take 3 (hsub:=by (exact fun _ h => h.drop (by ((repeat (first | exact List.Sublist.refl _ | apply List.Sublist.cons));done)))) (h:=?_))
    all_goals (refine aw_take 4 (hsub:=by (exact fun _ h => h.drop (by ((repeat (first | exact List.Sublist.refl _ | apply List.Sublist.cons));done)))) (h:=?_))
    all_goals (refine aw_take 5 (hsub:=by (exact fun _ h => h.drop (by ((repeat (first | exact List.Sublist.refl _ | apply List.Sublist.cons));done)))) (h:=?_))
    all_goals (refine aw_take 6 (hsub:=by (exact fun _ h => h.drop (by ((repeat (first | exact List.Sublist.refl _ | apply List.Sublist.cons));done)))) (h:=?_))
    all_goals (refine aw_take 7 (hsub:=by (exact fun _ h => h.drop (by ((repeat (first | exact List.Sublist.refl _ | apply List.Sublist.cons));done)))) (hy:=by (apply y_eqlW true;rfl;rfl;exact decide_eq_true h0)) (h:=?_))
    all_goals (refine aw_take 8 (hsub:=by (exact fun _ h => h.drop (by ((repeat (first | exact List.Sublist.refl _ | apply List.Sublist.cons));done)))) (h:=?_))
    all_goals (refine aw_take 9 (hsub:=by (exact fun _ h => h.drop (by ((repeat (first | exact List.Sublist.refl _ | apply List.Sublist.cons));done)))) (h:=?_))
    all_goals (refine aw_take 10 (hsub:=by (exact fun _ h => h.drop (by ((repeat (first | exact List.Sublist.refl _ | apply List.Sublist.cons));done)))) (h:=?_))
    all_goals (refine aw_take 11 (hsub:=by (exact fun _ h => h.drop (by ((repeat (first | exact List.Sublist.refl _ | apply List.Sublist.cons));done)))) (h:=?_))
    all_goals (refine aw_take 12 (hsub:=by (exact fun _ h => h.drop (by ((repeat (first | exact List.Sublist.refl _ | apply List.Sublist.cons));done)))) (hy:=by (apply y_ldC1;rfl;exact (fun w h => h 0 _ rfl))) (h:=?_))
    all_goals (refine aw_take 13 (hsub:=by (exact fun _ h => h.drop (by ((repeat (first | exact List.Sublist.refl _ | apply List.Sublist.cons));done)))) (h:=?_))
    all_goals (refine aw_take 14 (hsub:=by (exact fun _ h => h.drop (by ((repeat (first | exact List.Sublist.refl _ | apply List.Sublist.cons));done)))) (h:=?_))
    all_goals (refine aw_step 15 (h:=?_);(refine sw_stAll (h:=?_));apply sw_nil;refine aw_fin (hsub:=by (exact fun _ h => h.drop (by ((repeat (first | exact List.Sublist.refl _ | apply List.Sublist.cons));done)))) (h:=?_))
    all_goals (refine aw_take 16 (hsub:=by (exact fun _ h => h.drop (by ((repeat (first | exact List.Sublist.refl _ | apply List.Sublist.cons));done)))) (h:=?_))
    all_goals (refine aw_take 17 (hsub:=by (exact fun _ h => h.drop (by ((repeat (first | exact List.Sublist.refl _ | apply List.Sublist.cons));done)))) (h:=?_))
    all_goals (refine aw_done (h:=?_))
    all_goals
      repeat' (first | apply cw_ret | fail)
      exact ends_ret (res_cellTmp2 rfl rfl rfl rfl (.head _) rfl) (by rw [wantA,decide_eq_true h0];rfl)
  · (refine cw_draw [cel b2 61 it.cells] (CelD bW [.string au]) (by kernel_rfl) ?_)
    all_goals (refine aw_take 0 (hsub:=by (exact fun _ h => h.drop (by ((repeat (first | exact List.Sublist.refl _ | apply List.Sublist.cons));done)))) (h:=?_))
    all_goals (refine aw_take 1 (hsub:=by (exact fun _ h => h.drop (by ((repeat (first | exact List.Sublist.refl _ | apply List.Sublist.cons));done)))) (hy:=by (apply y_ldSub (vs:=it.act.cells);rfl;exact .head _;rfl;rfl)) (h:=?_))
    all_goals (refine aw_take 2 (hsub:=by (exact fun _ h => h.drop (by ((repeat (first | exact List.Sublist.refl _ | apply List.Sublist.cons));done)))) (h:=?_))
    all_goals (refine aw_take 3 (hsub:=by (exact fun _ h => h.drop (by ((repeat (first | exact List.Sublist.refl _ | apply List.Sublist.cons));done)))) (h:=?_))
    all_goals (refine aw_take 4 (hsub:=by (exact fun _ h => h.drop (by ((repeat (first | exact List.Sublist.refl _ | apply List.Sublist.cons));done)))) (h:=?_))
    all_goals (refine aw_take 5 (hsub:=by (exact fun _ h => h.drop (by ((repeat (first | exact List.Sublist.refl _ | apply List.Sublist.cons));done)))) (h:=?_))
    all_goals (refine aw_take 6 (hsub:=by (exact fun _ h => h.drop (by ((repeat (first | exact List.Sublist.refl _ | apply List.Sublist.cons));done)))) (h:=?_))
    all_goals (refine aw_take 7 (hsub:=by (exact fun _ h => h.drop (by ((repeat (first | exact List.Sublist.refl _ | apply List.Sublist.cons));done)))) (hy:=by (apply y_eqlW false;rfl;rfl;exact decide_eq_false h0)) (h:=?_))
    all_goals (refine aw_take 8 (hsub:=by (exact fun _ h => h.drop (by ((repeat (first | exact List.Sublist.refl _ | apply List.Sublist.cons));done)))) (h:=?_))
    all_goals (refine aw_skipT 9 (hsub:=by (exact fun _ h => h.drop (by ((repeat (first | exact List.Sublist.refl _ | apply List.Sublist.cons));done)))) (h:=?_))
    all_goals (refine aw_skipT 10 (hsub:=by (exact fun _ h => h.drop (by ((repeat (first | exact List.Sublist.refl _ | apply List.Sublist.cons));done)))) (h:=?_))
    all_goals (refine aw_skipT 11 (hsub:=by (exact fun _ h => h.drop (by ((repeat (first | exact List.Sublist.refl _ | apply List.Sublist.cons));done)))) (h:=?_))
    all_goals (refine aw_skipT 12 (hsub:=by (exact fun _ h => h.drop (by ((repeat (first | exact List.Sublist.refl _ | apply List.Sublist.cons));done)))) (h:=?_))
    all_goals (refine aw_skipT 13 (hsub:=by (exact fun _ h => h.drop (by ((repeat (first | exact List.Sublist.refl _ | apply List.Sublist.cons));done)))) (h:=?_))
    all_goals (refine aw_take 14 (hsub:=by (exact fun _ h => h.drop (by ((repeat (first | exact List.Sublist.refl _ | apply List.Sublist.cons));done)))) (h:=?_))
    all_goals (refine aw_step 15 (h:=?_);(refine sw_stAll (h:=?_));apply sw_nil;refine aw_fin (hsub:=by (exact fun _ h => h.drop (by ((repeat (first | exact List.Sublist.refl _ | apply List.Sublist.cons));done)))) (h:=?_))
    all_goals (refine aw_take 16 (hsub:=by (exact fun _ h => h.drop (by ((repeat (first | exact List.Sublist.refl _ | apply List.Sublist.cons));done)))) (h:=?_))
    all_goals (refine aw_take 17 (hsub:=by (exact fun _ h => h.drop (by ((repeat (first | exact List.Sublist.refl _ | apply List.Sublist.cons));done)))) (h:=?_))
    all_goals (refine aw_done (h:=?_))
    all_goals
      repeat' (first | apply cw_ret | fail)
      exact ends_ret (res_cellTmp2 rfl rfl rfl rfl (.head _) rfl) (by rw [wantA,decide_eq_false h0];rfl)
def fndOf (dI : ItemD → ByteArray) (it : ItemD) : FndA := ⟨it.act.seq,dI it,it.act⟩
def selB (au : ByteArray) (rI : ItemD → Bool) (it : ItemD) : Bool := wantA au it && rI it
def selF (au : ByteArray) (rI : ItemD → Bool) (dI : ItemD → ByteArray) (I : List ItemD) : List FndA := (I.filter (selB au rI)).map (fndOf dI)
def selA (au : ByteArray) (rI : ItemD → Bool) (I : List ItemD) : List ActD := (I.filter (selB au rI)).map ItemD.act
theorem selF_a (au : ByteArray) (rI : ItemD → Bool) (dI : ItemD → ByteArray) (I : List ItemD) : (selF au rI dI I).map FndA.a = selA au rI I := by rw [selF,selA,List.map_map];rfl
structure PikI (I : List ItemD) (au : ByteArray) (rI : ItemD → Bool) (dI : ItemD → ByteArray) where
  k : Nat
  hk : k ≤ I.length
  A : Option Addr
  c : Nat
  n : Nat
  hn : n = (selF au rI dI (I.take k)).length
  xs : List Value
  hxs : xs = ((selF au rI dI (I.take k)).map FndA.cells).flatten
structure ValI (Q : List FndA) where
  k : Nat
  hk : k ≤ Q.length
  A : Option Addr
  c : Nat
  xs : List Value
  hxs : xs = ((Q.take k).map fun f => f.a.cells).flatten
def wantV (bW : Nat) : Value := .func (.func 146) #[] #[.pointer (some ⟨bW,0,none⟩)]
set_option maxHeartbeats 16000000 in
theorem pickA_mk (ks ki : SlV) (I : List ItemD) (bW : Nat) (au : ByteArray) (rI : ItemD → Bool) (dI : ItemD → ByteArray)
    (hR : ∀ it ∈ I,Pu Tryz.prog 72 #[it.v] (fun w => it.at_ w) (.bool (rI it)))
    (hD : ∀ it ∈ I,Pu Tryz.prog 20 #[it.v] (fun w => it.at_ w ∧ Glob w) (.string (dI it)))
    (hI : I.length ≤ 1000) (hsort : SortA I.length) :
    Mk Tryz.prog 145 #[.agg #[ks.v,ki.v],wantV bW] (fun w => (Items w ki I ∧ CelD bW [.string au] w) ∧ Glob w)
      (fun u X' => ∃ (s : SlV) (L : List ActD),u = s.v ∧ L.Perm (selA au rI I) ∧ ∀ w,X' w → Acts w s L) := by
  refine mk_of_cw2 (args:=[_,_]) _ Tryz.func145 rfl Tryz.ntmps145 rfl fun av bor w0 => ?_
  refine cw_know (p:=ki.n = I.length ∧ ki.n ≤ maxLen ∧ (0 < I.length → ki.p.isSome = true)) (fun w h => ⟨h.1.1.len_,h.1.1.max_,h.1.1.some_⟩) fun ⟨hkn,hkm,hkp⟩ => ?_
  simp only [maxLen] at hkm
  repeat' (first | apply sw_nil | apply cw_seq | apply cw_reg | refine sy_move (h:=?_) | refine sy_assign (h:=?_) | refine sy_fld (h:=?_) | refine sy_ld (h:=?_) | refine sy_len (h:=?_) | refine sw_box (h:=fun _ => ?_) | apply cw_block | fail)
  rename_i b2
  refine cw_nilRow 242 22 ?_
  refine cw_loop (ι:=PikI I au rI dI) (fun i => ⟨[(1,wantV bW),(5,.slice i.A i.n i.c),(15,ki.v),(16,.int .i64 (ki.n : Nat)),(17,.int .i64 (i.k : Nat))], [orow 242 22 (.slice i.A i.n i.c) i.n i.xs],fun w => (Items w ki I ∧ CelD bW [.string au] w) ∧ Glob w⟩) (fun i => I.length - i.k) ⟨0,Nat.zero_le _,none,0,0,rfl, [],rfl⟩ (ok_sub ⟨rfl,rfl,rfl,rfl,rfl,trivial⟩ (.cons_cons _ (List.nil_sublist _)) fun _ h => h) fun i => ?_
  obtain ⟨k,hk,A,c,n,hn,xs,hxs⟩ := i
  simp only
  repeat' (first | apply sw_nil | apply cw_seq | apply cw_reg | refine sy_move (h:=?_) | refine sy_lss (h:=?_) | apply cw_skip | apply cw_block | apply cw_exit | (refine cw_cond (ht:=?_) (hf:=?_);all_goals (intro hx_;first | have := of_decide_eq_true hx_ | have := of_decide_eq_false hx_)))
  · have hlt : k < I.length := by omega
    have hkp' := hkp (by omega)
    obtain ⟨it,hit⟩ : ∃ it,I[k]? = some it := ⟨_,List.getElem?_eq_getElem hlt⟩
    have him := List.mem_of_getElem? hit
    have hnl : n ≤ 1000 := by
      rw [hn,selF,List.length_map]
      exact Nat.le_trans (List.length_filter_le _ _) (by rw [List.length_take];omega)
    repeat' (first | apply sw_nil | apply cw_seq | apply cw_reg | refine sy_move (h:=?_) | refine sy_ldAll (h:=?_) | refine sw_alloc (h:=fun _ => ?_) | refine sw_stAll (h:=?_) | (refine sy_idxX (q:=k * 49) (h:=?_)) | (refine sy_ldXs (cs:=it.cells) (hF:=fun w h => h.1.1.get hit) (h:=?_)) | fail)
    rename_i b7
    have hri := hR it him
    have hdi := hD it him
    have hwa := wantA_pu bW au it
    have htk : selF au rI dI (I.take (k + 1)) = selF au rI dI (I.take k) ++ (bif selB au rI it then [fndOf dI it] else []) := by
      rw [selF,selF,List.take_add_one,hit,List.filter_append,List.map_append,Option.toList_some]
      congr 1
      cases hb : selB au rI it with
      | true => simp [hb]
      | false => simp [hb]
    cases hwt : wantA au it with
    | false =>
      rw [hwt] at hwa
      have hno : selF au rI dI (I.take (k + 1)) = selF au rI dI (I.take k) := by rw [htk,selB,hwt];exact List.append_nil _
      refine sw_puV (args:=[it.v]) (all:=[it.v,.pointer (some ⟨bW,0,none⟩)]) (first:=#[]) (caps:=#[.pointer (some ⟨bW,0,none⟩)]) (hx:=rfl) (ha:=rfl) (hall:=rfl) (hc:=hwa) (hX:=fun w h => h.1.2) (h:=?_)
      repeat' (first | apply sw_nil | apply cw_seq | apply cw_reg | refine sy_move (h:=?_) | refine sy_assign (h:=?_) | refine sy_pick_f (h:=?_) | refine sy_extract (h:=?_) | refine sy_add (h:=?_) | refine sw_skipT (h:=?_) | refine sw_alloc (h:=fun _ => ?_) | refine sw_stAll (h:=?_) | refine cw_cond_f (hf:=?_) | apply cw_skip | fail)
      exact ⟨(⟨k + 1,hlt,A,c,n,by rw [hno];exact hn,xs,by rw [hno];exact hxs⟩ : PikI I au rI dI),(by show I.length - (k + 1) < I.length - k;omega),ok_sub ⟨rfl,rfl,rfl,rfl,rfl,trivial⟩ (.cons _ (.cons _ (List.Sublist.refl _))) fun _ h => h⟩
    | true =>
      rw [hwt] at hwa
      cases hrt : rI it with
      | false =>
        rw [hrt] at hri
        have hno : selF au rI dI (I.take (k + 1)) = selF au rI dI (I.take k) := by rw [htk,selB,hwt,hrt];exact List.append_nil _
        refine sw_puV (args:=[it.v]) (all:=[it.v,.pointer (some ⟨bW,0,none⟩)]) (first:=#[]) (caps:=#[.pointer (some ⟨bW,0,none⟩)]) (hx:=rfl) (ha:=rfl) (hall:=rfl) (hc:=hwa) (hX:=fun w h => h.1.2) (h:=?_)
        repeat' (first | apply sw_nil | apply cw_seq | apply cw_reg | refine sy_move (h:=?_) | refine sy_assign (h:=?_) | refine sy_ldAll (h:=?_) | refine sy_pick_t (h:=?_) | refine sy_extract (h:=?_) | refine sy_add (h:=?_) | refine sw_alloc (h:=fun _ => ?_) | refine sw_stAll (h:=?_) | refine cw_cond_f (hf:=?_) | apply cw_skip | (refine sw_pu (hc:=hri) (hX:=fun w h => h.1.1.2 it him) (h:=?_)) | fail)
        exact ⟨(⟨k + 1,hlt,A,c,n,by rw [hno];exact hn,xs,by rw [hno];exact hxs⟩ : PikI I au rI dI),(by show I.length - (k + 1) < I.length - k;omega),ok_sub ⟨rfl,rfl,rfl,rfl,rfl,trivial⟩ (.cons _ (.cons _ (List.Sublist.refl _))) fun _ h => h⟩
      | true =>
        rw [hrt] at hri
        have hyes : selF au rI dI (I.take (k + 1)) = selF au rI dI (I.take k) ++ [fndOf dI it] := by rw [htk,selB,hwt,hrt];rfl
        refine sw_puV (args:=[it.v]) (all:=[it.v,.pointer (some ⟨bW,0,none⟩)]) (first:=#[]) (caps:=#[.pointer (some ⟨bW,0,none⟩)]) (hx:=rfl) (ha:=rfl) (hall:=rfl) (hc:=hwa) (hX:=fun w h => h.1.2) (h:=?_)
        repeat' (first | apply sw_nil | apply cw_seq | apply cw_reg | refine sy_move (h:=?_) | refine sy_assign (h:=?_) | refine sy_ldAll (h:=?_) | refine sy_pick_t (h:=?_) | refine sy_extract (h:=?_) | refine sw_alloc (h:=fun _ => ?_) | refine sw_stAll (h:=?_) | refine cw_cond_t (ht:=?_) | (refine sw_pu (hc:=hri) (hX:=fun w h => h.1.1.2 it him) (h:=?_)) | fail)
        rename_i b8
        (refine cw_draw [cel b8 46 it.act.cells,cel b7 61 it.cells] (fun w => (Items w ki I ∧ CelD bW [.string au] w) ∧ Glob w) (by kernel_rfl) ?_)
        all_goals (refine aw_take 0 (hsub:=by (exact fun _ h => h.drop (by ((repeat (first | exact List.nil_sublist _ | with_reducible apply List.Sublist.cons_cons));done)))) (h:=?_))
        all_goals (refine aw_take 1 (hsub:=by (exact fun _ h => h.drop (by ((repeat (first | exact List.nil_sublist _ | with_reducible apply List.Sublist.cons_cons));done)))) (h:=?_))
        all_goals (refine aw_take 2 (hsub:=by (exact fun _ h => h.drop (by ((repeat (first | exact List.nil_sublist _ | with_reducible apply List.Sublist.cons_cons));done)))) (h:=?_))
        all_goals (refine aw_take 4 (hsub:=by (exact fun _ h => h.drop (by ((repeat (first | exact List.nil_sublist _ | with_reducible apply List.Sublist.cons_cons));done)))) (h:=?_))
        all_goals (refine aw_step 3 (h:=?_);(refine sw_pu (hc:=hdi) (hX:=fun w h => ⟨h.1.1.2 it him,h.2⟩) (h:=?_));apply sw_nil;refine aw_fin (hsub:=by (exact fun _ h => h.drop (by ((repeat (first | exact List.nil_sublist _ | with_reducible apply List.Sublist.cons_cons));done)))) (h:=?_))
        all_goals (refine aw_take 5 (hsub:=by (exact fun _ h => h.drop (by ((repeat (first | exact List.nil_sublist _ | with_reducible apply List.Sublist.cons_cons));done)))) (hy:=by (apply y_build (cs:=(fndOf dI it).cells);rfl;rfl)) (h:=?_))
        all_goals (refine aw_step 6 (h:=?_);(refine sw_bslS (size:=22) (vs:=[.agg (fndOf dI it).cells.toArray]) (css:=(fndOf dI it).cells) (hsz:=by rfl) (hcs:=by rfl) (h:=fun _ => ?_));apply sw_nil;refine aw_fin (hsub:=by (exact fun _ h => h.drop (by ((repeat (first | exact List.nil_sublist _ | with_reducible apply List.Sublist.cons_cons | apply List.Sublist.cons));done)))) (h:=?_))
        all_goals (refine aw_step 7 (h:=?_);(refine sw_append (size:=22) (news:=(fndOf dI it).cells) (q:=1) rfl rfl rfl rfl (fun _ => At.there _ (At.there _ (At.there _ (At.here _)))) (fun w G => src_cel G List.mem_cons_self rfl rfl 1) (by omega) (by simp only [maxLen];omega) rfl ?_ rfl ?_;(with_reducible rfl);intro A2 c2);apply sw_nil;refine aw_fin (hsub:=by (exact fun _ h => h.drop (by ((repeat (first | exact List.nil_sublist _ | with_reducible apply List.Sublist.cons_cons | apply List.Sublist.cons));done)))) (h:=?_))
        all_goals (refine aw_take 8 (hsub:=by (exact fun _ h => h.drop (by ((repeat (first | exact List.nil_sublist _ | with_reducible apply List.Sublist.cons_cons | apply List.Sublist.cons));done)))) (h:=?_))
        all_goals (refine aw_done (h:=?_))
        all_goals
          repeat' (first | apply sw_nil | apply cw_reg | refine sy_move (h:=?_) | refine sy_add (h:=?_) | fail)
          exact ⟨(⟨k + 1,hlt,A2,c2,n + 1,by rw [hyes,List.length_append, ← hn];rfl,xs ++ (fndOf dI it).cells,by rw [hyes,hxs];simp⟩ : PikI I au rI dI),(by show I.length - (k + 1) < I.length - k;omega),ok_sub ⟨rfl,rfl,rfl,rfl,rfl,trivial⟩ (.cons _ (.cons _ (.cons _ (List.Sublist.refl _)))) fun _ h => h⟩
  have hkE : k = I.length := by omega
  rw [hkE,List.take_length] at hn hxs
  obtain ⟨P,hP⟩ : ∃ P,selF au rI dI I = P := ⟨_,rfl⟩
  rw [hP] at hn hxs
  have hPl : P.length ≤ I.length := by rw [← hP,selF,List.length_map];exact List.length_filter_le _ _
  subst hxs
  refine sw_fn (pre:=[fndR ⟨A,n,c⟩ P]) (fr:=[]) (first:=#[]) (caps:=#[]) (hc:=hsort ⟨A,n,c⟩ P hn hPl) (hX:=fun _ _ => trivial) (h:=?_)
  rintro v R X' ⟨rfl,Q,hQ,rfl⟩
  have hQl : Q.length = n := hQ.length_eq.trans hn.symm
  have hnI : n ≤ 1000 := by omega
  refine sw_imp (X':=fun w => (Items w ki I ∧ CelD bW [.string au] w) ∧ Glob w) (fun w h => h.1) ?_
  repeat' (first | apply sw_nil | apply cw_seq | apply cw_reg | refine sy_move (h:=?_) | refine sy_assign (h:=?_) | refine sy_len (h:=?_) | apply cw_block | (refine sw_mkSl (c:=n) (hm:=Nat.ble_eq_true_of_le (by omega)) (hm2:=Nat.ble_eq_true_of_le (by omega)) (h:=fun bv => ?_)) | fail)
  refine cw_knowR (r:=fndR ⟨A,n,c⟩ Q) (by (repeat (first | exact List.mem_cons_self | apply List.mem_cons_of_mem))) (p:=0 < n → A.isSome = true) (fun w h h0 => orow_some h h0) fun hAp => ?_
  refine cw_loop (ι:=ValI Q) (fun i => ⟨[(11,.slice i.A i.k i.c),(47,.slice A n c),(48,.int .i64 (n : Nat)),(49,.int .i64 (i.k : Nat))], [orow 46 20 (.slice i.A i.k i.c) i.k i.xs,fndR ⟨A,n,c⟩ Q],fun w => (Items w ki I ∧ CelD bW [.string au] w) ∧ Glob w⟩) (fun i => Q.length - i.k) ⟨0,Nat.zero_le _,_,_, [],rfl⟩ (ok_sub ⟨rfl,rfl,rfl,rfl,trivial⟩ (List.Sublist.refl _) fun _ h => h) fun i => ?_
  obtain ⟨k2,hk2,A2,c2,xs2,hxs2⟩ := i
  simp only
  repeat' (first | apply sw_nil | apply cw_seq | apply cw_reg | refine sy_move (h:=?_) | refine sy_assign (h:=?_) | refine sy_lss (h:=?_) | apply cw_skip | apply cw_block | apply cw_ret | apply cw_exit | (refine cw_cond (ht:=?_) (hf:=?_);all_goals (intro hx_;first | have := of_decide_eq_true hx_ | have := of_decide_eq_false hx_)))
  · have hlt : k2 < Q.length := by omega
    have hAp' := hAp (by omega)
    obtain ⟨f,hf⟩ : ∃ f,Q[k2]? = some f := ⟨_,List.getElem?_eq_getElem hlt⟩
    repeat' (first | refine sw_bslS (size:=20) (vs:=[f.a.v]) (css:=f.a.cells) (hsz:=by rfl) (hcs:=by rfl) (h:=fun _ => ?_) | apply sw_nil | apply cw_reg | refine sy_move (h:=?_) | refine sy_fld (h:=?_) | refine sw_alloc (h:=fun _ => ?_) | refine sw_stAll (h:=?_) | (refine sy_idxX (q:=k2 * 22) (h:=?_)) | (refine sw_yield (y_ldOs (size:=22) (m:=n) (i:=k2) (xs:=Q.map FndA.cells) (cs:=f.cells) rfl (.tail _ (.head _)) (by rw [List.length_map];exact hQl.symm) (fnd_len Q) (by simp [hf])) rfl rfl rfl ?_) | (refine sy_ldSub (vs:=f.a.cells) (hv:=rfl) (h:=?_)) | fail)
    refine sw_append (size:=20) (news:=f.a.cells) (q:=1) rfl rfl rfl rfl (fun _ => At.there _ (At.there _ (At.here _))) (fun w G => src_cel G List.mem_cons_self rfl rfl 1) (by omega) (by simp only [maxLen];omega) rfl ?_ rfl ?_
    · (with_reducible rfl)
    intro A3 c3
    repeat' (first | apply sw_nil | apply cw_reg | refine sy_move (h:=?_) | refine sy_assign (h:=?_) | refine sy_add (h:=?_) | fail)
    exact ⟨(⟨k2 + 1,hlt,A3,c3,xs2 ++ f.a.cells,by rw [List.take_add_one,hf,hxs2];simp⟩ : ValI Q),(by show Q.length - (k2 + 1) < Q.length - k2;omega),ok_sub ⟨rfl,rfl,rfl,rfl,trivial⟩ (.cons _ (.cons _ (List.Sublist.refl _))) fun _ h => h⟩
  have hk2E : k2 = Q.length := by omega
  rw [hk2E,List.take_length] at hxs2
  have hLp : (Q.map FndA.a).Perm (selA au rI I) := by rw [← selF_a au rI dI I,hP];exact hQ.map _
  refine ends_ret (res_tmp rfl rfl) ⟨⟨A2,k2,c2⟩,Q.map FndA.a,rfl,hLp,fun w h => ?_⟩
  have hr := h.2 (orow 46 20 (.slice A2 k2 c2) k2 xs2) (.head _)
  refine acts_of_orow (l:=Q.map FndA.a) (by rw [List.map_map];rw [hxs2] at hr;exact hr) (by rw [List.length_map];exact hk2E) fun a ha => ?_
  have ha2 := hLp.subset ha
  rw [selA] at ha2
  obtain ⟨it,hit,rfl⟩ := List.mem_map.1 ha2
  exact (h.1.1.1.2 it (List.mem_filter.1 hit).1).1
theorem knownActs_mk (ks ki : SlV) (I : List ItemD) (au : ByteArray) (rI : ItemD → Bool) (dI : ItemD → ByteArray)
    (hR : ∀ it ∈ I,Pu Tryz.prog 72 #[it.v] (fun w => it.at_ w) (.bool (rI it)))
    (hD : ∀ it ∈ I,Pu Tryz.prog 20 #[it.v] (fun w => it.at_ w ∧ Glob w) (.string (dI it)))
    (hI : I.length ≤ 1000) (hsort : SortA I.length) :
    Mk Tryz.prog 90 #[.agg #[ks.v,ki.v],.string au] (fun w => Items w ki I ∧ Glob w)
      (fun u X' => ∃ (s : SlV) (L : List ActD),u = s.v ∧ L.Perm (selA au rI I) ∧ ∀ w,X' w → Acts w s L) := by
  refine mk_of_cw2 (args:=[_,_]) _ Tryz.func90 rfl Tryz.ntmps90 rfl fun av bor w0 => ?_
  repeat' (first | apply sw_nil | apply cw_seq | apply cw_reg | refine sy_assign (h:=?_) | refine sy_ldAll (h:=?_) | refine sw_box (h:=fun _ => ?_) | (refine sy_makeFunc (h:=?_)) | fail)
  rename_i b2 b3
  refine sw_give ?_
  refine sw_mk (hc:=pickA_mk ks ki I b3 au rI dI hR hD hI hsort) (hX:=fun w h => ⟨⟨h.1.1,celD_of h.2⟩,h.1.2⟩) (h:=fun v X1 h1 => ?_)
  obtain ⟨s,L,rfl,hL,hw⟩ := h1
  repeat' (first | apply sw_nil | refine sy_assign (h:=?_) | apply cw_ret | fail)
  exact ends_ret (res_tmp rfl rfl) ⟨s,L,rfl,hL,fun w h => hw w h.1.2⟩
end Go.Proofs.YtjmpdkmboheknaaGreatDoor

namespace Go.Proofs.YtjmpdkmboheknaaGreatDoor
open Go Go.Proofs Sy
def gtB (a b : ByteArray) : Bool := !(Op.bytesLess a.toList b.toList || seqB a b)
def addAt (dI : ItemD → ByteArray) (d : ByteArray) (I : List ItemD) (k : Nat) : Nat := ((I.take k).findIdx? fun x => gtB (dI x) d).getD I.length
def addV (dI : ItemD → ByteArray) (it : ItemD) (I : List ItemD) : List ItemD := I.take (addAt dI (dI it) I I.length) ++ it :: I.drop (addAt dI (dI it) I I.length)
theorem addAt_le (dI : ItemD → ByteArray) (d : ByteArray) (I : List ItemD) (k : Nat) (hk : k ≤ I.length) : addAt dI d I k < k ∨ addAt dI d I k = I.length := by
  rw [addAt]
  cases h : (I.take k).findIdx? fun x => gtB (dI x) d with
  | none => exact .inr rfl
  | some j =>
    rw [List.findIdx?_eq_some_iff_getElem] at h
    obtain ⟨h1,_⟩ := h
    rw [List.length_take] at h1
    exact .inl (by show j < k;omega)
theorem addAt_succ (dI : ItemD → ByteArray) (d : ByteArray) (I : List ItemD) (k : Nat) (x : ItemD) (hx : I[k]? = some x) : addAt dI d I (k + 1) = bif gtB (dI x) d && decide (addAt dI d I k = I.length) then k else addAt dI d I k := by
  have hk : k < I.length := (List.getElem?_eq_some_iff.1 hx).1
  rw [addAt,addAt,List.take_add_one,hx,Option.toList_some,List.findIdx?_append]
  cases h : (I.take k).findIdx? fun x => gtB (dI x) d with
  | none =>
    rw [List.findIdx?_singleton]
    cases hg : gtB (dI x) d with
    | true => simp [List.length_take];omega
    | false => simp
  | some j =>
    rw [List.findIdx?_eq_some_iff_getElem] at h
    obtain ⟨h1,_⟩ := h
    rw [List.length_take] at h1
    have : ¬ j = I.length := by omega
    simp [this]
section
variable {P : Program} {N : Nat} {av bor : List Nat} {w0 : World} {x y : Operand} {t t2 : TypeId} {ty : TypeId} {st : St}
theorem y_sgtrW {a b : ByteArray} (v : Bool) (hx : ev st.env x = some (.string a)) (hy : ev st.env y = some (.string b)) (hv : gtB a b = v) : Sy.Yields P N av bor w0 st (.binOp .gtr t x y t2) ty (.bool v) := hv ▸ y_sgtr hx hy
end
structure AddI (I : List ItemD) where
  k : Nat
  hk : k ≤ I.length
set_option maxHeartbeats 16000000 in
theorem add_mk (ks ki : SlV) (I : List ItemD) (it : ItemD) (rI : ItemD → Bool) (dI : ItemD → ByteArray)
    (hR : Pu Tryz.prog 72 #[it.v] (fun w => it.at_ w) (.bool true))
    (hS : Pu Tryz.prog 88 #[ks.v,it.v] (fun w => it.at_ w ∧ Glob w) (.bool true))
    (hD0 : Pu Tryz.prog 20 #[it.v] (fun w => it.at_ w ∧ Glob w) (.string (dI it)))
    (hD : ∀ x ∈ I,Pu Tryz.prog 20 #[x.v] (fun w => x.at_ w ∧ Glob w) (.string (dI x)))
    (hI : I.length ≤ 1000) (hnew : ∀ x ∈ I,seqB (dI x) (dI it) = false) :
    Mk Tryz.prog 49 #[.agg #[ks.v,ki.v],it.v] (fun w => (Items w ki I ∧ it.at_ w) ∧ Glob w)
      (fun u X' => ∃ s : SlV,u = .tuple #[.agg #[ks.v,s.v],.bool true] ∧ ∀ w,X' w → Items w s (addV dI it I)) := by
  refine mk_of_cw2 (args:=[_,_]) _ Tryz.func49 rfl Tryz.ntmps49 rfl fun av bor w0 => ?_
  refine cw_know (p:=ki.n = I.length ∧ ki.n ≤ maxLen ∧ (0 < I.length → ki.p.isSome = true) ∧ ki.n ≤ ki.c) (fun w h => ⟨h.1.1.len_,h.1.1.max_,h.1.1.some_,RowsD.cap h.1.1.1⟩) fun ⟨hkn,hkm,hkp,hkc⟩ => ?_
  simp only [maxLen] at hkm
  obtain ⟨d,hd⟩ : ∃ d,dI it = d := ⟨_,rfl⟩
  rw [hd] at hD0 hnew
  repeat' (first | apply sw_nil | apply cw_seq | apply cw_reg | refine sy_move (h:=?_) | refine sy_assign (h:=?_) | refine sy_fld (h:=?_) | refine sy_ld (h:=?_) | refine sy_ldAll (h:=?_) | refine sy_pick_f (h:=?_) | refine sy_not (h:=?_) | refine sy_len (h:=?_) | refine sw_alloc (h:=fun _ => ?_) | refine sw_box (h:=fun _ => ?_) | refine cw_cond_f (hf:=?_) | apply cw_skip | apply cw_block | (refine sw_pu (hc:=hR) (hX:=fun w h => h.1.2) (h:=?_)) | (refine sw_pu (hc:=hS) (hX:=fun w h => ⟨h.1.2,h.2⟩) (h:=?_)) | (refine sw_pu (hc:=hD0) (hX:=fun w h => ⟨h.1.2,h.2⟩) (h:=?_)) | fail)
  rename_i b2 b3 b4
  refine cw_loop (ι:=AddI I) (fun i => ⟨[(2,.pointer (some ⟨b2,0,none⟩)),(3,.pointer (some ⟨b3,0,none⟩)),(4,.pointer (some ⟨b4,0,none⟩)),(6,.string d),(7,.int .i64 (addAt dI d I i.k : Nat)),(29,ki.v),(30,.int .i64 (ki.n : Nat)),(31,.int .i64 (i.k : Nat))], [cel b4 71 [.slice none 0 0,.slice none 0 0],cel b3 61 it.cells,cel b2 71 [ks.v,ki.v]],fun w => (Items w ki I ∧ it.at_ w) ∧ Glob w⟩) (fun i => I.length - i.k) ⟨0,Nat.zero_le _⟩ (ok_sub ⟨rfl,rfl,rfl,rfl,(by show some (Value.int .i64 (ki.n : Nat)) = _;rw [hkn];rfl),rfl,rfl,rfl,trivial⟩ (List.Sublist.refl _) fun _ h => h) fun i => ?_
  obtain ⟨k,hk⟩ := i
  simp only
  repeat' (first | apply sw_nil | apply cw_seq | apply cw_reg | refine sy_move (h:=?_) | refine sy_fld (h:=?_) | refine sy_ld (h:=?_) | refine sy_lss (h:=?_) | refine sy_len (h:=?_) | refine sy_add (h:=?_) | apply cw_skip | apply cw_block | apply cw_exit | (refine cw_cond (ht:=?_) (hf:=?_);all_goals (intro hx_;first | have := of_decide_eq_true hx_ | have := of_decide_eq_false hx_)))
  · have hlt : k < I.length := by omega
    have hkp' := hkp (by omega)
    obtain ⟨x,hx⟩ : ∃ x,I[k]? = some x := ⟨_,List.getElem?_eq_getElem hlt⟩
    have hxm := List.mem_of_getElem? hx
    have hne := hnew x hxm
    have hst := addAt_succ dI d I k x hx
    generalize addAt dI d I k = at0 at *
    cases hg : gtB (dI x) d with
    | false =>
      rw [hg] at hst
      have hst : addAt dI d I (k + 1) = at0 := hst
      have hat : decide ((at0 : Int) = (ki.n : Int)) = decide ((at0 : Int) = (ki.n : Int)) := rfl
      repeat' (first | refine sw_yield (y_seqlW false rfl rfl hne) rfl (by (with_reducible rfl)) rfl ?_ | refine sw_yield (y_sgtrW _ rfl rfl hg) rfl (by (with_reducible rfl)) rfl ?_ | apply sw_nil | apply cw_seq | apply cw_reg | refine sy_move (h:=?_) | refine sy_assign (h:=?_) | refine sy_ldAll (h:=?_) | refine sy_pick_f (h:=?_) | refine sy_add (h:=?_) | refine sw_skipT (h:=?_) | refine sw_alloc (h:=fun _ => ?_) | refine sw_stAll (h:=?_) | refine cw_cond_f (hf:=?_) | apply cw_skip | (refine sy_idxX (q:=k * 49) (h:=?_)) | (refine sy_ldXs (cs:=x.cells) (hF:=fun w h => h.1.1.get hx) (h:=?_)) | (refine sw_pu (hc:=hD x hxm) (hX:=fun w h => ⟨h.1.1.2 x hxm,h.2⟩) (h:=?_)) | fail)
      exact ⟨(⟨k + 1,hlt⟩ : AddI I),(by show I.length - (k + 1) < I.length - k;omega),ok_sub ⟨rfl,rfl,rfl,rfl,(by show _ = some (Value.int .i64 (addAt dI d I (k + 1) : Nat));rw [hst];rfl),rfl,rfl,rfl,trivial⟩ (.cons _ (List.Sublist.refl _)) fun _ h => h⟩
    | true =>
      by_cases ha : at0 = I.length
      · rw [hg,decide_eq_true ha] at hst
        have hst : addAt dI d I (k + 1) = k := hst
        have hat : decide ((at0 : Int) = (ki.n : Int)) = true := decide_eq_true (by omega)
        repeat' (first | refine sw_yield (y_seqlW false rfl rfl hne) rfl (by (with_reducible rfl)) rfl ?_ | refine sw_yield (y_sgtrW _ rfl rfl hg) rfl (by (with_reducible rfl)) rfl ?_ | refine sw_yield (y_eqlW _ rfl rfl hat) rfl (by (with_reducible rfl)) rfl ?_ | apply sw_nil | apply cw_seq | apply cw_reg | refine sy_move (h:=?_) | refine sy_assign (h:=?_) | refine sy_fld (h:=?_) | refine sy_ld (h:=?_) | refine sy_ldAll (h:=?_) | refine sy_pick_t (h:=?_) | refine sy_len (h:=?_) | refine sy_add (h:=?_) | refine sw_alloc (h:=fun _ => ?_) | refine sw_stAll (h:=?_) | refine cw_cond_t (ht:=?_) | refine cw_cond_f (hf:=?_) | apply cw_skip | (refine sy_idxX (q:=k * 49) (h:=?_)) | (refine sy_ldXs (cs:=x.cells) (hF:=fun w h => h.1.1.get hx) (h:=?_)) | (refine sw_pu (hc:=hD x hxm) (hX:=fun w h => ⟨h.1.1.2 x hxm,h.2⟩) (h:=?_)) | fail)
        exact ⟨(⟨k + 1,hlt⟩ : AddI I),(by show I.length - (k + 1) < I.length - k;omega),ok_sub ⟨rfl,rfl,rfl,rfl,(by show _ = some (Value.int .i64 (addAt dI d I (k + 1) : Nat));rw [hst];rfl),rfl,rfl,rfl,trivial⟩ (.cons _ (List.Sublist.refl _)) fun _ h => h⟩
      · rw [hg,decide_eq_false ha] at hst
        have hst : addAt dI d I (k + 1) = at0 := hst
        have hat : decide ((at0 : Int) = (ki.n : Int)) = false := decide_eq_false (by omega)
        repeat' (first | refine sw_yield (y_seqlW false rfl rfl hne) rfl (by (with_reducible rfl)) rfl ?_ | refine sw_yield (y_sgtrW _ rfl rfl hg) rfl (by (with_reducible rfl)) rfl ?_ | refine sw_yield (y_eqlW _ rfl rfl hat) rfl (by (with_reducible rfl)) rfl ?_ | apply sw_nil | apply cw_seq | apply cw_reg | refine sy_move (h:=?_) | refine sy_assign (h:=?_) | refine sy_fld (h:=?_) | refine sy_ld (h:=?_) | refine sy_ldAll (h:=?_) | refine sy_pick_t (h:=?_) | refine sy_len (h:=?_) | refine sy_add (h:=?_) | refine sw_alloc (h:=fun _ => ?_) | refine sw_stAll (h:=?_) | refine cw_cond_f (hf:=?_) | apply cw_skip | (refine sy_idxX (q:=k * 49) (h:=?_)) | (refine sy_ldXs (cs:=x.cells) (hF:=fun w h => h.1.1.get hx) (h:=?_)) | (refine sw_pu (hc:=hD x hxm) (hX:=fun w h => ⟨h.1.1.2 x hxm,h.2⟩) (h:=?_)) | fail)
        exact ⟨(⟨k + 1,hlt⟩ : AddI I),(by show I.length - (k + 1) < I.length - k;omega),ok_sub ⟨rfl,rfl,rfl,rfl,(by show _ = some (Value.int .i64 (addAt dI d I (k + 1) : Nat));rw [hst];rfl),rfl,rfl,rfl,trivial⟩ (.cons _ (List.Sublist.refl _)) fun _ h => h⟩
  have hkE : k = I.length := by omega
  have hV : addV dI it I = I.take (addAt dI d I k) ++ it :: I.drop (addAt dI d I k) := by rw [addV,hd,hkE]
  have hal : addAt dI d I k ≤ I.length := by
    rcases addAt_le dI d I k hk with h | h
    · omega
    · omega
  rw [hV]
  generalize addAt dI d I k = a0 at *
  have hones : ∀ (J : List ItemD), ∀ cs ∈ J.map ItemD.cells,cs.all (·.oneCell') = true := fun J cs hcs => by
    obtain ⟨x,_,rfl⟩ := List.mem_map.1 hcs
    rfl
  have hs1 : ∀ w,((Items w ki I ∧ it.at_ w) ∧ Glob w) → Src Tryz.prog w 49 (.slice ki.p a0 ki.c) a0 ((I.take a0).map ItemD.cells).flatten := fun w h => by
    have h1 := RowsD.take (n:=a0) h.1.1.1 (by simpa using hal)
    rw [← List.map_take] at h1
    exact src_rows h1 (hones _)
  have hs2 : ∀ w,((Items w ki I ∧ it.at_ w) ∧ Glob w) → Src Tryz.prog w 49 (ki.from 49 a0).v (ki.from 49 a0).n ((I.drop a0).map ItemD.cells).flatten := fun w h => by
    have h1 := RowsD.drop (n:=a0) h.1.1.1 (by simpa using hal)
    rw [← List.map_drop] at h1
    exact src_rows h1 (hones _)
  have hfn : (ki.from 49 a0).n = ki.n - a0 := rfl
  refine sw_mkSl (c:=ki.n + 1) (hm:=Nat.ble_eq_true_of_le (by omega)) (hm2:=Nat.ble_eq_true_of_le (by omega)) (h:=fun bv => ?_)
  repeat' (first | apply sw_nil | apply cw_seq | apply cw_reg | refine sy_move (h:=?_) | refine sy_assign (h:=?_) | refine sy_fld (h:=?_) | refine sy_ld (h:=?_) | (refine sw_yield (y_slcH rfl rfl (by omega) (by omega)) rfl rfl rfl ?_) | fail)
  refine sw_append (size:=49) (news:=((I.take a0).map ItemD.cells).flatten) (q:=a0) rfl rfl rfl rfl (fun _ => At.here _) (fun w G => hs1 w G.keep.now) (by omega) (by simp only [maxLen];omega) rfl ?_ rfl ?_
  · (with_reducible rfl)
  intro A1 c1
  repeat' (first | refine sw_bslS (size:=49) (vs:=[it.v]) (css:=it.cells) (hsz:=by rfl) (hcs:=by rfl) (h:=fun _ => ?_) | apply sw_nil | apply cw_seq | apply cw_reg | refine sy_move (h:=?_) | refine sy_assign (h:=?_) | refine sy_ldAll (h:=?_) | fail)
  refine sw_append (size:=49) (news:=it.cells) (q:=1) rfl rfl rfl rfl (fun _ => At.there _ (At.here _)) (fun w G => src_cel G List.mem_cons_self rfl rfl 1) (by omega) (by simp only [maxLen];omega) rfl ?_ rfl ?_
  · (with_reducible rfl)
  intro A2 c2
  repeat' (first | apply sw_nil | apply cw_seq | apply cw_reg | refine sy_move (h:=?_) | refine sy_assign (h:=?_) | refine sy_fld (h:=?_) | refine sy_ld (h:=?_) | (refine sw_yield (y_slcL (s:=ki) rfl rfl (by omega) (by omega)) rfl rfl rfl ?_) | fail)
  refine sw_append (size:=49) (news:=((I.drop a0).map ItemD.cells).flatten) (q:=ki.n - a0) rfl rfl rfl rfl (fun _ => At.there _ (At.here _)) (fun w G => hs2 w G.keep.now) (by omega) (by simp only [maxLen];omega) rfl ?_ rfl ?_
  · (with_reducible rfl)
  intro A3 c3
  repeat' (first | apply sw_nil | apply cw_seq | apply cw_reg | refine sy_move (h:=?_) | refine sy_assign (h:=?_) | refine sy_fld (h:=?_) | refine sy_ld (h:=?_) | refine sw_stAll (h:=?_) | apply cw_ret | (refine sy_build (cs:=[ks.v,.slice A3 (0 + a0 + 1 + (ki.n - a0)) c3]) (hf:=by rfl) (h:=?_)) | fail)
  refine ends_ret (res_cellTmp rfl rfl rfl (by (repeat (first | exact List.mem_cons_self | apply List.mem_cons_of_mem))) (by rfl)) ⟨⟨A3,0 + a0 + 1 + (ki.n - a0),c3⟩,rfl,fun w h => ?_⟩
  have hr := h.2 (orow 61 49 (.slice A3 (0 + a0 + 1 + (ki.n - a0)) c3) (0 + a0 + 1 + (ki.n - a0)) ([] ++ ((I.take a0).map ItemD.cells).flatten ++ it.cells ++ ((I.drop a0).map ItemD.cells).flatten)) (by (repeat (first | exact List.mem_cons_self | apply List.mem_cons_of_mem)))
  refine ⟨rows_of_orow (e:=61) (xs:=(I.take a0 ++ it :: I.drop a0).map ItemD.cells) ?_ (by simp [hkn];omega) fun r hr => ?_,fun x hx => ?_⟩
  · have e : ((I.take a0 ++ it :: I.drop a0).map ItemD.cells).flatten = [] ++ ((I.take a0).map ItemD.cells).flatten ++ it.cells ++ ((I.drop a0).map ItemD.cells).flatten := by simp
    rw [e]
    exact hr
  · obtain ⟨x,_,rfl⟩ := List.mem_map.1 hr
    rfl
  · rcases List.mem_append.1 hx with hx | hx
    · exact h.1.1.1.2 x (List.mem_of_mem_take hx)
    · rcases List.mem_cons.1 hx with rfl | hx
      · exact h.1.1.2
      · exact h.1.1.1.2 x (List.mem_of_mem_drop hx)
end Go.Proofs.YtjmpdkmboheknaaGreatDoor

namespace Go.Proofs.YtjmpdkmboheknaaGreatDoor
open Go Go.Proofs Sy
theorem signedA_pu (s : Value) (a : ActD) (hR : rightB a = true) : Pu Tryz.prog 88 #[s,(ofActI a).v] (fun w => (ofActI a).at_ w ∧ Glob w) (.bool true) := by
  refine pu_of_cw (args:=[_,_]) _ Tryz.func88 rfl Tryz.ntmps88 rfl fun av bor w0 => ?_
  have hri := itemRight_pu a
  rw [hR] at hri
  repeat' (first | apply sw_nil | apply cw_seq | apply cw_reg | refine sy_assign (h:=?_) | refine sy_fld (h:=?_) | refine sy_ld (h:=?_) | refine sy_ldAll (h:=?_) | refine sy_not (h:=?_) | refine sy_eql (h:=?_) | refine sw_box (h:=fun _ => ?_) | refine cw_cond_f (hf:=?_) | apply cw_skip | apply cw_block | apply cw_ret | (refine sw_pu (hc:=hri) (hX:=fun _ h => h.1.1) (h:=?_)) | (refine cw_cond (ht:=?_) (hf:=?_);all_goals (intro hx_;first | have := of_decide_eq_true hx_ | have := of_decide_eq_false hx_)))
  all_goals first
    | exact ends_ret (res_tmp rfl rfl) rfl
    | exact absurd (show (0 : Int) = 2 from by assumption) (by decide)
    | exact absurd (show (0 : Int) = 3 from by assumption) (by decide)
theorem cloneI0_pu : Pu Tryz.prog 89 #[.slice none 0 0] (fun _ => True) (.slice none 0 0) := by
  refine pu_of_cw (args:=[_]) _ Tryz.func89 rfl Tryz.ntmps89 rfl fun av bor w0 => ?_
  repeat' (first | refine sy_slNil (h:=?_) | apply sw_nil | apply cw_seq | apply cw_reg | refine sy_move (h:=?_) | refine sy_assign (h:=?_) | refine sw_bsl (h:=fun _ => ?_) | apply cw_skip | apply cw_ret | (refine cw_cond (ht:=?_) (hf:=?_);all_goals (intro hx_;skip)))
  all_goals first
    | exact ends_ret (res_tmp rfl rfl) rfl
    | exact absurd hx_ (by decide)
theorem new0_pu : Pu Tryz.prog 50 #[.slice none 0 0] (fun _ => True) (.agg #[.slice none 0 0,.slice none 0 0]) := by
  refine pu_of_cw (args:=[_]) _ Tryz.func50 rfl Tryz.ntmps50 rfl fun av bor w0 => ?_
  repeat' (first | apply sw_nil | apply cw_seq | apply cw_reg | refine sy_move (h:=?_) | refine sw_alloc (h:=fun _ => ?_) | refine sw_stAll (h:=?_) | apply cw_ret | (refine sw_pu (hc:=cloneI0_pu) (hX:=fun _ _ => trivial) (h:=?_)) | (refine sy_build (cs:=[.slice none 0 0,.slice none 0 0]) (hf:=by rfl) (h:=?_)) | fail)
  exact ends_ret (res_cell rfl rfl (by (repeat (exact List.mem_cons_self))) (by rfl)) rfl
end Go.Proofs.YtjmpdkmboheknaaGreatDoor

namespace Go.Proofs.YtjmpdkmboheknaaGreatDoor
open Go Go.Proofs Sy
structure FndC where
  rank : Int
  dg : ByteArray
  a : ClaimD
def FndC.cells (f : FndC) : List Value := .int .i64 f.rank :: .string f.dg :: f.a.cells
def fndRC (s : SlV) (P : List FndC) : Res := orow 299 11 (.slice s.p s.n s.c) s.n (P.map FndC.cells).flatten
theorem fndC_len (P : List FndC) : ∀ r ∈ P.map FndC.cells,r.length = 11 := fun r hr => by
  obtain ⟨c,_,rfl⟩ := List.mem_map.1 hr
  rfl
def cmpC : Value := .func (.func 269) #[] #[]
def PermC (s : SlV) (P : List FndC) (u : Value) (R : List Res) (X : World → Prop) : Prop := u = .tuple #[] ∧ ∃ Q : List FndC,Q.Perm P ∧ R = [fndRC s Q]
def SortC (n : Nat) : Prop := ∀ (s : SlV) (P : List FndC),s.n = P.length → P.length ≤ n → Ct Tryz.prog 268 #[s.v,cmpC] [fndRC s P] (fun _ => True) (PermC s P)
theorem insC_one (s : SlV) (P : List FndC) (hs : s.n = P.length) (h1 : P.length ≤ 1) : Ct Tryz.prog 308 #[s.v,.int .i64 0,.int .i64 (s.n : Nat),cmpC] [fndRC s P] (fun _ => True) (PermC s P) := by
  refine ct_of_cw (args:=[_,_,_,_]) _ Tryz.func308 rfl Tryz.ntmps308 rfl fun av bor w0 => ?_
  repeat' (first | apply sw_nil | apply cw_seq | apply cw_reg | refine sy_move (h:=?_) | refine sy_assign (h:=?_) | refine sy_add (h:=?_) | apply cw_block | fail)
  refine cw_loop (ι:=Unit) (fun _ => ⟨[(2,.int .i64 (s.n : Nat)),(8,.int .i64 1)], [fndRC s P],fun _ => True⟩) (fun _ => 0) () (ok_sub ⟨rfl,rfl,trivial⟩ (List.Sublist.refl _) fun _ h => h) fun _ => ?_
  repeat' (first | apply sw_nil | apply cw_seq | apply cw_reg | refine sy_move (h:=?_) | refine sy_assign (h:=?_) | refine sy_lss (h:=?_) | apply cw_skip | apply cw_block | apply cw_exit | (refine cw_cond (ht:=?_) (hf:=?_);all_goals (intro hx_;first | have := of_decide_eq_true hx_ | have := of_decide_eq_false hx_)))
  all_goals first
    | (exfalso;omega)
    | exact ends_end (res_none rfl) ⟨rfl,P,List.Perm.refl _,rfl⟩
theorem stabC_one (s : SlV) (P : List FndC) (hs : s.n = P.length) (h1 : P.length ≤ 1) : Ct Tryz.prog 289 #[s.v,.int .i64 (s.n : Nat),cmpC] [fndRC s P] (fun _ => True) (PermC s P) := by
  refine ct_of_cw (args:=[_,_,_]) _ Tryz.func289 rfl Tryz.ntmps289 rfl fun av bor w0 => ?_
  repeat' (first | apply sw_nil | apply cw_seq | apply cw_reg | refine sy_move (h:=?_) | refine sy_assign (h:=?_) | apply cw_block | fail)
  refine cw_loop (ι:=Unit) (fun _ => ⟨[(0,s.v),(1,.int .i64 (s.n : Nat)),(2,cmpC),(6,.int .i64 20),(7,.int .i64 0),(8,.int .i64 20)], [fndRC s P],fun _ => True⟩) (fun _ => 0) () (ok_sub ⟨rfl,rfl,rfl,rfl,rfl,rfl,trivial⟩ (List.Sublist.refl _) fun _ h => h) fun _ => ?_
  repeat' (first | apply sw_nil | apply cw_seq | apply cw_reg | refine sy_move (h:=?_) | refine sy_leq (h:=?_) | apply cw_skip | apply cw_block | apply cw_exit | (refine cw_cond (ht:=?_) (hf:=?_);all_goals (intro hx_;first | have := of_decide_eq_true hx_ | have := of_decide_eq_false hx_)))
  · exfalso;omega
  refine sw_fn (pre:=[fndRC s P]) (fr:=[]) (first:=#[]) (caps:=#[]) (hc:=insC_one s P hs h1) (hX:=fun _ _ => trivial) (h:=?_)
  rintro v R X' ⟨rfl,Q,hQ,rfl⟩
  repeat' (first | apply sw_nil | apply cw_block | fail)
  refine cw_loop (ι:=Unit) (fun _ => ⟨[(1,.int .i64 (s.n : Nat)),(6,.int .i64 20)], [fndRC s Q],fun _ => True⟩) (fun _ => 0) () (ok_sub ⟨rfl,rfl,trivial⟩ (List.Sublist.refl _) fun _ h => trivial) fun _ => ?_
  repeat' (first | apply sw_nil | apply cw_seq | apply cw_reg | refine sy_move (h:=?_) | refine sy_assign (h:=?_) | refine sy_lss (h:=?_) | apply cw_skip | apply cw_block | apply cw_exit | refine sy_mul (h:=?_) | (refine cw_cond (ht:=?_) (hf:=?_);all_goals (intro hx_;first | have := of_decide_eq_true hx_ | have := of_decide_eq_false hx_)))
  · exfalso;omega
  exact ends_end (res_none rfl) ⟨rfl,Q,hQ,rfl⟩
theorem sortC_one : SortC 1 := fun s P hs h1 => by
  refine ct_of_cw (args:=[_,_]) _ Tryz.func268 rfl Tryz.ntmps268 rfl fun av bor w0 => ?_
  repeat' (first | apply cw_reg | refine sy_move (h:=?_) | refine sy_len (h:=?_) | fail)
  refine sw_fn (pre:=[fndRC s P]) (fr:=[]) (first:=#[]) (caps:=#[]) (hc:=stabC_one s P hs h1) (hX:=fun _ _ => trivial) (h:=?_)
  rintro v R X' ⟨rfl,Q,hQ,rfl⟩
  repeat' (first | apply sw_nil | fail)
  exact ends_end (res_none rfl) ⟨rfl,Q,hQ,rfl⟩
end Go.Proofs.YtjmpdkmboheknaaGreatDoor

namespace Go.Proofs.YtjmpdkmboheknaaGreatDoor
open Go Go.Proofs Sy
def Claims (w : World) (s : SlV) (l : List ClaimD) : Prop := RowsD w 9 s (l.map ClaimD.cells)
theorem claims_len9 (l : List ClaimD) : ∀ r ∈ l.map ClaimD.cells,r.length = 9 := fun r hr => by
  obtain ⟨c,_,rfl⟩ := List.mem_map.1 hr
  rfl
def wantC (au : ByteArray) (it : ItemD) : Bool := decide (it.kind = 1) && seqB it.claim.actor au
theorem wantC_pu (bW : Nat) (au : ByteArray) (it : ItemD) : Pu Tryz.prog 244 #[it.v,.pointer (some ⟨bW,0,none⟩)] (CelD bW [.string au]) (.tuple #[it.claim.v,.int .i64 0,.bool (wantC au it)]) := by
  refine pu_of_cw (args:=[_,_]) _ Tryz.func244 rfl Tryz.ntmps244 rfl fun av bor w0 => ?_
  repeat' (first | apply sw_nil | apply cw_seq | apply cw_reg | refine sy_assign (h:=?_) | refine sw_alloc (h:=fun _ => ?_) | refine sw_box (h:=fun _ => ?_) | fail)
  rename_i b2 b3
  by_cases h0 : it.kind = 1
  · (refine cw_draw [cel b2 61 it.cells] (CelD bW [.string au]) (by kernel_rfl) ?_)
    all_goals (refine aw_take 0 (hsub:=by (exact fun _ h => h.drop (by ((repeat (first | exact List.Sublist.refl _ | apply List.Sublist.cons));done)))) (h:=?_))
    all_goals (refine aw_take 1 (hsub:=by (exact fun _ h => h.drop (by ((repeat (first | exact List.Sublist.refl _ | apply List.Sublist.cons));done)))) (hy:=by (apply y_ldSub (vs:=it.claim.cells);rfl;exact .head _;rfl;rfl)) (h:=?_))
    all_goals (refine aw_take 2 (hsub:=by (exact fun _ h => h.drop (by ((repeat (first | exact List.Sublist.refl _ | apply List.Sublist.cons));done)))) (h:=?_))
    all_goals (refine aw_take 3 (hsub:=by (exact fun _ h => h.drop (by ((repeat (first | exact List.Sublist.refl _ | apply List.Sublist.cons));done)))) (h:=?_))
    all_goals (refine aw_take 4 (hsub:=by (exact fun _ h => h.drop (by ((repeat (first | exact List.Sublist.refl _ | apply List.Sublist.cons));done)))) (hy:=by (apply y_eqlW true;rfl;rfl;exact decide_eq_true h0)) (h:=?_))
    all_goals (refine aw_take 5 (hsub:=by (exact fun _ h => h.drop (by ((repeat (first | exact List.Sublist.refl _ | apply List.Sublist.cons));done)))) (h:=?_))
    all_goals (refine aw_take 6 (hsub:=by (exact fun _ h => h.drop (by ((repeat (first | exact List.Sublist.refl _ | apply List.Sublist.cons));done)))) (h:=?_))
    all_goals (refine aw_take 7 (hsub:=by (exact fun _ h => h.drop (by ((repeat (first | exact List.Sublist.refl _ | apply List.Sublist.cons));done)))) (h:=?_))
    all_goals (refine aw_take 8 (hsub:=by (exact fun _ h => h.drop (by ((repeat (first | exact List.Sublist.refl _ | apply List.Sublist.cons));done)))) (h:=?_))
    all_goals (refine aw_take 9 (hsub:=by (exact fun _ h => h.drop (by ((repeat (first | exact List.Sublist.refl _ | apply List.Sublist.cons));done)))) (hy:=by (apply y_ldC1;rfl;exact (fun w h => h 0 _ rfl))) (h:=?_))
    all_goals (refine aw_take 10 (hsub:=by (exact fun _ h => h.drop (by ((repeat (first | exact List.Sublist.refl _ | apply List.Sublist.cons));done)))) (h:=?_))
    all_goals (refine aw_take 11 (hsub:=by (exact fun _ h => h.drop (by ((repeat (first | exact List.Sublist.refl _ | apply List.Sublist.cons));done)))) (h:=?_))
    all_goals (refine aw_step 12 (h:=?_);(refine sw_stAll (h:=?_));apply sw_nil;refine aw_fin (hsub:=by (exact fun _ h => h.drop (by ((repeat (first | exact List.Sublist.refl _ | apply List.Sublist.cons));done)))) (h:=?_))
    all_goals (refine aw_take 13 (hsub:=by (exact fun _ h => h.drop (by ((repeat (first | exact List.Sublist.refl _ | apply List.Sublist.cons));done)))) (h:=?_))
    all_goals (refine aw_take 14 (hsub:=by (exact fun _ h => h.drop (by ((repeat (first | exact List.Sublist.refl _ | apply List.Sublist.cons));done)))) (h:=?_))
    all_goals (refine aw_done (h:=?_))
    all_goals
      repeat' (first | apply cw_ret | fail)
      exact ends_ret (res_cellTmp2 rfl rfl rfl rfl (.head _) rfl) (by rw [wantC,decide_eq_true h0];rfl)
  · (refine cw_draw [cel b2 61 it.cells] (CelD bW [.string au]) (by kernel_rfl) ?_)
    all_goals (refine aw_take 0 (hsub:=by (exact fun _ h => h.drop (by ((repeat (first | exact List.Sublist.refl _ | apply List.Sublist.cons));done)))) (h:=?_))
    all_goals (refine aw_take 1 (hsub:=by (exact fun _ h => h.drop (by ((repeat (first | exact List.Sublist.refl _ | apply List.Sublist.cons));done)))) (hy:=by (apply y_ldSub (vs:=it.claim.cells);rfl;exact .head _;rfl;rfl)) (h:=?_))
    all_goals (refine aw_take 2 (hsub:=by (exact fun _ h => h.drop (by ((repeat (first | exact List.Sublist.refl _ | apply List.Sublist.cons));done)))) (h:=?_))
    all_goals (refine aw_take 3 (hsub:=by (exact fun _ h => h.drop (by ((repeat (first | exact List.Sublist.refl _ | apply List.Sublist.cons));done)))) (h:=?_))
    all_goals (refine aw_take 4 (hsub:=by (exact fun _ h => h.drop (by ((repeat (first | exact List.Sublist.refl _ | apply List.Sublist.cons));done)))) (hy:=by (apply y_eqlW false;rfl;rfl;exact decide_eq_false h0)) (h:=?_))
    all_goals (refine aw_take 5 (hsub:=by (exact fun _ h => h.drop (by ((repeat (first | exact List.Sublist.refl _ | apply List.Sublist.cons));done)))) (h:=?_))
    all_goals (refine aw_skipT 6 (hsub:=by (exact fun _ h => h.drop (by ((repeat (first | exact List.Sublist.refl _ | apply List.Sublist.cons));done)))) (h:=?_))
    all_goals (refine aw_skipT 7 (hsub:=by (exact fun _ h => h.drop (by ((repeat (first | exact List.Sublist.refl _ | apply List.Sublist.cons));done)))) (h:=?_))
    all_goals (refine aw_skipT 8 (hsub:=by (exact fun _ h => h.drop (by ((repeat (first | exact List.Sublist.refl _ | apply List.Sublist.cons));done)))) (h:=?_))
    all_goals (refine aw_skipT 9 (hsub:=by (exact fun _ h => h.drop (by ((repeat (first | exact List.Sublist.refl _ | apply List.Sublist.cons));done)))) (h:=?_))
    all_goals (refine aw_skipT 10 (hsub:=by (exact fun _ h => h.drop (by ((repeat (first | exact List.Sublist.refl _ | apply List.Sublist.cons));done)))) (h:=?_))
    all_goals (refine aw_take 11 (hsub:=by (exact fun _ h => h.drop (by ((repeat (first | exact List.Sublist.refl _ | apply List.Sublist.cons));done)))) (h:=?_))
    all_goals (refine aw_step 12 (h:=?_);(refine sw_stAll (h:=?_));apply sw_nil;refine aw_fin (hsub:=by (exact fun _ h => h.drop (by ((repeat (first | exact List.Sublist.refl _ | apply List.Sublist.cons));done)))) (h:=?_))
    all_goals (refine aw_take 13 (hsub:=by (exact fun _ h => h.drop (by ((repeat (first | exact List.Sublist.refl _ | apply List.Sublist.cons));done)))) (h:=?_))
    all_goals (refine aw_take 14 (hsub:=by (exact fun _ h => h.drop (by ((repeat (first | exact List.Sublist.refl _ | apply List.Sublist.cons));done)))) (h:=?_))
    all_goals (refine aw_done (h:=?_))
    all_goals
      repeat' (first | apply cw_ret | fail)
      exact ends_ret (res_cellTmp2 rfl rfl rfl rfl (.head _) rfl) (by rw [wantC,decide_eq_false h0];rfl)
def fndOfC (dI : ItemD → ByteArray) (it : ItemD) : FndC := ⟨0,dI it,it.claim⟩
def selBC (au : ByteArray) (rI : ItemD → Bool) (it : ItemD) : Bool := wantC au it && rI it
def selFC (au : ByteArray) (rI : ItemD → Bool) (dI : ItemD → ByteArray) (I : List ItemD) : List FndC := (I.filter (selBC au rI)).map (fndOfC dI)
def selC (au : ByteArray) (rI : ItemD → Bool) (I : List ItemD) : List ClaimD := (I.filter (selBC au rI)).map ItemD.claim
theorem selFC_a (au : ByteArray) (rI : ItemD → Bool) (dI : ItemD → ByteArray) (I : List ItemD) : (selFC au rI dI I).map FndC.a = selC au rI I := by rw [selFC,selC,List.map_map];rfl
structure PikIC (I : List ItemD) (au : ByteArray) (rI : ItemD → Bool) (dI : ItemD → ByteArray) where
  k : Nat
  hk : k ≤ I.length
  A : Option Addr
  c : Nat
  n : Nat
  hn : n = (selFC au rI dI (I.take k)).length
  xs : List Value
  hxs : xs = ((selFC au rI dI (I.take k)).map FndC.cells).flatten
structure ValIC (Q : List FndC) where
  k : Nat
  hk : k ≤ Q.length
  A : Option Addr
  c : Nat
  xs : List Value
  hxs : xs = ((Q.take k).map fun f => f.a.cells).flatten
def wantVC (bW : Nat) : Value := .func (.func 244) #[] #[.pointer (some ⟨bW,0,none⟩)]
set_option maxHeartbeats 16000000 in
theorem pickC_mk (ks ki : SlV) (I : List ItemD) (bW : Nat) (au : ByteArray) (rI : ItemD → Bool) (dI : ItemD → ByteArray)
    (hR : ∀ it ∈ I,Pu Tryz.prog 72 #[it.v] (fun w => it.at_ w) (.bool (rI it)))
    (hD : ∀ it ∈ I,Pu Tryz.prog 20 #[it.v] (fun w => it.at_ w ∧ Glob w) (.string (dI it)))
    (hI : I.length ≤ 1000) (hsort : SortC I.length) :
    Mk Tryz.prog 243 #[.agg #[ks.v,ki.v],wantVC bW] (fun w => (Items w ki I ∧ CelD bW [.string au] w) ∧ Glob w)
      (fun u X' => ∃ (s : SlV) (L : List ClaimD),u = s.v ∧ L.Perm (selC au rI I) ∧ ∀ w,X' w → Claims w s L) := by
  refine mk_of_cw2 (args:=[_,_]) _ Tryz.func243 rfl Tryz.ntmps243 rfl fun av bor w0 => ?_
  refine cw_know (p:=ki.n = I.length ∧ ki.n ≤ maxLen ∧ (0 < I.length → ki.p.isSome = true)) (fun w h => ⟨h.1.1.len_,h.1.1.max_,h.1.1.some_⟩) fun ⟨hkn,hkm,hkp⟩ => ?_
  simp only [maxLen] at hkm
  repeat' (first | apply sw_nil | apply cw_seq | apply cw_reg | refine sy_move (h:=?_) | refine sy_assign (h:=?_) | refine sy_fld (h:=?_) | refine sy_ld (h:=?_) | refine sy_len (h:=?_) | refine sw_box (h:=fun _ => ?_) | apply cw_block | fail)
  rename_i b2
  refine cw_nilRow 299 11 ?_
  refine cw_loop (ι:=PikIC I au rI dI) (fun i => ⟨[(1,wantVC bW),(5,.slice i.A i.n i.c),(15,ki.v),(16,.int .i64 (ki.n : Nat)),(17,.int .i64 (i.k : Nat))], [orow 299 11 (.slice i.A i.n i.c) i.n i.xs],fun w => (Items w ki I ∧ CelD bW [.string au] w) ∧ Glob w⟩) (fun i => I.length - i.k) ⟨0,Nat.zero_le _,none,0,0,rfl, [],rfl⟩ (ok_sub ⟨rfl,rfl,rfl,rfl,rfl,trivial⟩ (.cons_cons _ (List.nil_sublist _)) fun _ h => h) fun i => ?_
  obtain ⟨k,hk,A,c,n,hn,xs,hxs⟩ := i
  simp only
  repeat' (first | apply sw_nil | apply cw_seq | apply cw_reg | refine sy_move (h:=?_) | refine sy_lss (h:=?_) | apply cw_skip | apply cw_block | apply cw_exit | (refine cw_cond (ht:=?_) (hf:=?_);all_goals (intro hx_;first | have := of_decide_eq_true hx_ | have := of_decide_eq_false hx_)))
  · have hlt : k < I.length := by omega
    have hkp' := hkp (by omega)
    obtain ⟨it,hit⟩ : ∃ it,I[k]? = some it := ⟨_,List.getElem?_eq_getElem hlt⟩
    have him := List.mem_of_getElem? hit
    have hnl : n ≤ 1000 := by
      rw [hn,selFC,List.length_map]
      exact Nat.le_trans (List.length_filter_le _ _) (by rw [List.length_take];omega)
    repeat' (first | apply sw_nil | apply cw_seq | apply cw_reg | refine sy_move (h:=?_) | refine sy_ldAll (h:=?_) | refine sw_alloc (h:=fun _ => ?_) | refine sw_stAll (h:=?_) | (refine sy_idxX (q:=k * 49) (h:=?_)) | (refine sy_ldXs (cs:=it.cells) (hF:=fun w h => h.1.1.get hit) (h:=?_)) | fail)
    rename_i b7
    have hri := hR it him
    have hdi := hD it him
    have hwa := wantC_pu bW au it
    have htk : selFC au rI dI (I.take (k + 1)) = selFC au rI dI (I.take k) ++ (bif selBC au rI it then [fndOfC dI it] else []) := by
      rw [selFC,selFC,List.take_add_one,hit,List.filter_append,List.map_append,Option.toList_some]
      congr 1
      cases hb : selBC au rI it with
      | true => simp [hb]
      | false => simp [hb]
    cases hwt : wantC au it with
    | false =>
      rw [hwt] at hwa
      have hno : selFC au rI dI (I.take (k + 1)) = selFC au rI dI (I.take k) := by rw [htk,selBC,hwt];exact List.append_nil _
      refine sw_puV (args:=[it.v]) (all:=[it.v,.pointer (some ⟨bW,0,none⟩)]) (first:=#[]) (caps:=#[.pointer (some ⟨bW,0,none⟩)]) (hx:=rfl) (ha:=rfl) (hall:=rfl) (hc:=hwa) (hX:=fun w h => h.1.2) (h:=?_)
      repeat' (first | apply sw_nil | apply cw_seq | apply cw_reg | refine sy_move (h:=?_) | refine sy_assign (h:=?_) | refine sy_pick_f (h:=?_) | refine sy_extract (h:=?_) | refine sy_add (h:=?_) | refine sw_skipT (h:=?_) | refine sw_alloc (h:=fun _ => ?_) | refine sw_stAll (h:=?_) | refine cw_cond_f (hf:=?_) | apply cw_skip | fail)
      exact ⟨(⟨k + 1,hlt,A,c,n,by rw [hno];exact hn,xs,by rw [hno];exact hxs⟩ : PikIC I au rI dI),(by show I.length - (k + 1) < I.length - k;omega),ok_sub ⟨rfl,rfl,rfl,rfl,rfl,trivial⟩ (.cons _ (.cons _ (List.Sublist.refl _))) fun _ h => h⟩
    | true =>
      rw [hwt] at hwa
      cases hrt : rI it with
      | false =>
        rw [hrt] at hri
        have hno : selFC au rI dI (I.take (k + 1)) = selFC au rI dI (I.take k) := by rw [htk,selBC,hwt,hrt];exact List.append_nil _
        refine sw_puV (args:=[it.v]) (all:=[it.v,.pointer (some ⟨bW,0,none⟩)]) (first:=#[]) (caps:=#[.pointer (some ⟨bW,0,none⟩)]) (hx:=rfl) (ha:=rfl) (hall:=rfl) (hc:=hwa) (hX:=fun w h => h.1.2) (h:=?_)
        repeat' (first | apply sw_nil | apply cw_seq | apply cw_reg | refine sy_move (h:=?_) | refine sy_assign (h:=?_) | refine sy_ldAll (h:=?_) | refine sy_pick_t (h:=?_) | refine sy_extract (h:=?_) | refine sy_add (h:=?_) | refine sw_alloc (h:=fun _ => ?_) | refine sw_stAll (h:=?_) | refine cw_cond_f (hf:=?_) | apply cw_skip | (refine sw_pu (hc:=hri) (hX:=fun w h => h.1.1.2 it him) (h:=?_)) | fail)
        exact ⟨(⟨k + 1,hlt,A,c,n,by rw [hno];exact hn,xs,by rw [hno];exact hxs⟩ : PikIC I au rI dI),(by show I.length - (k + 1) < I.length - k;omega),ok_sub ⟨rfl,rfl,rfl,rfl,rfl,trivial⟩ (.cons _ (.cons _ (List.Sublist.refl _))) fun _ h => h⟩
      | true =>
        rw [hrt] at hri
        have hyes : selFC au rI dI (I.take (k + 1)) = selFC au rI dI (I.take k) ++ [fndOfC dI it] := by rw [htk,selBC,hwt,hrt];rfl
        refine sw_puV (args:=[it.v]) (all:=[it.v,.pointer (some ⟨bW,0,none⟩)]) (first:=#[]) (caps:=#[.pointer (some ⟨bW,0,none⟩)]) (hx:=rfl) (ha:=rfl) (hall:=rfl) (hc:=hwa) (hX:=fun w h => h.1.2) (h:=?_)
        repeat' (first | apply sw_nil | apply cw_seq | apply cw_reg | refine sy_move (h:=?_) | refine sy_assign (h:=?_) | refine sy_ldAll (h:=?_) | refine sy_pick_t (h:=?_) | refine sy_extract (h:=?_) | refine sw_alloc (h:=fun _ => ?_) | refine sw_stAll (h:=?_) | refine cw_cond_t (ht:=?_) | (refine sw_pu (hc:=hri) (hX:=fun w h => h.1.1.2 it him) (h:=?_)) | fail)
        rename_i b8
        (refine cw_draw [cel b8 55 it.claim.cells,cel b7 61 it.cells] (fun w => (Items w ki I ∧ CelD bW [.string au] w) ∧ Glob w) (by kernel_rfl) ?_)
        all_goals (refine aw_take 0 (hsub:=by (exact fun _ h => h.drop (by ((repeat (first | exact List.nil_sublist _ | with_reducible apply List.Sublist.cons_cons));done)))) (h:=?_))
        all_goals (refine aw_take 1 (hsub:=by (exact fun _ h => h.drop (by ((repeat (first | exact List.nil_sublist _ | with_reducible apply List.Sublist.cons_cons));done)))) (h:=?_))
        all_goals (refine aw_take 2 (hsub:=by (exact fun _ h => h.drop (by ((repeat (first | exact List.nil_sublist _ | with_reducible apply List.Sublist.cons_cons));done)))) (h:=?_))
        all_goals (refine aw_take 4 (hsub:=by (exact fun _ h => h.drop (by ((repeat (first | exact List.nil_sublist _ | with_reducible apply List.Sublist.cons_cons));done)))) (h:=?_))
        all_goals (refine aw_step 3 (h:=?_);(refine sw_pu (hc:=hdi) (hX:=fun w h => ⟨h.1.1.2 it him,h.2⟩) (h:=?_));apply sw_nil;refine aw_fin (hsub:=by (exact fun _ h => h.drop (by ((repeat (first | exact List.nil_sublist _ | with_reducible apply List.Sublist.cons_cons));done)))) (h:=?_))
        all_goals (refine aw_take 5 (hsub:=by (exact fun _ h => h.drop (by ((repeat (first | exact List.nil_sublist _ | with_reducible apply List.Sublist.cons_cons));done)))) (hy:=by (apply y_build (cs:=(fndOfC dI it).cells);rfl;rfl)) (h:=?_))
        all_goals (refine aw_step 6 (h:=?_);(refine sw_bslS (size:=11) (vs:=[.agg (fndOfC dI it).cells.toArray]) (css:=(fndOfC dI it).cells) (hsz:=by rfl) (hcs:=by rfl) (h:=fun _ => ?_));apply sw_nil;refine aw_fin (hsub:=by (exact fun _ h => h.drop (by ((repeat (first | exact List.nil_sublist _ | with_reducible apply List.Sublist.cons_cons | apply List.Sublist.cons));done)))) (h:=?_))
        all_goals (refine aw_step 7 (h:=?_);(refine sw_append (size:=11) (news:=(fndOfC dI it).cells) (q:=1) rfl rfl rfl rfl (fun _ => At.there _ (At.there _ (At.there _ (At.here _)))) (fun w G => src_cel G List.mem_cons_self rfl rfl 1) (by omega) (by simp only [maxLen];omega) rfl ?_ rfl ?_;(with_reducible rfl);intro A2 c2);apply sw_nil;refine aw_fin (hsub:=by (exact fun _ h => h.drop (by ((repeat (first | exact List.nil_sublist _ | with_reducible apply List.Sublist.cons_cons | apply List.Sublist.cons));done)))) (h:=?_))
        all_goals (refine aw_take 8 (hsub:=by (exact fun _ h => h.drop (by ((repeat (first | exact List.nil_sublist _ | with_reducible apply List.Sublist.cons_cons | apply List.Sublist.cons));done)))) (h:=?_))
        all_goals (refine aw_done (h:=?_))
        all_goals
          repeat' (first | apply sw_nil | apply cw_reg | refine sy_move (h:=?_) | refine sy_add (h:=?_) | fail)
          exact ⟨(⟨k + 1,hlt,A2,c2,n + 1,by rw [hyes,List.length_append, ← hn];rfl,xs ++ (fndOfC dI it).cells,by rw [hyes,hxs];simp⟩ : PikIC I au rI dI),(by show I.length - (k + 1) < I.length - k;omega),ok_sub ⟨rfl,rfl,rfl,rfl,rfl,trivial⟩ (.cons _ (.cons _ (.cons _ (List.Sublist.refl _)))) fun _ h => h⟩
  have hkE : k = I.length := by omega
  rw [hkE,List.take_length] at hn hxs
  obtain ⟨P,hP⟩ : ∃ P,selFC au rI dI I = P := ⟨_,rfl⟩
  rw [hP] at hn hxs
  have hPl : P.length ≤ I.length := by rw [← hP,selFC,List.length_map];exact List.length_filter_le _ _
  subst hxs
  refine sw_fn (pre:=[fndRC ⟨A,n,c⟩ P]) (fr:=[]) (first:=#[]) (caps:=#[]) (hc:=hsort ⟨A,n,c⟩ P hn hPl) (hX:=fun _ _ => trivial) (h:=?_)
  rintro v R X' ⟨rfl,Q,hQ,rfl⟩
  have hQl : Q.length = n := hQ.length_eq.trans hn.symm
  have hnI : n ≤ 1000 := by omega
  refine sw_imp (X':=fun w => (Items w ki I ∧ CelD bW [.string au] w) ∧ Glob w) (fun w h => h.1) ?_
  repeat' (first | apply sw_nil | apply cw_seq | apply cw_reg | refine sy_move (h:=?_) | refine sy_assign (h:=?_) | refine sy_len (h:=?_) | apply cw_block | (refine sw_mkSl (c:=n) (hm:=Nat.ble_eq_true_of_le (by omega)) (hm2:=Nat.ble_eq_true_of_le (by omega)) (h:=fun bv => ?_)) | fail)
  refine cw_knowR (r:=fndRC ⟨A,n,c⟩ Q) (by (repeat (first | exact List.mem_cons_self | apply List.mem_cons_of_mem))) (p:=0 < n → A.isSome = true) (fun w h h0 => orow_some h h0) fun hAp => ?_
  refine cw_loop (ι:=ValIC Q) (fun i => ⟨[(11,.slice i.A i.k i.c),(47,.slice A n c),(48,.int .i64 (n : Nat)),(49,.int .i64 (i.k : Nat))], [orow 55 9 (.slice i.A i.k i.c) i.k i.xs,fndRC ⟨A,n,c⟩ Q],fun w => (Items w ki I ∧ CelD bW [.string au] w) ∧ Glob w⟩) (fun i => Q.length - i.k) ⟨0,Nat.zero_le _,_,_, [],rfl⟩ (ok_sub ⟨rfl,rfl,rfl,rfl,trivial⟩ (List.Sublist.refl _) fun _ h => h) fun i => ?_
  obtain ⟨k2,hk2,A2,c2,xs2,hxs2⟩ := i
  simp only
  repeat' (first | apply sw_nil | apply cw_seq | apply cw_reg | refine sy_move (h:=?_) | refine sy_assign (h:=?_) | refine sy_lss (h:=?_) | apply cw_skip | apply cw_block | apply cw_ret | apply cw_exit | (refine cw_cond (ht:=?_) (hf:=?_);all_goals (intro hx_;first | have := of_decide_eq_true hx_ | have := of_decide_eq_false hx_)))
  · have hlt : k2 < Q.length := by omega
    have hAp' := hAp (by omega)
    obtain ⟨f,hf⟩ : ∃ f,Q[k2]? = some f := ⟨_,List.getElem?_eq_getElem hlt⟩
    repeat' (first | refine sw_bslS (size:=9) (vs:=[f.a.v]) (css:=f.a.cells) (hsz:=by rfl) (hcs:=by rfl) (h:=fun _ => ?_) | apply sw_nil | apply cw_reg | refine sy_move (h:=?_) | refine sy_fld (h:=?_) | refine sw_alloc (h:=fun _ => ?_) | refine sw_stAll (h:=?_) | (refine sy_idxX (q:=k2 * 11) (h:=?_)) | (refine sw_yield (y_ldOs (size:=11) (m:=n) (i:=k2) (xs:=Q.map FndC.cells) (cs:=f.cells) rfl (.tail _ (.head _)) (by rw [List.length_map];exact hQl.symm) (fndC_len Q) (by simp [hf])) rfl rfl rfl ?_) | (refine sy_ldSub (vs:=f.a.cells) (hv:=rfl) (h:=?_)) | fail)
    refine sw_append (size:=9) (news:=f.a.cells) (q:=1) rfl rfl rfl rfl (fun _ => At.there _ (At.there _ (At.here _))) (fun w G => src_cel G List.mem_cons_self rfl rfl 1) (by omega) (by simp only [maxLen];omega) rfl ?_ rfl ?_
    · (with_reducible rfl)
    intro A3 c3
    repeat' (first | apply sw_nil | apply cw_reg | refine sy_move (h:=?_) | refine sy_assign (h:=?_) | refine sy_add (h:=?_) | fail)
    exact ⟨(⟨k2 + 1,hlt,A3,c3,xs2 ++ f.a.cells,by rw [List.take_add_one,hf,hxs2];simp⟩ : ValIC Q),(by show Q.length - (k2 + 1) < Q.length - k2;omega),ok_sub ⟨rfl,rfl,rfl,rfl,trivial⟩ (.cons _ (.cons _ (List.Sublist.refl _))) fun _ h => h⟩
  have hk2E : k2 = Q.length := by omega
  rw [hk2E,List.take_length] at hxs2
  have hLp : (Q.map FndC.a).Perm (selC au rI I) := by rw [← selFC_a au rI dI I,hP];exact hQ.map _
  refine ends_ret (res_tmp rfl rfl) ⟨⟨A2,k2,c2⟩,Q.map FndC.a,rfl,hLp,fun w h => ?_⟩
  have hr := h.2 (orow 55 9 (.slice A2 k2 c2) k2 xs2) (.head _)
  exact rows_of_orow (xs:=(Q.map FndC.a).map ClaimD.cells) (by rw [List.map_map];rw [hxs2] at hr;exact hr) (by rw [List.length_map,List.length_map];exact hk2E) (claims_len9 _)
theorem knownClaims_mk (ks ki : SlV) (I : List ItemD) (au : ByteArray) (rI : ItemD → Bool) (dI : ItemD → ByteArray)
    (hR : ∀ it ∈ I,Pu Tryz.prog 72 #[it.v] (fun w => it.at_ w) (.bool (rI it)))
    (hD : ∀ it ∈ I,Pu Tryz.prog 20 #[it.v] (fun w => it.at_ w ∧ Glob w) (.string (dI it)))
    (hI : I.length ≤ 1000) (hsort : SortC I.length) :
    Mk Tryz.prog 208 #[.agg #[ks.v,ki.v],.string au] (fun w => Items w ki I ∧ Glob w)
      (fun u X' => ∃ (s : SlV) (L : List ClaimD),u = s.v ∧ L.Perm (selC au rI I) ∧ ∀ w,X' w → Claims w s L) := by
  refine mk_of_cw2 (args:=[_,_]) _ Tryz.func208 rfl Tryz.ntmps208 rfl fun av bor w0 => ?_
  repeat' (first | apply sw_nil | apply cw_seq | apply cw_reg | refine sy_assign (h:=?_) | refine sy_ldAll (h:=?_) | refine sw_box (h:=fun _ => ?_) | (refine sy_makeFunc (h:=?_)) | fail)
  rename_i b2 b3
  refine sw_give ?_
  refine sw_mk (hc:=pickC_mk ks ki I b3 au rI dI hR hD hI hsort) (hX:=fun w h => ⟨⟨h.1.1,celD_of h.2⟩,h.1.2⟩) (h:=fun v X1 h1 => ?_)
  obtain ⟨s,L,rfl,hL,hw⟩ := h1
  repeat' (first | apply sw_nil | refine sy_assign (h:=?_) | apply cw_ret | fail)
  exact ends_ret (res_tmp rfl rfl) ⟨s,L,rfl,hL,fun w h => hw w h.1.2⟩
end Go.Proofs.YtjmpdkmboheknaaGreatDoor

namespace Go.Proofs.YtjmpdkmboheknaaGreatDoor
open Go Go.Proofs Sy
theorem quorum0_pu : Pu Tryz.prog 207 #[.int .i64 0] (fun _ => True) (.int .i64 1) := by
  refine pu_of_cw (args:=[_]) _ Tryz.func207 rfl Tryz.ntmps207 rfl fun av bor w0 => ?_
  repeat' (first | apply sw_nil | apply cw_seq | apply cw_reg | refine sy_move (h:=?_) | refine sy_assign (h:=?_) | refine sy_leq (h:=?_) | apply cw_skip | apply cw_ret | (refine cw_cond (ht:=?_) (hf:=?_);all_goals (intro hx_;first | have := of_decide_eq_true hx_ | have := of_decide_eq_false hx_)))
  · exact ends_ret (res_tmp rfl rfl) rfl
  · exact absurd this (by decide)
theorem wonNone_pu (ki : SlV) (I : List ItemD) (id : ByteArray) (g : Int) (rI : ItemD → Bool) (dI : ItemD → ByteArray)
    (hR : ∀ it ∈ I,Pu Tryz.prog 72 #[it.v] (fun w => it.at_ w) (.bool (rI it)))
    (hD : ∀ it ∈ I,Pu Tryz.prog 20 #[it.v] (fun w => it.at_ w ∧ Glob w) (.string (dI it)))
    (hI : I.length ≤ 1000) (hsort : SortC I.length) (hno : selC id rI I = []) :
    Pu Tryz.prog 148 #[.agg #[.slice none 0 0,ki.v],.string id,.int .i64 g] (fun w => Items w ki I ∧ Glob w) (.tuple #[ClaimD.zero.v,.bool false]) := by
  refine pu_of_cw (args:=[_,_,_]) _ Tryz.func148 rfl Tryz.ntmps148 rfl fun av bor w0 => ?_
  have hcl := knownClaims_mk ⟨none,0,0⟩ ki I id rI dI hR hD hI hsort
  repeat' (first | apply sw_nil | apply cw_seq | apply cw_reg | refine sy_move (h:=?_) | refine sy_assign (h:=?_) | refine sy_fld (h:=?_) | refine sy_ld (h:=?_) | refine sy_ldAll (h:=?_) | refine sy_len (h:=?_) | refine sw_alloc (h:=fun _ => ?_) | refine sw_box (h:=fun _ => ?_) | apply cw_block | (refine sw_pu (hc:=quorum0_pu) (hX:=fun _ _ => trivial) (h:=?_)) | (refine sw_mk (hc:=hcl) (hX:=fun w h => h) (h:=fun v1 X1 h1 => ?_);obtain ⟨s,L,rfl,hL,hw⟩ := h1) | fail)
  rename_i b3 b6
  obtain rfl : L = [] := by rw [hno] at hL;exact List.Perm.eq_nil hL
  refine cw_know (p:=s.n = 0) (fun w h => by have h1 := RowsD.len (hw w h.2);simpa using h1) fun hs0 => ?_
  refine cw_loop (ι:=Unit) (fun _ => ⟨[(6,.pointer (some ⟨b6,0,none⟩)),(19,.int .i64 (s.n : Nat)),(20,.int .i64 0)], [cel b6 55 ClaimD.zero.cells],fun w => True⟩) (fun _ => 0) () (ok_sub ⟨rfl,rfl,rfl,trivial⟩ (.cons_cons _ (List.nil_sublist _)) fun _ _ => trivial) fun _ => ?_
  repeat' (first | apply sw_nil | apply cw_seq | apply cw_reg | refine sy_assign (h:=?_) | refine sy_lss (h:=?_) | refine sw_stAll (h:=?_) | apply cw_skip | apply cw_block | apply cw_ret | apply cw_exit | (refine sy_build (cs:=ClaimD.zero.cells) (hf:=by rfl) (h:=?_)) | (refine cw_cond (ht:=?_) (hf:=?_);all_goals (intro hx_;first | have := of_decide_eq_true hx_ | have := of_decide_eq_false hx_)))
  · exfalso;omega
  exact ends_ret (res_cellTmp rfl rfl rfl (by (repeat (exact List.mem_cons_self))) (by rfl)) rfl
end Go.Proofs.YtjmpdkmboheknaaGreatDoor
