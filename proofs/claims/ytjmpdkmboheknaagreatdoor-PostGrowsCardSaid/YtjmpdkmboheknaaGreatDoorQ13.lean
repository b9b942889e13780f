/- Joined by program out of: Ns Nq Nt Nu Nh Se Nr Ow. -/
import Derived.Test.YtjmpdkmboheknaaGreatDoorQ12
set_option linter.unusedVariables false
set_option linter.unusedSimpArgs false
namespace Go.Proofs.YtjmpdkmboheknaaGreatDoor
open Go Go.Proofs Sy
theorem begActs {x : ActD} (hx : x.Rng) (hs : x.Sm) : ActsOk [x] := ⟨fun a h => by rw [List.mem_singleton.1 h];exact hx,fun a h => by rw [List.mem_singleton.1 h];exact hs⟩
theorem nk_rngA1 : nkA1.Rng := ⟨by decide +kernel,fun w hw => (List.not_mem_nil hw).elim,rfl,rfl⟩
theorem nk_rngA2 : nkA2.Rng := ⟨by decide +kernel,fun w hw => (List.not_mem_nil hw).elim,rfl,rfl⟩
theorem nk_smA1 : nkA1.Sm := ⟨by decide,by decide,by decide⟩
theorem nk_smA2 : nkA2.Sm := ⟨by decide,by decide,by decide⟩
theorem chainsOne {b : Nat} {w : World} {c : ChainD} (h : (cel b 39 c.cells).F w) (hc : c.at_ w) : Chains w ⟨some ⟨b,0,none⟩,1,1⟩ [c] :=
  ⟨rows_of_cel (xs:=[c.cells]) h rfl (by decide) (by intro r hr;rw [List.mem_singleton.1 hr];rfl),fun x hx => by rw [List.mem_singleton.1 hx];exact hc⟩
theorem last26 {c2 : ChainD} {x0 x1 x2 : ActD} (hl2 : c2.actsL = [x0,x1,x2]) (hi2 : c2.id = nkI) (h1k : x1.kind = 1) (h1s : x1.scope = 0) (h2k : x2.kind = 14) (h2s : x2.scope = 0) {p : PostD} (hg : p.gone = false) (hpo : p.pos = 1) (hpe : p.edL = [2]) (hpa : p.author = nkI) : lastV [c2] p ⟨#[]⟩ = .tuple #[.int .i64 2,.bool true] := by
  have m1 : mayV c2 1 ⟨#[]⟩ = true := by
    rw [mayV,rtextV,pubV,hl2]
    show ((decide ((0 : Int) ≤ 1) && (postK x1.kind || decide (x1.kind = 14))) && (_ || decide (x1.scope = 0) || _)) = true
    rw [h1k,h1s]
    simp [postK]
  have m2 : mayV c2 2 ⟨#[]⟩ = true := by
    rw [mayV,rtextV,pubV,hl2]
    show ((decide ((0 : Int) ≤ 2) && (postK x2.kind || decide (x2.kind = 14))) && (_ || decide (x2.scope = 0) || _)) = true
    rw [h2k,h2s]
    simp [postK]
  have hf : findC [c2] p.author = some c2 := by rw [hpa,findC,List.find?_cons,hi2,seqB_self]
  have hh : histV [c2] p ⟨#[]⟩ = [1,2] := by
    rw [histV,hg,hf,hpo,hpe]
    show ([1,2] : List Int).filter (fun i => mayV c2 i ⟨#[]⟩) = _
    simp [m1,m2]
  rw [lastV,hh]
  rfl
theorem none26 {c2 : ChainD} {x1 : ActD} (hps : postsV c2 = [p26 x1]) (hd1 : digV x1 = nkD1) : findPV [c2] ⟨#[120]⟩ = none := findPV_none fun c hc q hq => by
  rw [List.mem_singleton.1 hc,hps] at hq
  rw [List.mem_singleton.1 hq,isPost]
  show seqB (digV x1) _ = false
  rw [hd1]
  exact nkx_ne
theorem y_notW {P : Program} {N : Nat} {av bor : List Nat} {w0 : World} {st : St} {t ty : TypeId} {x : Operand} {b : Bool} (v : Bool) (hx : ev st.env x = some (.bool b)) (hv : (!b) = v) : Sy.Yields P N av bor w0 st (.unOp .not t x) ty (.bool v) := hv ▸ y_not hx
structure Met26 where
  r1 : SlV
  r2 : SlV
  m1 : r1.n = 0
  m2 : r2.n = 0
  b : Nat
set_option maxRecDepth 20000 in
set_option maxHeartbeats 16000000 in
theorem small26_pu : Pu Tryz.prog 6 #[] Glob (.bool true) := by
  refine pu_of_cw (args:=[]) _ Tryz.func6 rfl Tryz.ntmps6 rfl fun av bor w0 => ?_
  have hk := signKey_pu ⟨#[97]⟩ (by decide)
  rw [nk_key] at hk
  have hbg := begun_mk
  repeat' (first | apply sw_nil | apply cw_seq | apply cw_reg | refine sy_move (h:=?_) | refine sy_assign (h:=?_) | refine sy_ldAll (h:=?_) | refine sy_extract (h:=?_) | refine sw_alloc (h:=fun _ => ?_) | refine sw_stAll (h:=?_) | (refine sw_pu (hc:=hk) (hX:=fun w h => h) (h:=?_)) | (refine sw_mk (hc:=hbg) (hX:=fun w h => h) (h:=fun v1 X1 h1 => ?_);obtain ⟨ks,sa,sk,s1,s2,hs1,hs2,rfl,hw0⟩ := h1) | (refine sy_build (cs:=a26.cells) (hf:=by rfl) (h:=?_)) | fail)
  refine sw_know (p:=sa.n = 1) (fun w h => by simpa using (hw0 w h.2).1.1.len) fun hsa => ?_
  obtain ⟨x0,hx0⟩ : ∃ x,x = nkA0.re s1 s2 := ⟨_,rfl⟩
  rw [← hx0] at hw0 ⊢
  have hR0 : x0.Rng := by rw [hx0];exact rng_reN nk_rngA hs1 hs2
  have hS0 : x0.Sm := by rw [hx0];exact sm_reN nk_smA hs1 hs2
  obtain ⟨c0,hc0⟩ : ∃ c,c = begC sa sk x0 := ⟨_,rfl⟩
  have hl0 : c0.actsL = [x0] := by rw [hc0];rfl
  have hT0 : TaleC c0 1 nkD0 := by rw [hc0];exact ⟨rfl,hsa,rfl⟩
  have hO0 : ownsB nkK c0 [⟨0,nkK.p,0⟩] = true := by
    rw [ownsB,nk_right,hT0.n]
    rfl
  have hA0 : ActsOk c0.actsL := by rw [hl0];exact begActs hR0 hS0
  have hat0 : ∀ w,X1 w → c0.at_ w ∧ Keyz w c0.keys [⟨0,nkK.p,0⟩] := fun w h => by rw [hc0];exact hw0 w h
  rw [← hc0]
  have hp1 := post1_mk hA0 hT0 hO0
  have hex1 : ∀ t1 t2 : SlV,t1.n = 0 → t2.n = 0 → Mk Tryz.prog 14 #[c0.v,(nkA1.re t1 t2).v] (fun w => (c0.at_ w ∧ (nkA1.re t1 t2).at_ w) ∧ Glob w) (ExtAt c0 (nkA1.re t1 t2)) := fun t1 t2 k1 k2 => extended_mk c0 _ (rng_reN nk_rngA1 k1 k2) (sm_reN nk_smA1 k1 k2) (by rw [hl0];show 1 ≤ 100000;omega)
  repeat' (first | apply sw_nil | apply cw_seq | apply cw_reg | refine sy_move (h:=?_) | refine sy_assign (h:=?_) | refine sy_ldAll (h:=?_) | refine sy_extract (h:=?_) | refine sw_alloc (h:=fun _ => ?_) | refine sw_stAll (h:=?_) | (refine sw_mk (hc:=hp1) (hX:=fun w h => ⟨⟨hat0 w h.2,⟨rowsD_nil w 1,rowsD_nil w 5⟩⟩,h.1⟩) (h:=fun v2 X2 h2 => ?_);obtain ⟨t1,t2,k1,k2,rfl,hw1⟩ := h2) | (refine sw_mk (hc:=hex1 t1 t2 k1 k2) (hX:=fun w h => ⟨⟨(hat0 w h.1.2).1,hw1 w h.2⟩,h.1.1⟩) (h:=fun v3 X3 h3 => ?_);obtain ⟨sb,rfl,hw2⟩ := h3) | fail)
  rename_i bs bc bk ba
  refine cw_know (p:=sb.n = 2) (fun w h => by
    have h1 := (hw2 w h.2).1.len
    simpa [extC,hl0] using h1) fun hsb => ?_
  obtain ⟨x1,hx1⟩ : ∃ x,x = nkA1.re t1 t2 := ⟨_,rfl⟩
  rw [← hx1] at hw1 hw2 ⊢
  have hR1 : x1.Rng := by rw [hx1];exact rng_reN nk_rngA1 k1 k2
  have hS1 : x1.Sm := by rw [hx1];exact sm_reN nk_smA1 k1 k2
  have hd1 : digV x1 = nkD1 := by rw [hx1];exact dig1 k1 k2
  obtain ⟨c1,hc1⟩ : ∃ c,c = extC c0 sb x1 := ⟨_,rfl⟩
  rw [← hc1] at hw2 ⊢
  have hl1 : c1.actsL = [x0,x1] := by rw [hc1,extC,hl0];rfl
  have hT1 : TaleC c1 2 nkD1 := by rw [hc1];exact ⟨hT0.id,hsb,hd1⟩
  have hO1 : ownsB nkK c1 [⟨0,nkK.p,0⟩] = true := by
    rw [ownsB,nk_right,hT1.n]
    rfl
  have hA1 : ActsOk c1.actsL := by
    rw [hl1]
    exact ⟨fun a h => by
      rcases List.mem_cons.1 h with rfl | h
      · exact hR0
      · rw [List.mem_singleton.1 h];exact hR1,fun a h => by
      rcases List.mem_cons.1 h with rfl | h
      · exact hS0
      · rw [List.mem_singleton.1 h];exact hS1⟩
  have hky : c1.keys = c0.keys := by rw [hc1];rfl
  have hat1 : atK c1 (idxV c1.actsL nkD1) postK = true := at26 hs1 hs2 k1 k2 (by rw [hl1,hx0,hx1])
  have hp2 := post2_mk hA1 hT1 hat1 hO1
  have hof := ofActR_mk x1 hR1 hS1
  have hdg : ∀ s3 s4 : SlV,s3.n = x1.to.n → s4.n = x1.wraps.n → Pu Tryz.prog 20 #[(ofActI (x1.re s3 s4)).v] (fun w => (ofActI (x1.re s3 s4)).at_ w ∧ Glob w) (.string nkD1) := fun s3 s4 h3 h4 => by
    have h := digI0 (x1.re s3 s4) (rng_reN hR1 h3 h4)
    rw [show dI0 (ofActI (x1.re s3 s4)) = nkD1 from (dig_re h3 h4).trans hd1] at h
    exact h
  have hat2 : ∀ w,(((Glob w ∧ X1 w) ∧ X2 w) ∧ X3 w) → c1.at_ w ∧ Keyz w c1.keys [⟨0,nkK.p,0⟩] := fun w h => ⟨hw2 w h.2,by rw [hky];exact (hat0 w h.1.1.2).2⟩
  refine cw_meet (ι:=Met26) (fun i => ⟨[(3,.pointer (some ⟨bk,0,none⟩)),(4,.pointer (some ⟨ba,0,none⟩)),(6,.pointer (some ⟨i.b,0,none⟩)),(7,.int .i64 0)], [cel i.b 46 (nkA2.re i.r1 i.r2).cells,cel ba 46 x1.cells,cel bk 39 c1.cells],fun w => (((Glob w ∧ X1 w) ∧ X2 w) ∧ X3 w) ∧ (nkA2.re i.r1 i.r2).at_ w⟩) ?_ fun i => ?_
  · (refine cw_draw [cel ba 46 x1.cells,cel bk 39 c1.cells,cel bs 67 nkK.cells] (fun w => ((Glob w ∧ X1 w) ∧ X2 w) ∧ X3 w) (by kernel_rfl) ?_)
    all_goals (refine aw_take 0 (hsub:=by (exact fun _ h => h.drop (by ((repeat (first | exact List.Sublist.refl _ | with_reducible apply List.Sublist.cons_cons | apply List.Sublist.cons));done)))) (h:=?_))
    all_goals (refine aw_take 1 (hsub:=by (exact fun _ h => h.drop (by ((repeat (first | exact List.Sublist.refl _ | with_reducible apply List.Sublist.cons_cons | apply List.Sublist.cons));done)))) (h:=?_))
    all_goals (refine aw_take 2 (hsub:=by (exact fun _ h => h.drop (by ((repeat (first | exact List.Sublist.refl _ | with_reducible apply List.Sublist.cons_cons | apply List.Sublist.cons));done)))) (h:=?_))
    all_goals (refine aw_two 3 10 (h:=?_) (h':=?_);(focus (((refine sw_mk (hc:=hof) (hX:=fun w h => hw1 w h.1.2) (h:=fun v4 X4 h4 => ?_);obtain ⟨s3,s4,rfl,hn3,hn4,hat4⟩ := h4);apply sw_nil;refine aw_fin (hsub:=by (exact fun _ h => (h.drop (by ((repeat (first | exact List.Sublist.refl _ | with_reducible apply List.Sublist.cons_cons | apply List.Sublist.cons));done))).imp (fun _ h => h.1))) (h:=?_));all_goals ((refine aw_two 4 10 (h:=?_) (h':=?_);(focus (((refine sw_pu (hc:=hdg s3 s4 hn3 hn4) (hX:=fun w h => ⟨⟨hat4 w h.2,rowsD_nil w 1⟩,h.1.1.1.1⟩) (h:=?_));apply sw_nil;refine aw_fin (hsub:=by (exact fun _ h => (h.drop (by ((repeat (first | exact List.Sublist.refl _ | with_reducible apply List.Sublist.cons_cons | apply List.Sublist.cons));done))).imp (fun _ h => h.1))) (h:=?_));all_goals ((refine aw_take 5 (hsub:=by (exact fun _ h => (h.drop (by ((repeat (first | exact List.Sublist.refl _ | with_reducible apply List.Sublist.cons_cons | apply List.Sublist.cons));done))).imp (fun _ h => h.1))) (hy:=by (apply y_build (cs:=b26.cells);rfl;rfl)) (h:=?_));all_goals (refine aw_two 6 10 (h:=?_) (h':=?_);(focus (((refine sw_mk (hc:=hp2) (hX:=fun w h => ⟨⟨hat2 w h.1,⟨rowsD_nil w 1,rowsD_nil w 5⟩⟩,h.1.1.1.1⟩) (h:=fun v5 X5 h5 => ?_);obtain ⟨r1,r2,m1,m2,rfl,hw3⟩ := h5);apply sw_nil;refine aw_fin (hsub:=by (exact fun _ h => (h.drop (by ((repeat (first | exact List.Sublist.refl _ | with_reducible apply List.Sublist.cons_cons | apply List.Sublist.cons));done))).imp (fun _ h => h.1.1))) (h:=?_));all_goals ((refine aw_take 7 (hsub:=by (exact fun _ h => (h.drop (by ((repeat (first | exact List.Sublist.refl _ | with_reducible apply List.Sublist.cons_cons | apply List.Sublist.cons));done))).imp (fun _ h => h.1.1))) (h:=?_));all_goals (refine aw_take 8 (hsub:=by (exact fun _ h => (h.drop (by ((repeat (first | exact List.Sublist.refl _ | with_reducible apply List.Sublist.cons_cons | apply List.Sublist.cons));done))).imp (fun _ h => h.1.1))) (h:=?_));all_goals (refine aw_take 9 (hsub:=by (exact fun _ h => (h.drop (by ((repeat (first | exact List.Sublist.refl _ | with_reducible apply List.Sublist.cons_cons | apply List.Sublist.cons));done))).imp (fun _ h => h.1.1))) (h:=?_));all_goals (refine aw_step 10 (h:=?_);(refine sw_alloc (h:=fun _ => ?_));apply sw_nil;refine aw_fin (hsub:=by (exact fun _ h => (h.drop (by ((repeat (first | exact List.Sublist.refl _ | with_reducible apply List.Sublist.cons_cons | apply List.Sublist.cons));done))).imp (fun _ h => h.1.1))) (h:=?_));all_goals (refine aw_step 11 (h:=?_);(refine sw_stAll (h:=?_));apply sw_nil;refine aw_fin (hsub:=by (exact fun _ h => (h.drop (by ((repeat (first | exact List.Sublist.refl _ | with_reducible apply List.Sublist.cons_cons | apply List.Sublist.cons));done))).imp (fun _ h => h.1.1))) (h:=?_));all_goals (refine aw_take 12 (hsub:=by (exact fun _ h => (h.drop (by ((repeat (first | exact List.Sublist.refl _ | with_reducible apply List.Sublist.cons_cons | apply List.Sublist.cons));done))).imp (fun _ h => h.1.1))) (h:=?_));all_goals (refine aw_done (h:=?_)))));rotate_right;(focus (((refine sw_alloc (h:=fun _ => ?_));apply sw_nil;refine aw_fin (hsub:=by (exact fun _ h => (h.drop (by ((repeat (first | exact List.Sublist.refl _ | with_reducible apply List.Sublist.cons_cons | apply List.Sublist.cons));done))).imp (fun _ h => h.1))) (h:=?_));all_goals ((refine aw_step 6 (h:=?_);(refine sw_mk (hc:=hp2) (hX:=fun w h => ⟨⟨hat2 w h.1,⟨rowsD_nil w 1,rowsD_nil w 5⟩⟩,h.1.1.1.1⟩) (h:=fun v5 X5 h5 => ?_);obtain ⟨r1,r2,m1,m2,rfl,hw3⟩ := h5);apply sw_nil;refine aw_fin (hsub:=by (exact fun _ h => (h.drop (by ((repeat (first | exact List.Sublist.refl _ | with_reducible apply List.Sublist.cons_cons | apply List.Sublist.cons));done))).imp (fun _ h => h.1.1))) (h:=?_));all_goals (refine aw_take 7 (hsub:=by (exact fun _ h => (h.drop (by ((repeat (first | exact List.Sublist.refl _ | with_reducible apply List.Sublist.cons_cons | apply List.Sublist.cons));done))).imp (fun _ h => h.1.1))) (h:=?_));all_goals (refine aw_take 8 (hsub:=by (exact fun _ h => (h.drop (by ((repeat (first | exact List.Sublist.refl _ | with_reducible apply List.Sublist.cons_cons | apply List.Sublist.cons));done))).imp (fun _ h => h.1.1))) (h:=?_));all_goals (refine aw_take 9 (hsub:=by (exact fun _ h => (h.drop (by ((repeat (first | exact List.Sublist.refl _ | with_reducible apply List.Sublist.cons_cons | apply List.Sublist.cons));done))).imp (fun _ h => h.1.1))) (h:=?_));all_goals (refine aw_step 11 (h:=?_);(refine sw_stAll (h:=?_));apply sw_nil;refine aw_fin (hsub:=by (exact fun _ h => (h.drop (by ((repeat (first | exact List.Sublist.refl _ | with_reducible apply List.Sublist.cons_cons | apply List.Sublist.cons));done))).imp (fun _ h => h.1.1))) (h:=?_));all_goals (refine aw_take 12 (hsub:=by (exact fun _ h => (h.drop (by ((repeat (first | exact List.Sublist.refl _ | with_reducible apply List.Sublist.cons_cons | apply List.Sublist.cons));done))).imp (fun _ h => h.1.1))) (h:=?_));all_goals (refine aw_done (h:=?_)))))))));rotate_right;(focus (((refine sw_alloc (h:=fun _ => ?_));apply sw_nil;refine aw_fin (hsub:=by (exact fun _ h => (h.drop (by ((repeat (first | exact List.Sublist.refl _ | with_reducible apply List.Sublist.cons_cons | apply List.Sublist.cons));done))).imp (fun _ h => h.1))) (h:=?_));all_goals ((refine aw_step 4 (h:=?_);(refine sw_pu (hc:=hdg s3 s4 hn3 hn4) (hX:=fun w h => ⟨⟨hat4 w h.2,rowsD_nil w 1⟩,h.1.1.1.1⟩) (h:=?_));apply sw_nil;refine aw_fin (hsub:=by (exact fun _ h => (h.drop (by ((repeat (first | exact List.Sublist.refl _ | with_reducible apply List.Sublist.cons_cons | apply List.Sublist.cons));done))).imp (fun _ h => h.1))) (h:=?_));all_goals (refine aw_take 5 (hsub:=by (exact fun _ h => (h.drop (by ((repeat (first | exact List.Sublist.refl _ | with_reducible apply List.Sublist.cons_cons | apply List.Sublist.cons));done))).imp (fun _ h => h.1))) (hy:=by (apply y_build (cs:=b26.cells);rfl;rfl)) (h:=?_));all_goals (refine aw_step 6 (h:=?_);(refine sw_mk (hc:=hp2) (hX:=fun w h => ⟨⟨hat2 w h.1,⟨rowsD_nil w 1,rowsD_nil w 5⟩⟩,h.1.1.1.1⟩) (h:=fun v5 X5 h5 => ?_);obtain ⟨r1,r2,m1,m2,rfl,hw3⟩ := h5);apply sw_nil;refine aw_fin (hsub:=by (exact fun _ h => (h.drop (by ((repeat (first | exact List.Sublist.refl _ | with_reducible apply List.Sublist.cons_cons | apply List.Sublist.cons));done))).imp (fun _ h => h.1.1))) (h:=?_));all_goals (refine aw_take 7 (hsub:=by (exact fun _ h => (h.drop (by ((repeat (first | exact List.Sublist.refl _ | with_reducible apply List.Sublist.cons_cons | apply List.Sublist.cons));done))).imp (fun _ h => h.1.1))) (h:=?_));all_goals (refine aw_take 8 (hsub:=by (exact fun _ h => (h.drop (by ((repeat (first | exact List.Sublist.refl _ | with_reducible apply List.Sublist.cons_cons | apply List.Sublist.cons));done))).imp (fun _ h => h.1.1))) (h:=?_));all_goals (refine aw_take 9 (hsub:=by (exact fun _ h => (h.drop (by ((repeat (first | exact List.Sublist.refl _ | with_reducible apply List.Sublist.cons_cons | apply List.Sublist.cons));done))).imp (fun _ h => h.1.1))) (h:=?_));all_goals (refine aw_step 11 (h:=?_);(refine sw_stAll (h:=?_));apply sw_nil;refine aw_fin (hsub:=by (exact fun _ h => (h.drop (by ((repeat (first | exact List.Sublist.refl _ | with_reducible apply List.Sublist.cons_cons | apply List.Sublist.cons));done))).imp (fun _ h => h.1.1))) (h:=?_));all_goals (refine aw_take 12 (hsub:=by (exact fun _ h => (h.drop (by ((repeat (first | exact List.Sublist.refl _ | with_reducible apply List.Sublist.cons_cons | apply List.Sublist.cons));done))).imp (fun _ h => h.1.1))) (h:=?_));all_goals (refine aw_done (h:=?_)))))))));rotate_right;(focus (((refine sw_alloc (h:=fun _ => ?_));apply sw_nil;refine aw_fin (hsub:=by (exact fun _ h => h.drop (by ((repeat (first | exact List.Sublist.refl _ | with_reducible apply List.Sublist.cons_cons | apply List.Sublist.cons));done)))) (h:=?_));all_goals ((refine aw_step 3 (h:=?_);(refine sw_mk (hc:=hof) (hX:=fun w h => hw1 w h.1.2) (h:=fun v4 X4 h4 => ?_);obtain ⟨s3,s4,rfl,hn3,hn4,hat4⟩ := h4);apply sw_nil;refine aw_fin (hsub:=by (exact fun _ h => (h.drop (by ((repeat (first | exact List.Sublist.refl _ | with_reducible apply List.Sublist.cons_cons | apply List.Sublist.cons));done))).imp (fun _ h => h.1))) (h:=?_));all_goals (refine aw_step 4 (h:=?_);(refine sw_pu (hc:=hdg s3 s4 hn3 hn4) (hX:=fun w h => ⟨⟨hat4 w h.2,rowsD_nil w 1⟩,h.1.1.1.1⟩) (h:=?_));apply sw_nil;refine aw_fin (hsub:=by (exact fun _ h => (h.drop (by ((repeat (first | exact List.Sublist.refl _ | with_reducible apply List.Sublist.cons_cons | apply List.Sublist.cons));done))).imp (fun _ h => h.1))) (h:=?_));all_goals (refine aw_take 5 (hsub:=by (exact fun _ h => (h.drop (by ((repeat (first | exact List.Sublist.refl _ | with_reducible apply List.Sublist.cons_cons | apply List.Sublist.cons));done))).imp (fun _ h => h.1))) (hy:=by (apply y_build (cs:=b26.cells);rfl;rfl)) (h:=?_));all_goals (refine aw_step 6 (h:=?_);(refine sw_mk (hc:=hp2) (hX:=fun w h => ⟨⟨hat2 w h.1,⟨rowsD_nil w 1,rowsD_nil w 5⟩⟩,h.1.1.1.1⟩) (h:=fun v5 X5 h5 => ?_);obtain ⟨r1,r2,m1,m2,rfl,hw3⟩ := h5);apply sw_nil;refine aw_fin (hsub:=by (exact fun _ h => (h.drop (by ((repeat (first | exact List.Sublist.refl _ | with_reducible apply List.Sublist.cons_cons | apply List.Sublist.cons));done))).imp (fun _ h => h.1.1))) (h:=?_));all_goals (refine aw_take 7 (hsub:=by (exact fun _ h => (h.drop (by ((repeat (first | exact List.Sublist.refl _ | with_reducible apply List.Sublist.cons_cons | apply List.Sublist.cons));done))).imp (fun _ h => h.1.1))) (h:=?_));all_goals (refine aw_take 8 (hsub:=by (exact fun _ h => (h.drop (by ((repeat (first | exact List.Sublist.refl _ | with_reducible apply List.Sublist.cons_cons | apply List.Sublist.cons));done))).imp (fun _ h => h.1.1))) (h:=?_));all_goals (refine aw_take 9 (hsub:=by (exact fun _ h => (h.drop (by ((repeat (first | exact List.Sublist.refl _ | with_reducible apply List.Sublist.cons_cons | apply List.Sublist.cons));done))).imp (fun _ h => h.1.1))) (h:=?_));all_goals (refine aw_step 11 (h:=?_);(refine sw_stAll (h:=?_));apply sw_nil;refine aw_fin (hsub:=by (exact fun _ h => (h.drop (by ((repeat (first | exact List.Sublist.refl _ | with_reducible apply List.Sublist.cons_cons | apply List.Sublist.cons));done))).imp (fun _ h => h.1.1))) (h:=?_));all_goals (refine aw_take 12 (hsub:=by (exact fun _ h => (h.drop (by ((repeat (first | exact List.Sublist.refl _ | with_reducible apply List.Sublist.cons_cons | apply List.Sublist.cons));done))).imp (fun _ h => h.1.1))) (h:=?_));all_goals (refine aw_done (h:=?_))))))
    all_goals
      rename_i b6
      exact ⟨(⟨r1,r2,m1,m2,b6⟩ : Met26),ok_sub ⟨rfl,rfl,rfl,rfl,trivial⟩ (.cons_cons _ (.cons_cons _ (.cons_cons _ (List.nil_sublist _)))) fun w h => ⟨h.1.1,hw3 w h.2⟩⟩
  obtain ⟨r1,r2,m1,m2,bb⟩ := i
  simp only
  obtain ⟨x2,hx2⟩ : ∃ x,x = nkA2.re r1 r2 := ⟨_,rfl⟩
  rw [← hx2]
  have hR2 : x2.Rng := by rw [hx2];exact rng_reN nk_rngA2 m1 m2
  have hS2 : x2.Sm := by rw [hx2];exact sm_reN nk_smA2 m1 m2
  have hex2 := extended_mk c1 x2 hR2 hS2 (by rw [hl1];show 2 ≤ 100000;omega)
  repeat' (first | apply sw_nil | apply cw_seq | apply cw_reg | refine sy_ldAll (h:=?_) | refine sw_stAll (h:=?_) | (refine sw_mk (hc:=hex2) (hX:=fun w h => ⟨⟨(hat2 w h.1).1,h.2⟩,h.1.1.1.1⟩) (h:=fun v6 X6 h6 => ?_);obtain ⟨sc,rfl,hw6⟩ := h6) | (refine sw_bslS (size:=6) (vs:=[(extC c1 sc x2).v]) (css:=(extC c1 sc x2).cells) (hsz:=by rfl) (hcs:=by rfl) (h:=fun _ => ?_)) | fail)
  rename_i b8
  obtain ⟨c2,hc2⟩ : ∃ c,c = extC c1 sc x2 := ⟨_,rfl⟩
  rw [← hc2] at hw6 ⊢
  have hl2 : c2.actsL = [x0,x1,x2] := by rw [hc2,extC,hl1];rfl
  have hi2 : c2.id = nkI := by rw [hc2];exact hT1.id
  have hps : postsV c2 = [p26 x1] := by rw [hx1];exact posts26 hs1 hs2 k1 k2 hi2 (by rw [hl2,hx0,hx1,hx2])
  have hA2 : ActsOk c2.actsL := by
    rw [hl2]
    exact ⟨fun a h => by
      rcases List.mem_cons.1 h with rfl | h
      · exact hR0
      rcases List.mem_cons.1 h with rfl | h
      · exact hR1
      · rw [List.mem_singleton.1 h];exact hR2,fun a h => by
      rcases List.mem_cons.1 h with rfl | h
      · exact hS0
      rcases List.mem_cons.1 h with rfl | h
      · exact hS1
      · rw [List.mem_singleton.1 h];exact hS2⟩
  have hall := allP_mkS ⟨some ⟨b8,0,none⟩,1,1⟩ [c2] (fun c h => by rw [List.mem_singleton.1 h];exact hA2) (fun c h => by rw [List.mem_singleton.1 h,hl2];show 3 ≤ 1000;omega) (by show 1 ≤ 1000;omega)
  refine sw_give ?_
  refine sw_mk (hc:=hall) (hX:=fun w h => ⟨chainsOne h.2 (hw6 w h.1.2),h.1.1.1.1.1.1⟩) (h:=fun v7 X7 h7 => ?_)
  obtain ⟨sP,P,rfl,hP, -,hw7⟩ := h7
  rw [List.flatMap_cons,List.flatMap_nil,List.append_nil,hps] at hP
  have hP1 : P.map PostD.can = [p26 x1] := List.perm_singleton.1 hP
  obtain ⟨p,rfl,hpc⟩ : ∃ p,P = [p] ∧ p.can = p26 x1 := by
    cases P with
    | nil => cases hP1
    | cons p P =>
      cases P with
      | nil => exact ⟨p,rfl,(List.cons.inj hP1).1⟩
      | cons q P => cases (List.cons.inj hP1).2
  have hg : p.gone = false := congrArg PostD.gone hpc
  have hpo : p.pos = 1 := congrArg PostD.pos hpc
  have hpe : p.edL = [2] := congrArg PostD.edL hpc
  have hpi : p.id = nkD1 := (congrArg PostD.id hpc).trans hd1
  have hpa : p.author = nkI := congrArg PostD.author hpc
  refine sw_know (p:=sP.n = 1 ∧ sP.n ≤ maxLen ∧ sP.p.isSome = true ∧ p.ed.n = 1) (fun w h => ⟨by simpa using (hw7 w h.2).1.len,Nat.le_trans (RowsD.cap (hw7 w h.2).1) (RowsD.max (hw7 w h.2).1),((hw7 w h.2).1.row 0 p.cells rfl).2.1,by have := ((hw7 w h.2).2 p List.mem_cons_self).2.len_;rw [hpe] at this;exact this⟩) fun ⟨hsP,hsm,hsp,hen⟩ => ?_
  simp only [maxLen] at hsm
  repeat' (first | refine sy_neqF (hab:=by omega) (h:=?_) | apply sw_nil | apply cw_seq | apply cw_reg | refine sy_move (h:=?_) | refine sy_assign (h:=?_) | refine sy_pick_f (h:=?_) | refine sy_len (h:=?_) | refine cw_cond_f (hf:=?_) | apply cw_skip | (refine sy_idxX (q:=0) (h:=?_)) | (refine sy_fldX (h:=?_)) | (refine sy_ldX (q:=0 + 10) (u:=.bool false) (hF:=fun w h => hg ▸ ((hw7 w h.2).1.row 0 p.cells rfl).2.2 10 _ rfl) (h:=?_)) | fail)
  have hrow : ∀ w,X7 w → RowsD w 11 sP [p.cells] := fun w h => (hw7 w h).1
  have hch : ∀ (b : Nat) w,(cel b 39 c2.cells).F w → X6 w → Chains w ⟨some ⟨b,0,none⟩,1,1⟩ [c2] := fun b w h h' => chainsOne h (hw6 w h')
  have hco : ∀ c ∈ [c2],ChOk c := fun c h => by
    rw [List.mem_singleton.1 h]
    refine ⟨hA2,by rw [hl2];show 3 ≤ 1000000;omega,fun x hx => ?_⟩
    rw [hl2] at hx
    rcases List.mem_cons.1 hx with rfl | hx
    · rw [hx0];show s1.n ≤ _;omega
    rcases List.mem_cons.1 hx with rfl | hx
    · rw [hx1];show t1.n ≤ _;omega
    · rw [List.mem_singleton.1 hx,hx2];show r1.n ≤ _;omega
  have hla := fun b => last_pu ⟨some ⟨b,0,none⟩,1,1⟩ [c2] p ⟨#[]⟩ hco (by rw [hpe];show 1 ≤ 1000000;omega)
  rw [last26 hl2 hi2 (by rw [hx1];rfl) (by rw [hx1];rfl) (by rw [hx2];rfl) (by rw [hx2];rfl) hg hpo hpe hpa] at hla
  refine cw_meet (ι:=Unit) (fun i => ⟨[(3,.pointer (some ⟨bk,0,none⟩)),(4,.pointer (some ⟨ba,0,none⟩)),(8,sP.v),(9,.int .i64 2),(10,.bool true)], [cel ba 46 x1.cells,cel bk 39 c2.cells],fun w => ((((Glob w ∧ X1 w) ∧ X2 w) ∧ X3 w) ∧ X6 w) ∧ X7 w⟩) ?_ fun i => ?_
  · (refine cw_draw [cel bk 39 c2.cells] (fun w => ((((((Glob w ∧ X1 w) ∧ X2 w) ∧ X3 w) ∧ ActD.at_ w x2) ∧ X6 w) ∧ (cel b8 39 c2.cells).F w) ∧ X7 w) (by kernel_rfl) ?_)
    all_goals (refine aw_take 0 (hsub:=by (exact fun _ h => h.drop (by ((repeat (first | exact List.Sublist.refl _ | apply List.Sublist.cons));done)))) (h:=?_))
    all_goals (refine aw_take 2 (hsub:=by (exact fun _ h => h.drop (by ((repeat (first | exact List.Sublist.refl _ | apply List.Sublist.cons));done)))) (h:=?_))
    all_goals (refine aw_take 3 (hsub:=by (exact fun _ h => h.drop (by ((repeat (first | exact List.Sublist.refl _ | apply List.Sublist.cons));done)))) (hy:=by (apply y_idxX (q:=0);rfl;rfl;omega;omega;assumption;omega)) (h:=?_))
    all_goals (refine aw_take 4 (hsub:=by (exact fun _ h => h.drop (by ((repeat (first | exact List.Sublist.refl _ | apply List.Sublist.cons));done)))) (hy:=by (apply y_ldXs (cs:=p.cells);rfl;exact fun w h => (hrow w h.2).row 0 p.cells rfl)) (h:=?_))
    all_goals (refine aw_step 1 (h:=?_);(refine sw_bslS (size:=6) (vs:=[c2.v]) (css:=c2.cells) (hsz:=by rfl) (hcs:=by rfl) (h:=fun _ => ?_));apply sw_nil;refine aw_fin (hsub:=by (exact fun _ h => h.drop (by ((repeat (first | exact List.Sublist.refl _ | apply List.Sublist.cons));done)))) (h:=?_))
    all_goals (refine aw_step 5 (h:=?_);(rename_i b9;refine sw_give ?_;refine sw_pu (hc:=hla b9) (hX:=fun w h => ⟨⟨hch b9 w h.2 h.1.1.1.2,((hw7 w h.1.2).2 p List.mem_cons_self).2⟩,h.1.1.1.1.1.1.1.1⟩) (h:=?_));apply sw_nil;refine aw_fin (hsub:=by (exact fun _ h => (h.drop (by ((repeat (first | exact List.Sublist.refl _ | apply List.Sublist.cons));done))).imp (fun _ h => h.1))) (h:=?_))
    all_goals (refine aw_take 6 (hsub:=by (exact fun _ h => (h.drop (by ((repeat (first | exact List.Sublist.refl _ | apply List.Sublist.cons));done))).imp (fun _ h => h.1))) (h:=?_))
    all_goals (refine aw_take 7 (hsub:=by (exact fun _ h => (h.drop (by ((repeat (first | exact List.Sublist.refl _ | apply List.Sublist.cons));done))).imp (fun _ h => h.1))) (h:=?_))
    all_goals (refine aw_take 8 (hsub:=by (exact fun _ h => (h.drop (by ((repeat (first | exact List.Sublist.refl _ | apply List.Sublist.cons));done))).imp (fun _ h => h.1))) (h:=?_))
    all_goals (refine aw_take 9 (hsub:=by (exact fun _ h => (h.drop (by ((repeat (first | exact List.Sublist.refl _ | apply List.Sublist.cons));done))).imp (fun _ h => h.1))) (h:=?_))
    all_goals (refine aw_take 10 (hsub:=by (exact fun _ h => (h.drop (by ((repeat (first | exact List.Sublist.refl _ | apply List.Sublist.cons));done))).imp (fun _ h => h.1))) (h:=?_))
    all_goals (refine aw_done (h:=?_))
    all_goals exact ⟨(),ok_sub ⟨rfl,rfl,rfl,rfl,rfl,trivial⟩ (.cons _ (List.Sublist.refl _)) fun w h => ⟨⟨h.1.1.1.1.1,h.1.1.1.2⟩,h.1.2⟩⟩
  have hfi : ∀ b : Nat,Mk Tryz.prog 27 #[(⟨some ⟨b,0,none⟩,1,1⟩ : SlV).v,.string ⟨#[120]⟩] (fun w => Chains w ⟨some ⟨b,0,none⟩,1,1⟩ [c2] ∧ Glob w) (fun u _ => ∃ q : PostD,u = .tuple #[q.v,.bool false]) := fun b =>
    mk_mono (findP_mk ⟨some ⟨b,0,none⟩,1,1⟩ [c2] ⟨#[120]⟩ (fun c h => by rw [List.mem_singleton.1 h];exact hA2) (fun c h => by rw [List.mem_singleton.1 h,hl2];show 3 ≤ 1000000;omega)) fun u X ⟨q,hu,_⟩ => ⟨q,by rw [hu,none26 hps hd1];rfl⟩
  repeat' (first | apply sw_nil | apply cw_seq | apply cw_reg | refine sy_move (h:=?_) | refine sy_assign (h:=?_) | refine sy_ldAll (h:=?_) | refine sy_extract (h:=?_) | refine sw_alloc (h:=fun _ => ?_) | refine sw_stAll (h:=?_) | (refine sw_bslS (size:=6) (vs:=[c2.v]) (css:=c2.cells) (hsz:=by rfl) (hcs:=by rfl) (h:=fun _ => ?_)) | (rename_i b9;refine sw_give ?_;refine sw_mk (hc:=hfi b9) (hX:=fun w h => ⟨hch b9 w h.2 h.1.1.2,h.1.1.1.1.1.1⟩) (h:=fun v8 X8 h8 => ?_);obtain ⟨q,rfl⟩ := h8) | fail)
  rename_i b11
  have hgl : ∀ w,(((((((Glob w ∧ X1 w) ∧ X2 w) ∧ X3 w) ∧ X6 w) ∧ X7 w) ∧ (cel b9 39 c2.cells).F w) ∧ X8 w) → X7 w := fun w h => h.1.1.2
  (refine cw_draw [cel ba 46 x1.cells] (fun w => ((((((Glob w ∧ X1 w) ∧ X2 w) ∧ X3 w) ∧ X6 w) ∧ X7 w) ∧ (cel b9 39 c2.cells).F w) ∧ X8 w) (by kernel_rfl) ?_)
  all_goals (refine aw_take 0 (hsub:=by (exact fun _ h => h.drop (by ((repeat (first | exact List.nil_sublist _ | with_reducible apply List.Sublist.cons_cons | apply List.Sublist.cons));done)))) (h:=?_))
  all_goals (refine aw_take 1 (hsub:=by (exact fun _ h => h.drop (by ((repeat (first | exact List.nil_sublist _ | with_reducible apply List.Sublist.cons_cons | apply List.Sublist.cons));done)))) (hy:=by (apply y_eqlW true;rfl;rfl;exact decide_eq_true (by omega))) (h:=?_))
  all_goals (refine aw_take 2 (hsub:=by (exact fun _ h => h.drop (by ((repeat (first | exact List.nil_sublist _ | with_reducible apply List.Sublist.cons_cons | apply List.Sublist.cons));done)))) (h:=?_))
  all_goals (refine aw_take 3 (hsub:=by (exact fun _ h => h.drop (by ((repeat (first | exact List.nil_sublist _ | with_reducible apply List.Sublist.cons_cons | apply List.Sublist.cons));done)))) (h:=?_))
  all_goals (refine aw_take 4 (hsub:=by (exact fun _ h => h.drop (by ((repeat (first | exact List.nil_sublist _ | with_reducible apply List.Sublist.cons_cons | apply List.Sublist.cons));done)))) (h:=?_))
  all_goals (refine aw_take 5 (hsub:=by (exact fun _ h => h.drop (by ((repeat (first | exact List.nil_sublist _ | with_reducible apply List.Sublist.cons_cons | apply List.Sublist.cons));done)))) (h:=?_))
  all_goals (refine aw_take 6 (hsub:=by (exact fun _ h => h.drop (by ((repeat (first | exact List.nil_sublist _ | with_reducible apply List.Sublist.cons_cons | apply List.Sublist.cons));done)))) (h:=?_))
  all_goals (refine aw_take 7 (hsub:=by (exact fun _ h => h.drop (by ((repeat (first | exact List.nil_sublist _ | with_reducible apply List.Sublist.cons_cons | apply List.Sublist.cons));done)))) (hy:=by (apply y_notW true;rfl;rfl)) (h:=?_))
  all_goals (refine aw_take 8 (hsub:=by (exact fun _ h => h.drop (by ((repeat (first | exact List.nil_sublist _ | with_reducible apply List.Sublist.cons_cons | apply List.Sublist.cons));done)))) (h:=?_))
  all_goals (refine aw_take 9 (hsub:=by (exact fun _ h => h.drop (by ((repeat (first | exact List.nil_sublist _ | with_reducible apply List.Sublist.cons_cons | apply List.Sublist.cons));done)))) (h:=?_))
  all_goals (refine aw_take 10 (hsub:=by (exact fun _ h => h.drop (by ((repeat (first | exact List.nil_sublist _ | with_reducible apply List.Sublist.cons_cons | apply List.Sublist.cons));done)))) (h:=?_))
  all_goals (refine aw_take 11 (hsub:=by (exact fun _ h => h.drop (by ((repeat (first | exact List.nil_sublist _ | with_reducible apply List.Sublist.cons_cons | apply List.Sublist.cons));done)))) (hy:=by (apply y_idxX (q:=0);rfl;rfl;omega;omega;assumption;omega)) (h:=?_))
  all_goals (refine aw_take 12 (hsub:=by (exact fun _ h => h.drop (by ((repeat (first | exact List.nil_sublist _ | with_reducible apply List.Sublist.cons_cons | apply List.Sublist.cons));done)))) (hy:=by (apply y_fldX;rfl;assumption;rfl)) (h:=?_))
  all_goals (refine aw_take 13 (hsub:=by (exact fun _ h => h.drop (by ((repeat (first | exact List.nil_sublist _ | with_reducible apply List.Sublist.cons_cons | apply List.Sublist.cons));done)))) (hy:=by (apply y_ldX (q:=0 + 9) (u:=p.ed.v);rfl;exact fun w h => ((hrow w (hgl w h)).row 0 p.cells rfl).2.2 9 _ rfl)) (h:=?_))
  all_goals (refine aw_take 14 (hsub:=by (exact fun _ h => h.drop (by ((repeat (first | exact List.nil_sublist _ | with_reducible apply List.Sublist.cons_cons | apply List.Sublist.cons));done)))) (h:=?_))
  all_goals (refine aw_take 15 (hsub:=by (exact fun _ h => h.drop (by ((repeat (first | exact List.nil_sublist _ | with_reducible apply List.Sublist.cons_cons | apply List.Sublist.cons));done)))) (hy:=by (apply y_eqlW true;rfl;rfl;exact decide_eq_true (by omega))) (h:=?_))
  all_goals (refine aw_take 16 (hsub:=by (exact fun _ h => h.drop (by ((repeat (first | exact List.nil_sublist _ | with_reducible apply List.Sublist.cons_cons | apply List.Sublist.cons));done)))) (h:=?_))
  all_goals (refine aw_take 17 (hsub:=by (exact fun _ h => h.drop (by ((repeat (first | exact List.nil_sublist _ | with_reducible apply List.Sublist.cons_cons | apply List.Sublist.cons));done)))) (h:=?_))
  all_goals (refine aw_take 18 (hsub:=by (exact fun _ h => h.drop (by ((repeat (first | exact List.nil_sublist _ | with_reducible apply List.Sublist.cons_cons | apply List.Sublist.cons));done)))) (h:=?_))
  all_goals (refine aw_take 19 (hsub:=by (exact fun _ h => h.drop (by ((repeat (first | exact List.nil_sublist _ | with_reducible apply List.Sublist.cons_cons | apply List.Sublist.cons));done)))) (hy:=by (apply y_idxX (q:=0);rfl;rfl;omega;omega;assumption;omega)) (h:=?_))
  all_goals (refine aw_take 20 (hsub:=by (exact fun _ h => h.drop (by ((repeat (first | exact List.nil_sublist _ | with_reducible apply List.Sublist.cons_cons | apply List.Sublist.cons));done)))) (hy:=by (apply y_fldX;rfl;assumption;rfl)) (h:=?_))
  all_goals (refine aw_take 21 (hsub:=by (exact fun _ h => h.drop (by ((repeat (first | exact List.nil_sublist _ | with_reducible apply List.Sublist.cons_cons | apply List.Sublist.cons));done)))) (hy:=by (apply y_ldX (q:=0 + 0) (u:=.string nkD1);rfl;exact fun w h => hpi ▸ ((hrow w (hgl w h)).row 0 p.cells rfl).2.2 0 _ rfl)) (h:=?_))
  all_goals (refine aw_take 22 (hsub:=by (exact fun _ h => h.drop (by ((repeat (first | exact List.nil_sublist _ | with_reducible apply List.Sublist.cons_cons | apply List.Sublist.cons));done)))) (h:=?_))
  all_goals (refine aw_step 23 (h:=?_);(refine sw_mk (hc:=hof) (hX:=fun w h => hw1 w h.1.1.1.1.1.2) (h:=fun v9 X9 h9 => ?_);obtain ⟨s3,s4,rfl,hn3,hn4,hat9⟩ := h9);apply sw_nil;refine aw_fin (hsub:=by (exact fun _ h => (h.drop (by ((repeat (first | exact List.nil_sublist _ | with_reducible apply List.Sublist.cons_cons | apply List.Sublist.cons));done))).imp (fun _ h => h.1))) (h:=?_))
  all_goals (refine aw_step 24 (h:=?_);(refine sw_pu (hc:=hdg s3 s4 hn3 hn4) (hX:=fun w h => ⟨⟨hat9 w h.2,rowsD_nil w 1⟩,h.1.1.1.1.1.1.1.1⟩) (h:=?_));apply sw_nil;refine aw_fin (hsub:=by (exact fun _ h => (h.drop (by ((repeat (first | exact List.nil_sublist _ | with_reducible apply List.Sublist.cons_cons | apply List.Sublist.cons));done))).imp (fun _ h => h.1))) (h:=?_))
  all_goals (refine aw_take 25 (hsub:=by (exact fun _ h => (h.drop (by ((repeat (first | exact List.nil_sublist _ | with_reducible apply List.Sublist.cons_cons | apply List.Sublist.cons));done))).imp (fun _ h => h.1))) (hy:=by (apply y_seqlW true;rfl;rfl;exact seqB_self _)) (h:=?_))
  all_goals (refine aw_take 26 (hsub:=by (exact fun _ h => (h.drop (by ((repeat (first | exact List.nil_sublist _ | with_reducible apply List.Sublist.cons_cons | apply List.Sublist.cons));done))).imp (fun _ h => h.1))) (h:=?_))
  all_goals (refine aw_take 27 (hsub:=by (exact fun _ h => (h.drop (by ((repeat (first | exact List.nil_sublist _ | with_reducible apply List.Sublist.cons_cons | apply List.Sublist.cons));done))).imp (fun _ h => h.1))) (h:=?_))
  all_goals (refine aw_done (h:=?_))
  all_goals
    repeat' (first | apply cw_ret | fail)
    exact ends_ret (res_tmp rfl rfl) rfl
end Go.Proofs.YtjmpdkmboheknaaGreatDoor

namespace Go.Proofs.YtjmpdkmboheknaaGreatDoor
open Go Go.Proofs Sy
theorem getD_app {l : List ActD} {a : ActD} {i : Nat} (h : i < l.length) : (l ++ [a]).getD i ActD.zero = l.getD i ActD.zero := by
  rw [List.getD_eq_getElem?_getD,List.getD_eq_getElem?_getD,List.getElem?_append_left h]
theorem getD_last {l : List ActD} {a : ActD} : (l ++ [a]).getD l.length ActD.zero = a := by
  rw [List.getD_eq_getElem?_getD,List.getElem?_append_right (Nat.le_refl _),Nat.sub_self];rfl
theorem openF_app {c d : ChainD} {a : ActD} (hid : d.id = c.id) (hl : d.actsL = c.actsL ++ [a]) : ∀ i,i ≤ c.actsL.length → openF d i = openF c i
  | 0,_ => rfl
  | i + 1,h => by rw [openF,openF,openF_app hid hl i (by omega),hl,hid,getD_app (by omega)]
theorem idx_app (l : List ActD) (a : ActD) (o : ByteArray) {i : Nat} (hi : i ≤ l.length) : (match idxV (l ++ [a]) o with
  | some j => decide (j < i) | none => false) = (match idxV l o with
  | some j => decide (j < i) | none => false) := by
  rw [idxV,idxV,List.findIdx?_append]
  cases h : l.findIdx? fun a => seqB (digV a) o with
  | some j => rfl
  | none =>
    rw [Option.none_or]
    simp only [List.findIdx?_cons,List.findIdx?_nil]
    cases seqB (digV a) o
    · rfl
    · show decide (0 + l.length < i) = false
      exact decide_eq_false (by omega)
def newT (c : ChainD) (a : ActD) : List PostD := bif postK a.kind then [newP c.id c.actsL.length a] else []
theorem openF_ext {c d : ChainD} {a : ActD} (hid : d.id = c.id) (hl : d.actsL = c.actsL ++ [a]) : openF d d.actsL.length = openF c c.actsL.length ++ newT c a := by
  have e : d.actsL.length = c.actsL.length + 1 := by rw [hl,List.length_append];rfl
  rw [e,openF,openF_app hid hl _ (Nat.le_refl _),hl,getD_last,hid]
  rfl
theorem newT_pos {c : ChainD} {a : ActD} : ∀ p ∈ newT c a,p.pos = c.actsL.length := fun p hp => by
  rw [newT] at hp
  revert hp
  cases postK a.kind with
  | true => intro h;rw [cond_true,List.mem_singleton] at h;subst h;rfl
  | false => intro h;exact (List.not_mem_nil h).elim
theorem posP_app (P T : List PostD) {j : Nat} (h : ∀ p ∈ T,p.pos ≠ j) : posP (P ++ T) j = posP P j := by
  rw [posP,posP,List.findIdx?_append]
  have e : T.findIdx? (fun p => p.pos == j) = none := List.findIdx?_eq_none_iff.2 fun p hp => by
    rw [beq_eq_false_iff_ne]
    exact h p hp
  rw [e]
  cases P.findIdx? fun p => p.pos == j <;> rfl
theorem posP_at {P : List PostD} {j n : Nat} (h : posP P j = some n) : n < P.length := by
  rw [posP,List.findIdx?_eq_some_iff_getElem] at h
  exact h.1
theorem modP_app (P T : List PostD) {o : Option Nat} (f : PostD → PostD) (h : ∀ n,o = some n → n < P.length) : modP (P ++ T) o f = modP P o f ++ T := by
  cases o with
  | none => rfl
  | some n =>
    have hn := h n rfl
    rw [modP,modP,List.set_append_left _ _ hn,List.getD_eq_getElem?_getD,List.getD_eq_getElem?_getD,List.getElem?_append_left hn]
theorem refV_app {l : List ActD} {a : ActD} (P T : List PostD) {i : Nat} (hi : i < l.length) (hT : ∀ p ∈ T,p.pos = l.length) : refV (l ++ [a]) (P ++ T) i = refV l P i := by
  have h := idx_app l a (l.getD i ActD.zero).object (Nat.le_of_lt hi)
  rw [refV,refV,getD_app hi]
  cases h1 : idxV l (l.getD i ActD.zero).object with
  | some j =>
    have h2 : idxV (l ++ [a]) (l.getD i ActD.zero).object = some j := by
      rw [idxV,List.findIdx?_append]
      rw [idxV] at h1
      rw [h1]
      rfl
    rw [h2]
    simp only
    by_cases hj : j < i
    · rw [decide_eq_true hj,cond_true,cond_true]
      exact posP_app P T fun p hp => by rw [hT p hp];omega
    · rw [decide_eq_false hj]
      rfl
  | none =>
    rw [h1] at h
    cases h2 : idxV (l ++ [a]) (l.getD i ActD.zero).object with
    | none => rfl
    | some j =>
      rw [h2] at h
      simp only at h ⊢
      rw [h]
      rfl
theorem refV_lt {l : List ActD} {P : List PostD} {i n : Nat} (h : refV l P i = some n) : n < P.length := by
  rw [refV] at h
  cases h1 : idxV l (l.getD i ActD.zero).object with
  | none => rw [h1] at h;cases h
  | some j =>
    rw [h1] at h
    simp only at h
    by_cases hj : j < i
    · rw [decide_eq_true hj] at h
      exact posP_at h
    · rw [decide_eq_false hj] at h
      cases h
theorem ofP_ext {c d : ChainD} {a : ActD} (hid : d.id = c.id) (hl : d.actsL = c.actsL ++ [a]) : ∀ i,i ≤ c.actsL.length → ofP d i = ofP c i ++ newT c a
  | 0,_ => openF_ext hid hl
  | i + 1,h => by
    have hr := refV_app (l:=c.actsL) (a:=a) (ofP c i) (newT c a) (i:=i) (by omega) newT_pos
    rw [ofP,ofP,ofP_ext hid hl i (by omega),hl,stepP,stepP,getD_app (by omega),hr]
    have hm := fun f => modP_app (ofP c i) (newT c a) (o:=refV c.actsL (ofP c i) i) f fun n hn => refV_lt hn
    rw [hm,hm]
    cases decide ((c.actsL.getD i ActD.zero).kind = 13) <;> cases decide ((c.actsL.getD i ActD.zero).kind = 14) <;> rfl
theorem postsV_ext {c d : ChainD} {a : ActD} (hid : d.id = c.id) (hl : d.actsL = c.actsL ++ [a]) : postsV d = stepP (c.actsL ++ [a]) c.actsL.length (postsV c ++ newT c a) := by
  have e : d.actsL.length = c.actsL.length + 1 := by rw [hl,List.length_append];rfl
  rw [postsV,e,ofP,ofP_ext hid hl _ (Nat.le_refl _),hl]
  rfl
def hitV (c : ChainD) (a : ActD) : Option Nat := (idxV c.actsL a.object).bind (posP (postsV c))
theorem refV_last {c : ChainD} {a : ActD} (P : List PostD) : refV (c.actsL ++ [a]) P c.actsL.length = (idxV c.actsL a.object).bind (posP P) := by
  have h := idx_app c.actsL a a.object (Nat.le_refl _)
  rw [refV,getD_last]
  cases h1 : idxV c.actsL a.object with
  | some j =>
    have hj : j < c.actsL.length := by
      rw [idxV,List.findIdx?_eq_some_iff_getElem] at h1
      exact h1.1
    have h2 : idxV (c.actsL ++ [a]) a.object = some j := by
      rw [idxV,List.findIdx?_append]
      rw [idxV] at h1
      rw [h1]
      rfl
    rw [h2]
    simp only
    rw [decide_eq_true hj]
    rfl
  | none =>
    rw [h1] at h
    cases h2 : idxV (c.actsL ++ [a]) a.object with
    | none => rfl
    | some j =>
      rw [h2] at h
      simp only at h ⊢
      rw [h]
      rfl
theorem growsV {c d : ChainD} {a : ActD} (hid : d.id = c.id) (hl : d.actsL = c.actsL ++ [a]) : postsV d = (bif decide (a.kind = 13) then modP (postsV c) (hitV c a) goneP else bif decide (a.kind = 14) then modP (postsV c) (hitV c a) (editP a c.actsL.length) else postsV c) ++ newT c a := by
  rw [postsV_ext hid hl,stepP,getD_last,refV_last]
  by_cases h13 : a.kind = 13
  · have hn : newT c a = [] := by rw [newT,h13];rfl
    rw [decide_eq_true h13,cond_true,cond_true,hn,List.append_nil,List.append_nil]
    rfl
  by_cases h14 : a.kind = 14
  · have hn : newT c a = [] := by rw [newT,h14];rfl
    rw [decide_eq_false h13,decide_eq_true h14,cond_false,cond_false,cond_true,cond_true,hn,List.append_nil,List.append_nil]
    rfl
  rw [decide_eq_false h13,decide_eq_false h14]
  rfl
end Go.Proofs.YtjmpdkmboheknaaGreatDoor

namespace Go.Proofs.YtjmpdkmboheknaaGreatDoor
open Go Go.Proofs Sy
def posL (P : List PostD) : List Nat := P.map PostD.pos
theorem openF_posL (c : ChainD) : ∀ i,(posL (openF c i)).Pairwise (· < ·) ∧ ∀ x ∈ posL (openF c i),x < i
  | 0 => ⟨List.Pairwise.nil,fun x h => (List.not_mem_nil h).elim⟩
  | i + 1 => by
    obtain ⟨h1,h2⟩ := openF_posL c i
    rw [openF]
    cases postK (c.actsL.getD i ActD.zero).kind with
    | false =>
      rw [cond_false,List.append_nil]
      exact ⟨h1,fun x hx => Nat.lt_succ_of_lt (h2 x hx)⟩
    | true =>
      rw [cond_true,posL,List.map_append]
      refine ⟨List.pairwise_append.2 ⟨h1,List.pairwise_singleton _ _,fun x hx y hy => ?_⟩,fun x hx => ?_⟩
      · rw [List.map_cons,List.map_nil,List.mem_singleton] at hy
        subst hy
        exact h2 x hx
      · rcases List.mem_append.1 hx with hx | hx
        · exact Nat.lt_succ_of_lt (h2 x hx)
        · rw [List.map_cons,List.map_nil,List.mem_singleton] at hx
          subst hx
          exact Nat.lt_succ_self _
theorem posL_at {P : List PostD} {n : Nat} {p : PostD} (h : P[n]? = some p) : (posL P)[n]? = some p.pos := by rw [posL,List.getElem?_map,h];rfl
theorem set_posL {P : List PostD} {n : Nat} {p : PostD} (h : n < P.length → p.pos = (P.getD n PostD.zero).pos) : posL (P.set n p) = posL P := by
  rw [posL,posL,List.map_set]
  by_cases hn : n < P.length
  · rw [h hn]
    refine List.ext_getElem? fun i => ?_
    rw [List.getElem?_set]
    by_cases e : n = i
    · subst e
      rw [if_pos rfl,List.length_map,if_pos hn,List.getElem?_map,List.getD_eq_getElem?_getD,List.getElem?_eq_getElem hn]
      rfl
    · rw [if_neg e]
  · rw [List.set_eq_of_length_le (by rw [List.length_map];omega)]
theorem modP_posL {P : List PostD} {o : Option Nat} {f : PostD → PostD} (hf : ∀ p,(f p).pos = p.pos) : posL (modP P o f) = posL P := by
  cases o with
  | none => rfl
  | some n => exact set_posL fun _ => hf _
theorem ofP_posL (c : ChainD) : ∀ i,posL (ofP c i) = posL (openF c c.actsL.length)
  | 0 => rfl
  | i + 1 => by
    rw [ofP,stepP]
    cases decide ((c.actsL.getD i ActD.zero).kind = 13)
    · cases decide ((c.actsL.getD i ActD.zero).kind = 14)
      · exact ofP_posL c i
      · exact (modP_posL fun p => editP_pos _ _ p).trans (ofP_posL c i)
    · exact (modP_posL (f:=goneP) fun p => rfl).trans (ofP_posL c i)
theorem postsV_pos (c : ChainD) : (posL (postsV c)).Pairwise (· < ·) ∧ ∀ x ∈ posL (postsV c),x < c.actsL.length := by
  rw [postsV,ofP_posL]
  exact openF_posL c _
theorem pos_same {P : List PostD} (h : (posL P).Pairwise (· < ·)) {i j : Nat} {p q : PostD} (hi : P[i]? = some p) (hj : P[j]? = some q) (e : p.pos = q.pos) : i = j := by
  have hi' := (List.getElem?_eq_some_iff.1 (posL_at hi))
  have hj' := (List.getElem?_eq_some_iff.1 (posL_at hj))
  obtain ⟨a1,a2⟩ := hi'
  obtain ⟨b1,b2⟩ := hj'
  rw [List.pairwise_iff_getElem] at h
  rcases Nat.lt_trichotomy i j with hl | hl | hl
  · have := h i j a1 b1 hl
    rw [a2,b2] at this
    omega
  · exact hl
  · have := h j i b1 a1 hl
    rw [a2,b2] at this
    omega
theorem modP_len (P : List PostD) (o : Option Nat) (f : PostD → PostD) : (modP P o f).length = P.length := by
  cases o with
  | none => rfl
  | some n => exact List.length_set
def mineB (o : Option Nat) (n : Nat) (p : PostD) : Bool := match o with
  | some j => decide (j < n) && decide (p.pos = j)
  | none => false
def chgP (o : Option Nat) (n : Nat) (a : ActD) (p : PostD) : PostD := bif mineB o n p && decide (a.kind = 13) then goneP p else bif mineB o n p && decide (a.kind = 14) then editP a n p else p
theorem modP_at {P : List PostD} {o : Option Nat} {f : PostD → PostD} {i : Nat} {p : PostD} (hp : P[i]? = some p) : (modP P o f)[i]? = some (bif decide (o = some i) then f p else p) := by
  have hlt := (List.getElem?_eq_some_iff.1 hp).1
  cases o with
  | none => rw [modP,hp];rfl
  | some n =>
    rw [modP,List.getElem?_set]
    by_cases e : n = i
    · subst e
      rw [if_pos rfl,if_pos hlt,decide_eq_true rfl,List.getD_eq_getElem?_getD,hp]
      rfl
    · rw [if_neg e,hp,decide_eq_false (fun h => e (Option.some.inj h))]
      rfl
theorem mine_hit {c d : ChainD} {a : ActD} (hl : d.actsL = c.actsL ++ [a]) {i : Nat} {p : PostD} (hp : (postsV c)[i]? = some p) : mineB (idxV d.actsL a.object) c.actsL.length p = decide (hitV c a = some i) := by
  have h := idx_app c.actsL a a.object (Nat.le_refl _)
  rw [hl,hitV]
  unfold mineB
  obtain ⟨hpw,_⟩ := postsV_pos c
  cases h1 : idxV c.actsL a.object with
  | none =>
    rw [h1] at h
    cases h2 : idxV (c.actsL ++ [a]) a.object with
    | none => rfl
    | some j =>
      rw [h2] at h
      simp only at h ⊢
      rw [h]
      rfl
  | some j =>
    have hj : j < c.actsL.length := by
      rw [idxV,List.findIdx?_eq_some_iff_getElem] at h1
      exact h1.1
    have h2 : idxV (c.actsL ++ [a]) a.object = some j := by
      rw [idxV,List.findIdx?_append]
      rw [idxV] at h1
      rw [h1]
      rfl
    rw [h2]
    simp only [decide_eq_true hj,Bool.true_and,Option.bind_some]
    by_cases hh : posP (postsV c) j = some i
    · rw [decide_eq_true hh]
      rw [posP,List.findIdx?_eq_some_iff_getElem] at hh
      obtain ⟨hm,hmj,_⟩ := hh
      have hmj' : (postsV c)[i].pos = j := by simpa using hmj
      obtain rfl := Option.some.inj ((List.getElem?_eq_getElem hm).symm.trans hp)
      exact decide_eq_true hmj'
    · rw [decide_eq_false hh]
      refine decide_eq_false fun h => hh ?_
      have hx : ∃ m,posP (postsV c) j = some m := by
        rcases Option.eq_none_or_eq_some (posP (postsV c) j) with h3 | h3
        · rw [posP,List.findIdx?_eq_none_iff] at h3
          have := h3 p (List.mem_of_getElem? hp)
          rw [beq_eq_false_iff_ne] at this
          exact absurd h this
        · exact h3
      obtain ⟨m,h3⟩ := hx
      rw [h3]
      rw [posP,List.findIdx?_eq_some_iff_getElem] at h3
      obtain ⟨hm,hmj,_⟩ := h3
      have hmj' : (postsV c)[m].pos = j := by simpa using hmj
      rw [pos_same hpw (List.getElem?_eq_getElem hm) hp (hmj'.trans h.symm)]
theorem grows_at {c d : ChainD} {a : ActD} (hid : d.id = c.id) (hl : d.actsL = c.actsL ++ [a]) {i : Nat} {p : PostD} (hp : (postsV c)[i]? = some p) : (postsV d)[i]? = some (chgP (idxV d.actsL a.object) c.actsL.length a p) := by
  have hlt := (List.getElem?_eq_some_iff.1 hp).1
  rw [growsV hid hl,chgP,mine_hit hl hp]
  by_cases h13 : a.kind = 13
  · rw [decide_eq_true h13,cond_true,List.getElem?_append_left (by rw [modP_len];exact hlt),modP_at hp,Bool.and_true]
    have : decide (a.kind = 14) = false := decide_eq_false (by omega)
    rw [this,Bool.and_false,cond_false]
  rw [decide_eq_false h13,cond_false,Bool.and_false,cond_false]
  by_cases h14 : a.kind = 14
  · rw [decide_eq_true h14,cond_true,List.getElem?_append_left (by rw [modP_len];exact hlt),modP_at hp,Bool.and_true]
  rw [decide_eq_false h14,cond_false,Bool.and_false,cond_false,List.getElem?_append_left hlt,hp]
theorem grows_len {c d : ChainD} {a : ActD} (hid : d.id = c.id) (hl : d.actsL = c.actsL ++ [a]) : (postsV d).length = (postsV c).length + (newT c a).length := by
  rw [growsV hid hl,List.length_append]
  cases decide (a.kind = 13)
  · cases decide (a.kind = 14)
    · rfl
    · rw [cond_false,cond_true,modP_len]
  · rw [cond_true,modP_len]
theorem grows_new {c d : ChainD} {a : ActD} (hid : d.id = c.id) (hl : d.actsL = c.actsL ++ [a]) (hk : postK a.kind = true) : (postsV d)[(postsV c).length]? = some (newP c.id c.actsL.length a) := by
  have hn : newT c a = [newP c.id c.actsL.length a] := by rw [newT,hk];rfl
  rw [growsV hid hl,hn]
  have h1 : ∀ (X : List PostD),X.length = (postsV c).length → (X ++ [newP c.id c.actsL.length a])[(postsV c).length]? = some (newP c.id c.actsL.length a) := fun X hX => by
    rw [List.getElem?_append_right (by omega),hX,Nat.sub_self]
    rfl
  refine h1 _ ?_
  cases decide (a.kind = 13)
  · cases decide (a.kind = 14)
    · rfl
    · rw [cond_false,cond_true,modP_len]
  · rw [cond_true,modP_len]
theorem chgP_can (o : Option Nat) (n : Nat) (a : ActD) (p : PostD) : (chgP o n a p).can = chgP o n a p.can := by
  have e : mineB o n p.can = mineB o n p := rfl
  rw [chgP,chgP,e]
  cases mineB o n p && decide (a.kind = 13)
  · cases mineB o n p && decide (a.kind = 14)
    · rfl
    · exact editP_can _ _ _
  · rfl
end Go.Proofs.YtjmpdkmboheknaaGreatDoor

namespace Go.Proofs.YtjmpdkmboheknaaGreatDoor
open Go Go.Proofs Sy
structure OwnP (c : ChainD) (p : PostD) : Prop where
  author : p.author = c.id
  text : rtextV c (p.pos : Int) = true
  ed : ∀ e ∈ p.edL,rtextV c e = true
theorem postsEd_le {c : ChainD} {P : List PostD} (hP : P.map PostD.can = postsV c) {p : PostD} (h : p ∈ P) : p.edL.length ≤ c.actsL.length :=
  ofP_ed c _ p.can (by
    have : p.can ∈ postsV c := by rw [← hP];exact List.mem_map.2 ⟨p,h,rfl⟩
    exact this)
section
variable {P : Program} {N : Nat} {av bor : List Nat} {w0 : World} {E : Env} {loc : List Res} {X : World → Prop}
theorem cw_meet2 {K : Exit → St → Prop} {ι : Type} (M : ι → St) {x y z : Code} {st : St} (h1 : Cw P N av bor w0 x st (thn (fun s => Cw P N av bor w0 y s (thn (fun s => ∃ i, ∀ a w,Ok N av bor w0 s a w → Ok N av bor w0 (M i) a w) K)) K)) (h2 : ∀ i,Cw P N av bor w0 z (M i) K) :
    Cw P N av bor w0 x st (thn (fun s => Cw P N av bor w0 (.seq y z) s K) K) := cw_mono (fun e s h => by
  cases e with
  | normal => exact cw_seq (cw_meet M h h2)
  | _ => exact h) h1
theorem ok_gave {E' : Env} {l' : List Res} {r : Res} {X' : World → Prop} (he : sub E E') (hl : (r :: l').Sublist loc) (hx : ∀ w,X w → r.F w → X' w) : ∀ a w,Ok N av bor w0 ⟨E,loc,X⟩ a w → Ok N av bor w0 ⟨E',l',X'⟩ a w := fun a w ok => by
  have h1 := ok_sub (E':=E') (l':=r :: l') (X':=X) he hl (fun _ h => h) a w ok
  exact h1.via fun M G => (Gam.give G).imp fun w h => hx w h.1 h.2
end
theorem ints_src {w : World} {s : SlV} {l : List Int} (h : Ints w s l) : Src Tryz.prog w 1 s.v s.n (l.map intV) := by
  have e1 : (l.map fun n => [(.int .i64 n : Value)]).flatten = l.map intV := by
    clear h
    induction l with
    | nil => rfl
    | cons a l ih => rw [List.map_cons,List.flatten_cons,ih];rfl
  have h1 := src_rows (P:=Tryz.prog) (s:=s) h fun cs hcs => by
    obtain ⟨n,_,rfl⟩ := List.mem_map.1 hcs
    rfl
  rwa [e1] at h1
end Go.Proofs.YtjmpdkmboheknaaGreatDoor

namespace Go.Proofs.YtjmpdkmboheknaaGreatDoor
open Go Go.Proofs Sy
structure LightC (c : ChainD) : Prop where
  acts : ∀ a ∈ c.actsL,a.to.n ≤ 100 ∧ a.wraps.n ≤ 100
  len : c.actsL.length ≤ 20
  keys : c.keys.n ≤ 40
structure LightOk (l : List ChainD) : Prop where
  all : ∀ c ∈ l,LightC c
  len : l.length ≤ 4
structure LgtI (l : List ChainD) where
  k : Nat
  hk : k ≤ l.length
  ok : ∀ c ∈ l.take k,LightC c
structure LgtJ (l : List ActD) where
  j : Nat
  hj : j ≤ l.length
  ok : ∀ a ∈ l.take j,a.to.n ≤ 100 ∧ a.wraps.n ≤ 100
theorem take_mem {α : Type} {l : List α} {k : Nat} {x : α} (hx : l[k]? = some x) {p : α → Prop} (h : ∀ y ∈ l.take k,p y) (hp : p x) : ∀ y ∈ l.take (k + 1),p y := fun y hy => by
  rw [List.take_add_one,hx] at hy
  rcases List.mem_append.1 hy with hy | hy
  · exact h y hy
  · rw [Option.toList_some,List.mem_singleton] at hy
    exact hy ▸ hp
set_option maxHeartbeats 4000000 in
theorem light26_mk (s : SlV) (l : List ChainD) : Mk Tryz.prog 7 #[s.v] (fun w => Chains w s l) (fun u _ => ∃ b,u = .bool b ∧ (b = true → LightOk l)) := by
  refine mk_of_cw2 (args:=[_]) _ Tryz.func7 rfl Tryz.ntmps7 rfl fun av bor w0 => ?_
  refine cw_know (p:=s.n = l.length ∧ s.n ≤ maxLen ∧ (0 < l.length → s.p.isSome = true)) (fun w h => ⟨h.len_,h.max_,h.some_⟩) fun ⟨hl,hm,hp⟩ => ?_
  simp only [maxLen] at hm
  repeat' (first | apply sw_nil | apply cw_seq | apply cw_reg | refine sy_assign (h:=?_) | apply cw_block | fail)
  refine cw_loop (ι:=LgtI l) (fun i => ⟨[(0,s.v),(3,.int .i64 (i.k : Nat))], [],fun w => Chains w s l⟩) (fun i => l.length - i.k) ⟨0,Nat.zero_le _,fun c hc => (List.not_mem_nil hc).elim⟩ (ok_sub ⟨rfl,rfl,trivial⟩ (List.Sublist.refl _) fun _ h => h) fun i => ?_
  obtain ⟨k,hk,hok⟩ := i
  simp only
  repeat' (first | apply sw_nil | apply cw_seq | apply cw_reg | refine sy_move (h:=?_) | refine sy_assign (h:=?_) | refine sy_lss (h:=?_) | refine sy_leq (h:=?_) | refine sy_len (h:=?_) | apply cw_skip | apply cw_block | apply cw_ret | apply cw_exit | (refine cw_cond (ht:=?_) (hf:=?_);all_goals (intro hx_;first | have := of_decide_eq_true hx_ | have := of_decide_eq_false hx_)))
  · have hlt : k < l.length := by omega
    have hp1 := hp (by omega)
    obtain ⟨c,hc⟩ : ∃ c,l[k]? = some c := ⟨_,List.getElem?_eq_getElem hlt⟩
    have hcm := List.mem_of_getElem? hc
    refine cw_know (p:=c.acts.n = c.actsL.length ∧ c.acts.n ≤ maxLen ∧ (0 < c.actsL.length → c.acts.p.isSome = true)) (fun w h => ⟨(h.2 c hcm).len_,(h.2 c hcm).max_,(h.2 c hcm).some_⟩) fun ⟨al,am,ap⟩ => ?_
    simp only [maxLen] at am
    repeat' (first | apply sw_nil | fail)
    refine cw_loop (ι:=LgtJ c.actsL) (fun i => ⟨[(0,s.v),(3,.int .i64 (k : Nat)),(4,.int .i64 (i.j : Nat))], [],fun w => Chains w s l⟩) (fun i => c.actsL.length - i.j) ⟨0,Nat.zero_le _,fun c hc => (List.not_mem_nil hc).elim⟩ (ok_sub ⟨rfl,rfl,rfl,trivial⟩ (List.Sublist.refl _) fun _ h => h) fun i => ?_
    obtain ⟨j,hj,hoj⟩ := i
    simp only
    by_cases hjl : j < c.actsL.length
    · have ap1 := ap (by omega)
      obtain ⟨x,hx⟩ : ∃ x,c.actsL[j]? = some x := ⟨_,List.getElem?_eq_getElem hjl⟩
      repeat' (first | apply sw_nil | apply cw_seq | apply cw_reg | refine sy_move (h:=?_) | refine sy_assign (h:=?_) | refine sy_pick_t (h:=?_) | refine sy_pick_f (h:=?_) | refine sy_lss (h:=?_) | refine sy_gtr (h:=?_) | refine sy_len (h:=?_) | refine sy_add (h:=?_) | refine sw_skipF (h:=?_) | refine cw_cond_t (ht:=?_) | apply cw_skip | apply cw_block | apply cw_ret | apply cw_exit | (refine sy_idxX (q:=k * 6) (h:=?_)) | (refine sy_fldX (h:=?_)) | (refine sy_ldX (q:=k * 6 + 1) (u:=c.acts.v) (hF:=fun w h => (Chains.get h hc).2.2 1 _ rfl) (h:=?_)) | (refine sy_ldX (q:=k * 6 + 2) (u:=c.keys.v) (hF:=fun w h => (Chains.get h hc).2.2 2 _ rfl) (h:=?_)) | (refine sy_idxX (q:=j * 20) (h:=?_)) | (refine sy_ldX (q:=j * 20 + 9) (u:=x.to.v) (hF:=fun w h => (Acts.get (h.2 c hcm) hx).2.2 9 _ rfl) (h:=?_)) | (refine sy_ldX (q:=j * 20 + 15) (u:=x.wraps.v) (hF:=fun w h => (Acts.get (h.2 c hcm) hx).2.2 15 _ rfl) (h:=?_)) | ((fail_if_success (refine sw_chk (h:=?_)));refine sw_guard (ht:=?_) (hf:=?_);all_goals (intro hx_;first | have := of_decide_eq_true hx_ | have := of_decide_eq_false hx_)) | (refine cw_cond (ht:=?_) (hf:=?_);all_goals (intro hx_;first | have := of_decide_eq_true hx_ | have := of_decide_eq_false hx_)))
      all_goals first
        | (exfalso;omega)
        | exact ends_ret (res_tmp rfl rfl) ⟨false,rfl,fun h => by cases h⟩
        | exact ⟨(⟨j + 1,hjl,take_mem hx hoj (by omega)⟩ : LgtJ c.actsL),(by show c.actsL.length - (j + 1) < c.actsL.length - j;omega),ok_sub ⟨rfl,rfl,rfl,trivial⟩ (List.Sublist.refl _) fun _ h => h⟩
    · have hoa : ∀ a ∈ c.actsL,a.to.n ≤ 100 ∧ a.wraps.n ≤ 100 := by
        have e : j = c.actsL.length := by omega
        rw [e,List.take_length] at hoj
        exact hoj
      repeat' (first | apply sw_nil | apply cw_seq | apply cw_reg | refine sy_move (h:=?_) | refine sy_assign (h:=?_) | refine sy_pick_t (h:=?_) | refine sy_pick_f (h:=?_) | refine sy_lss (h:=?_) | refine sy_gtr (h:=?_) | refine sy_len (h:=?_) | refine sy_add (h:=?_) | refine sw_skipF (h:=?_) | refine cw_cond_t (ht:=?_) | apply cw_skip | apply cw_block | apply cw_ret | apply cw_exit | (refine sy_idxX (q:=k * 6) (h:=?_)) | (refine sy_fldX (h:=?_)) | (refine sy_ldX (q:=k * 6 + 1) (u:=c.acts.v) (hF:=fun w h => (Chains.get h hc).2.2 1 _ rfl) (h:=?_)) | (refine sy_ldX (q:=k * 6 + 2) (u:=c.keys.v) (hF:=fun w h => (Chains.get h hc).2.2 2 _ rfl) (h:=?_)) | ((fail_if_success (refine sw_chk (h:=?_)));refine sw_guard (ht:=?_) (hf:=?_);all_goals (intro hx_;first | have := of_decide_eq_true hx_ | have := of_decide_eq_false hx_)) | (refine cw_cond (ht:=?_) (hf:=?_);all_goals (intro hx_;first | have := of_decide_eq_true hx_ | have := of_decide_eq_false hx_)))
      all_goals first
        | (exfalso;omega)
        | exact ends_ret (res_tmp rfl rfl) ⟨false,rfl,fun h => by cases h⟩
        | exact ⟨(⟨k + 1,hlt,take_mem hc hok ⟨hoa,by omega,by omega⟩⟩ : LgtI l),(by show l.length - (k + 1) < l.length - k;omega),ok_sub ⟨rfl,rfl,trivial⟩ (List.Sublist.refl _) fun _ h => h⟩
  · refine ends_ret (res_tmp rfl rfl) ⟨_,rfl,fun h => ?_⟩
    have e : k = l.length := by omega
    rw [e,List.take_length] at hok
    have h4 := of_decide_eq_true h
    exact ⟨hok,by omega⟩
end Go.Proofs.YtjmpdkmboheknaaGreatDoor

namespace Go.Proofs.YtjmpdkmboheknaaGreatDoor
open Go Go.Proofs Sy
theorem sameT_pu (s r : SlV) (l m : List ByteArray) : Pu Tryz.prog 17 #[s.v,r.v] (fun w => Strs w s l ∧ Strs w r m) (.bool (eqL l m)) := by
  refine pu_of_cw (args:=[_,_]) _ Tryz.func17 rfl Tryz.ntmps17 rfl fun av bor w0 => ?_
  refine cw_know (p:=(s.n = l.length ∧ s.n ≤ maxLen ∧ (0 < l.length → s.p.isSome = true)) ∧ (r.n = m.length ∧ r.n ≤ maxLen ∧ (0 < m.length → r.p.isSome = true))) (fun w h => ⟨⟨h.1.len_,Nat.le_trans (RowsD.cap h.1) (RowsD.max h.1),h.1.some_⟩,⟨h.2.len_,Nat.le_trans (RowsD.cap h.2) (RowsD.max h.2),h.2.some_⟩⟩) fun ⟨⟨hl,hm,hp⟩,⟨hl',hm',hp'⟩⟩ => ?_
  simp only [maxLen] at hm hm'
  repeat' (first | apply sw_nil | apply cw_seq | apply cw_reg | refine sy_move (h:=?_) | refine sy_assign (h:=?_) | refine sy_neq (h:=?_) | refine sy_len (h:=?_) | apply cw_skip | apply cw_block | apply cw_ret | (refine cw_cond (ht:=?_) (hf:=?_);all_goals (intro hx_;skip)))
  · apply ends_ret;apply res_tmp;rfl;rfl
    have : ¬ l.length = m.length := by
      have h1 : ¬ (s.n : Int) = (r.n : Int) := by simpa using hx_
      omega
    simp only [eqL,decide_eq_false this,Bool.false_and]
  have hlm : l.length = m.length := by
    have h1 : (s.n : Int) = (r.n : Int) := by simpa using hx_
    omega
  refine cw_loop (ι:=Upto l.length (eqBad l m)) (fun i => ⟨[(0,s.v),(1,r.v),(5,.int .i64 i.k)], [],fun w => Strs w s l ∧ Strs w r m⟩) (fun i => l.length - i.k) (Upto.zero _ _) (ok_sub (by repeat (first | exact trivial | refine ⟨rfl, ?_⟩)) (List.Sublist.refl _) fun _ h => h) fun i => ?_
  have hik := i.hk
  repeat' (first | apply sw_nil | apply cw_seq | apply cw_reg | refine sy_move (h:=?_) | refine sy_assign (h:=?_) | refine sy_lss (h:=?_) | refine sy_len (h:=?_) | apply cw_skip | apply cw_block | apply cw_ret | apply cw_exit | (refine cw_cond (ht:=?_) (hf:=?_);all_goals (intro hx_;first | have := of_decide_eq_true hx_ | have := of_decide_eq_false hx_)))
  · have hlt : i.k < l.length := by omega
    have hlt' : i.k < m.length := by omega
    have hp1 := hp (by omega)
    have hp2 := hp' (by omega)
    (apply cw_draw0;kernel_rfl)
    all_goals (refine aw_take 0 (h:=?_))
    all_goals (refine aw_take 1 (h:=?_))
    all_goals (refine aw_take 2 (hy:=by (apply y_idxX (q:=i.k);rfl;rfl;omega;omega;assumption;omega)) (h:=?_))
    all_goals (refine aw_take 3 (hy:=by (apply y_ldX;rfl;exact fun w h => Strs.get h.1 hlt)) (h:=?_))
    all_goals (refine aw_take 4 (h:=?_))
    all_goals (refine aw_take 5 (h:=?_))
    all_goals (refine aw_take 6 (hy:=by (apply y_idxX (q:=i.k);rfl;rfl;omega;omega;assumption;omega)) (h:=?_))
    all_goals (refine aw_take 7 (hy:=by (apply y_ldX;rfl;exact fun w h => Strs.get h.2 hlt')) (h:=?_))
    all_goals (refine aw_take 8 (h:=?_))
    all_goals (refine aw_done (h:=?_))
    repeat' (first | apply sw_nil | apply cw_seq | apply cw_reg | refine sy_move (h:=?_) | refine sy_assign (h:=?_) | refine sy_add (h:=?_) | apply cw_skip | apply cw_ret | (refine cw_cond (ht:=?_) (hf:=?_);all_goals (intro hx_;skip)))
    · apply ends_ret;apply res_tmp;rfl;rfl
      rw [eqL,allB_false hlt (by assumption),Bool.and_false]
    · exact ⟨i.next hlt (by assumption),(by show l.length - (i.k + 1) < l.length - i.k;omega),ok_sub (by repeat (first | exact trivial | refine ⟨rfl, ?_⟩)) (List.Sublist.refl _) fun _ h => h⟩
  · apply ends_ret;apply res_tmp;rfl;rfl
    rw [eqL,i.all (by omega),decide_eq_true hlm]
    rfl
theorem sameN_pu (s r : SlV) (l : List Int) : Pu Tryz.prog 11 #[s.v,r.v] (fun w => Ints w s l ∧ Ints w r l) (.bool true) := by
  refine pu_of_cw (args:=[_,_]) _ Tryz.func11 rfl Tryz.ntmps11 rfl fun av bor w0 => ?_
  refine cw_know (p:=(s.n = l.length ∧ s.n ≤ maxLen ∧ (0 < l.length → s.p.isSome = true)) ∧ (r.n = l.length ∧ r.n ≤ maxLen ∧ (0 < l.length → r.p.isSome = true))) (fun w h => ⟨⟨h.1.len_,Nat.le_trans (RowsD.cap h.1) (RowsD.max h.1),h.1.some_⟩,⟨h.2.len_,Nat.le_trans (RowsD.cap h.2) (RowsD.max h.2),h.2.some_⟩⟩) fun ⟨⟨hl,hm,hp⟩,⟨hl',hm',hp'⟩⟩ => ?_
  simp only [maxLen] at hm hm'
  repeat' (first | refine sy_neqF (hab:=by omega) (h:=?_) | apply sw_nil | apply cw_seq | apply cw_reg | refine sy_move (h:=?_) | refine sy_assign (h:=?_) | refine sy_len (h:=?_) | refine cw_cond_f (hf:=?_) | apply cw_skip | apply cw_block | fail)
  refine cw_loop (ι:=Kth l.length) (fun i => ⟨[(0,s.v),(1,r.v),(5,.int .i64 i.k)], [],fun w => Ints w s l ∧ Ints w r l⟩) (fun i => l.length - i.k) ⟨0,Nat.zero_le _⟩ (ok_sub (by repeat (first | exact trivial | refine ⟨rfl, ?_⟩)) (List.Sublist.refl _) fun _ h => h) fun i => ?_
  have hik := i.hk
  repeat' (first | apply sw_nil | apply cw_seq | apply cw_reg | refine sy_move (h:=?_) | refine sy_assign (h:=?_) | refine sy_lss (h:=?_) | refine sy_len (h:=?_) | apply cw_skip | apply cw_block | apply cw_ret | apply cw_exit | (refine cw_cond (ht:=?_) (hf:=?_);all_goals (intro hx_;first | have := of_decide_eq_true hx_ | have := of_decide_eq_false hx_)))
  · have hlt : i.k < l.length := by omega
    have hp1 := hp (by omega)
    have hp2 := hp' (by omega)
    (apply cw_draw0;kernel_rfl)
    all_goals (refine aw_take 0 (h:=?_))
    all_goals (refine aw_take 1 (h:=?_))
    all_goals (refine aw_take 2 (hy:=by (apply y_idxX (q:=i.k);rfl;rfl;omega;omega;assumption;omega)) (h:=?_))
    all_goals (refine aw_take 3 (hy:=by (apply y_ldX;rfl;exact fun w h => Ints.get h.1 hlt)) (h:=?_))
    all_goals (refine aw_take 4 (h:=?_))
    all_goals (refine aw_take 5 (h:=?_))
    all_goals (refine aw_take 6 (hy:=by (apply y_idxX (q:=i.k);rfl;rfl;omega;omega;assumption;omega)) (h:=?_))
    all_goals (refine aw_take 7 (hy:=by (apply y_ldX;rfl;exact fun w h => Ints.get h.2 hlt)) (h:=?_))
    all_goals (refine aw_take 8 (h:=?_))
    all_goals (refine aw_done (h:=?_))
    repeat' (first | apply sw_nil | apply cw_seq | apply cw_reg | refine sy_move (h:=?_) | refine sy_assign (h:=?_) | refine sy_add (h:=?_) | apply cw_skip | apply cw_ret | (refine cw_cond (ht:=?_) (hf:=?_);all_goals (intro hx_;skip)))
    all_goals first
      | (exfalso;simp at hx_;done)
      | exact ⟨(⟨i.k + 1,hlt⟩ : Kth l.length),(by show l.length - (i.k + 1) < l.length - i.k;omega),ok_sub (by repeat (first | exact trivial | refine ⟨rfl, ?_⟩)) (List.Sublist.refl _) fun _ h => h⟩
  · exact ends_ret (res_tmp rfl rfl) rfl
theorem same26_pu (p q : PostD) (h : p.can = q.can) : Pu Tryz.prog 18 #[p.v,q.v] (fun w => (Strs w p.to p.toL ∧ Ints w p.ed p.edL) ∧ (Strs w q.to q.toL ∧ Ints w q.ed q.edL)) (.bool true) := by
  refine pu_of_cw (args:=[_,_]) _ Tryz.func18 rfl Tryz.ntmps18 rfl fun av bor w0 => ?_
  simp only [PostD.can,PostD.mk.injEq,true_and] at h
  obtain ⟨e1,e2,e3,e4,e5,e6,e7,e8,e9,e10,e11⟩ := h
  have hq : q.v = .agg #[.string p.id,.string p.author,.int .i64 (p.pos : Nat),.int .i64 p.kind,.int .i64 p.scope,.string p.group,q.to.v,.string p.object,.int .i64 p.time,q.ed.v,.bool p.gone] := by rw [PostD.v,PostD.cells, ← e1, ← e2, ← e3, ← e4, ← e5, ← e6, ← e7, ← e8, ← e9]
  have hp : p.v = .agg #[.string p.id,.string p.author,.int .i64 (p.pos : Nat),.int .i64 p.kind,.int .i64 p.scope,.string p.group,p.to.v,.string p.object,.int .i64 p.time,p.ed.v,.bool p.gone] := rfl
  rw [hq,hp]
  have h1 := sameT_pu p.to q.to p.toL q.toL
  rw [← e10,eqL_refl] at h1
  have h2 := sameN_pu p.ed q.ed p.edL
  rw [← e10, ← e11]
  clear hq hp
  cases p.gone
  all_goals
    repeat' (first | refine sy_eqlT (hab:=rfl) (h:=?_) | refine sy_beqV (r:=true) (hr:=rfl) (h:=?_) | refine sw_yield (y_seqlW true rfl rfl (seqB_self _)) rfl (by (with_reducible rfl)) rfl ?_ | apply sw_nil | apply cw_seq | apply cw_reg | refine sy_move (h:=?_) | refine sy_assign (h:=?_) | refine sy_fld (h:=?_) | refine sy_ld (h:=?_) | refine sy_pick_t (h:=?_) | refine sw_box (h:=fun _ => ?_) | apply cw_ret | (refine sw_pu (hc:=h1) (hX:=fun w h => ⟨h.1.1,h.2.1⟩) (h:=?_)) | (refine sw_pu (hc:=h2) (hX:=fun w h => ⟨h.1.2,h.2.2⟩) (h:=?_)) | fail)
    all_goals exact ends_ret (res_tmp rfl rfl) rfl
end Go.Proofs.YtjmpdkmboheknaaGreatDoor

namespace Go.Proofs.YtjmpdkmboheknaaGreatDoor
open Go Go.Proofs Sy
structure Grow26 (c d : ChainD) where
  s : SlV
  t : SlV
  P : List PostD
  Q : List PostD
  hP : P.map PostD.can = postsV c
  hQ : Q.map PostD.can = postsV d
structure GX (c d : ChainD) (a : ActD) (s t : SlV) (P Q : List PostD) (w : World) : Prop where
  c : c.at_ w
  a : a.at_ w
  g : Glob w
  d : d.at_ w
  s : RowsD w 11 s (P.map PostD.cells)
  p : Behind w P
  t : RowsD w 11 t (Q.map PostD.cells)
  q : Behind w Q
structure Chg26 (r : PostD) where
  x : PostD
  hx : x.can = r.can
def hitN (o : Option Nat) (n : Nat) : Bool := match o with
  | some j => decide ((j : Int) < (n : Int))
  | none => false
theorem mine_eq (o : Option Nat) (n : Nat) (p : PostD) : mineB o n p = (hitN o n && decide ((p.pos : Int) = ((o.getD 0 : Nat) : Int))) := by
  cases o with
  | none => rfl
  | some j =>
    rw [mineB,hitN]
    congr 1
    · exact decide_eq_decide.2 (by omega)
    · exact decide_eq_decide.2 (by rw [Option.getD_some];omega)
theorem eqL_comm (l m : List ByteArray) : eqL l m = eqL m l := by
  rw [eqL,eqL]
  by_cases h : l.length = m.length
  · rw [decide_eq_true h,decide_eq_true h.symm,Bool.true_and,Bool.true_and,h]
    refine congrArg (allB m.length) (funext fun k => ?_)
    rw [eqBad,eqBad,seqB_comm]
  · rw [decide_eq_false h,decide_eq_false (fun e => h e.symm)]
    rfl
set_option maxRecDepth 20000 in
set_option maxHeartbeats 16000000 in
theorem grows26_pu (c : ChainD) (a : ActD) (hrg : ∀ x ∈ c.actsL,x.Rng) (hsm : ∀ x ∈ c.actsL,x.Sm) (har : a.Rng) (has : a.Sm) : Pu Tryz.prog 4 #[c.v,a.v] (fun w => (c.at_ w ∧ a.at_ w) ∧ Glob w) (.bool true) := by
  refine pu_of_cw (args:=[_,_]) _ Tryz.func4 rfl Tryz.ntmps4 rfl fun av bor w0 => ?_
  have hli := fun b => light26_mk ⟨some ⟨b,0,none⟩,1,1⟩ [c]
  repeat' (first | apply sw_nil | apply cw_seq | apply cw_reg | refine sy_move (h:=?_) | refine sy_assign (h:=?_) | refine sy_fld (h:=?_) | refine sy_ld (h:=?_) | refine sy_ldAll (h:=?_) | refine sy_pick_t (h:=?_) | refine sy_pick_f (h:=?_) | refine sy_not (h:=?_) | refine sy_gtr (h:=?_) | refine sy_len (h:=?_) | refine sw_skipF (h:=?_) | refine sw_box (h:=fun _ => ?_) | refine cw_cond_t (ht:=?_) | apply cw_skip | apply cw_ret | (refine sw_pu (hc:=small26_pu) (hX:=fun w h => h.2) (h:=?_)) | (refine sw_bslS (size:=6) (vs:=[c.v]) (css:=c.cells) (hsz:=by rfl) (hcs:=by rfl) (h:=fun _ => ?_)) | (rename_i b9;refine sw_give ?_;refine sw_mk (hc:=hli b9) (hX:=fun w h => chainsOne h.2 h.1.1.1) (h:=fun v1 X1 h1 => ?_);obtain ⟨li,rfl,hli1⟩ := h1) | ((fail_if_success (refine sw_chk (h:=?_)));refine sw_guard (ht:=?_) (hf:=?_);all_goals (intro hx_;first | have := of_decide_eq_true hx_ | have := of_decide_eq_false hx_ | skip)) | (refine cw_cond (ht:=?_) (hf:=?_);all_goals (intro hx_;first | have := of_decide_eq_true hx_ | have := of_decide_eq_false hx_)))
  all_goals try exact ends_ret (res_tmp rfl rfl) rfl
  rename_i b2 b3 g1 g2 g3
  have hli2 : LightOk [c] := hli1 (by cases li <;> simp_all)
  have hlc := hli2.all c List.mem_cons_self
  have hA : ActsOk c.actsL := ⟨hrg,hsm⟩
  have hcl := hlc.len
  have hex := extended_mk c a har has (by omega)
  refine sw_mk (hc:=hex) (hX:=fun w h => h.1.1) (h:=fun v2 X2 h2 => ?_)
  obtain ⟨sa,rfl,hw2⟩ := h2
  obtain ⟨d,hd⟩ : ∃ d,d = extC c sa a := ⟨_,rfl⟩
  rw [← hd] at hw2 ⊢
  have hid : d.id = c.id := by rw [hd];rfl
  have hdl : d.actsL = c.actsL ++ [a] := by rw [hd];rfl
  have hAd : ActsOk d.actsL := by
    rw [hdl]
    exact ⟨fun x hx => (List.mem_append.1 hx).elim (hrg x) fun h => by rw [List.mem_singleton.1 h];exact har,fun x hx => (List.mem_append.1 hx).elim (hsm x) fun h => by rw [List.mem_singleton.1 h];exact has⟩
  have hof := of_mkS c hA (by omega)
  have hod := of_mkS d hAd (by rw [hdl,List.length_append,List.length_singleton];omega)
  repeat' (first | apply sw_nil | apply cw_seq | refine sw_alloc (h:=fun _ => ?_) | refine sw_stAll (h:=?_) | fail)
  rename_i b7
  refine cw_meet (ι:=Grow26 c d) (fun i => ⟨[(2,.pointer (some ⟨b2,0,none⟩)),(3,.pointer (some ⟨b3,0,none⟩)),(5,.bool true),(6,.int .i64 (c.acts.n : Nat)),(7,.pointer (some ⟨b7,0,none⟩)),(8,i.s.v),(9,i.t.v)], [cel b7 39 d.cells,cel b3 46 a.cells,cel b2 39 c.cells],GX c d a i.s i.t i.P i.Q⟩) ?_ fun i => ?_
  · (refine cw_draw [cel b7 39 d.cells,cel b2 39 c.cells] (fun w => ((((c.at_ w ∧ a.at_ w) ∧ Glob w) ∧ (cel b9 39 c.cells).F w) ∧ X1 w) ∧ X2 w) (by kernel_rfl) ?_)
    all_goals (refine aw_take 0 (hsub:=by (exact fun _ h => h.drop (by ((repeat (first | exact List.Sublist.refl _ | with_reducible apply List.Sublist.cons_cons | apply List.Sublist.cons));done)))) (h:=?_))
    all_goals (refine aw_take 2 (hsub:=by (exact fun _ h => h.drop (by ((repeat (first | exact List.Sublist.refl _ | with_reducible apply List.Sublist.cons_cons | apply List.Sublist.cons));done)))) (h:=?_))
    all_goals (refine aw_step 1 (h:=?_);(refine sw_mk (hc:=hof) (hX:=fun w h => ⟨(show ((((c.at_ w ∧ a.at_ w) ∧ Glob w) ∧ (cel b9 39 c.cells).F w) ∧ X1 w) ∧ X2 w from by exact h).1.1.1.1.1,(show ((((c.at_ w ∧ a.at_ w) ∧ Glob w) ∧ (cel b9 39 c.cells).F w) ∧ X1 w) ∧ X2 w from by exact h).1.1.1.2⟩) (h:=fun v3 X3 h3 => ?_);obtain ⟨s1,P,rfl,hP,hPl,hwP⟩ := h3);apply sw_nil;refine aw_fin (hsub:=by (exact fun _ h => (h.drop (by ((repeat (first | exact List.Sublist.refl _ | with_reducible apply List.Sublist.cons_cons | apply List.Sublist.cons));done))).imp (fun _ h => h.1))) (h:=?_))
    all_goals (refine aw_step 3 (h:=?_);(refine sw_mk (hc:=hod) (hX:=fun w h => ⟨hw2 w (show ((((c.at_ w ∧ a.at_ w) ∧ Glob w) ∧ (cel b9 39 c.cells).F w) ∧ X1 w) ∧ X2 w from by exact h.1).2,(show ((((c.at_ w ∧ a.at_ w) ∧ Glob w) ∧ (cel b9 39 c.cells).F w) ∧ X1 w) ∧ X2 w from by exact h.1).1.1.1.2⟩) (h:=fun v4 X4 h4 => ?_);obtain ⟨t1,Q,rfl,hQ,hQl,hwQ⟩ := h4);apply sw_nil;refine aw_fin (hsub:=by (exact fun _ h => (h.drop (by ((repeat (first | exact List.Sublist.refl _ | with_reducible apply List.Sublist.cons_cons | apply List.Sublist.cons));done))).imp (fun _ h => h.1.1))) (h:=?_))
    all_goals (refine aw_take 4 (hsub:=by (exact fun _ h => (h.drop (by ((repeat (first | exact List.Sublist.refl _ | with_reducible apply List.Sublist.cons_cons | apply List.Sublist.cons));done))).imp (fun _ h => h.1.1))) (h:=?_))
    all_goals (refine aw_take 5 (hsub:=by (exact fun _ h => (h.drop (by ((repeat (first | exact List.Sublist.refl _ | with_reducible apply List.Sublist.cons_cons | apply List.Sublist.cons));done))).imp (fun _ h => h.1.1))) (h:=?_))
    all_goals (refine aw_done (h:=?_))
    all_goals exact ⟨(⟨s1,t1,P,Q,hP,hQ⟩ : Grow26 c d),ok_sub ⟨rfl,rfl,rfl,rfl,rfl,rfl,rfl,trivial⟩ (List.Sublist.refl _) fun w h => ⟨(show ((((c.at_ w ∧ a.at_ w) ∧ Glob w) ∧ (cel b9 39 c.cells).F w) ∧ X1 w) ∧ X2 w from h.1.1).1.1.1.1.1,(show ((((c.at_ w ∧ a.at_ w) ∧ Glob w) ∧ (cel b9 39 c.cells).F w) ∧ X1 w) ∧ X2 w from h.1.1).1.1.1.1.2,(show ((((c.at_ w ∧ a.at_ w) ∧ Glob w) ∧ (cel b9 39 c.cells).F w) ∧ X1 w) ∧ X2 w from h.1.1).1.1.1.2,hw2 w (show ((((c.at_ w ∧ a.at_ w) ∧ Glob w) ∧ (cel b9 39 c.cells).F w) ∧ X1 w) ∧ X2 w from h.1.1).2,(hwP w (by exact h.1.2)).1,(hwP w (by exact h.1.2)).2,(hwQ w (by exact h.2)).1,(hwQ w (by exact h.2)).2⟩⟩
  obtain ⟨s,t,P,Q,hP,hQ⟩ := i
  simp only
  have hpl : P.length = (postsV c).length := by rw [← hP,List.length_map]
  have hql : Q.length = (postsV d).length := by rw [← hQ,List.length_map]
  have hgl := grows_len hid hdl
  refine cw_know (p:=(s.n = P.length ∧ s.n ≤ maxLen ∧ (0 < P.length → s.p.isSome = true)) ∧ (t.n = Q.length ∧ t.n ≤ maxLen ∧ (0 < Q.length → t.p.isSome = true)) ∧ c.acts.n = c.actsL.length) (fun w h => ⟨⟨by simpa using RowsD.len h.s,Nat.le_trans (RowsD.cap h.s) (RowsD.max h.s),fun h0 => (RowsD.row h.s 0 P[0].cells (by simp [List.getElem?_eq_getElem h0])).2.1⟩,⟨by simpa using RowsD.len h.t,Nat.le_trans (RowsD.cap h.t) (RowsD.max h.t),fun h0 => (RowsD.row h.t 0 Q[0].cells (by simp [List.getElem?_eq_getElem h0])).2.1⟩,h.c.len_⟩) fun ⟨⟨hsn,hsm,hsp⟩,⟨htn,htm,htp⟩,hcn⟩ => ?_
  simp only [maxLen] at hsm htm
  have hix := index_pu d hAd a.object
  obtain ⟨o,ho⟩ : ∃ o,o = idxV d.actsL a.object := ⟨_,rfl⟩
  rw [← ho] at hix
  have hgr : ∀ (k : Nat) (p : PostD),P[k]? = some p → ∃ q,Q[k]? = some q ∧ q.can = (chgP o c.acts.n a p).can := fun k p hp => by
    have h1 := grows_at hid hdl (i:=k) (p:=p.can) (by rw [← hP,List.getElem?_map,hp];rfl)
    rw [← ho, ← chgP_can, ← hcn, ← hQ,List.getElem?_map] at h1
    cases hq : Q[k]? with
    | none => rw [hq] at h1;cases h1
    | some q => rw [hq] at h1;exact ⟨q,rfl,Option.some.inj h1⟩
  apply cw_seq
  apply cw_reg
  repeat' (first | apply sw_nil | apply cw_seq | refine sy_move (h:=?_) | refine sy_assign (h:=?_) | refine sy_fld (h:=?_) | refine sy_ld (h:=?_) | refine sy_ldAll (h:=?_) | refine sy_extract (h:=?_) | (refine sw_pu (hc:=hix) (hX:=fun w h => ⟨h.d,h.g⟩) (h:=?_)) | fail)
  obtain ⟨ht,hht⟩ : ∃ b,b = hitN o c.acts.n := ⟨_,rfl⟩
  refine cw_meet (ι:=Unit) (fun _ => ⟨[(2,.pointer (some ⟨b2,0,none⟩)),(3,.pointer (some ⟨b3,0,none⟩)),(5,.bool true),(6,.int .i64 (c.acts.n : Nat)),(7,.pointer (some ⟨b7,0,none⟩)),(8,s.v),(9,t.v),(10,.int .i64 ((o.getD 0 : Nat) : Int)),(12,.bool ht)], [cel b7 39 d.cells,cel b3 46 a.cells,cel b2 39 c.cells],GX c d a s t P Q⟩) ?_ fun _ => ?_
  · subst hht
    cases o with
    | none =>
      simp only [Option.isSome_none,Option.getD_none]
      repeat' (first | apply sw_nil | apply cw_reg | refine sy_move (h:=?_) | refine sy_assign (h:=?_) | refine sy_pick_f (h:=?_) | refine sw_skipT (h:=?_) | fail)
      exact ⟨(),ok_sub ⟨rfl,rfl,rfl,rfl,rfl,rfl,rfl,rfl,rfl,trivial⟩ (List.Sublist.refl _) fun _ h => h⟩
    | some j =>
      simp only [Option.isSome_some,Option.getD_some]
      repeat' (first | apply sw_nil | apply cw_reg | refine sy_move (h:=?_) | refine sy_assign (h:=?_) | refine sy_pick_t (h:=?_) | refine sy_lss (h:=?_) | fail)
      exact ⟨(),ok_sub ⟨rfl,rfl,rfl,rfl,rfl,rfl,rfl,rfl,rfl,trivial⟩ (List.Sublist.refl _) fun _ h => h⟩
  repeat' (first | apply sw_nil | apply cw_seq | apply cw_reg | refine sy_assign (h:=?_) | apply cw_block | fail)
  refine cw_loop (ι:=Kth P.length) (fun i => ⟨[(2,.pointer (some ⟨b2,0,none⟩)),(3,.pointer (some ⟨b3,0,none⟩)),(5,.bool true),(6,.int .i64 (c.acts.n : Nat)),(7,.pointer (some ⟨b7,0,none⟩)),(8,s.v),(9,t.v),(10,.int .i64 ((o.getD 0 : Nat) : Int)),(12,.bool ht),(13,.int .i64 (i.k : Nat))], [cel b7 39 d.cells,cel b3 46 a.cells,cel b2 39 c.cells],GX c d a s t P Q⟩) (fun i => P.length - i.k) ⟨0,Nat.zero_le _⟩ (ok_sub ⟨rfl,rfl,rfl,rfl,rfl,rfl,rfl,rfl,rfl,rfl,trivial⟩ (List.Sublist.refl _) fun _ h => h) fun i => ?_
  obtain ⟨k,hk⟩ := i
  simp only
  repeat' (first | refine sy_geqF (hab:=by omega) (h:=?_) | apply sw_nil | apply cw_seq | apply cw_reg | refine sy_move (h:=?_) | refine sy_fld (h:=?_) | refine sy_ld (h:=?_) | refine sy_lss (h:=?_) | refine sy_len (h:=?_) | refine cw_cond_f (hf:=?_) | apply cw_skip | apply cw_block | apply cw_exit | (refine cw_cond (ht:=?_) (hf:=?_);all_goals (intro hx_;first | have := of_decide_eq_true hx_ | have := of_decide_eq_false hx_)))
  · have hlt : k < P.length := by omega
    have hsp' := hsp (by omega)
    have htp' := htp (by omega)
    obtain ⟨p,hp⟩ : ∃ p,P[k]? = some p := ⟨_,List.getElem?_eq_getElem hlt⟩
    obtain ⟨q,hq,hqc⟩ := hgr k p hp
    have hqt : k < Q.length := (List.getElem?_eq_some_iff.1 hq).1
    have hbp : ∀ w,GX c d a s t P Q w → Strs w p.to p.toL ∧ Ints w p.ed p.edL := fun w h => h.p p (List.mem_of_getElem? hp)
    have hbq : ∀ w,GX c d a s t P Q w → Strs w q.to q.toL ∧ Ints w q.ed q.edL := fun w h => h.q q (List.mem_of_getElem? hq)
    repeat' (first | apply sw_nil | apply cw_seq | refine sw_alloc (h:=fun _ => ?_) | refine sw_stAll (h:=?_) | (refine sy_idxX (q:=k * 11) (h:=?_)) | (refine sy_ldXs (cs:=p.cells) (hF:=fun w h => RowsD.row h.s k p.cells (by simp [hp])) (h:=?_)) | fail)
    rename_i b14
    obtain ⟨mn,hmn⟩ : ∃ b,b = (ht && decide ((p.pos : Int) = ((o.getD 0 : Nat) : Int))) := ⟨_,rfl⟩
    have hmine : mineB o c.acts.n p = mn := by rw [mine_eq, ← hht,hmn]
    refine cw_meet (ι:=Unit) (fun _ => ⟨[(2,.pointer (some ⟨b2,0,none⟩)),(3,.pointer (some ⟨b3,0,none⟩)),(5,.bool true),(6,.int .i64 (c.acts.n : Nat)),(7,.pointer (some ⟨b7,0,none⟩)),(8,s.v),(9,t.v),(10,.int .i64 ((o.getD 0 : Nat) : Int)),(12,.bool ht),(13,.int .i64 (k : Nat)),(14,.pointer (some ⟨b14,0,none⟩)),(15,.bool mn)], [cel b14 26 p.cells,cel b7 39 d.cells,cel b3 46 a.cells,cel b2 39 c.cells],GX c d a s t P Q⟩) ?_ fun _ => ?_
    · subst hmn
      clear hmine
      cases ht
      all_goals
        repeat' (first | apply sw_nil | apply cw_reg | refine sy_move (h:=?_) | refine sy_assign (h:=?_) | refine sy_fld (h:=?_) | refine sy_ld (h:=?_) | refine sy_pick_t (h:=?_) | refine sy_pick_f (h:=?_) | refine sy_eql (h:=?_) | refine sw_skipT (h:=?_) | fail)
        exact ⟨(),ok_sub ⟨rfl,rfl,rfl,rfl,rfl,rfl,rfl,rfl,rfl,rfl,rfl,rfl,trivial⟩ (List.Sublist.refl _) fun _ h => h⟩
    apply cw_seq
    obtain ⟨rr,hrr⟩ : ∃ rr,rr = chgP o c.acts.n a p := ⟨_,rfl⟩
    rw [← hrr] at hqc
    refine cw_meet2 (ι:=Chg26 rr) (fun i => ⟨[(2,.pointer (some ⟨b2,0,none⟩)),(3,.pointer (some ⟨b3,0,none⟩)),(5,.bool true),(6,.int .i64 (c.acts.n : Nat)),(7,.pointer (some ⟨b7,0,none⟩)),(8,s.v),(9,t.v),(10,.int .i64 ((o.getD 0 : Nat) : Int)),(12,.bool ht),(13,.int .i64 (k : Nat)),(14,.pointer (some ⟨b14,0,none⟩))], [cel b14 26 i.x.cells,cel b7 39 d.cells,cel b3 46 a.cells,cel b2 39 c.cells],fun w => GX c d a s t P Q w ∧ (Strs w i.x.to i.x.toL ∧ Ints w i.x.ed i.x.edL)⟩) ?_ fun i => ?_
    · have hst := sameT_pu p.to a.to p.toL a.toL
      refine cw_know (p:=p.ed.n = p.edL.length ∧ p.ed.n ≤ maxLen) (fun w h => ⟨(hbp w h).2.len_,Nat.le_trans (RowsD.cap (hbp w h).2) (RowsD.max (hbp w h).2)⟩) fun ⟨hen,hem⟩ => ?_
      have hel : p.edL.length ≤ 20 := by
        have := postsEd_le hP (List.mem_of_getElem? hp)
        omega
      cases mn with
      | false =>
        have e : rr = p := by rw [hrr,chgP,hmine];rfl
        repeat' (first | apply sw_nil | apply cw_seq | apply cw_reg | refine sy_move (h:=?_) | refine sy_pick_f (h:=?_) | refine sw_skipT (h:=?_) | refine cw_cond_f (hf:=?_) | apply cw_skip | fail)
        exact ⟨⟨p,by rw [e]⟩,ok_sub ⟨rfl,rfl,rfl,rfl,rfl,rfl,rfl,rfl,rfl,rfl,rfl,trivial⟩ (List.Sublist.refl _) fun w h => ⟨h,hbp w h⟩⟩
      | true =>
        by_cases h13 : a.kind = 13
        · have e : rr = goneP p := by rw [hrr,chgP,hmine,decide_eq_true h13];rfl
          repeat' (first | refine sy_eqlT (hab:=by omega) (h:=?_) | refine sy_eqlF (hab:=by omega) (h:=?_) | apply sw_nil | apply cw_seq | apply cw_reg | refine sy_move (h:=?_) | refine sy_fld (h:=?_) | refine sy_ld (h:=?_) | refine sy_pick_t (h:=?_) | refine sy_pick_f (h:=?_) | refine sw_skipT (h:=?_) | refine sw_st1 (h:=?_) | refine cw_cond_t (ht:=?_) | refine cw_cond_f (hf:=?_) | apply cw_skip | fail)
          exact ⟨⟨goneP p,by rw [e]⟩,ok_sub ⟨rfl,rfl,rfl,rfl,rfl,rfl,rfl,rfl,rfl,rfl,rfl,trivial⟩ (List.Sublist.refl _) fun w h => ⟨h,hbp w h⟩⟩
        by_cases h14 : a.kind = 14
        · have e : rr = editP a c.acts.n p := by rw [hrr,chgP,hmine,decide_eq_false h13,decide_eq_true h14];rfl
          have hce : editB a p = (!p.gone && decide (p.scope = a.scope) && seqB p.group a.group && eqL p.toL a.toL) := by
            rw [editB,seqB_comm a.group,eqL_comm a.toL]
            congr 3
            exact decide_eq_decide.2 ⟨Eq.symm,Eq.symm⟩
          rw [editP] at e
          repeat' (first | refine sw_bsl0 (h:=fun _ => ?_) | refine sy_eqlT (hab:=by omega) (h:=?_) | refine sy_eqlF (hab:=by omega) (h:=?_) | apply sw_nil | apply cw_seq | apply cw_reg | refine sy_move (h:=?_) | refine sy_fld (h:=?_) | refine sy_ld (h:=?_) | refine sy_pick_t (h:=?_) | refine sy_pick_f (h:=?_) | refine sy_not (h:=?_) | refine sy_eql (h:=?_) | refine sy_seql (h:=?_) | refine sw_skipT (h:=?_) | refine cw_cond_f (hf:=?_) | apply cw_skip | (refine sw_pu (hc:=hst) (hX:=fun w h => ⟨(hbp w h).1,h.a.1⟩) (h:=?_)) | ((fail_if_success (refine sw_chk (h:=?_)));refine sw_guard (ht:=?_) (hf:=?_);all_goals (intro hx_;first | have := of_decide_eq_true hx_ | have := of_decide_eq_false hx_ | skip)) | (refine cw_cond (ht:=?_) (hf:=?_);all_goals (intro hx_;skip)))
          all_goals try exact ⟨⟨p,by rw [e,hce,show (!p.gone) = false from by assumption];rfl⟩,ok_sub ⟨rfl,rfl,rfl,rfl,rfl,rfl,rfl,rfl,rfl,rfl,rfl,trivial⟩ (List.Sublist.refl _) fun w h => ⟨h,hbp w h⟩⟩
          all_goals try exact ⟨⟨p,by rw [e,hce,show decide (p.scope = a.scope) = false from by assumption,Bool.and_false];rfl⟩,ok_sub ⟨rfl,rfl,rfl,rfl,rfl,rfl,rfl,rfl,rfl,rfl,rfl,trivial⟩ (List.Sublist.refl _) fun w h => ⟨h,hbp w h⟩⟩
          all_goals try exact ⟨⟨p,by rw [e,hce,show seqB p.group a.group = false from by assumption,Bool.and_false];rfl⟩,ok_sub ⟨rfl,rfl,rfl,rfl,rfl,rfl,rfl,rfl,rfl,rfl,rfl,trivial⟩ (List.Sublist.refl _) fun w h => ⟨h,hbp w h⟩⟩
          all_goals try exact ⟨⟨p,by rw [e,hce,show eqL p.toL a.toL = false from by assumption,Bool.and_false];rfl⟩,ok_sub ⟨rfl,rfl,rfl,rfl,rfl,rfl,rfl,rfl,rfl,rfl,rfl,trivial⟩ (List.Sublist.refl _) fun w h => ⟨h,hbp w h⟩⟩
          have e2 : rr = { p with edL := p.edL ++ [(c.acts.n : Int)] } := by rw [e,hce,show (!p.gone) = true from by assumption,show decide (p.scope = a.scope) = true from by assumption,show seqB p.group a.group = true from by assumption,show eqL p.toL a.toL = true from by assumption];rfl
          repeat' (first | apply sw_nil | refine sy_move (h:=?_) | refine sy_fld (h:=?_) | refine sw_bsl (h:=fun _ => ?_) | refine sw_st1 (h:=?_) | (refine sw_append (size:=1) (news:=p.edL.map intV) (q:=p.ed.n) rfl rfl rfl rfl (fun _ => At.here _) (fun w G => ints_src (hbp w G.keep.now).2) (by omega) (by simp only [maxLen];omega) rfl ?_ rfl ?_;(with_reducible rfl);intro A2 c2) | (refine sw_append (size:=1) (news:=[intV (c.acts.n : Int)]) (q:=1) rfl rfl rfl rfl (fun _ => At.there _ (At.here _)) (fun w G => src_cel G List.mem_cons_self rfl rfl 1) (by omega) (by simp only [maxLen];omega) rfl ?_ rfl ?_;(with_reducible rfl);intro A3 c3) | fail)
          exact ⟨⟨{ p with ed := ⟨A3,0 + p.ed.n + 1,c3⟩,edL := p.edL ++ [(c.acts.n : Int)] },by rw [e2];rfl⟩,ok_gave ⟨rfl,rfl,rfl,rfl,rfl,rfl,rfl,rfl,rfl,rfl,rfl,trivial⟩ (List.Sublist.cons _ (List.Sublist.refl _)) fun w h hr => ⟨h,(hbp w h).1,ints_of_row (l:=p.edL ++ [(c.acts.n : Int)]) (by rw [show (p.edL ++ [(c.acts.n : Int)]).map intV = [] ++ p.edL.map intV ++ [intV (c.acts.n : Int)] from by simp];exact hr) (by rw [List.length_append,List.length_singleton];omega)⟩⟩
        · have e : rr = p := by rw [hrr,chgP,hmine,decide_eq_false h13,decide_eq_false h14];rfl
          repeat' (first | refine sy_eqlF (hab:=by omega) (h:=?_) | apply sw_nil | apply cw_seq | apply cw_reg | refine sy_move (h:=?_) | refine sy_fld (h:=?_) | refine sy_ld (h:=?_) | refine sy_pick_t (h:=?_) | refine sy_pick_f (h:=?_) | refine sw_skipT (h:=?_) | refine cw_cond_f (hf:=?_) | apply cw_skip | fail)
          exact ⟨⟨p,by rw [e]⟩,ok_sub ⟨rfl,rfl,rfl,rfl,rfl,rfl,rfl,rfl,rfl,rfl,rfl,trivial⟩ (List.Sublist.refl _) fun w h => ⟨h,hbp w h⟩⟩
    obtain ⟨x,hx⟩ := i
    simp only
    have hsame := same26_pu x q (hx.trans hqc.symm)
    apply cw_seq
    (refine cw_draw [cel b14 26 x.cells] (fun w => GX c d a s t P Q w ∧ (Strs w x.to x.toL ∧ Ints w x.ed x.edL)) (by kernel_rfl) ?_)
    all_goals (refine aw_take 0 (hsub:=by (exact fun _ h => h.drop (by ((repeat (first | exact List.nil_sublist _ | with_reducible apply List.Sublist.cons_cons));done)))) (h:=?_))
    all_goals (refine aw_take 1 (hsub:=by (exact fun _ h => h.drop (by ((repeat (first | exact List.nil_sublist _ | with_reducible apply List.Sublist.cons_cons));done)))) (h:=?_))
    all_goals (refine aw_take 2 (hsub:=by (exact fun _ h => h.drop (by ((repeat (first | exact List.nil_sublist _ | with_reducible apply List.Sublist.cons_cons));done)))) (h:=?_))
    all_goals (refine aw_take 3 (hsub:=by (exact fun _ h => h.drop (by ((repeat (first | exact List.nil_sublist _ | with_reducible apply List.Sublist.cons_cons));done)))) (hy:=by (apply y_idxX (q:=k * 11);rfl;rfl;omega;omega;assumption;omega)) (h:=?_))
    all_goals (refine aw_take 4 (hsub:=by (exact fun _ h => h.drop (by ((repeat (first | exact List.nil_sublist _ | with_reducible apply List.Sublist.cons_cons));done)))) (hy:=by (apply y_ldXs (cs:=q.cells);rfl;exact fun w h => RowsD.row h.1.t k q.cells (by simp [hq]))) (h:=?_))
    all_goals (refine aw_step 5 (h:=?_);(refine sw_pu (hc:=hsame) (hX:=fun w h => ⟨h.2,hbq w h.1⟩) (h:=?_));apply sw_nil;refine aw_fin (hsub:=by (exact fun _ h => h.drop (by ((repeat (first | exact List.nil_sublist _ | with_reducible apply List.Sublist.cons_cons));done)))) (h:=?_))
    all_goals (refine aw_take 6 (hsub:=by (exact fun _ h => h.drop (by ((repeat (first | exact List.nil_sublist _ | with_reducible apply List.Sublist.cons_cons));done)))) (h:=?_))
    all_goals (refine aw_done (h:=?_))
    repeat' (first | apply sw_nil | apply cw_reg | refine sy_move (h:=?_) | refine sy_assign (h:=?_) | refine sy_add (h:=?_) | refine cw_cond_f (hf:=?_) | apply cw_skip | fail)
    exact ⟨(⟨k + 1,hlt⟩ : Kth P.length),(by show P.length - (k + 1) < P.length - k;omega),ok_sub ⟨rfl,rfl,rfl,rfl,rfl,rfl,rfl,rfl,rfl,rfl,trivial⟩ (.cons _ (List.Sublist.refl _)) fun _ h => h.1⟩
  have hpo := posting_pu a.kind
  have hkE : k = P.length := by omega
  have hnl := grows_len hid hdl
  cases hpk : postK a.kind with
  | false =>
    rw [hpk] at hpo
    have hn0 : newT c a = [] := by rw [newT,hpk];rfl
    rw [hn0,List.length_nil] at hnl
    repeat' (first | refine sy_eqlT (hab:=by omega) (h:=?_) | apply sw_nil | apply cw_seq | apply cw_reg | refine sy_move (h:=?_) | refine sy_assign (h:=?_) | refine sy_pick_t (h:=?_) | refine sy_not (h:=?_) | refine sy_len (h:=?_) | refine cw_cond_t (ht:=?_) | apply cw_ret | (refine sw_pu (hc:=hpo) (hX:=fun _ _ => trivial) (h:=?_)) | fail)
    exact ends_ret (res_tmp rfl rfl) rfl
  | true =>
    rw [hpk] at hpo
    have hn1 : (newT c a).length = 1 := by rw [newT,hpk];rfl
    rw [hn1] at hnl
    repeat' (first | apply sw_nil | apply cw_seq | refine sy_not (h:=?_) | refine cw_cond_f (hf:=?_) | apply cw_skip | (refine sw_pu (hc:=hpo) (hX:=fun _ _ => trivial) (h:=?_)) | fail)
    have hgn := grows_new hid hdl hpk
    rw [← hQ, ← hpl,List.getElem?_map, ← hcn] at hgn
    obtain ⟨qn,hqn,hqnc⟩ : ∃ qn,Q[P.length]? = some qn ∧ qn.can = newP c.id c.acts.n a := by
      cases hq : Q[P.length]? with
      | none => rw [hq] at hgn;cases hgn
      | some q => rw [hq] at hgn;exact ⟨q,rfl,Option.some.inj hgn⟩
    have htp' := htp (by omega)
    obtain ⟨np,hnp⟩ : ∃ np : PostD,np = ⟨digV a,c.id,c.acts.n,a.kind,a.scope,a.group,a.to,a.object,a.time,⟨none,0,0⟩,false,a.toL, []⟩ := ⟨_,rfl⟩
    have hsame2 := same26_pu np qn (by rw [hqnc,hnp];rfl)
    have hofa := ofAct_mk a har has
    have hdga : ∀ x' : ActD,digV x' = digV a → x'.Rng → Pu Tryz.prog 20 #[itemV 0 x'] (fun w => x'.at_ w ∧ Glob w) (.string (digV a)) := fun x' h1 h2 => h1 ▸ digest_pu x' h2
    refine cw_meet (ι:=Nat) (fun b => ⟨[(5,.bool true),(8,s.v),(9,t.v),(16,.pointer (some ⟨b,0,none⟩))], [cel b 26 np.cells],GX c d a s t P Q⟩) ?_ fun b16 => ?_
    · (refine cw_draw [cel b3 46 a.cells,cel b2 39 c.cells] (GX c d a s t P Q) (by kernel_rfl) ?_)
      all_goals (refine aw_take 0 (hsub:=by (exact fun _ h => h.drop (by ((repeat (first | exact List.Sublist.refl _ | apply List.Sublist.cons));done)))) (h:=?_))
      all_goals (refine aw_take 3 (hsub:=by (exact fun _ h => h.drop (by ((repeat (first | exact List.Sublist.refl _ | apply List.Sublist.cons));done)))) (h:=?_))
      all_goals (refine aw_take 4 (hsub:=by (exact fun _ h => h.drop (by ((repeat (first | exact List.Sublist.refl _ | apply List.Sublist.cons));done)))) (h:=?_))
      all_goals (refine aw_take 5 (hsub:=by (exact fun _ h => h.drop (by ((repeat (first | exact List.Sublist.refl _ | apply List.Sublist.cons));done)))) (h:=?_))
      all_goals (refine aw_take 6 (hsub:=by (exact fun _ h => h.drop (by ((repeat (first | exact List.Sublist.refl _ | apply List.Sublist.cons));done)))) (h:=?_))
      all_goals (refine aw_take 7 (hsub:=by (exact fun _ h => h.drop (by ((repeat (first | exact List.Sublist.refl _ | apply List.Sublist.cons));done)))) (h:=?_))
      all_goals (refine aw_take 8 (hsub:=by (exact fun _ h => h.drop (by ((repeat (first | exact List.Sublist.refl _ | apply List.Sublist.cons));done)))) (h:=?_))
      all_goals (refine aw_take 9 (hsub:=by (exact fun _ h => h.drop (by ((repeat (first | exact List.Sublist.refl _ | apply List.Sublist.cons));done)))) (h:=?_))
      all_goals (refine aw_take 10 (hsub:=by (exact fun _ h => h.drop (by ((repeat (first | exact List.Sublist.refl _ | apply List.Sublist.cons));done)))) (h:=?_))
      all_goals (refine aw_take 11 (hsub:=by (exact fun _ h => h.drop (by ((repeat (first | exact List.Sublist.refl _ | apply List.Sublist.cons));done)))) (h:=?_))
      all_goals (refine aw_take 12 (hsub:=by (exact fun _ h => h.drop (by ((repeat (first | exact List.Sublist.refl _ | apply List.Sublist.cons));done)))) (h:=?_))
      all_goals (refine aw_take 13 (hsub:=by (exact fun _ h => h.drop (by ((repeat (first | exact List.Sublist.refl _ | apply List.Sublist.cons));done)))) (h:=?_))
      all_goals (refine aw_take 14 (hsub:=by (exact fun _ h => h.drop (by ((repeat (first | exact List.Sublist.refl _ | apply List.Sublist.cons));done)))) (h:=?_))
      all_goals (refine aw_take 15 (hsub:=by (exact fun _ h => h.drop (by ((repeat (first | exact List.Sublist.refl _ | apply List.Sublist.cons));done)))) (h:=?_))
      all_goals (refine aw_take 16 (hsub:=by (exact fun _ h => h.drop (by ((repeat (first | exact List.Sublist.refl _ | apply List.Sublist.cons));done)))) (h:=?_))
      all_goals (refine aw_take 17 (hsub:=by (exact fun _ h => h.drop (by ((repeat (first | exact List.Sublist.refl _ | apply List.Sublist.cons));done)))) (h:=?_))
      all_goals (refine aw_two 1 19 (h:=?_) (h':=?_);(focus (((refine sw_mk (hc:=hofa) (hX:=fun w h => h.a) (h:=fun v5 X5 h5 => ?_);obtain ⟨x',rfl,hdig,hr',hat⟩ := h5);apply sw_nil;refine aw_fin (hsub:=by (exact fun _ h => (h.drop (by ((repeat (first | exact List.Sublist.refl _ | apply List.Sublist.cons));done))).imp (fun _ h => h.1))) (h:=?_));all_goals ((refine aw_two 2 19 (h:=?_) (h':=?_);(focus (((refine sw_pu (hc:=hdga x' hdig hr') (hX:=fun w h => ⟨hat w h.2,h.1.g⟩) (h:=?_));apply sw_nil;refine aw_fin (hsub:=by (exact fun _ h => (h.drop (by ((repeat (first | exact List.Sublist.refl _ | apply List.Sublist.cons));done))).imp (fun _ h => h.1))) (h:=?_));all_goals ((refine aw_take 18 (hsub:=by (exact fun _ h => (h.drop (by ((repeat (first | exact List.Sublist.refl _ | apply List.Sublist.cons));done))).imp (fun _ h => h.1))) (hy:=by (apply y_build (cs:=np.cells);rfl;(subst hnp;rfl))) (h:=?_));all_goals (refine aw_step 19 (h:=?_);(refine sw_alloc (h:=fun _ => ?_));apply sw_nil;refine aw_fin (hsub:=by (exact fun _ h => (h.drop (by ((repeat (first | exact List.Sublist.refl _ | apply List.Sublist.cons));done))).imp (fun _ h => h.1))) (h:=?_));all_goals (refine aw_step 20 (h:=?_);(refine sw_stAll (h:=?_));apply sw_nil;refine aw_fin (hsub:=by (exact fun _ h => (h.drop (by ((repeat (first | exact List.Sublist.refl _ | apply List.Sublist.cons));done))).imp (fun _ h => h.1))) (h:=?_));all_goals (refine aw_done (h:=?_)))));rotate_right;(focus (((refine sw_alloc (h:=fun _ => ?_));apply sw_nil;refine aw_fin (hsub:=by (exact fun _ h => (h.drop (by ((repeat (first | exact List.Sublist.refl _ | apply List.Sublist.cons));done))).imp (fun _ h => h.1))) (h:=?_));all_goals ((refine aw_step 2 (h:=?_);(refine sw_pu (hc:=hdga x' hdig hr') (hX:=fun w h => ⟨hat w h.2,h.1.g⟩) (h:=?_));apply sw_nil;refine aw_fin (hsub:=by (exact fun _ h => (h.drop (by ((repeat (first | exact List.Sublist.refl _ | apply List.Sublist.cons));done))).imp (fun _ h => h.1))) (h:=?_));all_goals (refine aw_take 18 (hsub:=by (exact fun _ h => (h.drop (by ((repeat (first | exact List.Sublist.refl _ | apply List.Sublist.cons));done))).imp (fun _ h => h.1))) (hy:=by (apply y_build (cs:=np.cells);rfl;(subst hnp;rfl))) (h:=?_));all_goals (refine aw_step 20 (h:=?_);(refine sw_stAll (h:=?_));apply sw_nil;refine aw_fin (hsub:=by (exact fun _ h => (h.drop (by ((repeat (first | exact List.Sublist.refl _ | apply List.Sublist.cons));done))).imp (fun _ h => h.1))) (h:=?_));all_goals (refine aw_done (h:=?_)))))))));rotate_right;(focus (((refine sw_alloc (h:=fun _ => ?_));apply sw_nil;refine aw_fin (hsub:=by (exact fun _ h => h.drop (by ((repeat (first | exact List.Sublist.refl _ | apply List.Sublist.cons));done)))) (h:=?_));all_goals ((refine aw_step 1 (h:=?_);(refine sw_mk (hc:=hofa) (hX:=fun w h => h.a) (h:=fun v5 X5 h5 => ?_);obtain ⟨x',rfl,hdig,hr',hat⟩ := h5);apply sw_nil;refine aw_fin (hsub:=by (exact fun _ h => (h.drop (by ((repeat (first | exact List.Sublist.refl _ | apply List.Sublist.cons));done))).imp (fun _ h => h.1))) (h:=?_));all_goals (refine aw_step 2 (h:=?_);(refine sw_pu (hc:=hdga x' hdig hr') (hX:=fun w h => ⟨hat w h.2,h.1.g⟩) (h:=?_));apply sw_nil;refine aw_fin (hsub:=by (exact fun _ h => (h.drop (by ((repeat (first | exact List.Sublist.refl _ | apply List.Sublist.cons));done))).imp (fun _ h => h.1))) (h:=?_));all_goals (refine aw_take 18 (hsub:=by (exact fun _ h => (h.drop (by ((repeat (first | exact List.Sublist.refl _ | apply List.Sublist.cons));done))).imp (fun _ h => h.1))) (hy:=by (apply y_build (cs:=np.cells);rfl;(subst hnp;rfl))) (h:=?_));all_goals (refine aw_step 20 (h:=?_);(refine sw_stAll (h:=?_));apply sw_nil;refine aw_fin (hsub:=by (exact fun _ h => (h.drop (by ((repeat (first | exact List.Sublist.refl _ | apply List.Sublist.cons));done))).imp (fun _ h => h.1))) (h:=?_));all_goals (refine aw_done (h:=?_))))))
      all_goals exact ⟨_,ok_sub ⟨rfl,rfl,rfl,rfl,trivial⟩ (.cons_cons _ (List.nil_sublist _)) fun _ h => h.1⟩
    apply cw_seq
    (refine cw_draw [cel b16 26 np.cells] (GX c d a s t P Q) (by kernel_rfl) ?_)
    all_goals (refine aw_take 0 (hsub:=by (exact fun _ h => h.drop (by ((repeat (exact List.Sublist.refl _));done)))) (h:=?_))
    all_goals (refine aw_take 1 (hsub:=by (exact fun _ h => h.drop (by ((repeat (exact List.Sublist.refl _));done)))) (h:=?_))
    all_goals (refine aw_take 2 (hsub:=by (exact fun _ h => h.drop (by ((repeat (exact List.Sublist.refl _));done)))) (h:=?_))
    all_goals (refine aw_take 3 (hsub:=by (exact fun _ h => h.drop (by ((repeat (exact List.Sublist.refl _));done)))) (h:=?_))
    all_goals (refine aw_take 4 (hsub:=by (exact fun _ h => h.drop (by ((repeat (exact List.Sublist.refl _));done)))) (h:=?_))
    all_goals (refine aw_take 5 (hsub:=by (exact fun _ h => h.drop (by ((repeat (exact List.Sublist.refl _));done)))) (h:=?_))
    all_goals (refine aw_take 6 (hsub:=by (exact fun _ h => h.drop (by ((repeat (exact List.Sublist.refl _));done)))) (h:=?_))
    all_goals (refine aw_take 7 (hsub:=by (exact fun _ h => h.drop (by ((repeat (exact List.Sublist.refl _));done)))) (hy:=by (apply y_eqlW true;rfl;rfl;exact decide_eq_true (by omega))) (h:=?_))
    all_goals (refine aw_take 8 (hsub:=by (exact fun _ h => h.drop (by ((repeat (exact List.Sublist.refl _));done)))) (h:=?_))
    all_goals (refine aw_take 9 (hsub:=by (exact fun _ h => h.drop (by ((repeat (exact List.Sublist.refl _));done)))) (h:=?_))
    all_goals (refine aw_take 10 (hsub:=by (exact fun _ h => h.drop (by ((repeat (exact List.Sublist.refl _));done)))) (h:=?_))
    all_goals (refine aw_take 11 (hsub:=by (exact fun _ h => h.drop (by ((repeat (exact List.Sublist.refl _));done)))) (h:=?_))
    all_goals (refine aw_take 12 (hsub:=by (exact fun _ h => h.drop (by ((repeat (exact List.Sublist.refl _));done)))) (h:=?_))
    all_goals (refine aw_take 13 (hsub:=by (exact fun _ h => h.drop (by ((repeat (exact List.Sublist.refl _));done)))) (h:=?_))
    all_goals (refine aw_take 14 (hsub:=by (exact fun _ h => h.drop (by ((repeat (exact List.Sublist.refl _));done)))) (hy:=by (apply y_idxX (q:=s.n * 11);rfl;rfl;omega;omega;assumption;omega)) (h:=?_))
    all_goals (refine aw_take 15 (hsub:=by (exact fun _ h => h.drop (by ((repeat (exact List.Sublist.refl _));done)))) (hy:=by (apply y_ldXs (cs:=qn.cells);rfl;exact fun w h => RowsD.row h.t s.n qn.cells (by rw [hsn];simp [hqn]))) (h:=?_))
    all_goals (refine aw_step 16 (h:=?_);(refine sw_pu (hc:=hsame2) (hX:=fun w h => ⟨by subst hnp;exact ⟨h.a.1,rowsD_nil w 1⟩,h.q qn (List.mem_of_getElem? hqn)⟩) (h:=?_));apply sw_nil;refine aw_fin (hsub:=by (exact fun _ h => h.drop (by ((repeat (exact List.Sublist.refl _));done)))) (h:=?_))
    all_goals (refine aw_take 17 (hsub:=by (exact fun _ h => h.drop (by ((repeat (exact List.Sublist.refl _));done)))) (h:=?_))
    all_goals (refine aw_take 18 (hsub:=by (exact fun _ h => h.drop (by ((repeat (exact List.Sublist.refl _));done)))) (h:=?_))
    all_goals (refine aw_done (h:=?_))
    all_goals
      repeat' (first | apply cw_ret | fail)
      exact ends_ret (res_tmp rfl rfl) rfl
end Go.Proofs.YtjmpdkmboheknaaGreatDoor

namespace Go.Proofs.YtjmpdkmboheknaaGreatDoor
open Go Go.Proofs Sy Go.RowKit Go.Deep Go.ChangeShapes
section
variable {H : Type} {enc : TypeId × Value → H} {P : Program} {w : World} {base : Nat} {spare : Nat → Bool} {held : Bool}
def Reached (P : Program) (t : TypeId) (d : DataW H) : Prop := ∀ n ∈ DataW.weights P t d,n ≤ reachBytes
theorem weightsAll_mem {e : TypeId} : ∀ {l : List (DataW H)} {d : DataW H},d ∈ l → ∀ n ∈ DataW.weights P e d,n ∈ DataW.weightsAll P e l
  | [],d,h,n,hn => by cases h
  | a :: l,d,h,n,hn => by
    rw [DataW.weightsAll,List.mem_append]
    rcases List.mem_cons.1 h with rfl | h
    · exact .inl hn
    · exact .inr (weightsAll_mem h n hn)
theorem open_rowsW {α : Type} [Inhabited α] {t e : TypeId} {size bytes fuel : Nat} {cs : List Value} {x : DataW H × List MemPlace} (ht : P.underlying t = some (.slice e)) (hc : P.cellsOf e = size) (hby : P.bytesOf e = bytes) (cells : α → List Value) (Q : α → Prop)
    (each : ∀ n cs y,DataW.trod enc P w base spare held n e cs = some y → Reached P e y.1 → ∃ a,cs = cells a ∧ Q a) (h : DataW.trod enc P w base spare held fuel t cs = some x) (hW : Reached P t x.1) :
    ∃ (s : SlV) (l : List α),cs = [s.v] ∧ RowsD w size s (l.map cells) ∧ (∀ a ∈ l,Q a) ∧ s.n * bytes ≤ reachBytes := by
  rcases open_slice ht h with ⟨rfl,_⟩ | ⟨a,len,cap,m,n,D,Pl,rfl,hb,hl,hm,hmm,hx,hi⟩
  · exact ⟨⟨none,0,0⟩, [],rfl,rowsD_nil w size,by simp,by simp⟩
  · have hlm : len ≤ m := by rw [hmm];split <;> omega
    have hel : ∀ i,i < len → Reached P e (D i) := fun i hil k hk => hW k (by
      rw [hx]
      simp only [DataW.weights,ht]
      exact List.mem_cons_of_mem _ (List.mem_append_left _ (weightsAll_mem (List.mem_map.2 ⟨i,List.mem_range.2 hil,rfl⟩) k hk)))
    have h1 : ∀ i,i < len → ∃ z : α,w.cells? base (a.add (i * size)) size = some (cells z) ∧ Q z := fun i hil => by
      obtain ⟨cs',h2,h3⟩ := hi i (by omega)
      obtain ⟨z,rfl,hz⟩ := each _ _ _ h3 (hel i hil)
      rw [hc] at h2
      exact ⟨z,h2,hz⟩
    have hn := hW ((((List.range len).map D).length + ((List.range (m - len)).map fun j => D (len + j)).length) * P.bytesOf e) (by rw [hx];simp [DataW.weights,ht])
    rw [hby,List.length_map,List.length_range,Nat.add_mul] at hn
    obtain ⟨F,hF⟩ := choose_lt h1
    refine ⟨⟨some a,len,cap⟩,(List.range len).map F,rfl,⟨by simp,hl,hm,fun i cs' hcs => ?_⟩,fun z hz => ?_,by show len * bytes ≤ _;omega⟩
    · simp only [List.map_map,List.getElem?_map] at hcs
      have hil : i < len := by
        cases hr : (List.range len)[i]? with
        | none => rw [hr] at hcs;cases hcs
        | some k => have := (List.getElem?_eq_some_iff.1 hr).1;simpa using this
      rw [List.getElem?_range hil] at hcs
      simp only [Option.map_some,Function.comp_apply,Option.some.injEq] at hcs
      subst hcs
      obtain ⟨_,hlen,hat⟩ := World.cells?_some (hF i hil).1
      refine ⟨hlen,rfl,fun j u hj => ⟨rfl,fun a' ha' => ?_⟩⟩
      obtain rfl : a = a' := Option.some.inj ha'
      rw [← Go.Deep.add_add,hat j (by rw [← hlen];exact (List.getElem?_eq_some_iff.1 hj).1),hj]
    · simp only [List.mem_map,List.mem_range] at hz
      obtain ⟨i,hil,rfl⟩ := hz
      exact (hF i hil).2
theorem fld_ofW {t : TypeId} {fs : Array Field} {fuel : Nat} {cs : List Value} {x : DataW H × List MemPlace} (ht : P.underlying t = some (.struct fs)) (h : DataW.trod enc P w base spare held fuel t cs = some x) (hW : Reached P t x.1) {i : Nat} {f : Field} (hf : fs[i]? = some f) {off k : Nat} {t' : TypeId} (ho : f.offset = off) (htt : f.type = t') (hk : P.cellsOf t' = k) :
    ∃ n y,DataW.trod enc P w base spare held n t' ((cs.drop off).take k) = some y ∧ Reached P t' y.1 := by
  obtain ⟨xs,n,_,hx1,_,hlen,hg⟩ := DataW.trod_struct ht h
  have h1 := hg i f hf
  have hi : i < fs.size := (Array.getElem?_eq_some_iff.1 hf).1
  subst ho;subst htt;subst hk
  rw [List.getElem?_eq_getElem (by omega)] at h1
  refine ⟨n,_,h1,fun q hq => hW q ?_⟩
  rw [hx1]
  simp only [DataW.weights,ht]
  refine DataW.weights_mem_each (j:=i) (t:=f.type) (d:=(xs[i]'(by omega)).1) (by rw [List.getElem?_map];simp [hf]) (by rw [List.getElem?_map,List.getElem?_eq_getElem (by omega)];rfl) q hq
def ActD.Room (a : ActD) : Prop := a.to.n * 16 ≤ 140737488351232 ∧ a.wraps.n * 64 ≤ 140737488351232
theorem act_room {fuel : Nat} {a : ActD} {x : DataW H × List MemPlace} (h : DataW.trod enc Tryz.prog w base spare held fuel 46 a.cells = some x) (hW : Reached Tryz.prog 46 x.1) : a.Room := by
  obtain ⟨n9,y9,h9,w9⟩ := fld_ofW (i:=9) (off:=9) (k:=1) (t':=23) Tryz.underlying46 h hW rfl rfl rfl (by kernel_rfl)
  obtain ⟨n13,y13,h13,w13⟩ := fld_ofW (i:=13) (off:=15) (k:=1) (t':=42) Tryz.underlying46 h hW rfl rfl rfl (by kernel_rfl)
  obtain ⟨s9,l9,e9,_,_,r9⟩ := open_rowsW (α:=ByteArray) Tryz.underlying23 (size:=1) (bytes:=16) (by kernel_rfl) (by kernel_rfl) (fun s => [.string s]) (fun _ => True) (fun n cs y hy _ => by obtain ⟨s,h1,_⟩ := open_str1 hy;exact ⟨s,h1,trivial⟩) h9 w9
  haveI : Inhabited WrapD := ⟨⟨0,0,BoxD.zero⟩⟩
  obtain ⟨s13,l13,e13,_,_,r13⟩ := open_rowsW (α:=WrapD) Tryz.underlying42 (size:=5) (bytes:=64) (by kernel_rfl) (by kernel_rfl) WrapD.cells (fun _ => True) (fun n cs y hy _ => by obtain ⟨s,h1,_⟩ := open_wrap hy;exact ⟨s,h1,trivial⟩) h13 w13
  have e1 : a.to.v = s9.v := by simpa [ActD.cells] using e9
  have e2 : a.wraps.v = s13.v := by simpa [ActD.cells] using e13
  have f1 : a.to.n = s9.n := by
    cases hk : a.to;cases s9;rw [hk] at e1;simp [SlV.v] at e1;exact e1.2.1
  have f2 : a.wraps.n = s13.n := by
    cases hk : a.wraps;cases s13;rw [hk] at e2;simp [SlV.v] at e2;exact e2.2.1
  have hr : reachBytes = 140737488351232 := rfl
  exact ⟨by rw [f1, ← hr];exact r9,by rw [f2, ← hr];exact r13⟩
def ActD.Good (a : ActD) : Prop := a.Rng ∧ a.target.size ≤ maxLen ∧ a.Room
theorem ActD.Good.sm {a : ActD} (h : a.Good) : a.Sm := ⟨h.2.2.1,h.2.2.2,h.2.1⟩
theorem open_actsW {fuel : Nat} {cs : List Value} {x : DataW H × List MemPlace} (h : DataW.trod enc Tryz.prog w base spare held fuel 36 cs = some x) (hW : Reached Tryz.prog 36 x.1) : ∃ (s : SlV) (l : List ActD),cs = [s.v] ∧ Acts w s l ∧ ∀ a ∈ l,a.Good := by
  haveI : Inhabited ActD := ⟨ActD.zero⟩
  obtain ⟨s,l,h1,h2,h3,_⟩ := open_rowsW (α:=ActD) Tryz.underlying36 (size:=20) (bytes:=Tryz.prog.bytesOf 46) (by kernel_rfl) rfl ActD.cells (fun a => a.at_ w ∧ a.Good) (fun n cs y hy hw => by
    obtain ⟨a,rfl,h1,h2,h3⟩ := open_act hy
    exact ⟨a,rfl,h1,h2,h3,act_room hy hw⟩) h hW
  exact ⟨s,l,h1,⟨h2,fun a ha => (h3 a ha).1⟩,fun a ha => (h3 a ha).2⟩
theorem open_chainW {fuel : Nat} {cs : List Value} {x : DataW H × List MemPlace} (h : DataW.trod enc Tryz.prog w base spare held fuel 39 cs = some x) (hW : Reached Tryz.prog 39 x.1) : ∃ c : ChainD,cs = c.cells ∧ c.at_ w ∧ c.id.size ≤ maxLen ∧ ∀ a ∈ c.actsL,a.Good := by
  have hl := len_of Tryz.underlying39 (k:=6) (by kernel_rfl) h
  obtain ⟨n0,y0,h0⟩ := fld_of (i:=0) (off:=0) (k:=1) (t':=9) Tryz.underlying39 h rfl rfl rfl (by kernel_rfl)
  obtain ⟨n1,y1,h1,w1⟩ := fld_ofW (i:=1) (off:=1) (k:=1) (t':=36) Tryz.underlying39 h hW rfl rfl rfl (by kernel_rfl)
  obtain ⟨n2,y2,h2⟩ := fld_of (i:=2) (off:=2) (k:=1) (t':=37) Tryz.underlying39 h rfl rfl rfl (by kernel_rfl)
  obtain ⟨n3,y3,h3⟩ := fld_of (i:=3) (off:=3) (k:=1) (t':=9) Tryz.underlying39 h rfl rfl rfl (by kernel_rfl)
  obtain ⟨n4,y4,h4⟩ := fld_of (i:=4) (off:=4) (k:=1) (t':=3) Tryz.underlying39 h rfl rfl rfl (by kernel_rfl)
  obtain ⟨n5,y5,h5⟩ := fld_of (i:=5) (off:=5) (k:=1) (t':=4) Tryz.underlying39 h rfl rfl rfl (by kernel_rfl)
  match cs,hl with
  | [c0,c1,c2,c3,c4,c5],_ =>
    obtain ⟨s0,e0,b0⟩ := open_str1 h0
    obtain ⟨s1,l1,e1,b1,r1⟩ := open_actsW h1 w1
    obtain ⟨s2,e2⟩ := open_sl Tryz.underlying37 h2
    obtain ⟨s3,e3,b3⟩ := open_str1 h3
    obtain ⟨s4,e4,b4⟩ := open_int1 h4
    obtain ⟨s5,e5⟩ := open_bool1 h5
    simp at e0 e1 e2 e3 e4 e5
    exact ⟨⟨s0,s1,s2,s3,s4,s5,l1⟩,by simp [ChainD.cells,e0,e1,e2,e3,e4,e5],b1,b0,r1⟩
end
end Go.Proofs.YtjmpdkmboheknaaGreatDoor
