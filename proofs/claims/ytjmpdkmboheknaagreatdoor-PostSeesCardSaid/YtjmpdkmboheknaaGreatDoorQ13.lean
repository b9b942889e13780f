/- Joined by program out of: Ns Nq Nt Nu Nh Se Nw Ow Po. -/
import Derived.Test.YtjmpdkmboheknaaGreatDoorQ12
import Derived.Test.YtjmpdkmboheknaaGreatDoorCards
import Derived.Test.YtjmpdkmboheknaaGreatDoorTie
import Derived.WalkKit
import Derived.ProofKit
import Derived.Deep.DeepHandedRow
import Derived.Lib.LaidTab
set_option linter.unusedVariables false
set_option linter.unusedSimpArgs false
namespace Go.Proofs.YtjmpdkmboheknaaGreatDoor
open Go Go.Proofs Sy
theorem begActs {x : ActD} (hx : x.Rng) (hs : x.Sm) : ActsOk [x] := ⟨fun a h => by rw [List.mem_singleton.1 h];exact hx,fun a h => by rw [List.mem_singleton.1 h];exact hs⟩
theorem nk_rngA1 : nkA1.Rng := ⟨by decide +kernel,fun w hw => (List.not_mem_nil hw).elim,rfl,rfl⟩
theorem nk_rngA2 : nkA2.Rng := ⟨by decide +kernel,fun w hw => (List.not_mem_nil hw).elim,rfl,rfl⟩
theorem nk_smA1 : nkA1.Sm := ⟨by decide,by decide,by decide⟩
theorem nk_smA2 : nkA2.Sm := ⟨by decide,by decide,by decide⟩
theorem chainsOne {b : Nat} {w : World} {c : ChainD} (h : (cel b 39 c.cells).F w) (hc : c.at_ w) : Chains w ⟨some ⟨b,0,none⟩,1,1⟩ [c] :=
  ⟨rows_of_cel (xs:=[c.cells]) h rfl (by decide) (by intro r hr;rw [List.mem_singleton.1 hr];rfl),fun x hx => by rw [List.mem_singleton.1 hx];exact hc⟩
theorem last26 {c2 : ChainD} {x0 x1 x2 : ActD} (hl2 : c2.actsL = [x0,x1,x2]) (hi2 : c2.id = nkI) (h1k : x1.kind = 1) (h1s : x1.scope = 0) (h2k : x2.kind = 14) (h2s : x2.scope = 0) {p : PostD} (hg : p.gone = false) (hpo : p.pos = 1) (hpe : p.edL = [2]) (hpa : p.author = nkI) : lastV [c2] p ⟨#[]⟩ = .tuple #[.int .i64 2,.bool true] := by
  have m1 : mayV c2 1 ⟨#[]⟩ = true := by
    rw [mayV,rtextV,pubV,hl2]
    show ((decide ((0 : Int) ≤ 1) && (postK x1.kind || decide (x1.kind = 14))) && (_ || decide (x1.scope = 0) || _)) = true
    rw [h1k,h1s]
    simp [postK]
  have m2 : mayV c2 2 ⟨#[]⟩ = true := by
    rw [mayV,rtextV,pubV,hl2]
    show ((decide ((0 : Int) ≤ 2) && (postK x2.kind || decide (x2.kind = 14))) && (_ || decide (x2.scope = 0) || _)) = true
    rw [h2k,h2s]
    simp [postK]
  have hf : findC [c2] p.author = some c2 := by rw [hpa,findC,List.find?_cons,hi2,seqB_self]
  have hh : histV [c2] p ⟨#[]⟩ = [1,2] := by
    rw [histV,hg,hf,hpo,hpe]
    show ([1,2] : List Int).filter (fun i => mayV c2 i ⟨#[]⟩) = _
    simp [m1,m2]
  rw [lastV,hh]
  rfl
theorem none26 {c2 : ChainD} {x1 : ActD} (hps : postsV c2 = [p26 x1]) (hd1 : digV x1 = nkD1) : findPV [c2] ⟨#[120]⟩ = none := findPV_none fun c hc q hq => by
  rw [List.mem_singleton.1 hc,hps] at hq
  rw [List.mem_singleton.1 hq,isPost]
  show seqB (digV x1) _ = false
  rw [hd1]
  exact nkx_ne
theorem y_notW {P : Program} {N : Nat} {av bor : List Nat} {w0 : World} {st : St} {t ty : TypeId} {x : Operand} {b : Bool} (v : Bool) (hx : ev st.env x = some (.bool b)) (hv : (!b) = v) : Sy.Yields P N av bor w0 st (.unOp .not t x) ty (.bool v) := hv ▸ y_not hx
structure Met26 where
  r1 : SlV
  r2 : SlV
  m1 : r1.n = 0
  m2 : r2.n = 0
  b : Nat
set_option maxRecDepth 20000 in
set_option maxHeartbeats 16000000 in
theorem small26_pu : Pu Tryz.prog 6 #[] Glob (.bool true) := by
  refine pu_of_cw (args:=[]) _ Tryz.func6 rfl Tryz.ntmps6 rfl fun av bor w0 => ?_
  have hk := signKey_pu ⟨#[97]⟩ (by decide)
  rw [nk_key] at hk
  have hbg := begun_mk
  repeat' (first | apply sw_nil | apply cw_seq | apply cw_reg | refine sy_move (h:=?_) | refine sy_assign (h:=?_) | refine sy_ldAll (h:=?_) | refine sy_extract (h:=?_) | refine sw_alloc (h:=fun _ => ?_) | refine sw_stAll (h:=?_) | (refine sw_pu (hc:=hk) (hX:=fun w h => h) (h:=?_)) | (refine sw_mk (hc:=hbg) (hX:=fun w h => h) (h:=fun v1 X1 h1 => ?_);obtain ⟨ks,sa,sk,s1,s2,hs1,hs2,rfl,hw0⟩ := h1) | (refine sy_build (cs:=a26.cells) (hf:=by rfl) (h:=?_)) | fail)
  refine sw_know (p:=sa.n = 1) (fun w h => by simpa using (hw0 w h.2).1.1.len) fun hsa => ?_
  obtain ⟨x0,hx0⟩ : ∃ x,x = nkA0.re s1 s2 := ⟨_,rfl⟩
  rw [← hx0] at hw0 ⊢
  have hR0 : x0.Rng := by rw [hx0];exact rng_reN nk_rngA hs1 hs2
  have hS0 : x0.Sm := by rw [hx0];exact sm_reN nk_smA hs1 hs2
  obtain ⟨c0,hc0⟩ : ∃ c,c = begC sa sk x0 := ⟨_,rfl⟩
  have hl0 : c0.actsL = [x0] := by rw [hc0];rfl
  have hT0 : TaleC c0 1 nkD0 := by rw [hc0];exact ⟨rfl,hsa,rfl⟩
  have hO0 : ownsB nkK c0 [⟨0,nkK.p,0⟩] = true := by
    rw [ownsB,nk_right,hT0.n]
    rfl
  have hA0 : ActsOk c0.actsL := by rw [hl0];exact begActs hR0 hS0
  have hat0 : ∀ w,X1 w → c0.at_ w ∧ Keyz w c0.keys [⟨0,nkK.p,0⟩] := fun w h => by rw [hc0];exact hw0 w h
  rw [← hc0]
  have hp1 := post1_mk hA0 hT0 hO0
  have hex1 : ∀ t1 t2 : SlV,t1.n = 0 → t2.n = 0 → Mk Tryz.prog 14 #[c0.v,(nkA1.re t1 t2).v] (fun w => (c0.at_ w ∧ (nkA1.re t1 t2).at_ w) ∧ Glob w) (ExtAt c0 (nkA1.re t1 t2)) := fun t1 t2 k1 k2 => extended_mk c0 _ (rng_reN nk_rngA1 k1 k2) (sm_reN nk_smA1 k1 k2) (by rw [hl0];show 1 ≤ 100000;omega)
  repeat' (first | apply sw_nil | apply cw_seq | apply cw_reg | refine sy_move (h:=?_) | refine sy_assign (h:=?_) | refine sy_ldAll (h:=?_) | refine sy_extract (h:=?_) | refine sw_alloc (h:=fun _ => ?_) | refine sw_stAll (h:=?_) | (refine sw_mk (hc:=hp1) (hX:=fun w h => ⟨⟨hat0 w h.2,⟨rowsD_nil w 1,rowsD_nil w 5⟩⟩,h.1⟩) (h:=fun v2 X2 h2 => ?_);obtain ⟨t1,t2,k1,k2,rfl,hw1⟩ := h2) | (refine sw_mk (hc:=hex1 t1 t2 k1 k2) (hX:=fun w h => ⟨⟨(hat0 w h.1.2).1,hw1 w h.2⟩,h.1.1⟩) (h:=fun v3 X3 h3 => ?_);obtain ⟨sb,rfl,hw2⟩ := h3) | fail)
  rename_i bs bc bk ba
  refine cw_know (p:=sb.n = 2) (fun w h => by
    have h1 := (hw2 w h.2).1.len
    simpa [extC,hl0] using h1) fun hsb => ?_
  obtain ⟨x1,hx1⟩ : ∃ x,x = nkA1.re t1 t2 := ⟨_,rfl⟩
  rw [← hx1] at hw1 hw2 ⊢
  have hR1 : x1.Rng := by rw [hx1];exact rng_reN nk_rngA1 k1 k2
  have hS1 : x1.Sm := by rw [hx1];exact sm_reN nk_smA1 k1 k2
  have hd1 : digV x1 = nkD1 := by rw [hx1];exact dig1 k1 k2
  obtain ⟨c1,hc1⟩ : ∃ c,c = extC c0 sb x1 := ⟨_,rfl⟩
  rw [← hc1] at hw2 ⊢
  have hl1 : c1.actsL = [x0,x1] := by rw [hc1,extC,hl0];rfl
  have hT1 : TaleC c1 2 nkD1 := by rw [hc1];exact ⟨hT0.id,hsb,hd1⟩
  have hO1 : ownsB nkK c1 [⟨0,nkK.p,0⟩] = true := by
    rw [ownsB,nk_right,hT1.n]
    rfl
  have hA1 : ActsOk c1.actsL := by
    rw [hl1]
    exact ⟨fun a h => by
      rcases List.mem_cons.1 h with rfl | h
      · exact hR0
      · rw [List.mem_singleton.1 h];exact hR1,fun a h => by
      rcases List.mem_cons.1 h with rfl | h
      · exact hS0
      · rw [List.mem_singleton.1 h];exact hS1⟩
  have hky : c1.keys = c0.keys := by rw [hc1];rfl
  have hat1 : atK c1 (idxV c1.actsL nkD1) postK = true := at26 hs1 hs2 k1 k2 (by rw [hl1,hx0,hx1])
  have hp2 := post2_mk hA1 hT1 hat1 hO1
  have hof := ofActR_mk x1 hR1 hS1
  have hdg : ∀ s3 s4 : SlV,s3.n = x1.to.n → s4.n = x1.wraps.n → Pu Tryz.prog 20 #[(ofActI (x1.re s3 s4)).v] (fun w => (ofActI (x1.re s3 s4)).at_ w ∧ Glob w) (.string nkD1) := fun s3 s4 h3 h4 => by
    have h := digI0 (x1.re s3 s4) (rng_reN hR1 h3 h4)
    rw [show dI0 (ofActI (x1.re s3 s4)) = nkD1 from (dig_re h3 h4).trans hd1] at h
    exact h
  have hat2 : ∀ w,(((Glob w ∧ X1 w) ∧ X2 w) ∧ X3 w) → c1.at_ w ∧ Keyz w c1.keys [⟨0,nkK.p,0⟩] := fun w h => ⟨hw2 w h.2,by rw [hky];exact (hat0 w h.1.1.2).2⟩
  refine cw_meet (ι:=Met26) (fun i => ⟨[(3,.pointer (some ⟨bk,0,none⟩)),(4,.pointer (some ⟨ba,0,none⟩)),(6,.pointer (some ⟨i.b,0,none⟩)),(7,.int .i64 0)], [cel i.b 46 (nkA2.re i.r1 i.r2).cells,cel ba 46 x1.cells,cel bk 39 c1.cells],fun w => (((Glob w ∧ X1 w) ∧ X2 w) ∧ X3 w) ∧ (nkA2.re i.r1 i.r2).at_ w⟩) ?_ fun i => ?_
  · (refine cw_draw [cel ba 46 x1.cells,cel bk 39 c1.cells,cel bs 67 nkK.cells] (fun w => ((Glob w ∧ X1 w) ∧ X2 w) ∧ X3 w) (by kernel_rfl) ?_)
    all_goals (refine aw_take 0 (hsub:=by (exact fun _ h => h.drop (by ((repeat (first | exact List.Sublist.refl _ | with_reducible apply List.Sublist.cons_cons | apply List.Sublist.cons));done)))) (h:=?_))
    all_goals (refine aw_take 1 (hsub:=by (exact fun _ h => h.drop (by ((repeat (first | exact List.Sublist.refl _ | with_reducible apply List.Sublist.cons_cons | apply List.Sublist.cons));done)))) (h:=?_))
    all_goals (refine aw_take 2 (hsub:=by (exact fun _ h => h.drop (by ((repeat (first | exact List.Sublist.refl _ | with_reducible apply List.Sublist.cons_cons | apply List.Sublist.cons));done)))) (h:=?_))
    all_goals (refine aw_two 3 10 (h:=?_) (h':=?_);(focus (((refine sw_mk (hc:=hof) (hX:=fun w h => hw1 w h.1.2) (h:=fun v4 X4 h4 => ?_);obtain ⟨s3,s4,rfl,hn3,hn4,hat4⟩ := h4);apply sw_nil;refine aw_fin (hsub:=by (exact fun _ h => (h.drop (by ((repeat (first | exact List.Sublist.refl _ | with_reducible apply List.Sublist.cons_cons | apply List.Sublist.cons));done))).imp (fun _ h => h.1))) (h:=?_));all_goals ((refine aw_two 4 10 (h:=?_) (h':=?_);(focus (((refine sw_pu (hc:=hdg s3 s4 hn3 hn4) (hX:=fun w h => ⟨⟨hat4 w h.2,rowsD_nil w 1⟩,h.1.1.1.1⟩) (h:=?_));apply sw_nil;refine aw_fin (hsub:=by (exact fun _ h => (h.drop (by ((repeat (first | exact List.Sublist.refl _ | with_reducible apply List.Sublist.cons_cons | apply List.Sublist.cons));done))).imp (fun _ h => h.1))) (h:=?_));all_goals ((refine aw_take 5 (hsub:=by (exact fun _ h => (h.drop (by ((repeat (first | exact List.Sublist.refl _ | with_reducible apply List.Sublist.cons_cons | apply List.Sublist.cons));done))).imp (fun _ h => h.1))) (hy:=by (apply y_build (cs:=b26.cells);rfl;rfl)) (h:=?_));all_goals (refine aw_two 6 10 (h:=?_) (h':=?_);(focus (((refine sw_mk (hc:=hp2) (hX:=fun w h => ⟨⟨hat2 w h.1,⟨rowsD_nil w 1,rowsD_nil w 5⟩⟩,h.1.1.1.1⟩) (h:=fun v5 X5 h5 => ?_);obtain ⟨r1,r2,m1,m2,rfl,hw3⟩ := h5);apply sw_nil;refine aw_fin (hsub:=by (exact fun _ h => (h.drop (by ((repeat (first | exact List.Sublist.refl _ | with_reducible apply List.Sublist.cons_cons | apply List.Sublist.cons));done))).imp (fun _ h => h.1.1))) (h:=?_));all_goals ((refine aw_take 7 (hsub:=by (exact fun _ h => (h.drop (by ((repeat (first | exact List.Sublist.refl _ | with_reducible apply List.Sublist.cons_cons | apply List.Sublist.cons));done))).imp (fun _ h => h.1.1))) (h:=?_));all_goals (refine aw_take 8 (hsub:=by (exact fun _ h => (h.drop (by ((repeat (first | exact List.Sublist.refl _ | with_reducible apply List.Sublist.cons_cons | apply List.Sublist.cons));done))).imp (fun _ h => h.1.1))) (h:=?_));all_goals (refine aw_take 9 (hsub:=by (exact fun _ h => (h.drop (by ((repeat (first | exact List.Sublist.refl _ | with_reducible apply List.Sublist.cons_cons | apply List.Sublist.cons));done))).imp (fun _ h => h.1.1))) (h:=?_));all_goals (refine aw_step 10 (h:=?_);(refine sw_alloc (h:=fun _ => ?_));apply sw_nil;refine aw_fin (hsub:=by (exact fun _ h => (h.drop (by ((repeat (first | exact List.Sublist.refl _ | with_reducible apply List.Sublist.cons_cons | apply List.Sublist.cons));done))).imp (fun _ h => h.1.1))) (h:=?_));all_goals (refine aw_step 11 (h:=?_);(refine sw_stAll (h:=?_));apply sw_nil;refine aw_fin (hsub:=by (exact fun _ h => (h.drop (by ((repeat (first | exact List.Sublist.refl _ | with_reducible apply List.Sublist.cons_cons | apply List.Sublist.cons));done))).imp (fun _ h => h.1.1))) (h:=?_));all_goals (refine aw_take 12 (hsub:=by (exact fun _ h => (h.drop (by ((repeat (first | exact List.Sublist.refl _ | with_reducible apply List.Sublist.cons_cons | apply List.Sublist.cons));done))).imp (fun _ h => h.1.1))) (h:=?_));all_goals (refine aw_done (h:=?_)))));rotate_right;(focus (((refine sw_alloc (h:=fun _ => ?_));apply sw_nil;refine aw_fin (hsub:=by (exact fun _ h => (h.drop (by ((repeat (first | exact List.Sublist.refl _ | with_reducible apply List.Sublist.cons_cons | apply List.Sublist.cons));done))).imp (fun _ h => h.1))) (h:=?_));all_goals ((refine aw_step 6 (h:=?_);(refine sw_mk (hc:=hp2) (hX:=fun w h => ⟨⟨hat2 w h.1,⟨rowsD_nil w 1,rowsD_nil w 5⟩⟩,h.1.1.1.1⟩) (h:=fun v5 X5 h5 => ?_);obtain ⟨r1,r2,m1,m2,rfl,hw3⟩ := h5);apply sw_nil;refine aw_fin (hsub:=by (exact fun _ h => (h.drop (by ((repeat (first | exact List.Sublist.refl _ | with_reducible apply List.Sublist.cons_cons | apply List.Sublist.cons));done))).imp (fun _ h => h.1.1))) (h:=?_));all_goals (refine aw_take 7 (hsub:=by (exact fun _ h => (h.drop (by ((repeat (first | exact List.Sublist.refl _ | with_reducible apply List.Sublist.cons_cons | apply List.Sublist.cons));done))).imp (fun _ h => h.1.1))) (h:=?_));all_goals (refine aw_take 8 (hsub:=by (exact fun _ h => (h.drop (by ((repeat (first | exact List.Sublist.refl _ | with_reducible apply List.Sublist.cons_cons | apply List.Sublist.cons));done))).imp (fun _ h => h.1.1))) (h:=?_));all_goals (refine aw_take 9 (hsub:=by (exact fun _ h => (h.drop (by ((repeat (first | exact List.Sublist.refl _ | with_reducible apply List.Sublist.cons_cons | apply List.Sublist.cons));done))).imp (fun _ h => h.1.1))) (h:=?_));all_goals (refine aw_step 11 (h:=?_);(refine sw_stAll (h:=?_));apply sw_nil;refine aw_fin (hsub:=by (exact fun _ h => (h.drop (by ((repeat (first | exact List.Sublist.refl _ | with_reducible apply List.Sublist.cons_cons | apply List.Sublist.cons));done))).imp (fun _ h => h.1.1))) (h:=?_));all_goals (refine aw_take 12 (hsub:=by (exact fun _ h => (h.drop (by ((repeat (first | exact List.Sublist.refl _ | with_reducible apply List.Sublist.cons_cons | apply List.Sublist.cons));done))).imp (fun _ h => h.1.1))) (h:=?_));all_goals (refine aw_done (h:=?_)))))))));rotate_right;(focus (((refine sw_alloc (h:=fun _ => ?_));apply sw_nil;refine aw_fin (hsub:=by (exact fun _ h => (h.drop (by ((repeat (first | exact List.Sublist.refl _ | with_reducible apply List.Sublist.cons_cons | apply List.Sublist.cons));done))).imp (fun _ h => h.1))) (h:=?_));all_goals ((refine aw_step 4 (h:=?_);(refine sw_pu (hc:=hdg s3 s4 hn3 hn4) (hX:=fun w h => ⟨⟨hat4 w h.2,rowsD_nil w 1⟩,h.1.1.1.1⟩) (h:=?_));apply sw_nil;refine aw_fin (hsub:=by (exact fun _ h => (h.drop (by ((repeat (first | exact List.Sublist.refl _ | with_reducible apply List.Sublist.cons_cons | apply List.Sublist.cons));done))).imp (fun _ h => h.1))) (h:=?_));all_goals (refine aw_take 5 (hsub:=by (exact fun _ h => (h.drop (by ((repeat (first | exact List.Sublist.refl _ | with_reducible apply List.Sublist.cons_cons | apply List.Sublist.cons));done))).imp (fun _ h => h.1))) (hy:=by (apply y_build (cs:=b26.cells);rfl;rfl)) (h:=?_));all_goals (refine aw_step 6 (h:=?_);(refine sw_mk (hc:=hp2) (hX:=fun w h => ⟨⟨hat2 w h.1,⟨rowsD_nil w 1,rowsD_nil w 5⟩⟩,h.1.1.1.1⟩) (h:=fun v5 X5 h5 => ?_);obtain ⟨r1,r2,m1,m2,rfl,hw3⟩ := h5);apply sw_nil;refine aw_fin (hsub:=by (exact fun _ h => (h.drop (by ((repeat (first | exact List.Sublist.refl _ | with_reducible apply List.Sublist.cons_cons | apply List.Sublist.cons));done))).imp (fun _ h => h.1.1))) (h:=?_));all_goals (refine aw_take 7 (hsub:=by (exact fun _ h => (h.drop (by ((repeat (first | exact List.Sublist.refl _ | with_reducible apply List.Sublist.cons_cons | apply List.Sublist.cons));done))).imp (fun _ h => h.1.1))) (h:=?_));all_goals (refine aw_take 8 (hsub:=by (exact fun _ h => (h.drop (by ((repeat (first | exact List.Sublist.refl _ | with_reducible apply List.Sublist.cons_cons | apply List.Sublist.cons));done))).imp (fun _ h => h.1.1))) (h:=?_));all_goals (refine aw_take 9 (hsub:=by (exact fun _ h => (h.drop (by ((repeat (first | exact List.Sublist.refl _ | with_reducible apply List.Sublist.cons_cons | apply List.Sublist.cons));done))).imp (fun _ h => h.1.1))) (h:=?_));all_goals (refine aw_step 11 (h:=?_);(refine sw_stAll (h:=?_));apply sw_nil;refine aw_fin (hsub:=by (exact fun _ h => (h.drop (by ((repeat (first | exact List.Sublist.refl _ | with_reducible apply List.Sublist.cons_cons | apply List.Sublist.cons));done))).imp (fun _ h => h.1.1))) (h:=?_));all_goals (refine aw_take 12 (hsub:=by (exact fun _ h => (h.drop (by ((repeat (first | exact List.Sublist.refl _ | with_reducible apply List.Sublist.cons_cons | apply List.Sublist.cons));done))).imp (fun _ h => h.1.1))) (h:=?_));all_goals (refine aw_done (h:=?_)))))))));rotate_right;(focus (((refine sw_alloc (h:=fun _ => ?_));apply sw_nil;refine aw_fin (hsub:=by (exact fun _ h => h.drop (by ((repeat (first | exact List.Sublist.refl _ | with_reducible apply List.Sublist.cons_cons | apply List.Sublist.cons));done)))) (h:=?_));all_goals ((refine aw_step 3 (h:=?_);(refine sw_mk (hc:=hof) (hX:=fun w h => hw1 w h.1.2) (h:=fun v4 X4 h4 => ?_);obtain ⟨s3,s4,rfl,hn3,hn4,hat4⟩ := h4);apply sw_nil;refine aw_fin (hsub:=by (exact fun _ h => (h.drop (by ((repeat (first | exact List.Sublist.refl _ | with_reducible apply List.Sublist.cons_cons | apply List.Sublist.cons));done))).imp (fun _ h => h.1))) (h:=?_));all_goals (refine aw_step 4 (h:=?_);(refine sw_pu (hc:=hdg s3 s4 hn3 hn4) (hX:=fun w h => ⟨⟨hat4 w h.2,rowsD_nil w 1⟩,h.1.1.1.1⟩) (h:=?_));apply sw_nil;refine aw_fin (hsub:=by (exact fun _ h => (h.drop (by ((repeat (first | exact List.Sublist.refl _ | with_reducible apply List.Sublist.cons_cons | apply List.Sublist.cons));done))).imp (fun _ h => h.1))) (h:=?_));all_goals (refine aw_take 5 (hsub:=by (exact fun _ h => (h.drop (by ((repeat (first | exact List.Sublist.refl _ | with_reducible apply List.Sublist.cons_cons | apply List.Sublist.cons));done))).imp (fun _ h => h.1))) (hy:=by (apply y_build (cs:=b26.cells);rfl;rfl)) (h:=?_));all_goals (refine aw_step 6 (h:=?_);(refine sw_mk (hc:=hp2) (hX:=fun w h => ⟨⟨hat2 w h.1,⟨rowsD_nil w 1,rowsD_nil w 5⟩⟩,h.1.1.1.1⟩) (h:=fun v5 X5 h5 => ?_);obtain ⟨r1,r2,m1,m2,rfl,hw3⟩ := h5);apply sw_nil;refine aw_fin (hsub:=by (exact fun _ h => (h.drop (by ((repeat (first | exact List.Sublist.refl _ | with_reducible apply List.Sublist.cons_cons | apply List.Sublist.cons));done))).imp (fun _ h => h.1.1))) (h:=?_));all_goals (refine aw_take 7 (hsub:=by (exact fun _ h => (h.drop (by ((repeat (first | exact List.Sublist.refl _ | with_reducible apply List.Sublist.cons_cons | apply List.Sublist.cons));done))).imp (fun _ h => h.1.1))) (h:=?_));all_goals (refine aw_take 8 (hsub:=by (exact fun _ h => (h.drop (by ((repeat (first | exact List.Sublist.refl _ | with_reducible apply List.Sublist.cons_cons | apply List.Sublist.cons));done))).imp (fun _ h => h.1.1))) (h:=?_));all_goals (refine aw_take 9 (hsub:=by (exact fun _ h => (h.drop (by ((repeat (first | exact List.Sublist.refl _ | with_reducible apply List.Sublist.cons_cons | apply List.Sublist.cons));done))).imp (fun _ h => h.1.1))) (h:=?_));all_goals (refine aw_step 11 (h:=?_);(refine sw_stAll (h:=?_));apply sw_nil;refine aw_fin (hsub:=by (exact fun _ h => (h.drop (by ((repeat (first | exact List.Sublist.refl _ | with_reducible apply List.Sublist.cons_cons | apply List.Sublist.cons));done))).imp (fun _ h => h.1.1))) (h:=?_));all_goals (refine aw_take 12 (hsub:=by (exact fun _ h => (h.drop (by ((repeat (first | exact List.Sublist.refl _ | with_reducible apply List.Sublist.cons_cons | apply List.Sublist.cons));done))).imp (fun _ h => h.1.1))) (h:=?_));all_goals (refine aw_done (h:=?_))))))
    all_goals
      rename_i b6
      exact ⟨(⟨r1,r2,m1,m2,b6⟩ : Met26),ok_sub ⟨rfl,rfl,rfl,rfl,trivial⟩ (.cons_cons _ (.cons_cons _ (.cons_cons _ (List.nil_sublist _)))) fun w h => ⟨h.1.1,hw3 w h.2⟩⟩
  obtain ⟨r1,r2,m1,m2,bb⟩ := i
  simp only
  obtain ⟨x2,hx2⟩ : ∃ x,x = nkA2.re r1 r2 := ⟨_,rfl⟩
  rw [← hx2]
  have hR2 : x2.Rng := by rw [hx2];exact rng_reN nk_rngA2 m1 m2
  have hS2 : x2.Sm := by rw [hx2];exact sm_reN nk_smA2 m1 m2
  have hex2 := extended_mk c1 x2 hR2 hS2 (by rw [hl1];show 2 ≤ 100000;omega)
  repeat' (first | apply sw_nil | apply cw_seq | apply cw_reg | refine sy_ldAll (h:=?_) | refine sw_stAll (h:=?_) | (refine sw_mk (hc:=hex2) (hX:=fun w h => ⟨⟨(hat2 w h.1).1,h.2⟩,h.1.1.1.1⟩) (h:=fun v6 X6 h6 => ?_);obtain ⟨sc,rfl,hw6⟩ := h6) | (refine sw_bslS (size:=6) (vs:=[(extC c1 sc x2).v]) (css:=(extC c1 sc x2).cells) (hsz:=by rfl) (hcs:=by rfl) (h:=fun _ => ?_)) | fail)
  rename_i b8
  obtain ⟨c2,hc2⟩ : ∃ c,c = extC c1 sc x2 := ⟨_,rfl⟩
  rw [← hc2] at hw6 ⊢
  have hl2 : c2.actsL = [x0,x1,x2] := by rw [hc2,extC,hl1];rfl
  have hi2 : c2.id = nkI := by rw [hc2];exact hT1.id
  have hps : postsV c2 = [p26 x1] := by rw [hx1];exact posts26 hs1 hs2 k1 k2 hi2 (by rw [hl2,hx0,hx1,hx2])
  have hA2 : ActsOk c2.actsL := by
    rw [hl2]
    exact ⟨fun a h => by
      rcases List.mem_cons.1 h with rfl | h
      · exact hR0
      rcases List.mem_cons.1 h with rfl | h
      · exact hR1
      · rw [List.mem_singleton.1 h];exact hR2,fun a h => by
      rcases List.mem_cons.1 h with rfl | h
      · exact hS0
      rcases List.mem_cons.1 h with rfl | h
      · exact hS1
      · rw [List.mem_singleton.1 h];exact hS2⟩
  have hall := allP_mkS ⟨some ⟨b8,0,none⟩,1,1⟩ [c2] (fun c h => by rw [List.mem_singleton.1 h];exact hA2) (fun c h => by rw [List.mem_singleton.1 h,hl2];show 3 ≤ 1000;omega) (by show 1 ≤ 1000;omega)
  refine sw_give ?_
  refine sw_mk (hc:=hall) (hX:=fun w h => ⟨chainsOne h.2 (hw6 w h.1.2),h.1.1.1.1.1.1⟩) (h:=fun v7 X7 h7 => ?_)
  obtain ⟨sP,P,rfl,hP, -,hw7⟩ := h7
  rw [List.flatMap_cons,List.flatMap_nil,List.append_nil,hps] at hP
  have hP1 : P.map PostD.can = [p26 x1] := List.perm_singleton.1 hP
  obtain ⟨p,rfl,hpc⟩ : ∃ p,P = [p] ∧ p.can = p26 x1 := by
    cases P with
    | nil => cases hP1
    | cons p P =>
      cases P with
      | nil => exact ⟨p,rfl,(List.cons.inj hP1).1⟩
      | cons q P => cases (List.cons.inj hP1).2
  have hg : p.gone = false := congrArg PostD.gone hpc
  have hpo : p.pos = 1 := congrArg PostD.pos hpc
  have hpe : p.edL = [2] := congrArg PostD.edL hpc
  have hpi : p.id = nkD1 := (congrArg PostD.id hpc).trans hd1
  have hpa : p.author = nkI := congrArg PostD.author hpc
  refine sw_know (p:=sP.n = 1 ∧ sP.n ≤ maxLen ∧ sP.p.isSome = true ∧ p.ed.n = 1) (fun w h => ⟨by simpa using (hw7 w h.2).1.len,Nat.le_trans (RowsD.cap (hw7 w h.2).1) (RowsD.max (hw7 w h.2).1),((hw7 w h.2).1.row 0 p.cells rfl).2.1,by have := ((hw7 w h.2).2 p List.mem_cons_self).2.len_;rw [hpe] at this;exact this⟩) fun ⟨hsP,hsm,hsp,hen⟩ => ?_
  simp only [maxLen] at hsm
  repeat' (first | refine sy_neqF (hab:=by omega) (h:=?_) | apply sw_nil | apply cw_seq | apply cw_reg | refine sy_move (h:=?_) | refine sy_assign (h:=?_) | refine sy_pick_f (h:=?_) | refine sy_len (h:=?_) | refine cw_cond_f (hf:=?_) | apply cw_skip | (refine sy_idxX (q:=0) (h:=?_)) | (refine sy_fldX (h:=?_)) | (refine sy_ldX (q:=0 + 10) (u:=.bool false) (hF:=fun w h => hg ▸ ((hw7 w h.2).1.row 0 p.cells rfl).2.2 10 _ rfl) (h:=?_)) | fail)
  have hrow : ∀ w,X7 w → RowsD w 11 sP [p.cells] := fun w h => (hw7 w h).1
  have hch : ∀ (b : Nat) w,(cel b 39 c2.cells).F w → X6 w → Chains w ⟨some ⟨b,0,none⟩,1,1⟩ [c2] := fun b w h h' => chainsOne h (hw6 w h')
  have hco : ∀ c ∈ [c2],ChOk c := fun c h => by
    rw [List.mem_singleton.1 h]
    refine ⟨hA2,by rw [hl2];show 3 ≤ 1000000;omega,fun x hx => ?_⟩
    rw [hl2] at hx
    rcases List.mem_cons.1 hx with rfl | hx
    · rw [hx0];show s1.n ≤ _;omega
    rcases List.mem_cons.1 hx with rfl | hx
    · rw [hx1];show t1.n ≤ _;omega
    · rw [List.mem_singleton.1 hx,hx2];show r1.n ≤ _;omega
  have hla := fun b => last_pu ⟨some ⟨b,0,none⟩,1,1⟩ [c2] p ⟨#[]⟩ hco (by rw [hpe];show 1 ≤ 1000000;omega)
  rw [last26 hl2 hi2 (by rw [hx1];rfl) (by rw [hx1];rfl) (by rw [hx2];rfl) (by rw [hx2];rfl) hg hpo hpe hpa] at hla
  refine cw_meet (ι:=Unit) (fun i => ⟨[(3,.pointer (some ⟨bk,0,none⟩)),(4,.pointer (some ⟨ba,0,none⟩)),(8,sP.v),(9,.int .i64 2),(10,.bool true)], [cel ba 46 x1.cells,cel bk 39 c2.cells],fun w => ((((Glob w ∧ X1 w) ∧ X2 w) ∧ X3 w) ∧ X6 w) ∧ X7 w⟩) ?_ fun i => ?_
  · (refine cw_draw [cel bk 39 c2.cells] (fun w => ((((((Glob w ∧ X1 w) ∧ X2 w) ∧ X3 w) ∧ ActD.at_ w x2) ∧ X6 w) ∧ (cel b8 39 c2.cells).F w) ∧ X7 w) (by kernel_rfl) ?_)
    all_goals (refine aw_take 0 (hsub:=by (exact fun _ h => h.drop (by ((repeat (first | exact List.Sublist.refl _ | apply List.Sublist.cons));done)))) (h:=?_))
    all_goals (refine aw_take 2 (hsub:=by (exact fun _ h => h.drop (by ((repeat (first | exact List.Sublist.refl _ | apply List.Sublist.cons));done)))) (h:=?_))
    all_goals (refine aw_take 3 (hsub:=by (exact fun _ h => h.drop (by ((repeat (first | exact List.Sublist.refl _ | apply List.Sublist.cons));done)))) (hy:=by (apply y_idxX (q:=0);rfl;rfl;omega;omega;assumption;omega)) (h:=?_))
    all_goals (refine aw_take 4 (hsub:=by (exact fun _ h => h.drop (by ((repeat (first | exact List.Sublist.refl _ | apply List.Sublist.cons));done)))) (hy:=by (apply y_ldXs (cs:=p.cells);rfl;exact fun w h => (hrow w h.2).row 0 p.cells rfl)) (h:=?_))
    all_goals (refine aw_step 1 (h:=?_);(refine sw_bslS (size:=6) (vs:=[c2.v]) (css:=c2.cells) (hsz:=by rfl) (hcs:=by rfl) (h:=fun _ => ?_));apply sw_nil;refine aw_fin (hsub:=by (exact fun _ h => h.drop (by ((repeat (first | exact List.Sublist.refl _ | apply List.Sublist.cons));done)))) (h:=?_))
    all_goals (refine aw_step 5 (h:=?_);(rename_i b9;refine sw_give ?_;refine sw_pu (hc:=hla b9) (hX:=fun w h => ⟨⟨hch b9 w h.2 h.1.1.1.2,((hw7 w h.1.2).2 p List.mem_cons_self).2⟩,h.1.1.1.1.1.1.1.1⟩) (h:=?_));apply sw_nil;refine aw_fin (hsub:=by (exact fun _ h => (h.drop (by ((repeat (first | exact List.Sublist.refl _ | apply List.Sublist.cons));done))).imp (fun _ h => h.1))) (h:=?_))
    all_goals (refine aw_take 6 (hsub:=by (exact fun _ h => (h.drop (by ((repeat (first | exact List.Sublist.refl _ | apply List.Sublist.cons));done))).imp (fun _ h => h.1))) (h:=?_))
    all_goals (refine aw_take 7 (hsub:=by (exact fun _ h => (h.drop (by ((repeat (first | exact List.Sublist.refl _ | apply List.Sublist.cons));done))).imp (fun _ h => h.1))) (h:=?_))
    all_goals (refine aw_take 8 (hsub:=by (exact fun _ h => (h.drop (by ((repeat (first | exact List.Sublist.refl _ | apply List.Sublist.cons));done))).imp (fun _ h => h.1))) (h:=?_))
    all_goals (refine aw_take 9 (hsub:=by (exact fun _ h => (h.drop (by ((repeat (first | exact List.Sublist.refl _ | apply List.Sublist.cons));done))).imp (fun _ h => h.1))) (h:=?_))
    all_goals (refine aw_take 10 (hsub:=by (exact fun _ h => (h.drop (by ((repeat (first | exact List.Sublist.refl _ | apply List.Sublist.cons));done))).imp (fun _ h => h.1))) (h:=?_))
    all_goals (refine aw_done (h:=?_))
    all_goals exact ⟨(),ok_sub ⟨rfl,rfl,rfl,rfl,rfl,trivial⟩ (.cons _ (List.Sublist.refl _)) fun w h => ⟨⟨h.1.1.1.1.1,h.1.1.1.2⟩,h.1.2⟩⟩
  have hfi : ∀ b : Nat,Mk Tryz.prog 27 #[(⟨some ⟨b,0,none⟩,1,1⟩ : SlV).v,.string ⟨#[120]⟩] (fun w => Chains w ⟨some ⟨b,0,none⟩,1,1⟩ [c2] ∧ Glob w) (fun u _ => ∃ q : PostD,u = .tuple #[q.v,.bool false]) := fun b =>
    mk_mono (findP_mk ⟨some ⟨b,0,none⟩,1,1⟩ [c2] ⟨#[120]⟩ (fun c h => by rw [List.mem_singleton.1 h];exact hA2) (fun c h => by rw [List.mem_singleton.1 h,hl2];show 3 ≤ 1000000;omega)) fun u X ⟨q,hu,_⟩ => ⟨q,by rw [hu,none26 hps hd1];rfl⟩
  repeat' (first | apply sw_nil | apply cw_seq | apply cw_reg | refine sy_move (h:=?_) | refine sy_assign (h:=?_) | refine sy_ldAll (h:=?_) | refine sy_extract (h:=?_) | refine sw_alloc (h:=fun _ => ?_) | refine sw_stAll (h:=?_) | (refine sw_bslS (size:=6) (vs:=[c2.v]) (css:=c2.cells) (hsz:=by rfl) (hcs:=by rfl) (h:=fun _ => ?_)) | (rename_i b9;refine sw_give ?_;refine sw_mk (hc:=hfi b9) (hX:=fun w h => ⟨hch b9 w h.2 h.1.1.2,h.1.1.1.1.1.1⟩) (h:=fun v8 X8 h8 => ?_);obtain ⟨q,rfl⟩ := h8) | fail)
  rename_i b11
  have hgl : ∀ w,(((((((Glob w ∧ X1 w) ∧ X2 w) ∧ X3 w) ∧ X6 w) ∧ X7 w) ∧ (cel b9 39 c2.cells).F w) ∧ X8 w) → X7 w := fun w h => h.1.1.2
  (refine cw_draw [cel ba 46 x1.cells] (fun w => ((((((Glob w ∧ X1 w) ∧ X2 w) ∧ X3 w) ∧ X6 w) ∧ X7 w) ∧ (cel b9 39 c2.cells).F w) ∧ X8 w) (by kernel_rfl) ?_)
  all_goals (refine aw_take 0 (hsub:=by (exact fun _ h => h.drop (by ((repeat (first | exact List.nil_sublist _ | with_reducible apply List.Sublist.cons_cons | apply List.Sublist.cons));done)))) (h:=?_))
  all_goals (refine aw_take 1 (hsub:=by (exact fun _ h => h.drop (by ((repeat (first | exact List.nil_sublist _ | with_reducible apply List.Sublist.cons_cons | apply List.Sublist.cons));done)))) (hy:=by (apply y_eqlW true;rfl;rfl;exact decide_eq_true (by omega))) (h:=?_))
  all_goals (refine aw_take 2 (hsub:=by (exact fun _ h => h.drop (by ((repeat (first | exact List.nil_sublist _ | with_reducible apply List.Sublist.cons_cons | apply List.Sublist.cons));done)))) (h:=?_))
  all_goals (refine aw_take 3 (hsub:=by (exact fun _ h => h.drop (by ((repeat (first | exact List.nil_sublist _ | with_reducible apply List.Sublist.cons_cons | apply List.Sublist.cons));done)))) (h:=?_))
  all_goals (refine aw_take 4 (hsub:=by (exact fun _ h => h.drop (by ((repeat (first | exact List.nil_sublist _ | with_reducible apply List.Sublist.cons_cons | apply List.Sublist.cons));done)))) (h:=?_))
  all_goals (refine aw_take 5 (hsub:=by (exact fun _ h => h.drop (by ((repeat (first | exact List.nil_sublist _ | with_reducible apply List.Sublist.cons_cons | apply List.Sublist.cons));done)))) (h:=?_))
  all_goals (refine aw_take 6 (hsub:=by (exact fun _ h => h.drop (by ((repeat (first | exact List.nil_sublist _ | with_reducible apply List.Sublist.cons_cons | apply List.Sublist.cons));done)))) (h:=?_))
  all_goals (refine aw_take 7 (hsub:=by (exact fun _ h => h.drop (by ((repeat (first | exact List.nil_sublist _ | with_reducible apply List.Sublist.cons_cons | apply List.Sublist.cons));done)))) (hy:=by (apply y_notW true;rfl;rfl)) (h:=?_))
  all_goals (refine aw_take 8 (hsub:=by (exact fun _ h => h.drop (by ((repeat (first | exact List.nil_sublist _ | with_reducible apply List.Sublist.cons_cons | apply List.Sublist.cons));done)))) (h:=?_))
  all_goals (refine aw_take 9 (hsub:=by (exact fun _ h => h.drop (by ((repeat (first | exact List.nil_sublist _ | with_reducible apply List.Sublist.cons_cons | apply List.Sublist.cons));done)))) (h:=?_))
  all_goals (refine aw_take 10 (hsub:=by (exact fun _ h => h.drop (by ((repeat (first | exact List.nil_sublist _ | with_reducible apply List.Sublist.cons_cons | apply List.Sublist.cons));done)))) (h:=?_))
  all_goals (refine aw_take 11 (hsub:=by (exact fun _ h => h.drop (by ((repeat (first | exact List.nil_sublist _ | with_reducible apply List.Sublist.cons_cons | apply List.Sublist.cons));done)))) (hy:=by (apply y_idxX (q:=0);rfl;rfl;omega;omega;assumption;omega)) (h:=?_))
  all_goals (refine aw_take 12 (hsub:=by (exact fun _ h => h.drop (by ((repeat (first | exact List.nil_sublist _ | with_reducible apply List.Sublist.cons_cons | apply List.Sublist.cons));done)))) (hy:=by (apply y_fldX;rfl;assumption;rfl)) (h:=?_))
  all_goals (refine aw_take 13 (hsub:=by (exact fun _ h => h.drop (by ((repeat (first | exact List.nil_sublist _ | with_reducible apply List.Sublist.cons_cons | apply List.Sublist.cons));done)))) (hy:=by (apply y_ldX (q:=0 + 9) (u:=p.ed.v);rfl;exact fun w h => ((hrow w (hgl w h)).row 0 p.cells rfl).2.2 9 _ rfl)) (h:=?_))
  all_goals (refine aw_take 14 (hsub:=by (exact fun _ h => h.drop (by ((repeat (first | exact List.nil_sublist _ | with_reducible apply List.Sublist.cons_cons | apply List.Sublist.cons));done)))) (h:=?_))
  all_goals (refine aw_take 15 (hsub:=by (exact fun _ h => h.drop (by ((repeat (first | exact List.nil_sublist _ | with_reducible apply List.Sublist.cons_cons | apply List.Sublist.cons));done)))) (hy:=by (apply y_eqlW true;rfl;rfl;exact decide_eq_true (by omega))) (h:=?_))
  all_goals (refine aw_take 16 (hsub:=by (exact fun _ h => h.drop (by ((repeat (first | exact List.nil_sublist _ | with_reducible apply List.Sublist.cons_cons | apply List.Sublist.cons));done)))) (h:=?_))
  all_goals (refine aw_take 17 (hsub:=by (exact fun _ h => h.drop (by ((repeat (first | exact List.nil_sublist _ | with_reducible apply List.Sublist.cons_cons | apply List.Sublist.cons));done)))) (h:=?_))
  all_goals (refine aw_take 18 (hsub:=by (exact fun _ h => h.drop (by ((repeat (first | exact List.nil_sublist _ | with_reducible apply List.Sublist.cons_cons | apply List.Sublist.cons));done)))) (h:=?_))
  all_goals (refine aw_take 19 (hsub:=by (exact fun _ h => h.drop (by ((repeat (first | exact List.nil_sublist _ | with_reducible apply List.Sublist.cons_cons | apply List.Sublist.cons));done)))) (hy:=by (apply y_idxX (q:=0);rfl;rfl;omega;omega;assumption;omega)) (h:=?_))
  all_goals (refine aw_take 20 (hsub:=by (exact fun _ h => h.drop (by ((repeat (first | exact List.nil_sublist _ | with_reducible apply List.Sublist.cons_cons | apply List.Sublist.cons));done)))) (hy:=by (apply y_fldX;rfl;assumption;rfl)) (h:=?_))
  all_goals (refine aw_take 21 (hsub:=by (exact fun _ h => h.drop (by ((repeat (first | exact List.nil_sublist _ | with_reducible apply List.Sublist.cons_cons | apply List.Sublist.cons));done)))) (hy:=by (apply y_ldX (q:=0 + 0) (u:=.string nkD1);rfl;exact fun w h => hpi ▸ ((hrow w (hgl w h)).row 0 p.cells rfl).2.2 0 _ rfl)) (h:=?_))
  all_goals (refine aw_take 22 (hsub:=by (exact fun _ h => h.drop (by ((repeat (first | exact List.nil_sublist _ | with_reducible apply List.Sublist.cons_cons | apply List.Sublist.cons));done)))) (h:=?_))
  all_goals (refine aw_step 23 (h:=?_);(refine sw_mk (hc:=hof) (hX:=fun w h => hw1 w h.1.1.1.1.1.2) (h:=fun v9 X9 h9 => ?_);obtain ⟨s3,s4,rfl,hn3,hn4,hat9⟩ := h9);apply sw_nil;refine aw_fin (hsub:=by (exact fun _ h => (h.drop (by ((repeat (first | exact List.nil_sublist _ | with_reducible apply List.Sublist.cons_cons | apply List.Sublist.cons));done))).imp (fun _ h => h.1))) (h:=?_))
  all_goals (refine aw_step 24 (h:=?_);(refine sw_pu (hc:=hdg s3 s4 hn3 hn4) (hX:=fun w h => ⟨⟨hat9 w h.2,rowsD_nil w 1⟩,h.1.1.1.1.1.1.1.1⟩) (h:=?_));apply sw_nil;refine aw_fin (hsub:=by (exact fun _ h => (h.drop (by ((repeat (first | exact List.nil_sublist _ | with_reducible apply List.Sublist.cons_cons | apply List.Sublist.cons));done))).imp (fun _ h => h.1))) (h:=?_))
  all_goals (refine aw_take 25 (hsub:=by (exact fun _ h => (h.drop (by ((repeat (first | exact List.nil_sublist _ | with_reducible apply List.Sublist.cons_cons | apply List.Sublist.cons));done))).imp (fun _ h => h.1))) (hy:=by (apply y_seqlW true;rfl;rfl;exact seqB_self _)) (h:=?_))
  all_goals (refine aw_take 26 (hsub:=by (exact fun _ h => (h.drop (by ((repeat (first | exact List.nil_sublist _ | with_reducible apply List.Sublist.cons_cons | apply List.Sublist.cons));done))).imp (fun _ h => h.1))) (h:=?_))
  all_goals (refine aw_take 27 (hsub:=by (exact fun _ h => (h.drop (by ((repeat (first | exact List.nil_sublist _ | with_reducible apply List.Sublist.cons_cons | apply List.Sublist.cons));done))).imp (fun _ h => h.1))) (h:=?_))
  all_goals (refine aw_done (h:=?_))
  all_goals
    repeat' (first | apply cw_ret | fail)
    exact ends_ret (res_tmp rfl rfl) rfl
end Go.Proofs.YtjmpdkmboheknaaGreatDoor

namespace Go.Proofs.YtjmpdkmboheknaaGreatDoor
open Go Go.Proofs Sy
theorem posP_at {P : List PostD} {j n : Nat} (h : posP P j = some n) : n < P.length := by
  rw [posP,List.findIdx?_eq_some_iff_getElem] at h
  exact h.1
theorem refV_lt {l : List ActD} {P : List PostD} {i n : Nat} (h : refV l P i = some n) : n < P.length := by
  rw [refV] at h
  cases h1 : idxV l (l.getD i ActD.zero).object with
  | none => rw [h1] at h;cases h
  | some j =>
    rw [h1] at h
    simp only at h
    by_cases hj : j < i
    · rw [decide_eq_true hj] at h
      exact posP_at h
    · rw [decide_eq_false hj] at h
      cases h
end Go.Proofs.YtjmpdkmboheknaaGreatDoor

namespace Go.Proofs.YtjmpdkmboheknaaGreatDoor
open Go Go.Proofs Sy
end Go.Proofs.YtjmpdkmboheknaaGreatDoor

namespace Go.Proofs.YtjmpdkmboheknaaGreatDoor
open Go Go.Proofs Sy
theorem may_self (c : ChainD) (i : Int) : mayV c i c.id = rtextV c i := by rw [mayV,seqB_self,Bool.true_or,Bool.true_or,Bool.and_true]
def versV (p : PostD) : List Int := bif p.gone then [] else (p.pos : Int) :: p.edL
structure OwnP (c : ChainD) (p : PostD) : Prop where
  author : p.author = c.id
  text : rtextV c (p.pos : Int) = true
  ed : ∀ e ∈ p.edL,rtextV c e = true
theorem rtext_at {c : ChainD} {i : Nat} {a : ActD} (h : c.actsL[i]? = some a) (hk : postK a.kind = true ∨ a.kind = 14) : rtextV c (i : Int) = true := by
  rw [rtextV,decide_eq_true (by omega),Bool.true_and,Int.toNat_natCast,h]
  rcases hk with hk | hk
  · simp only [hk,Bool.true_or]
  · simp only [hk,decide_true,Bool.or_true]
theorem openF_own (c : ChainD) : ∀ i,i ≤ c.actsL.length → ∀ p ∈ openF c i,OwnP c p
  | 0,_,p,h => (List.not_mem_nil h).elim
  | i + 1,hi,p,h => by
    rw [openF] at h
    rcases List.mem_append.1 h with h | h
    · exact openF_own c i (by omega) p h
    · have ha : c.actsL[i]? = some (c.actsL.getD i ActD.zero) := by
        rw [List.getD_eq_getElem?_getD,List.getElem?_eq_getElem (by omega)]
        rfl
      revert h
      cases hk : postK (c.actsL.getD i ActD.zero).kind with
      | false => intro h;exact (List.not_mem_nil h).elim
      | true =>
        intro h
        rw [cond_true,List.mem_singleton] at h
        subst h
        exact ⟨rfl,rtext_at ha (.inl hk),fun e he => (List.not_mem_nil he).elim⟩
theorem modP_own {c : ChainD} {P : List PostD} {o : Option Nat} {f : PostD → PostD} (h : ∀ p ∈ P,OwnP c p) (hf : ∀ p,OwnP c p → OwnP c (f p)) (hb : ∀ n,o = some n → n < P.length) : ∀ p ∈ modP P o f,OwnP c p := fun p hp => by
  cases o with
  | none => exact h p hp
  | some n =>
    rw [modP] at hp
    rcases List.mem_or_eq_of_mem_set hp with hp | rfl
    · exact h p hp
    · have hn := hb n rfl
      refine hf _ (h _ ?_)
      rw [List.getD_eq_getElem?_getD,List.getElem?_eq_getElem hn]
      exact List.getElem_mem hn
theorem ofP_own (c : ChainD) : ∀ i,i ≤ c.actsL.length → ∀ p ∈ ofP c i,OwnP c p
  | 0,_ => openF_own c _ (Nat.le_refl _)
  | i + 1,hi => by
    have ih := ofP_own c i (by omega)
    have ha : c.actsL[i]? = some (c.actsL.getD i ActD.zero) := by
      rw [List.getD_eq_getElem?_getD,List.getElem?_eq_getElem (by omega)]
      rfl
    rw [ofP,stepP]
    cases h13 : decide ((c.actsL.getD i ActD.zero).kind = 13) with
    | true =>
      rw [cond_true]
      exact modP_own ih (fun p hp => ⟨hp.author,hp.text,hp.ed⟩) fun n hn => refV_lt hn
    | false =>
      rw [cond_false]
      cases h14 : decide ((c.actsL.getD i ActD.zero).kind = 14) with
      | false => exact ih
      | true =>
        rw [cond_true]
        refine modP_own ih (fun p hp => ?_) fun n hn => refV_lt hn
        rw [editP]
        cases editB (c.actsL.getD i ActD.zero) p with
        | false => exact hp
        | true =>
          refine ⟨hp.author,hp.text,fun e he => ?_⟩
          rcases List.mem_append.1 he with he | he
          · exact hp.ed e he
          · rw [List.mem_singleton.1 he]
            exact rtext_at ha (.inr (of_decide_eq_true h14))
theorem postsV_own {c : ChainD} {p : PostD} (h : p ∈ postsV c) : OwnP c p := ofP_own c _ (Nat.le_refl _) p h
theorem OwnP.of_can {c : ChainD} {P : List PostD} (hP : P.map PostD.can = postsV c) {p : PostD} (h : p ∈ P) : OwnP c p := by
  have := postsV_own (c:=c) (p:=p.can) (by rw [← hP];exact List.mem_map.2 ⟨p,h,rfl⟩)
  exact ⟨this.author,this.text,this.ed⟩
theorem postsEd_le {c : ChainD} {P : List PostD} (hP : P.map PostD.can = postsV c) {p : PostD} (h : p ∈ P) : p.edL.length ≤ c.actsL.length :=
  ofP_ed c _ p.can (by
    have : p.can ∈ postsV c := by rw [← hP];exact List.mem_map.2 ⟨p,h,rfl⟩
    exact this)
theorem hist_own {c : ChainD} {l : List ChainD} {p : PostD} (h : OwnP c p) (r : ByteArray) : histV (c :: l) p r = (versV p).filter fun i => mayV c i r := by
  have hf : findC (c :: l) p.author = some c := by
    rw [findC,h.author,List.find?_cons_of_pos]
    exact seqB_self _
  rw [histV,versV,hf]
  cases p.gone <;> rfl
theorem hist_self {c : ChainD} {l : List ChainD} {p : PostD} (h : OwnP c p) : histV (c :: l) p c.id = versV p := by
  rw [hist_own h,List.filter_eq_self]
  intro e he
  rw [may_self]
  rw [versV] at he
  revert he
  cases p.gone with
  | true => intro he;exact (List.not_mem_nil he).elim
  | false =>
    intro he
    rcases List.mem_cons.1 he with rfl | he
    · exact h.text
    · exact h.ed e he
def cntF (f : Int → Bool) (L : List Int) (j : Nat) : Nat := ((L.take j).filter f).length
theorem cntF_succ (f : Int → Bool) {L : List Int} {j : Nat} {x : Int} (hx : L[j]? = some x) : cntF f L (j + 1) = cntF f L j + (bif f x then 1 else 0) := by
  rw [cntF,cntF,List.take_add_one,hx,List.filter_append,List.length_append]
  cases h : f x <;> simp [h]
theorem cntF_at (f : Int → Bool) {L : List Int} {j : Nat} {x : Int} (hx : L[j]? = some x) (hf : f x = true) : (L.filter f)[cntF f L j]? = some x := by
  have e : L = L.take j ++ x :: L.drop (j + 1) := by
    have hlt := (List.getElem?_eq_some_iff.1 hx)
    obtain ⟨h1,h2⟩ := hlt
    rw [← h2, ← List.drop_eq_getElem_cons h1,List.take_append_drop]
  have e2 : L.filter f = (L.take j).filter f ++ x :: (L.drop (j + 1)).filter f := by
    have := congrArg (List.filter f) e
    rw [List.filter_append,List.filter_cons_of_pos hf] at this
    exact this
  rw [e2,cntF,List.getElem?_append_right (Nat.le_refl _),Nat.sub_self]
  rfl
theorem cntF_all (f : Int → Bool) (L : List Int) : cntF f L L.length = (L.filter f).length := by rw [cntF,List.take_length]
section
variable {P : Program} {N : Nat} {av bor : List Nat} {w0 : World} {E : Env} {loc : List Res} {X : World → Prop}
theorem y_gtrW {k : IntKind} {a b : Int} {st : St} {t t2 ty : TypeId} {x y : Operand} [hI : TyInt P t k] (v : Bool) (hx : ev st.env x = some (.int k a)) (hy : ev st.env y = some (.int k b)) (hv : decide (b < a) = v) : Sy.Yields P N av bor w0 st (.binOp .gtr t x y t2) ty (.bool v) := hv ▸ y_gtr hx hy
theorem y_bneW {p q : Bool} {st : St} {t t2 ty : TypeId} {x y : Operand} (r : Bool) [hI : TyBool P t] (hx : ev st.env x = some (.bool p)) (hy : ev st.env y = some (.bool q)) (hr : (p != q) = r) : Sy.Yields P N av bor w0 st (.binOp .neq t x y t2) ty (.bool r) := hr ▸ y_bneq hx hy
theorem ok_gave {E' : Env} {l' : List Res} {r : Res} {X' : World → Prop} (he : sub E E') (hl : (r :: l').Sublist loc) (hx : ∀ w,X w → r.F w → X' w) : ∀ a w,Ok N av bor w0 ⟨E,loc,X⟩ a w → Ok N av bor w0 ⟨E',l',X'⟩ a w := fun a w ok => by
  have h1 := ok_sub (E':=E') (l':=r :: l') (X':=X) he hl (fun _ h => h) a w ok
  exact h1.via fun M G => (Gam.give G).imp fun w h => hx w h.1 h.2
end
theorem ints_src {w : World} {s : SlV} {l : List Int} (h : Ints w s l) : Src Tryz.prog w 1 s.v s.n (l.map intV) := by
  have e1 : (l.map fun n => [(.int .i64 n : Value)]).flatten = l.map intV := by
    clear h
    induction l with
    | nil => rfl
    | cons a l ih => rw [List.map_cons,List.flatten_cons,ih];rfl
  have h1 := src_rows (P:=Tryz.prog) (s:=s) h fun cs hcs => by
    obtain ⟨n,_,rfl⟩ := List.mem_map.1 hcs
    rfl
  rwa [e1] at h1
end Go.Proofs.YtjmpdkmboheknaaGreatDoor

namespace Go.Proofs.YtjmpdkmboheknaaGreatDoor
open Go Go.Proofs Sy
structure LightC (c : ChainD) : Prop where
  acts : ∀ a ∈ c.actsL,a.to.n ≤ 100 ∧ a.wraps.n ≤ 100
  len : c.actsL.length ≤ 20
  keys : c.keys.n ≤ 40
structure LightOk (l : List ChainD) : Prop where
  all : ∀ c ∈ l,LightC c
  len : l.length ≤ 4
structure LgtI (l : List ChainD) where
  k : Nat
  hk : k ≤ l.length
  ok : ∀ c ∈ l.take k,LightC c
structure LgtJ (l : List ActD) where
  j : Nat
  hj : j ≤ l.length
  ok : ∀ a ∈ l.take j,a.to.n ≤ 100 ∧ a.wraps.n ≤ 100
theorem take_mem {α : Type} {l : List α} {k : Nat} {x : α} (hx : l[k]? = some x) {p : α → Prop} (h : ∀ y ∈ l.take k,p y) (hp : p x) : ∀ y ∈ l.take (k + 1),p y := fun y hy => by
  rw [List.take_add_one,hx] at hy
  rcases List.mem_append.1 hy with hy | hy
  · exact h y hy
  · rw [Option.toList_some,List.mem_singleton] at hy
    exact hy ▸ hp
set_option maxHeartbeats 4000000 in
theorem light26_mk (s : SlV) (l : List ChainD) : Mk Tryz.prog 7 #[s.v] (fun w => Chains w s l) (fun u _ => ∃ b,u = .bool b ∧ (b = true → LightOk l)) := by
  refine mk_of_cw2 (args:=[_]) _ Tryz.func7 rfl Tryz.ntmps7 rfl fun av bor w0 => ?_
  refine cw_know (p:=s.n = l.length ∧ s.n ≤ maxLen ∧ (0 < l.length → s.p.isSome = true)) (fun w h => ⟨h.len_,h.max_,h.some_⟩) fun ⟨hl,hm,hp⟩ => ?_
  simp only [maxLen] at hm
  repeat' (first | apply sw_nil | apply cw_seq | apply cw_reg | refine sy_assign (h:=?_) | apply cw_block | fail)
  refine cw_loop (ι:=LgtI l) (fun i => ⟨[(0,s.v),(3,.int .i64 (i.k : Nat))], [],fun w => Chains w s l⟩) (fun i => l.length - i.k) ⟨0,Nat.zero_le _,fun c hc => (List.not_mem_nil hc).elim⟩ (ok_sub ⟨rfl,rfl,trivial⟩ (List.Sublist.refl _) fun _ h => h) fun i => ?_
  obtain ⟨k,hk,hok⟩ := i
  simp only
  repeat' (first | apply sw_nil | apply cw_seq | apply cw_reg | refine sy_move (h:=?_) | refine sy_assign (h:=?_) | refine sy_lss (h:=?_) | refine sy_leq (h:=?_) | refine sy_len (h:=?_) | apply cw_skip | apply cw_block | apply cw_ret | apply cw_exit | (refine cw_cond (ht:=?_) (hf:=?_);all_goals (intro hx_;first | have := of_decide_eq_true hx_ | have := of_decide_eq_false hx_)))
  · have hlt : k < l.length := by omega
    have hp1 := hp (by omega)
    obtain ⟨c,hc⟩ : ∃ c,l[k]? = some c := ⟨_,List.getElem?_eq_getElem hlt⟩
    have hcm := List.mem_of_getElem? hc
    refine cw_know (p:=c.acts.n = c.actsL.length ∧ c.acts.n ≤ maxLen ∧ (0 < c.actsL.length → c.acts.p.isSome = true)) (fun w h => ⟨(h.2 c hcm).len_,(h.2 c hcm).max_,(h.2 c hcm).some_⟩) fun ⟨al,am,ap⟩ => ?_
    simp only [maxLen] at am
    repeat' (first | apply sw_nil | fail)
    refine cw_loop (ι:=LgtJ c.actsL) (fun i => ⟨[(0,s.v),(3,.int .i64 (k : Nat)),(4,.int .i64 (i.j : Nat))], [],fun w => Chains w s l⟩) (fun i => c.actsL.length - i.j) ⟨0,Nat.zero_le _,fun c hc => (List.not_mem_nil hc).elim⟩ (ok_sub ⟨rfl,rfl,rfl,trivial⟩ (List.Sublist.refl _) fun _ h => h) fun i => ?_
    obtain ⟨j,hj,hoj⟩ := i
    simp only
    by_cases hjl : j < c.actsL.length
    · have ap1 := ap (by omega)
      obtain ⟨x,hx⟩ : ∃ x,c.actsL[j]? = some x := ⟨_,List.getElem?_eq_getElem hjl⟩
      repeat' (first | apply sw_nil | apply cw_seq | apply cw_reg | refine sy_move (h:=?_) | refine sy_assign (h:=?_) | refine sy_pick_t (h:=?_) | refine sy_pick_f (h:=?_) | refine sy_lss (h:=?_) | refine sy_gtr (h:=?_) | refine sy_len (h:=?_) | refine sy_add (h:=?_) | refine sw_skipF (h:=?_) | refine cw_cond_t (ht:=?_) | apply cw_skip | apply cw_block | apply cw_ret | apply cw_exit | (refine sy_idxX (q:=k * 6) (h:=?_)) | (refine sy_fldX (h:=?_)) | (refine sy_ldX (q:=k * 6 + 1) (u:=c.acts.v) (hF:=fun w h => (Chains.get h hc).2.2 1 _ rfl) (h:=?_)) | (refine sy_ldX (q:=k * 6 + 2) (u:=c.keys.v) (hF:=fun w h => (Chains.get h hc).2.2 2 _ rfl) (h:=?_)) | (refine sy_idxX (q:=j * 20) (h:=?_)) | (refine sy_ldX (q:=j * 20 + 9) (u:=x.to.v) (hF:=fun w h => (Acts.get (h.2 c hcm) hx).2.2 9 _ rfl) (h:=?_)) | (refine sy_ldX (q:=j * 20 + 15) (u:=x.wraps.v) (hF:=fun w h => (Acts.get (h.2 c hcm) hx).2.2 15 _ rfl) (h:=?_)) | ((fail_if_success (refine sw_chk (h:=?_)));refine sw_guard (ht:=?_) (hf:=?_);all_goals (intro hx_;first | have := of_decide_eq_true hx_ | have := of_decide_eq_false hx_)) | (refine cw_cond (ht:=?_) (hf:=?_);all_goals (intro hx_;first | have := of_decide_eq_true hx_ | have := of_decide_eq_false hx_)))
      all_goals first
        | (exfalso;omega)
        | exact ends_ret (res_tmp rfl rfl) ⟨false,rfl,fun h => by cases h⟩
        | exact ⟨(⟨j + 1,hjl,take_mem hx hoj (by omega)⟩ : LgtJ c.actsL),(by show c.actsL.length - (j + 1) < c.actsL.length - j;omega),ok_sub ⟨rfl,rfl,rfl,trivial⟩ (List.Sublist.refl _) fun _ h => h⟩
    · have hoa : ∀ a ∈ c.actsL,a.to.n ≤ 100 ∧ a.wraps.n ≤ 100 := by
        have e : j = c.actsL.length := by omega
        rw [e,List.take_length] at hoj
        exact hoj
      repeat' (first | apply sw_nil | apply cw_seq | apply cw_reg | refine sy_move (h:=?_) | refine sy_assign (h:=?_) | refine sy_pick_t (h:=?_) | refine sy_pick_f (h:=?_) | refine sy_lss (h:=?_) | refine sy_gtr (h:=?_) | refine sy_len (h:=?_) | refine sy_add (h:=?_) | refine sw_skipF (h:=?_) | refine cw_cond_t (ht:=?_) | apply cw_skip | apply cw_block | apply cw_ret | apply cw_exit | (refine sy_idxX (q:=k * 6) (h:=?_)) | (refine sy_fldX (h:=?_)) | (refine sy_ldX (q:=k * 6 + 1) (u:=c.acts.v) (hF:=fun w h => (Chains.get h hc).2.2 1 _ rfl) (h:=?_)) | (refine sy_ldX (q:=k * 6 + 2) (u:=c.keys.v) (hF:=fun w h => (Chains.get h hc).2.2 2 _ rfl) (h:=?_)) | ((fail_if_success (refine sw_chk (h:=?_)));refine sw_guard (ht:=?_) (hf:=?_);all_goals (intro hx_;first | have := of_decide_eq_true hx_ | have := of_decide_eq_false hx_)) | (refine cw_cond (ht:=?_) (hf:=?_);all_goals (intro hx_;first | have := of_decide_eq_true hx_ | have := of_decide_eq_false hx_)))
      all_goals first
        | (exfalso;omega)
        | exact ends_ret (res_tmp rfl rfl) ⟨false,rfl,fun h => by cases h⟩
        | exact ⟨(⟨k + 1,hlt,take_mem hc hok ⟨hoa,by omega,by omega⟩⟩ : LgtI l),(by show l.length - (k + 1) < l.length - k;omega),ok_sub ⟨rfl,rfl,trivial⟩ (List.Sublist.refl _) fun _ h => h⟩
  · refine ends_ret (res_tmp rfl rfl) ⟨_,rfl,fun h => ?_⟩
    have e : k = l.length := by omega
    rw [e,List.take_length] at hok
    have h4 := of_decide_eq_true h
    exact ⟨hok,by omega⟩
end Go.Proofs.YtjmpdkmboheknaaGreatDoor

namespace Go.Proofs.YtjmpdkmboheknaaGreatDoor
open Go Go.Proofs Sy
theorem sameN_pu (s r : SlV) (l : List Int) : Pu Tryz.prog 11 #[s.v,r.v] (fun w => Ints w s l ∧ Ints w r l) (.bool true) := by
  refine pu_of_cw (args:=[_,_]) _ Tryz.func11 rfl Tryz.ntmps11 rfl fun av bor w0 => ?_
  refine cw_know (p:=(s.n = l.length ∧ s.n ≤ maxLen ∧ (0 < l.length → s.p.isSome = true)) ∧ (r.n = l.length ∧ r.n ≤ maxLen ∧ (0 < l.length → r.p.isSome = true))) (fun w h => ⟨⟨h.1.len_,Nat.le_trans (RowsD.cap h.1) (RowsD.max h.1),h.1.some_⟩,⟨h.2.len_,Nat.le_trans (RowsD.cap h.2) (RowsD.max h.2),h.2.some_⟩⟩) fun ⟨⟨hl,hm,hp⟩,⟨hl',hm',hp'⟩⟩ => ?_
  simp only [maxLen] at hm hm'
  repeat' (first | refine sy_neqF (hab:=by omega) (h:=?_) | apply sw_nil | apply cw_seq | apply cw_reg | refine sy_move (h:=?_) | refine sy_assign (h:=?_) | refine sy_len (h:=?_) | refine cw_cond_f (hf:=?_) | apply cw_skip | apply cw_block | fail)
  refine cw_loop (ι:=Kth l.length) (fun i => ⟨[(0,s.v),(1,r.v),(5,.int .i64 i.k)], [],fun w => Ints w s l ∧ Ints w r l⟩) (fun i => l.length - i.k) ⟨0,Nat.zero_le _⟩ (ok_sub (by repeat (first | exact trivial | refine ⟨rfl, ?_⟩)) (List.Sublist.refl _) fun _ h => h) fun i => ?_
  have hik := i.hk
  repeat' (first | apply sw_nil | apply cw_seq | apply cw_reg | refine sy_move (h:=?_) | refine sy_assign (h:=?_) | refine sy_lss (h:=?_) | refine sy_len (h:=?_) | apply cw_skip | apply cw_block | apply cw_ret | apply cw_exit | (refine cw_cond (ht:=?_) (hf:=?_);all_goals (intro hx_;first | have := of_decide_eq_true hx_ | have := of_decide_eq_false hx_)))
  · have hlt : i.k < l.length := by omega
    have hp1 := hp (by omega)
    have hp2 := hp' (by omega)
    (apply cw_draw0;kernel_rfl)
    all_goals (refine aw_take 0 (h:=?_))
    all_goals (refine aw_take 1 (h:=?_))
    all_goals (refine aw_take 2 (hy:=by (apply y_idxX (q:=i.k);rfl;rfl;omega;omega;assumption;omega)) (h:=?_))
    all_goals (refine aw_take 3 (hy:=by (apply y_ldX;rfl;exact fun w h => Ints.get h.1 hlt)) (h:=?_))
    all_goals (refine aw_take 4 (h:=?_))
    all_goals (refine aw_take 5 (h:=?_))
    all_goals (refine aw_take 6 (hy:=by (apply y_idxX (q:=i.k);rfl;rfl;omega;omega;assumption;omega)) (h:=?_))
    all_goals (refine aw_take 7 (hy:=by (apply y_ldX;rfl;exact fun w h => Ints.get h.2 hlt)) (h:=?_))
    all_goals (refine aw_take 8 (h:=?_))
    all_goals (refine aw_done (h:=?_))
    repeat' (first | apply sw_nil | apply cw_seq | apply cw_reg | refine sy_move (h:=?_) | refine sy_assign (h:=?_) | refine sy_add (h:=?_) | apply cw_skip | apply cw_ret | (refine cw_cond (ht:=?_) (hf:=?_);all_goals (intro hx_;skip)))
    all_goals first
      | (exfalso;simp at hx_;done)
      | exact ⟨(⟨i.k + 1,hlt⟩ : Kth l.length),(by show l.length - (i.k + 1) < l.length - i.k;omega),ok_sub (by repeat (first | exact trivial | refine ⟨rfl, ?_⟩)) (List.Sublist.refl _) fun _ h => h⟩
  · exact ends_ret (res_tmp rfl rfl) rfl
end Go.Proofs.YtjmpdkmboheknaaGreatDoor

namespace Go.Proofs.YtjmpdkmboheknaaGreatDoor
open Go Go.Proofs Sy
structure SeeX (s : SlV) (l : List ChainD) (c : ChainD) (sp : SlV) (P : List PostD) (w : World) : Prop where
  cs : Chains w s l
  g : Glob w
  p : RowsD w 11 sp (P.map PostD.cells)
  b : Behind w P
structure SeeV (s : SlV) (l : List ChainD) (c : ChainD) (sp : SlV) (P : List PostD) (v : SlV) (L : List Int) (w : World) : Prop where
  x : SeeX s l c sp P w
  v : Ints w v L
structure SeeH (s : SlV) (l : List ChainD) (c : ChainD) (sp : SlV) (P : List PostD) (v : SlV) (L : List Int) (h : SlV) (H : List Int) (w : World) : Prop where
  y : SeeV s l c sp P v L w
  h : Ints w h H
set_option maxRecDepth 20000 in
set_option maxHeartbeats 16000000 in
theorem sees26_pu (s : SlV) (l : List ChainD) (r : ByteArray) (hrg : ∀ c ∈ l,ActsOk c.actsL) : Pu Tryz.prog 5 #[s.v,.string r] (fun w => Chains w s l ∧ Glob w) (.bool true) := by
  refine pu_of_cw (args:=[_,_]) _ Tryz.func5 rfl Tryz.ntmps5 rfl fun av bor w0 => ?_
  have hli := light26_mk s l
  refine cw_know (p:=s.n = l.length ∧ s.n ≤ maxLen ∧ (0 < l.length → s.p.isSome = true)) (fun w h => ⟨h.1.len_,h.1.max_,h.1.some_⟩) fun ⟨hl,hm,hp⟩ => ?_
  simp only [maxLen] at hm
  repeat' (first | apply sw_nil | apply cw_seq | apply cw_reg | refine sy_move (h:=?_) | refine sy_assign (h:=?_) | refine sy_pick_t (h:=?_) | refine sy_pick_f (h:=?_) | refine sy_not (h:=?_) | refine sy_eql (h:=?_) | refine sy_len (h:=?_) | refine sw_skipF (h:=?_) | refine cw_cond_t (ht:=?_) | apply cw_skip | apply cw_ret | (refine sw_pu (hc:=small26_pu) (hX:=fun w h => h.2) (h:=?_)) | (refine sw_mk (hc:=hli) (hX:=fun w h => h.1) (h:=fun v1 X1 h1 => ?_);obtain ⟨li,rfl,hli1⟩ := h1) | ((fail_if_success (refine sw_chk (h:=?_)));refine sw_guard (ht:=?_) (hf:=?_);all_goals (intro hx_;skip)) | (refine cw_cond (ht:=?_) (hf:=?_);all_goals (intro hx_;first | have := of_decide_eq_true hx_ | have := of_decide_eq_false hx_)))
  all_goals try exact ends_ret (res_tmp rfl rfl) rfl
  have hli2 : LightOk l := hli1 (by cases li <;> simp_all)
  have hl0 : 0 < l.length := by
    rcases Nat.eq_zero_or_pos l.length with h | h
    · exfalso;simp_all
    · exact h
  have hp0 := hp hl0
  obtain ⟨c,l',hcl⟩ : ∃ c l',l = c :: l' := by
    cases l with
    | nil => exact absurd hl0 (Nat.lt_irrefl 0)
    | cons c l' => exact ⟨c,l',rfl⟩
  have hcm : c ∈ l := by rw [hcl];exact List.mem_cons_self
  have hc0 : l[0]? = some c := by rw [hcl];rfl
  have hcA := hrg c hcm
  have hlen := (hli2.all c hcm).len
  have hof := of_mkS c hcA (by omega)
  have hok : ∀ x ∈ l,ChOk x := fun x hx => ⟨hrg x hx,by have := (hli2.all x hx).len;omega,fun y hy => by have := ((hli2.all x hx).acts y hy).1;omega⟩
  repeat' (first | apply sw_nil | apply cw_seq | apply cw_reg | refine sy_assign (h:=?_) | refine sy_ldAll (h:=?_) | refine sw_alloc (h:=fun _ => ?_) | refine sw_stAll (h:=?_) | apply cw_block | (refine sy_idxX (q:=0) (h:=?_)) | (refine sy_ldXs (cs:=c.cells) (hF:=fun w h => Chains.get h.1.1 hc0) (h:=?_)) | (refine sw_mk (hc:=hof) (hX:=fun w h => ⟨h.1.1.2 c hcm,h.1.2⟩) (h:=fun v2 X2 h2 => ?_);obtain ⟨sp,P,rfl,hP,hPl,hwP⟩ := h2) | fail)
  rename_i b6
  refine cw_know (p:=sp.n = P.length ∧ sp.n ≤ maxLen ∧ (0 < P.length → sp.p.isSome = true)) (fun w h => ⟨by simpa using RowsD.len (hwP w h.2).1,Nat.le_trans (RowsD.cap (hwP w h.2).1) (RowsD.max (hwP w h.2).1),fun h0 => (RowsD.row (hwP w h.2).1 0 P[0].cells (by simp [List.getElem?_eq_getElem h0])).2.1⟩) fun ⟨hsn,hsm,hsp⟩ => ?_
  simp only [maxLen] at hsm
  refine cw_loop (ι:=Kth P.length) (fun i => ⟨[(0,s.v),(1,.string r),(5,.bool true),(6,.pointer (some ⟨b6,0,none⟩)),(7,sp.v),(8,.int .i64 (i.k : Nat))], [cel b6 39 c.cells],SeeX s l c sp P⟩) (fun i => P.length - i.k) ⟨0,Nat.zero_le _⟩ (ok_sub ⟨rfl,rfl,rfl,rfl,rfl,rfl,trivial⟩ (List.Sublist.refl _) fun w h => ⟨h.1.1.1,h.1.1.2,(hwP w h.2).1,(hwP w h.2).2⟩) fun i => ?_
  obtain ⟨k,hk⟩ := i
  simp only
  repeat' (first | apply sw_nil | apply cw_seq | apply cw_reg | refine sy_move (h:=?_) | refine sy_assign (h:=?_) | refine sy_lss (h:=?_) | refine sy_len (h:=?_) | apply cw_skip | apply cw_block | apply cw_ret | apply cw_exit | (refine cw_cond (ht:=?_) (hf:=?_);all_goals (intro hx_;first | have := of_decide_eq_true hx_ | have := of_decide_eq_false hx_)))
  · have hlt : k < P.length := by omega
    have hsp' := hsp (by omega)
    obtain ⟨p,hpk⟩ : ∃ p,P[k]? = some p := ⟨_,List.getElem?_eq_getElem hlt⟩
    have hpm := List.mem_of_getElem? hpk
    have hown := OwnP.of_can hP hpm
    have hb : ∀ w,SeeX s l c sp P w → Strs w p.to p.toL ∧ Ints w p.ed p.edL := fun w h => h.b p hpm
    have hrow : ∀ w,SeeX s l c sp P w → p.cells.length = 11 ∧ sp.p.isSome = true ∧ ∀ j u,p.cells[j]? = some u → CellAt w sp.p (k * 11 + j) u := fun w h => RowsD.row h.p k p.cells (by simp [hpk])
    have hel : p.edL.length ≤ 1000000 := by
      have := postsEd_le hP hpm
      omega
    refine cw_know (p:=p.ed.n = p.edL.length ∧ p.ed.n ≤ maxLen) (fun w h => ⟨(hb w h).2.len_,Nat.le_trans (RowsD.cap (hb w h).2) (RowsD.max (hb w h).2)⟩) fun ⟨hen,hem⟩ => ?_
    refine cw_meet (ι:=SlV) (fun v => ⟨[(0,s.v),(1,.string r),(5,.bool true),(6,.pointer (some ⟨b6,0,none⟩)),(7,sp.v),(8,.int .i64 (k : Nat)),(9,v.v)], [cel b6 39 c.cells],SeeV s l c sp P v ((p.pos : Int) :: p.edL)⟩) ?_ fun v => ?_
    · (refine cw_draw [cel b6 39 c.cells] (SeeX s l c sp P) (by kernel_rfl) ?_)
      all_goals (refine aw_take 0 (hsub:=by (exact fun _ h => h.drop (by ((repeat (exact List.Sublist.refl _));done)))) (h:=?_))
      all_goals (refine aw_take 1 (hsub:=by (exact fun _ h => h.drop (by ((repeat (exact List.Sublist.refl _));done)))) (h:=?_))
      all_goals (refine aw_take 2 (hsub:=by (exact fun _ h => h.drop (by ((repeat (exact List.Sublist.refl _));done)))) (hy:=by (apply y_idxX (q:=k * 11);rfl;rfl;omega;omega;assumption;omega)) (h:=?_))
      all_goals (refine aw_take 3 (hsub:=by (exact fun _ h => h.drop (by ((repeat (exact List.Sublist.refl _));done)))) (hy:=by (apply y_fldX;rfl;assumption;rfl)) (h:=?_))
      all_goals (refine aw_take 4 (hsub:=by (exact fun _ h => h.drop (by ((repeat (exact List.Sublist.refl _));done)))) (hy:=by (apply y_ldX (q:=k * 11 + 2) (u:=.int .i64 (p.pos : Nat));rfl;exact fun w h => (hrow w h).2.2 2 _ rfl)) (h:=?_))
      all_goals (refine aw_take 6 (hsub:=by (exact fun _ h => h.drop (by ((repeat (exact List.Sublist.refl _));done)))) (h:=?_))
      all_goals (refine aw_take 7 (hsub:=by (exact fun _ h => h.drop (by ((repeat (exact List.Sublist.refl _));done)))) (h:=?_))
      all_goals (refine aw_take 8 (hsub:=by (exact fun _ h => h.drop (by ((repeat (exact List.Sublist.refl _));done)))) (hy:=by (apply y_idxX (q:=k * 11);rfl;rfl;omega;omega;assumption;omega)) (h:=?_))
      all_goals (refine aw_take 9 (hsub:=by (exact fun _ h => h.drop (by ((repeat (exact List.Sublist.refl _));done)))) (hy:=by (apply y_fldX;rfl;assumption;rfl)) (h:=?_))
      all_goals (refine aw_take 10 (hsub:=by (exact fun _ h => h.drop (by ((repeat (exact List.Sublist.refl _));done)))) (hy:=by (apply y_ldX (q:=k * 11 + 9) (u:=p.ed.v);rfl;exact fun w h => (hrow w h).2.2 9 _ rfl)) (h:=?_))
      all_goals (refine aw_step 5 (h:=?_);(refine sw_bsl (vs:=[.int .i64 (p.pos : Nat)]) (h:=fun _ => ?_));apply sw_nil;refine aw_fin (hsub:=by (exact fun _ h => h.drop (by ((repeat (first | exact List.Sublist.refl _ | apply List.Sublist.cons));done)))) (h:=?_))
      all_goals (refine aw_step 11 (h:=?_);(refine sw_orow 1 1 rfl (by decide) ?_;refine sw_append (size:=1) (news:=p.edL.map intV) (q:=p.ed.n) rfl rfl rfl rfl (fun _ => At.here _) (fun w G => ints_src (hb w G.keep.now).2) (by omega) (by simp only [maxLen];omega) rfl ?_ rfl ?_;(with_reducible rfl);intro A2 c2);apply sw_nil;refine aw_fin (hsub:=by (exact fun _ h => h.drop (by ((repeat (first | exact List.Sublist.refl _ | apply List.Sublist.cons));done)))) (h:=?_))
      all_goals (refine aw_take 12 (hsub:=by (exact fun _ h => h.drop (by ((repeat (first | exact List.Sublist.refl _ | apply List.Sublist.cons));done)))) (h:=?_))
      all_goals (refine aw_done (h:=?_))
      exact ⟨(⟨A2,1 + p.ed.n,c2⟩ : SlV),ok_gave ⟨rfl,rfl,rfl,rfl,rfl,rfl,rfl,trivial⟩ (List.Sublist.refl _) fun w h hr => ⟨h,ints_of_row hr (by rw [List.length_cons];omega)⟩⟩
    apply cw_seq
    refine cw_meet (ι:=SlV) (fun v => ⟨[(0,s.v),(1,.string r),(5,.bool true),(6,.pointer (some ⟨b6,0,none⟩)),(7,sp.v),(8,.int .i64 (k : Nat)),(9,v.v)], [cel b6 39 c.cells],SeeV s l c sp P v (versV p)⟩) ?_ fun v => ?_
    · repeat' (first | apply sw_nil | apply cw_seq | apply cw_reg | refine sy_move (h:=?_) | refine sy_assign (h:=?_) | apply cw_skip | (refine sy_idxX (q:=k * 11) (h:=?_)) | (refine sy_fldX (h:=?_)) | (refine sy_ldX (q:=k * 11 + 10) (u:=.bool p.gone) (hF:=fun w h => (hrow w h.x).2.2 10 _ rfl) (h:=?_)) | (refine cw_cond (ht:=?_) (hf:=?_);all_goals (intro hx_;skip)))
      · exact ⟨(⟨none,0,0⟩ : SlV),ok_sub ⟨rfl,rfl,rfl,rfl,rfl,rfl,rfl,trivial⟩ (List.Sublist.refl _) fun w h => ⟨h.x,by rw [versV,hx_];exact rowsD_nil w 1⟩⟩
      · exact ⟨v,ok_sub ⟨rfl,rfl,rfl,rfl,rfl,rfl,rfl,trivial⟩ (List.Sublist.refl _) fun w h => ⟨h.x,by rw [versV,hx_];exact h.v⟩⟩
    have hhis := history_mk s l p r hok hel
    have hlas := last_pu s l p r hok hel
    have hhs : histV l p r = (versV p).filter fun i => mayV c i r := by rw [hcl];exact hist_own hown r
    have hsf : histV l p c.id = versV p := by rw [hcl];exact hist_self hown
    have hfin := history_mk s l p c.id hok hel
    rw [hsf] at hfin
    rw [lastV] at hlas
    obtain ⟨H,hH⟩ : ∃ H,H = histV l p r := ⟨_,rfl⟩
    obtain ⟨V,hV⟩ : ∃ V,V = versV p := ⟨_,rfl⟩
    obtain ⟨f,hf⟩ : ∃ f : Int → Bool,f = fun i => mayV c i r := ⟨_,rfl⟩
    rw [← hV] at hhs hfin ⊢
    rw [← hH] at hhs hhis hlas
    rw [← hf] at hhs
    repeat' (first | apply cw_seq | fail)
    apply cw_reg
    repeat' (first | apply sw_nil | apply cw_seq | refine sy_move (h:=?_) | refine sy_assign (h:=?_) | (refine sy_idxX (q:=k * 11) (h:=?_)) | (refine sy_ldXs (cs:=p.cells) (hF:=fun w h => hrow w h.x) (h:=?_)) | (refine sw_mk (hc:=hhis) (hX:=fun w h => ⟨⟨h.x.cs,(hb w h.x).2⟩,h.x.g⟩) (h:=fun v3 X3 h3 => ?_);obtain ⟨hs,rfl,hwH⟩ := h3) | fail)
    apply cw_reg
    repeat' (first | apply sw_nil | apply cw_seq | refine sy_move (h:=?_) | refine sy_assign (h:=?_) | refine sy_extract (h:=?_) | (refine sy_idxX (q:=k * 11) (h:=?_)) | (refine sy_ldXs (cs:=p.cells) (hF:=fun w h => hrow w h.1.x) (h:=?_)) | (refine sw_pu (hc:=hlas) (hX:=fun w h => ⟨⟨h.1.x.cs,(hb w h.1.x).2⟩,h.1.x.g⟩) (h:=?_)) | fail)
    refine cw_know (p:=(hs.n = H.length ∧ hs.n ≤ maxLen ∧ (0 < H.length → hs.p.isSome = true)) ∧ (v.n = V.length ∧ v.n ≤ maxLen ∧ (0 < V.length → v.p.isSome = true))) (fun w h => ⟨⟨(hwH w h.2).len_,Nat.le_trans (RowsD.cap (hwH w h.2)) (RowsD.max (hwH w h.2)),(hwH w h.2).some_⟩,⟨h.1.v.len_,Nat.le_trans (RowsD.cap h.1.v) (RowsD.max h.1.v),h.1.v.some_⟩⟩) fun ⟨⟨hhn,hhm,hhp⟩,⟨hvn,hvm,hvp⟩⟩ => ?_
    simp only [maxLen] at hhm hvm
    repeat' (first | apply sw_nil | apply cw_seq | apply cw_reg | refine sy_assign (h:=?_) | apply cw_block | fail)
    refine cw_loop (ι:=Kth V.length) (fun i => ⟨[(0,s.v),(1,.string r),(5,.bool true),(6,.pointer (some ⟨b6,0,none⟩)),(7,sp.v),(8,.int .i64 (k : Nat)),(9,v.v),(10,hs.v),(11,.int .i64 (H.getLast?.getD 0)),(12,.bool H.getLast?.isSome),(13,.int .i64 (cntF f V i.k : Nat)),(14,.int .i64 (i.k : Nat))], [cel b6 39 c.cells],SeeH s l c sp P v V hs H⟩) (fun i => V.length - i.k) ⟨0,Nat.zero_le _⟩ (ok_sub ⟨rfl,rfl,rfl,rfl,rfl,rfl,rfl,rfl,rfl,rfl,rfl,rfl,trivial⟩ (List.Sublist.refl _) fun w h => ⟨h.1,hwH w h.2⟩) fun i => ?_
    obtain ⟨j,hj⟩ := i
    simp only
    repeat' (first | apply sw_nil | apply cw_seq | apply cw_reg | refine sy_move (h:=?_) | refine sy_lss (h:=?_) | refine sy_len (h:=?_) | apply cw_skip | apply cw_block | apply cw_exit | (refine cw_cond (ht:=?_) (hf:=?_);all_goals (intro hx_;first | have := of_decide_eq_true hx_ | have := of_decide_eq_false hx_)))
    · have hjl : j < V.length := by omega
      obtain ⟨x,hxj⟩ : ∃ x,V[j]? = some x := ⟨_,List.getElem?_eq_getElem hjl⟩
      have hxD : V.getD j 0 = x := by rw [List.getD_eq_getElem?_getD,hxj];rfl
      have hvp' := hvp (by omega)
      obtain ⟨fb,hfb⟩ : ∃ fb,fb = f x := ⟨_,rfl⟩
      have hmay := may_pu c hcA (by omega) (hok c hcm).to x r
      rw [show mayV c x r = fb from by rw [hfb,hf]] at hmay
      refine cw_meet (ι:=Unit) (fun _ => ⟨[(0,s.v),(1,.string r),(5,.bool true),(6,.pointer (some ⟨b6,0,none⟩)),(7,sp.v),(8,.int .i64 (k : Nat)),(9,v.v),(10,hs.v),(11,.int .i64 (H.getLast?.getD 0)),(12,.bool H.getLast?.isSome),(13,.int .i64 (cntF f V j : Nat)),(14,.int .i64 (j : Nat)),(15,.bool fb)], [cel b6 39 c.cells],SeeH s l c sp P v V hs H⟩) ?_ fun _ => ?_
      · (refine cw_draw [cel b6 39 c.cells] (SeeH s l c sp P v V hs H) (by kernel_rfl) ?_)
        all_goals (refine aw_take 0 (hsub:=by (exact fun _ h => h.drop (by ((repeat (exact List.Sublist.refl _));done)))) (h:=?_))
        all_goals (refine aw_take 1 (hsub:=by (exact fun _ h => h.drop (by ((repeat (exact List.Sublist.refl _));done)))) (h:=?_))
        all_goals (refine aw_take 2 (hsub:=by (exact fun _ h => h.drop (by ((repeat (exact List.Sublist.refl _));done)))) (h:=?_))
        all_goals (refine aw_take 3 (hsub:=by (exact fun _ h => h.drop (by ((repeat (exact List.Sublist.refl _));done)))) (hy:=by (apply y_idxX (q:=j);rfl;rfl;omega;omega;assumption;omega)) (h:=?_))
        all_goals (refine aw_take 4 (hsub:=by (exact fun _ h => h.drop (by ((repeat (exact List.Sublist.refl _));done)))) (hy:=by (apply y_ldX (q:=j) (u:=.int .i64 x);rfl;exact fun w h => hxD ▸ Ints.get h.y.v hjl)) (h:=?_))
        all_goals (refine aw_take 5 (hsub:=by (exact fun _ h => h.drop (by ((repeat (exact List.Sublist.refl _));done)))) (h:=?_))
        all_goals (refine aw_step 6 (h:=?_);(refine sw_pu (hc:=hmay) (hX:=fun w h => ⟨h.y.x.cs.2 c hcm,h.y.x.g⟩) (h:=?_));apply sw_nil;refine aw_fin (hsub:=by (exact fun _ h => h.drop (by ((repeat (exact List.Sublist.refl _));done)))) (h:=?_))
        all_goals (refine aw_take 7 (hsub:=by (exact fun _ h => h.drop (by ((repeat (exact List.Sublist.refl _));done)))) (h:=?_))
        all_goals (refine aw_done (h:=?_))
        exact ⟨(),ok_sub ⟨rfl,rfl,rfl,rfl,rfl,rfl,rfl,rfl,rfl,rfl,rfl,rfl,rfl,trivial⟩ (List.Sublist.refl _) fun _ h => h⟩
      apply cw_seq
      apply cw_seq
      have hcs := cntF_succ f hxj
      cases fb with
      | false =>
        rw [← hfb,cond_false,Nat.add_zero] at hcs
        (refine cw_draw [cel b6 39 c.cells] (SeeH s l c sp P v V hs H) (by kernel_rfl) ?_)
        all_goals (refine aw_take 0 (hsub:=by (exact fun _ h => h.drop (by ((repeat (exact List.Sublist.refl _));done)))) (h:=?_))
        all_goals (refine aw_take 1 (hsub:=by (exact fun _ h => h.drop (by ((repeat (exact List.Sublist.refl _));done)))) (h:=?_))
        all_goals (refine aw_skipT 2 (hsub:=by (exact fun _ h => h.drop (by ((repeat (exact List.Sublist.refl _));done)))) (h:=?_))
        all_goals (refine aw_skipT 3 (hsub:=by (exact fun _ h => h.drop (by ((repeat (exact List.Sublist.refl _));done)))) (h:=?_))
        all_goals (refine aw_skipT 4 (hsub:=by (exact fun _ h => h.drop (by ((repeat (exact List.Sublist.refl _));done)))) (h:=?_))
        all_goals (refine aw_skipT 5 (hsub:=by (exact fun _ h => h.drop (by ((repeat (exact List.Sublist.refl _));done)))) (h:=?_))
        all_goals (refine aw_skipT 6 (hsub:=by (exact fun _ h => h.drop (by ((repeat (exact List.Sublist.refl _));done)))) (h:=?_))
        all_goals (refine aw_skipU 7 (hsub:=by (exact fun _ h => h.drop (by ((repeat (exact List.Sublist.refl _));done)))) (h:=?_))
        all_goals (refine aw_skipU 8 (hsub:=by (exact fun _ h => h.drop (by ((repeat (exact List.Sublist.refl _));done)))) (h:=?_))
        all_goals (refine aw_skipU 9 (hsub:=by (exact fun _ h => h.drop (by ((repeat (exact List.Sublist.refl _));done)))) (h:=?_))
        all_goals (refine aw_skipU 10 (hsub:=by (exact fun _ h => h.drop (by ((repeat (exact List.Sublist.refl _));done)))) (h:=?_))
        all_goals (refine aw_skipU 11 (hsub:=by (exact fun _ h => h.drop (by ((repeat (exact List.Sublist.refl _));done)))) (h:=?_))
        all_goals (refine aw_skipU 12 (hsub:=by (exact fun _ h => h.drop (by ((repeat (exact List.Sublist.refl _));done)))) (h:=?_))
        all_goals (refine aw_skipU 13 (hsub:=by (exact fun _ h => h.drop (by ((repeat (exact List.Sublist.refl _));done)))) (h:=?_))
        all_goals (refine aw_skipU 14 (hsub:=by (exact fun _ h => h.drop (by ((repeat (exact List.Sublist.refl _));done)))) (h:=?_))
        all_goals (refine aw_skipU 15 (hsub:=by (exact fun _ h => h.drop (by ((repeat (exact List.Sublist.refl _));done)))) (h:=?_))
        all_goals (refine aw_skipT 16 (hsub:=by (exact fun _ h => h.drop (by ((repeat (exact List.Sublist.refl _));done)))) (h:=?_))
        all_goals (refine aw_take 17 (hsub:=by (exact fun _ h => h.drop (by ((repeat (exact List.Sublist.refl _));done)))) (h:=?_))
        all_goals (refine aw_done (h:=?_))
        repeat' (first | apply sw_nil | apply cw_seq | apply cw_reg | refine sy_move (h:=?_) | refine sy_assign (h:=?_) | refine sy_add (h:=?_) | refine cw_cond_f (hf:=?_) | apply cw_skip | fail)
        exact ⟨(⟨j + 1,hjl⟩ : Kth V.length),(by show V.length - (j + 1) < V.length - j;omega),ok_sub ⟨rfl,rfl,rfl,rfl,rfl,rfl,rfl,rfl,rfl,rfl,by rw [hcs];rfl,rfl,trivial⟩ (List.Sublist.refl _) fun _ h => h⟩
      | true =>
        rw [← hfb,cond_true] at hcs
        have hat := cntF_at f hxj hfb.symm
        rw [← hhs] at hat
        have hcH := (List.getElem?_eq_some_iff.1 hat).1
        have hHD : H.getD (cntF f V j) 0 = x := by rw [List.getD_eq_getElem?_getD,hat];rfl
        have hhp' := hhp (by omega)
        (refine cw_draw [cel b6 39 c.cells] (SeeH s l c sp P v V hs H) (by kernel_rfl) ?_)
        all_goals (refine aw_take 0 (hsub:=by (exact fun _ h => h.drop (by ((repeat (exact List.Sublist.refl _));done)))) (h:=?_))
        all_goals (refine aw_take 1 (hsub:=by (exact fun _ h => h.drop (by ((repeat (exact List.Sublist.refl _));done)))) (h:=?_))
        all_goals (refine aw_take 2 (hsub:=by (exact fun _ h => h.drop (by ((repeat (exact List.Sublist.refl _));done)))) (h:=?_))
        all_goals (refine aw_take 3 (hsub:=by (exact fun _ h => h.drop (by ((repeat (exact List.Sublist.refl _));done)))) (h:=?_))
        all_goals (refine aw_take 4 (hsub:=by (exact fun _ h => h.drop (by ((repeat (exact List.Sublist.refl _));done)))) (h:=?_))
        all_goals (refine aw_take 5 (hsub:=by (exact fun _ h => h.drop (by ((repeat (exact List.Sublist.refl _));done)))) (hy:=by (apply y_geqW false;rfl;rfl;exact decide_eq_false (by omega))) (h:=?_))
        all_goals (refine aw_take 6 (hsub:=by (exact fun _ h => h.drop (by ((repeat (exact List.Sublist.refl _));done)))) (h:=?_))
        all_goals (refine aw_take 7 (hsub:=by (exact fun _ h => h.drop (by ((repeat (exact List.Sublist.refl _));done)))) (h:=?_))
        all_goals (refine aw_take 8 (hsub:=by (exact fun _ h => h.drop (by ((repeat (exact List.Sublist.refl _));done)))) (h:=?_))
        all_goals (refine aw_take 9 (hsub:=by (exact fun _ h => h.drop (by ((repeat (exact List.Sublist.refl _));done)))) (hy:=by (apply y_idxX (q:=cntF f V j);rfl;rfl;omega;omega;assumption;omega)) (h:=?_))
        all_goals (refine aw_take 10 (hsub:=by (exact fun _ h => h.drop (by ((repeat (exact List.Sublist.refl _));done)))) (hy:=by (apply y_ldX (q:=cntF f V j) (u:=.int .i64 x);rfl;exact fun w h => hHD ▸ Ints.get h.h hcH)) (h:=?_))
        all_goals (refine aw_take 11 (hsub:=by (exact fun _ h => h.drop (by ((repeat (exact List.Sublist.refl _));done)))) (h:=?_))
        all_goals (refine aw_take 12 (hsub:=by (exact fun _ h => h.drop (by ((repeat (exact List.Sublist.refl _));done)))) (h:=?_))
        all_goals (refine aw_take 13 (hsub:=by (exact fun _ h => h.drop (by ((repeat (exact List.Sublist.refl _));done)))) (hy:=by (apply y_idxX (q:=j);rfl;rfl;omega;omega;assumption;omega)) (h:=?_))
        all_goals (refine aw_take 14 (hsub:=by (exact fun _ h => h.drop (by ((repeat (exact List.Sublist.refl _));done)))) (hy:=by (apply y_ldX (q:=j) (u:=.int .i64 x);rfl;exact fun w h => hxD ▸ Ints.get h.y.v hjl)) (h:=?_))
        all_goals (refine aw_take 15 (hsub:=by (exact fun _ h => h.drop (by ((repeat (exact List.Sublist.refl _));done)))) (hy:=by (apply y_neqW false;rfl;rfl;(rw [decide_eq_true rfl];rfl))) (h:=?_))
        all_goals (refine aw_take 16 (hsub:=by (exact fun _ h => h.drop (by ((repeat (exact List.Sublist.refl _));done)))) (h:=?_))
        all_goals (refine aw_take 17 (hsub:=by (exact fun _ h => h.drop (by ((repeat (exact List.Sublist.refl _));done)))) (h:=?_))
        all_goals (refine aw_done (h:=?_))
        repeat' (first | apply sw_nil | apply cw_seq | apply cw_reg | refine sy_move (h:=?_) | refine sy_assign (h:=?_) | refine sy_add (h:=?_) | refine cw_cond_t (ht:=?_) | refine cw_cond_f (hf:=?_) | apply cw_skip | fail)
        exact ⟨(⟨j + 1,hjl⟩ : Kth V.length),(by show V.length - (j + 1) < V.length - j;omega),ok_sub ⟨rfl,rfl,rfl,rfl,rfl,rfl,rfl,rfl,rfl,rfl,by rw [hcs];rfl,rfl,trivial⟩ (List.Sublist.refl _) fun _ h => h⟩
    · have hjE : j = V.length := by omega
      subst hjE
      rw [cntF_all, ← hhs]
      clear hhs hH hhis hlas
      cases H with
      | nil =>
        simp only [List.getLast?_nil,Option.getD_none,Option.isSome_none,List.length_nil]
        (refine cw_draw [cel b6 39 c.cells] (SeeH s l c sp P v V hs []) (by kernel_rfl) ?_)
        all_goals (refine aw_take 0 (hsub:=by (exact fun _ h => h.drop (by ((repeat (exact List.Sublist.refl _));done)))) (h:=?_))
        all_goals (refine aw_take 1 (hsub:=by (exact fun _ h => h.drop (by ((repeat (exact List.Sublist.refl _));done)))) (h:=?_))
        all_goals (refine aw_take 2 (hsub:=by (exact fun _ h => h.drop (by ((repeat (exact List.Sublist.refl _));done)))) (h:=?_))
        all_goals (refine aw_take 3 (hsub:=by (exact fun _ h => h.drop (by ((repeat (exact List.Sublist.refl _));done)))) (hy:=by (apply y_neqW false;rfl;rfl;(rw [decide_eq_true (by simp only [List.length_nil] at hhn;omega)];rfl))) (h:=?_))
        all_goals (refine aw_take 4 (hsub:=by (exact fun _ h => h.drop (by ((repeat (exact List.Sublist.refl _));done)))) (h:=?_))
        all_goals (refine aw_take 5 (hsub:=by (exact fun _ h => h.drop (by ((repeat (exact List.Sublist.refl _));done)))) (h:=?_))
        all_goals (refine aw_take 6 (hsub:=by (exact fun _ h => h.drop (by ((repeat (exact List.Sublist.refl _));done)))) (h:=?_))
        all_goals (refine aw_take 7 (hsub:=by (exact fun _ h => h.drop (by ((repeat (exact List.Sublist.refl _));done)))) (hy:=by (apply y_gtrW false;rfl;rfl;decide)) (h:=?_))
        all_goals (refine aw_take 8 (hsub:=by (exact fun _ h => h.drop (by ((repeat (exact List.Sublist.refl _));done)))) (hy:=by (apply y_bneW false;rfl;rfl;rfl)) (h:=?_))
        all_goals (refine aw_take 9 (hsub:=by (exact fun _ h => h.drop (by ((repeat (exact List.Sublist.refl _));done)))) (h:=?_))
        all_goals (refine aw_take 10 (hsub:=by (exact fun _ h => h.drop (by ((repeat (exact List.Sublist.refl _));done)))) (h:=?_))
        all_goals (refine aw_take 11 (hsub:=by (exact fun _ h => h.drop (by ((repeat (exact List.Sublist.refl _));done)))) (h:=?_))
        all_goals (refine aw_take 12 (hsub:=by (exact fun _ h => h.drop (by ((repeat (exact List.Sublist.refl _));done)))) (h:=?_))
        all_goals (refine aw_skipT 13 (hsub:=by (exact fun _ h => h.drop (by ((repeat (exact List.Sublist.refl _));done)))) (h:=?_))
        all_goals (refine aw_skipT 14 (hsub:=by (exact fun _ h => h.drop (by ((repeat (exact List.Sublist.refl _));done)))) (h:=?_))
        all_goals (refine aw_skipT 15 (hsub:=by (exact fun _ h => h.drop (by ((repeat (exact List.Sublist.refl _));done)))) (h:=?_))
        all_goals (refine aw_skipT 16 (hsub:=by (exact fun _ h => h.drop (by ((repeat (exact List.Sublist.refl _));done)))) (h:=?_))
        all_goals (refine aw_skipT 17 (hsub:=by (exact fun _ h => h.drop (by ((repeat (exact List.Sublist.refl _));done)))) (h:=?_))
        all_goals (refine aw_skipT 18 (hsub:=by (exact fun _ h => h.drop (by ((repeat (exact List.Sublist.refl _));done)))) (h:=?_))
        all_goals (refine aw_skipT 19 (hsub:=by (exact fun _ h => h.drop (by ((repeat (exact List.Sublist.refl _));done)))) (h:=?_))
        all_goals (refine aw_take 20 (hsub:=by (exact fun _ h => h.drop (by ((repeat (exact List.Sublist.refl _));done)))) (h:=?_))
        all_goals (refine aw_take 21 (hsub:=by (exact fun _ h => h.drop (by ((repeat (exact List.Sublist.refl _));done)))) (h:=?_))
        all_goals (refine aw_take 22 (hsub:=by (exact fun _ h => h.drop (by ((repeat (exact List.Sublist.refl _));done)))) (h:=?_))
        all_goals (refine aw_take 23 (hsub:=by (exact fun _ h => h.drop (by ((repeat (exact List.Sublist.refl _));done)))) (h:=?_))
        all_goals (refine aw_take 24 (hsub:=by (exact fun _ h => h.drop (by ((repeat (exact List.Sublist.refl _));done)))) (h:=?_))
        all_goals (refine aw_take 25 (hsub:=by (exact fun _ h => h.drop (by ((repeat (exact List.Sublist.refl _));done)))) (h:=?_))
        all_goals (refine aw_take 26 (hsub:=by (exact fun _ h => h.drop (by ((repeat (exact List.Sublist.refl _));done)))) (hy:=by (apply y_idxX (q:=k * 11);rfl;rfl;omega;omega;assumption;omega)) (h:=?_))
        all_goals (refine aw_take 27 (hsub:=by (exact fun _ h => h.drop (by ((repeat (exact List.Sublist.refl _));done)))) (hy:=by (apply y_ldXs (cs:=p.cells);rfl;exact fun w h => hrow w h.y.x)) (h:=?_))
        all_goals (refine aw_take 28 (hsub:=by (exact fun _ h => h.drop (by ((repeat (exact List.Sublist.refl _));done)))) (h:=?_))
        all_goals (refine aw_take 29 (hsub:=by (exact fun _ h => h.drop (by ((repeat (exact List.Sublist.refl _));done)))) (h:=?_))
        all_goals (refine aw_take 31 (hsub:=by (exact fun _ h => h.drop (by ((repeat (exact List.Sublist.refl _));done)))) (h:=?_))
        all_goals (refine aw_step 30 (h:=?_);(refine sw_mk (hc:=hfin) (hX:=fun w h => ⟨⟨h.y.x.cs,(hb w h.y.x).2⟩,h.y.x.g⟩) (h:=fun v5 X5 h5 => ?_);obtain ⟨s5,rfl,hw5⟩ := h5);apply sw_nil;refine aw_fin (hsub:=by (exact fun _ h => (h.drop (by ((repeat (exact List.Sublist.refl _));done))).imp (fun _ h => h.1))) (h:=?_))
        all_goals (refine aw_step 32 (h:=?_);(refine sw_pu (hc:=sameN_pu s5 v V) (hX:=fun w h => ⟨hw5 w h.2,h.1.y.v⟩) (h:=?_));apply sw_nil;refine aw_fin (hsub:=by (exact fun _ h => (h.drop (by ((repeat (exact List.Sublist.refl _));done))).imp (fun _ h => h.1))) (h:=?_))
        all_goals (refine aw_take 33 (hsub:=by (exact fun _ h => (h.drop (by ((repeat (exact List.Sublist.refl _));done))).imp (fun _ h => h.1))) (h:=?_))
        all_goals (refine aw_take 34 (hsub:=by (exact fun _ h => (h.drop (by ((repeat (exact List.Sublist.refl _));done))).imp (fun _ h => h.1))) (h:=?_))
        all_goals (refine aw_done (h:=?_))
        repeat' (first | apply sw_nil | apply cw_reg | refine sy_move (h:=?_) | refine sy_assign (h:=?_) | refine sy_add (h:=?_) | refine cw_cond_f (hf:=?_) | apply cw_skip | fail)
        exact ⟨(⟨k + 1,hlt⟩ : Kth P.length),(by show P.length - (k + 1) < P.length - k;omega),ok_sub ⟨rfl,rfl,rfl,rfl,rfl,rfl,trivial⟩ (List.Sublist.refl _) fun _ h => h.1.y.x⟩
      | cons h0 t0 =>
        have hgl : (h0 :: t0).getLast? = some ((h0 :: t0).getD t0.length 0) := by
          rw [List.getLast?_eq_getElem?,List.getD_eq_getElem?_getD,List.length_cons,Nat.add_sub_cancel,List.getElem?_eq_getElem (by rw [List.length_cons];omega)];rfl
        rw [hgl]
        simp only [Option.getD_some,Option.isSome_some]
        have hhp' := hhp (by rw [List.length_cons];omega)
        rw [List.length_cons] at hhn
        rw [List.length_cons]
        (refine cw_draw [cel b6 39 c.cells] (SeeH s l c sp P v V hs (h0 :: t0)) (by kernel_rfl) ?_)
        all_goals (refine aw_take 0 (hsub:=by (exact fun _ h => h.drop (by ((repeat (exact List.Sublist.refl _));done)))) (h:=?_))
        all_goals (refine aw_take 1 (hsub:=by (exact fun _ h => h.drop (by ((repeat (exact List.Sublist.refl _));done)))) (h:=?_))
        all_goals (refine aw_take 2 (hsub:=by (exact fun _ h => h.drop (by ((repeat (exact List.Sublist.refl _));done)))) (h:=?_))
        all_goals (refine aw_take 3 (hsub:=by (exact fun _ h => h.drop (by ((repeat (exact List.Sublist.refl _));done)))) (hy:=by (apply y_neqW false;rfl;rfl;(rw [decide_eq_true (by omega)];rfl))) (h:=?_))
        all_goals (refine aw_take 4 (hsub:=by (exact fun _ h => h.drop (by ((repeat (exact List.Sublist.refl _));done)))) (h:=?_))
        all_goals (refine aw_take 5 (hsub:=by (exact fun _ h => h.drop (by ((repeat (exact List.Sublist.refl _));done)))) (h:=?_))
        all_goals (refine aw_take 6 (hsub:=by (exact fun _ h => h.drop (by ((repeat (exact List.Sublist.refl _));done)))) (h:=?_))
        all_goals (refine aw_take 7 (hsub:=by (exact fun _ h => h.drop (by ((repeat (exact List.Sublist.refl _));done)))) (hy:=by (apply y_gtrW true;rfl;rfl;exact decide_eq_true (by omega))) (h:=?_))
        all_goals (refine aw_take 8 (hsub:=by (exact fun _ h => h.drop (by ((repeat (exact List.Sublist.refl _));done)))) (hy:=by (apply y_bneW false;rfl;rfl;rfl)) (h:=?_))
        all_goals (refine aw_take 9 (hsub:=by (exact fun _ h => h.drop (by ((repeat (exact List.Sublist.refl _));done)))) (h:=?_))
        all_goals (refine aw_take 10 (hsub:=by (exact fun _ h => h.drop (by ((repeat (exact List.Sublist.refl _));done)))) (h:=?_))
        all_goals (refine aw_take 11 (hsub:=by (exact fun _ h => h.drop (by ((repeat (exact List.Sublist.refl _));done)))) (h:=?_))
        all_goals (refine aw_take 12 (hsub:=by (exact fun _ h => h.drop (by ((repeat (exact List.Sublist.refl _));done)))) (h:=?_))
        all_goals (refine aw_take 13 (hsub:=by (exact fun _ h => h.drop (by ((repeat (exact List.Sublist.refl _));done)))) (h:=?_))
        all_goals (refine aw_take 14 (hsub:=by (exact fun _ h => h.drop (by ((repeat (exact List.Sublist.refl _));done)))) (h:=?_))
        all_goals (refine aw_take 15 (hsub:=by (exact fun _ h => h.drop (by ((repeat (exact List.Sublist.refl _));done)))) (h:=?_))
        all_goals (refine aw_take 16 (hsub:=by (exact fun _ h => h.drop (by ((repeat (exact List.Sublist.refl _));done)))) (h:=?_))
        all_goals (refine aw_take 17 (hsub:=by (exact fun _ h => h.drop (by ((repeat (exact List.Sublist.refl _));done)))) (hy:=by (apply y_idxX (q:=t0.length);rfl;rfl;omega;omega;assumption;omega)) (h:=?_))
        all_goals (refine aw_take 18 (hsub:=by (exact fun _ h => h.drop (by ((repeat (exact List.Sublist.refl _));done)))) (hy:=by (apply y_ldX (q:=t0.length) (u:=.int .i64 ((h0 :: t0).getD t0.length 0));rfl;exact fun w h => Ints.get h.h (by rw [List.length_cons];omega))) (h:=?_))
        all_goals (refine aw_take 19 (hsub:=by (exact fun _ h => h.drop (by ((repeat (exact List.Sublist.refl _));done)))) (hy:=by (apply y_neqW false;rfl;rfl;(rw [decide_eq_true (by omega)];rfl))) (h:=?_))
        all_goals (refine aw_take 20 (hsub:=by (exact fun _ h => h.drop (by ((repeat (exact List.Sublist.refl _));done)))) (h:=?_))
        all_goals (refine aw_take 21 (hsub:=by (exact fun _ h => h.drop (by ((repeat (exact List.Sublist.refl _));done)))) (h:=?_))
        all_goals (refine aw_take 22 (hsub:=by (exact fun _ h => h.drop (by ((repeat (exact List.Sublist.refl _));done)))) (h:=?_))
        all_goals (refine aw_take 23 (hsub:=by (exact fun _ h => h.drop (by ((repeat (exact List.Sublist.refl _));done)))) (h:=?_))
        all_goals (refine aw_take 24 (hsub:=by (exact fun _ h => h.drop (by ((repeat (exact List.Sublist.refl _));done)))) (h:=?_))
        all_goals (refine aw_take 25 (hsub:=by (exact fun _ h => h.drop (by ((repeat (exact List.Sublist.refl _));done)))) (h:=?_))
        all_goals (refine aw_take 26 (hsub:=by (exact fun _ h => h.drop (by ((repeat (exact List.Sublist.refl _));done)))) (hy:=by (apply y_idxX (q:=k * 11);rfl;rfl;omega;omega;assumption;omega)) (h:=?_))
        all_goals (refine aw_take 27 (hsub:=by (exact fun _ h => h.drop (by ((repeat (exact List.Sublist.refl _));done)))) (hy:=by (apply y_ldXs (cs:=p.cells);rfl;exact fun w h => hrow w h.y.x)) (h:=?_))
        all_goals (refine aw_take 28 (hsub:=by (exact fun _ h => h.drop (by ((repeat (exact List.Sublist.refl _));done)))) (h:=?_))
        all_goals (refine aw_take 29 (hsub:=by (exact fun _ h => h.drop (by ((repeat (exact List.Sublist.refl _));done)))) (h:=?_))
        all_goals (refine aw_take 31 (hsub:=by (exact fun _ h => h.drop (by ((repeat (exact List.Sublist.refl _));done)))) (h:=?_))
        all_goals (refine aw_step 30 (h:=?_);(refine sw_mk (hc:=hfin) (hX:=fun w h => ⟨⟨h.y.x.cs,(hb w h.y.x).2⟩,h.y.x.g⟩) (h:=fun v5 X5 h5 => ?_);obtain ⟨s5,rfl,hw5⟩ := h5);apply sw_nil;refine aw_fin (hsub:=by (exact fun _ h => (h.drop (by ((repeat (exact List.Sublist.refl _));done))).imp (fun _ h => h.1))) (h:=?_))
        all_goals (refine aw_step 32 (h:=?_);(refine sw_pu (hc:=sameN_pu s5 v V) (hX:=fun w h => ⟨hw5 w h.2,h.1.y.v⟩) (h:=?_));apply sw_nil;refine aw_fin (hsub:=by (exact fun _ h => (h.drop (by ((repeat (exact List.Sublist.refl _));done))).imp (fun _ h => h.1))) (h:=?_))
        all_goals (refine aw_take 33 (hsub:=by (exact fun _ h => (h.drop (by ((repeat (exact List.Sublist.refl _));done))).imp (fun _ h => h.1))) (h:=?_))
        all_goals (refine aw_take 34 (hsub:=by (exact fun _ h => (h.drop (by ((repeat (exact List.Sublist.refl _));done))).imp (fun _ h => h.1))) (h:=?_))
        all_goals (refine aw_done (h:=?_))
        repeat' (first | apply sw_nil | apply cw_reg | refine sy_move (h:=?_) | refine sy_assign (h:=?_) | refine sy_add (h:=?_) | refine cw_cond_f (hf:=?_) | apply cw_skip | fail)
        exact ⟨(⟨k + 1,hlt⟩ : Kth P.length),(by show P.length - (k + 1) < P.length - k;omega),ok_sub ⟨rfl,rfl,rfl,rfl,rfl,rfl,trivial⟩ (List.Sublist.refl _) fun _ h => h.1.y.x⟩
  · repeat' (first | apply sw_nil | fail)
    exact ends_ret (res_tmp rfl rfl) rfl
end Go.Proofs.YtjmpdkmboheknaaGreatDoor

namespace Go.Proofs.YtjmpdkmboheknaaGreatDoor
open Go Go.Proofs Sy Go.RowKit Go.Deep Go.ChangeShapes
section
variable {H : Type} {enc : TypeId × Value → H} {P : Program} {w : World} {base : Nat} {spare : Nat → Bool} {held : Bool}
def Reached (P : Program) (t : TypeId) (d : DataW H) : Prop := ∀ n ∈ DataW.weights P t d,n ≤ reachBytes
theorem weightsAll_mem {e : TypeId} : ∀ {l : List (DataW H)} {d : DataW H},d ∈ l → ∀ n ∈ DataW.weights P e d,n ∈ DataW.weightsAll P e l
  | [],d,h,n,hn => by cases h
  | a :: l,d,h,n,hn => by
    rw [DataW.weightsAll,List.mem_append]
    rcases List.mem_cons.1 h with rfl | h
    · exact .inl hn
    · exact .inr (weightsAll_mem h n hn)
theorem open_rowsW {α : Type} [Inhabited α] {t e : TypeId} {size bytes fuel : Nat} {cs : List Value} {x : DataW H × List MemPlace} (ht : P.underlying t = some (.slice e)) (hc : P.cellsOf e = size) (hby : P.bytesOf e = bytes) (cells : α → List Value) (Q : α → Prop)
    (each : ∀ n cs y,DataW.trod enc P w base spare held n e cs = some y → Reached P e y.1 → ∃ a,cs = cells a ∧ Q a) (h : DataW.trod enc P w base spare held fuel t cs = some x) (hW : Reached P t x.1) :
    ∃ (s : SlV) (l : List α),cs = [s.v] ∧ RowsD w size s (l.map cells) ∧ (∀ a ∈ l,Q a) ∧ s.n * bytes ≤ reachBytes := by
  rcases open_slice ht h with ⟨rfl,_⟩ | ⟨a,len,cap,m,n,D,Pl,rfl,hb,hl,hm,hmm,hx,hi⟩
  · exact ⟨⟨none,0,0⟩, [],rfl,rowsD_nil w size,by simp,by simp⟩
  · have hlm : len ≤ m := by rw [hmm];split <;> omega
    have hel : ∀ i,i < len → Reached P e (D i) := fun i hil k hk => hW k (by
      rw [hx]
      simp only [DataW.weights,ht]
      exact List.mem_cons_of_mem _ (List.mem_append_left _ (weightsAll_mem (List.mem_map.2 ⟨i,List.mem_range.2 hil,rfl⟩) k hk)))
    have h1 : ∀ i,i < len → ∃ z : α,w.cells? base (a.add (i * size)) size = some (cells z) ∧ Q z := fun i hil => by
      obtain ⟨cs',h2,h3⟩ := hi i (by omega)
      obtain ⟨z,rfl,hz⟩ := each _ _ _ h3 (hel i hil)
      rw [hc] at h2
      exact ⟨z,h2,hz⟩
    have hn := hW ((((List.range len).map D).length + ((List.range (m - len)).map fun j => D (len + j)).length) * P.bytesOf e) (by rw [hx];simp [DataW.weights,ht])
    rw [hby,List.length_map,List.length_range,Nat.add_mul] at hn
    obtain ⟨F,hF⟩ := choose_lt h1
    refine ⟨⟨some a,len,cap⟩,(List.range len).map F,rfl,⟨by simp,hl,hm,fun i cs' hcs => ?_⟩,fun z hz => ?_,by show len * bytes ≤ _;omega⟩
    · simp only [List.map_map,List.getElem?_map] at hcs
      have hil : i < len := by
        cases hr : (List.range len)[i]? with
        | none => rw [hr] at hcs;cases hcs
        | some k => have := (List.getElem?_eq_some_iff.1 hr).1;simpa using this
      rw [List.getElem?_range hil] at hcs
      simp only [Option.map_some,Function.comp_apply,Option.some.injEq] at hcs
      subst hcs
      obtain ⟨_,hlen,hat⟩ := World.cells?_some (hF i hil).1
      refine ⟨hlen,rfl,fun j u hj => ⟨rfl,fun a' ha' => ?_⟩⟩
      obtain rfl : a = a' := Option.some.inj ha'
      rw [← Go.Deep.add_add,hat j (by rw [← hlen];exact (List.getElem?_eq_some_iff.1 hj).1),hj]
    · simp only [List.mem_map,List.mem_range] at hz
      obtain ⟨i,hil,rfl⟩ := hz
      exact (hF i hil).2
theorem fld_ofW {t : TypeId} {fs : Array Field} {fuel : Nat} {cs : List Value} {x : DataW H × List MemPlace} (ht : P.underlying t = some (.struct fs)) (h : DataW.trod enc P w base spare held fuel t cs = some x) (hW : Reached P t x.1) {i : Nat} {f : Field} (hf : fs[i]? = some f) {off k : Nat} {t' : TypeId} (ho : f.offset = off) (htt : f.type = t') (hk : P.cellsOf t' = k) :
    ∃ n y,DataW.trod enc P w base spare held n t' ((cs.drop off).take k) = some y ∧ Reached P t' y.1 := by
  obtain ⟨xs,n,_,hx1,_,hlen,hg⟩ := DataW.trod_struct ht h
  have h1 := hg i f hf
  have hi : i < fs.size := (Array.getElem?_eq_some_iff.1 hf).1
  subst ho;subst htt;subst hk
  rw [List.getElem?_eq_getElem (by omega)] at h1
  refine ⟨n,_,h1,fun q hq => hW q ?_⟩
  rw [hx1]
  simp only [DataW.weights,ht]
  refine DataW.weights_mem_each (j:=i) (t:=f.type) (d:=(xs[i]'(by omega)).1) (by rw [List.getElem?_map];simp [hf]) (by rw [List.getElem?_map,List.getElem?_eq_getElem (by omega)];rfl) q hq
def ActD.Room (a : ActD) : Prop := a.to.n * 16 ≤ 140737488351232 ∧ a.wraps.n * 64 ≤ 140737488351232
theorem act_room {fuel : Nat} {a : ActD} {x : DataW H × List MemPlace} (h : DataW.trod enc Tryz.prog w base spare held fuel 46 a.cells = some x) (hW : Reached Tryz.prog 46 x.1) : a.Room := by
  obtain ⟨n9,y9,h9,w9⟩ := fld_ofW (i:=9) (off:=9) (k:=1) (t':=23) Tryz.underlying46 h hW rfl rfl rfl (by kernel_rfl)
  obtain ⟨n13,y13,h13,w13⟩ := fld_ofW (i:=13) (off:=15) (k:=1) (t':=42) Tryz.underlying46 h hW rfl rfl rfl (by kernel_rfl)
  obtain ⟨s9,l9,e9,_,_,r9⟩ := open_rowsW (α:=ByteArray) Tryz.underlying23 (size:=1) (bytes:=16) (by kernel_rfl) (by kernel_rfl) (fun s => [.string s]) (fun _ => True) (fun n cs y hy _ => by obtain ⟨s,h1,_⟩ := open_str1 hy;exact ⟨s,h1,trivial⟩) h9 w9
  haveI : Inhabited WrapD := ⟨⟨0,0,BoxD.zero⟩⟩
  obtain ⟨s13,l13,e13,_,_,r13⟩ := open_rowsW (α:=WrapD) Tryz.underlying42 (size:=5) (bytes:=64) (by kernel_rfl) (by kernel_rfl) WrapD.cells (fun _ => True) (fun n cs y hy _ => by obtain ⟨s,h1,_⟩ := open_wrap hy;exact ⟨s,h1,trivial⟩) h13 w13
  have e1 : a.to.v = s9.v := by simpa [ActD.cells] using e9
  have e2 : a.wraps.v = s13.v := by simpa [ActD.cells] using e13
  have f1 : a.to.n = s9.n := by
    cases hk : a.to;cases s9;rw [hk] at e1;simp [SlV.v] at e1;exact e1.2.1
  have f2 : a.wraps.n = s13.n := by
    cases hk : a.wraps;cases s13;rw [hk] at e2;simp [SlV.v] at e2;exact e2.2.1
  have hr : reachBytes = 140737488351232 := rfl
  exact ⟨by rw [f1, ← hr];exact r9,by rw [f2, ← hr];exact r13⟩
def ActD.Good (a : ActD) : Prop := a.Rng ∧ a.target.size ≤ maxLen ∧ a.Room
theorem ActD.Good.sm {a : ActD} (h : a.Good) : a.Sm := ⟨h.2.2.1,h.2.2.2,h.2.1⟩
theorem open_actsW {fuel : Nat} {cs : List Value} {x : DataW H × List MemPlace} (h : DataW.trod enc Tryz.prog w base spare held fuel 36 cs = some x) (hW : Reached Tryz.prog 36 x.1) : ∃ (s : SlV) (l : List ActD),cs = [s.v] ∧ Acts w s l ∧ ∀ a ∈ l,a.Good := by
  haveI : Inhabited ActD := ⟨ActD.zero⟩
  obtain ⟨s,l,h1,h2,h3,_⟩ := open_rowsW (α:=ActD) Tryz.underlying36 (size:=20) (bytes:=Tryz.prog.bytesOf 46) (by kernel_rfl) rfl ActD.cells (fun a => a.at_ w ∧ a.Good) (fun n cs y hy hw => by
    obtain ⟨a,rfl,h1,h2,h3⟩ := open_act hy
    exact ⟨a,rfl,h1,h2,h3,act_room hy hw⟩) h hW
  exact ⟨s,l,h1,⟨h2,fun a ha => (h3 a ha).1⟩,fun a ha => (h3 a ha).2⟩
theorem open_chainW {fuel : Nat} {cs : List Value} {x : DataW H × List MemPlace} (h : DataW.trod enc Tryz.prog w base spare held fuel 39 cs = some x) (hW : Reached Tryz.prog 39 x.1) : ∃ c : ChainD,cs = c.cells ∧ c.at_ w ∧ c.id.size ≤ maxLen ∧ ∀ a ∈ c.actsL,a.Good := by
  have hl := len_of Tryz.underlying39 (k:=6) (by kernel_rfl) h
  obtain ⟨n0,y0,h0⟩ := fld_of (i:=0) (off:=0) (k:=1) (t':=9) Tryz.underlying39 h rfl rfl rfl (by kernel_rfl)
  obtain ⟨n1,y1,h1,w1⟩ := fld_ofW (i:=1) (off:=1) (k:=1) (t':=36) Tryz.underlying39 h hW rfl rfl rfl (by kernel_rfl)
  obtain ⟨n2,y2,h2⟩ := fld_of (i:=2) (off:=2) (k:=1) (t':=37) Tryz.underlying39 h rfl rfl rfl (by kernel_rfl)
  obtain ⟨n3,y3,h3⟩ := fld_of (i:=3) (off:=3) (k:=1) (t':=9) Tryz.underlying39 h rfl rfl rfl (by kernel_rfl)
  obtain ⟨n4,y4,h4⟩ := fld_of (i:=4) (off:=4) (k:=1) (t':=3) Tryz.underlying39 h rfl rfl rfl (by kernel_rfl)
  obtain ⟨n5,y5,h5⟩ := fld_of (i:=5) (off:=5) (k:=1) (t':=4) Tryz.underlying39 h rfl rfl rfl (by kernel_rfl)
  match cs,hl with
  | [c0,c1,c2,c3,c4,c5],_ =>
    obtain ⟨s0,e0,b0⟩ := open_str1 h0
    obtain ⟨s1,l1,e1,b1,r1⟩ := open_actsW h1 w1
    obtain ⟨s2,e2⟩ := open_sl Tryz.underlying37 h2
    obtain ⟨s3,e3,b3⟩ := open_str1 h3
    obtain ⟨s4,e4,b4⟩ := open_int1 h4
    obtain ⟨s5,e5⟩ := open_bool1 h5
    simp at e0 e1 e2 e3 e4 e5
    exact ⟨⟨s0,s1,s2,s3,s4,s5,l1⟩,by simp [ChainD.cells,e0,e1,e2,e3,e4,e5],b1,b0,r1⟩
theorem open_chainsW {fuel : Nat} {cs : List Value} {x : DataW H × List MemPlace} (h : DataW.trod enc Tryz.prog w base spare held fuel 22 cs = some x) (hW : Reached Tryz.prog 22 x.1) : ∃ (s : SlV) (l : List ChainD),cs = [s.v] ∧ Chains w s l ∧ ∀ c ∈ l,c.id.size ≤ maxLen ∧ ∀ a ∈ c.actsL,a.Good := by
  haveI : Inhabited ChainD := ⟨ChainD.zero⟩
  obtain ⟨s,l,h1,h2,h3,_⟩ := open_rowsW (α:=ChainD) Tryz.underlying22 (size:=6) (bytes:=Tryz.prog.bytesOf 39) (by kernel_rfl) rfl ChainD.cells (fun c => c.at_ w ∧ c.id.size ≤ maxLen ∧ ∀ a ∈ c.actsL,a.Good) (fun n cs y hy hw => open_chainW hy hw) h hW
  exact ⟨s,l,h1,⟨h2,fun c hc => (h3 c hc).1⟩,fun c hc => (h3 c hc).2⟩
theorem good_ok {l : List ActD} (h : ∀ a ∈ l,a.Good) : ActsOk l := ⟨fun a ha => (h a ha).1,fun a ha => (h a ha).sm⟩
end
end Go.Proofs.YtjmpdkmboheknaaGreatDoor

namespace Go.Proofs.YtjmpdkmboheknaaGreatDoor
open Go Go.Proofs Sy Go.RowKit Go.Deep Go.ChangeShapes Go.WideShapes
theorem laidOut : laidOutB Tryz.prog = true := by kernel_rfl
theorem trodAll_stays {H : Type} {enc : TypeId × Value → H} {P : Program} (hl : laidOutB P = true) {W W' : World} {sp : Nat → Bool} : ∀ (ts : List TypeId) (vs : List Value) (ds : List (DataW H)) (ps : List MemPlace),(∀ t ∈ ts,P.readableRec t = true ∧ t < P.types.size) →
    DataW.TrodAll enc P W 0 (fun _ => true) true ts vs ds ps → (∀ p ∈ ps,W.sameAt W' p) → (∀ p ∈ ps,sp p.block = true) → DataW.TrodAll enc P W' 0 sp true ts vs ds ps
  | [],vs,ds,ps,_,h,_,_ => by
    obtain ⟨rfl,rfl,rfl⟩ := trodAll_nil h
    exact trodAll_mk0
  | t :: ts,vs,ds,ps,ht,h,hs,hp => by
    obtain ⟨v,vs',d,ds',p,q,rfl,rfl,rfl,h1,h2⟩ := trodAll_cons h
    exact trodAll_cons_mk (WideElems.Trod_stays hl (ht t List.mem_cons_self).1 (ht t List.mem_cons_self).2 h1 (fun x hx => hs x (List.mem_append_left _ hx)) (fun x hx => hp x (List.mem_append_left _ hx)))
      (trodAll_stays hl ts vs' ds' q (fun u hu => ht u (List.mem_cons_of_mem _ hu)) h2 (fun x hx => hs x (List.mem_append_right _ hx)) (fun x hx => hp x (List.mem_append_right _ hx)))
theorem gam_start {X : World → Prop} {w : World} (hX : X w) (hk : ∀ w' : World,(∀ k,k < w.heap.size → w'.heap[k]? = w.heap[k]?) → X w') : Gam [] (fps []) w [] X w :=
  ⟨Fr.refl _ _,fun k hk => by simp at hk,by simp [fps],fun k hk => by simp [fps] at hk,fun r hr => by simp at hr,⟨fun k => k < w.heap.size,fun k hk => ⟨hk,by simp [fps]⟩,hk⟩⟩
theorem calls_of_pu {P : Program} {f : FuncId} {args : Array Value} {X : World → Prop} {v : Value} {w : World} (h : Pu P f args X v) (hX : X w) (hk : ∀ w' : World,(∀ k,k < w.heap.size → w'.heap[k]? = w.heap[k]?) → X w') :
    Calls P f args w fun e w' => e = .returned v ∧ Below w.heap.size w w' := by
  unfold Pu at h
  exact (Ct.run h w [] (gam_start hX hk)).mono fun e w' ⟨u,R,X',he,⟨hu,hR⟩,G⟩ => ⟨by rw [he,hu],G.fr.below⟩
theorem laidK : Rows.laid_agora_sum_constants (H:=Unit) = Lib.tabData .u32 kC := by kernel_rfl
theorem laidI : Rows.laid_agora_sum_initial (H:=Unit) = Lib.tabData .u32 iniC := by kernel_rfl
theorem cellsAt_of {W : World} {name : String} {zs : List Int} {g : Nat} (h : Lib.TabIs Tryz.prog W name .u32 zs) (hg : Tryz.prog.globalNamed name = some g) : CellsAt g (u32s zs) W := fun j v hj => by
  have hj' : j < zs.length := by have := (List.getElem?_eq_some_iff.1 hj).1;simpa [u32s] using this
  rw [h.cell hg j hj']
  simp only [u32s,List.getElem?_map,List.getElem?_eq_getElem hj',Option.map_some,Option.some.injEq] at hj
  rw [List.getD_eq_getElem?_getD,List.getElem?_eq_getElem hj', ← hj]
  rfl
theorem glob_of {W : World} (h : laidMet Tryz.prog [("agora/sum.constants",Rows.laid_agora_sum_constants),("agora/sum.initial",Rows.laid_agora_sum_initial)] W) : Glob W := by
  rw [laidK,laidI] at h
  have h1 := Lib.tabIs_of_head (g:=1) (t:=184) (e:=130) (n:=64) (by kernel_rfl) (by kernel_rfl) Tryz.underlying184 Tryz.underlying130 (by kernel_rfl) (by kernel_rfl) h
  obtain ⟨ps,⟨g',t',cs,fuel,p,q,hg',ht',hvar,hd,hrest,hpq⟩,_⟩ := h
  obtain ⟨g2,t2,cs2,fuel2,p2,q2,hg2,ht2,hvar2,hd2,_,_⟩ := hrest
  have h2 : Lib.TabIs Tryz.prog W "agora/sum.initial" .u32 iniC := by
    have e1 : Tryz.prog.globalNamed "agora/sum.initial" = some 0 := by kernel_rfl
    have e2 : (Tryz.prog.globals[0]?).map (·.type) = some 131 := by kernel_rfl
    obtain rfl := Option.some.inj (e1.symm.trans hg2)
    obtain rfl := Option.some.inj (e2.symm.trans ht2)
    unfold Lib.TabIs
    rw [hvar2, ← Lib.cells_of_tab Tryz.underlying131 Tryz.underlying130 (by kernel_rfl) (by kernel_rfl) hd2]
  exact ⟨cellsAt_of h2 (by kernel_rfl),cellsAt_of h1 (by kernel_rfl)⟩
def layRow (l : List Value) : Obj → Obj
  | .cells _ t frozen => .cells l.toArray t frozen
  | o => o
noncomputable def laidWorld (os : Os) : World :=
  { World.holding Tryz.prog os ⟨#[],#[], []⟩ with heap := ((World.holding Tryz.prog os ⟨#[],#[], []⟩).heap.modify 0 (layRow (u32s iniC))).modify 1 (layRow (u32s kC)) }
end Go.Proofs.YtjmpdkmboheknaaGreatDoor
