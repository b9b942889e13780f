/- Joined by program out of: Ji Nb Nf Ng Nc Nd Pd Pf. -/
import Derived.Test.YtjmpdkmboheknaaGreatDoorQ9
set_option linter.unusedVariables false
set_option linter.unusedSimpArgs false
namespace Go.Proofs.YtjmpdkmboheknaaGreatDoor
open Go Go.Proofs Sy
theorem mk_mono {P : Program} {f : FuncId} {args : Array Value} {X : World → Prop} {Φ Ψ : Value → (World → Prop) → Prop} (h : Mk P f args X Φ) (hp : ∀ u X',Φ u X' → Ψ u X') : Mk P f args X Ψ := by
  unfold Mk at *
  exact Ct.mono h fun v R X' ⟨a,b⟩ => ⟨hp _ _ a,b⟩
def rI0 (it : ItemD) : Bool := rightB it.act
def dI0 (it : ItemD) : ByteArray := digV it.act
theorem rightI0 (a : ActD) : Pu Tryz.prog 72 #[(ofActI a).v] (fun w => (ofActI a).at_ w) (.bool (rI0 (ofActI a))) := pu_weak (itemRight_pu a) fun w h => h.1
theorem digI0 (a : ActD) (hr : a.Rng) : Pu Tryz.prog 20 #[(ofActI a).v] (fun w => (ofActI a).at_ w ∧ Glob w) (.string (dI0 (ofActI a))) := pu_weak (digest_pu a hr) fun w h => ⟨h.1.1,h.2⟩
def oneW (id : ByteArray) : OfW := ⟨[],id,fun _ => none,fun _ _ => false,fun _ => ⟨#[]⟩,verV,0⟩
structure BegOk (a : ActD) : Prop where
  rng : a.Rng
  sm : a.Sm
  right : rightB a = true
  kind : a.kind = 0
  seq : a.seq = 0
  prev : a.prev = ⟨#[]⟩
  id : idV a.n = a.author
  ver : verV a.n a = true
theorem oneHyp (ki : SlV) (a : ActD) (h : BegOk a) : OfHyp ⟨none,0,0⟩ ki (oneW a.author) (fun L => L = [a]) (fun w => Items w ki [ofActI a]) where
  acts := by
    have hm := knownActs_mk ⟨none,0,0⟩ ki [ofActI a] a.author rI0 dI0 (fun it hit => by rw [List.mem_singleton.1 hit];exact rightI0 a) (fun it hit => by rw [List.mem_singleton.1 hit];exact digI0 a h.rng) (show (1 : Nat) ≤ 1000 by decide) sortA_one
    refine mk_mono hm fun u X' hu => ?_
    obtain ⟨s,L,h1,h2,h3⟩ := hu
    have hsel : selA a.author rI0 [ofActI a] = [a] := by
      have : selB a.author rI0 (ofActI a) = true := by
        show ((decide ((0 : Int) = 0) && seqB a.author a.author) && rightB a) = true
        rw [seqB_self,h.right]
        rfl
      rw [selA,List.filter_cons,if_pos this,List.filter_nil]
      rfl
    rw [hsel] at h2
    exact ⟨s,L,h1,List.perm_singleton.1 h2,h3⟩
  ok := fun L hL => by
    subst hL
    exact ⟨⟨fun x hx => by rw [List.mem_singleton.1 hx];exact h.rng,fun x hx => by rw [List.mem_singleton.1 hx];exact h.sm⟩,show (1 : Nat) ≤ 100000 by decide⟩
  bB := Nat.zero_le _
  won := fun g _ => by
    have hno : selC a.author rI0 [ofActI a] = [] := by
      have : selBC a.author rI0 (ofActI a) = false := rfl
      rw [selC,List.filter_cons,this]
      rfl
    exact wonNone_pu ki [ofActI a] a.author (g : Nat) rI0 dI0 (fun it hit => by rw [List.mem_singleton.1 hit];exact rightI0 a) (fun it hit => by rw [List.mem_singleton.1 hit];exact digI0 a h.rng) (show (1 : Nat) ≤ 1000 by decide) sortC_one hno
  bnd := fun g c hc => by cases hc
  clm := fun g c hc => by cases hc
  dg := fun g c hc => by cases hc
  ver := fun L hL x hx p => by
    subst hL
    rw [List.mem_singleton.1 hx]
    exact actVerify_pu p a h.rng
theorem ofOne_mk (ki : SlV) (a : ActD) (h : BegOk a) : Mk Tryz.prog 51 #[.agg #[.slice none 0 0,ki.v],.string a.author] (fun w => Items w ki [ofActI a] ∧ Glob w)
    (fun u X' => ∃ sa sk : SlV,u = (⟨a.author,sa,sk,digV a,0,false, [a]⟩ : ChainD).v ∧ ∀ w,X' w → Acts w sa [a] ∧ Keyz w sk [⟨0,a.n,a.m⟩]) := by
  refine mk_mono (of19_mk ⟨none,0,0⟩ ki (oneW a.author) _ _ (oneHyp ki a h)) fun u X' hu => ?_
  obtain ⟨L,sa,sk,st,fork,hL,hres,h1,h2⟩ := hu
  subst hL
  have hpos : posB 0 ⟨#[]⟩ a = true := by rw [posB,h.seq,h.prev,seqB_self];rfl
  have hfirst : firstB ((oneW a.author).at [a]) a = true := by
    show (decide (a.kind = 0) && seqB (idV a.n) a.author && verV a.n a) = true
    rw [h.kind,h.id,seqB_self,h.ver]
    rfl
  have hfl : firstL ((oneW a.author).at [a]) = [a] := by
    show ([a].filter (posB 0 ⟨#[]⟩)).filter _ = [a]
    simp [hpos,hfirst]
  have hbeg : begS a = ⟨[a], [⟨0,a.n,a.m⟩],digV a,0⟩ := by
    rw [begS,addS,h.kind]
    rfl
  have hcand : candL ((oneW a.author).at [a]) (begS a) = [] := by
    have : posB 1 (digV a) a = false := by rw [posB,h.seq];rfl
    rw [candL,hbeg]
    show ([a].filter (posB 1 (digV a))).filter _ = []
    simp [this]
  have hstep : stepS ((oneW a.author).at [a]) (begS a) = none := by
    have hr : regS ((oneW a.author).at [a]) (begS a) = none := rfl
    rw [stepS,hr,hcand]
    rfl
  have hfin : finS ((oneW a.author).at [a]) a = begS a := run_stop hstep _
  rw [OfRes,hfl] at hres
  obtain ⟨e1,e2⟩ := (show st = finS ((oneW a.author).at [a]) a ∧ fork = decide (1 < (candL ((oneW a.author).at [a]) (finS ((oneW a.author).at [a]) a)).length) from hres)
  rw [hfin] at e1 e2
  rw [hcand] at e2
  subst e1
  subst e2
  refine ⟨sa,sk, ?_,fun w hw => ?_⟩
  · rw [h1,hbeg]
    rfl
  · have := h2 w hw
    rw [hbeg] at this
    exact this
end Go.Proofs.YtjmpdkmboheknaaGreatDoor

namespace Go.Proofs.YtjmpdkmboheknaaGreatDoor
open Go Go.Proofs Sy
def ItemTo (b : ActD) (u : Value) (X : World → Prop) : Prop := ∃ s1 s2 : SlV,u = (ofActI (b.re s1 s2)).v ∧ s1.n = b.to.n ∧ s2.n = b.wraps.n ∧ ∀ w,X w → (b.re s1 s2).at_ w
set_option maxRecDepth 20000 in
theorem ofActR_mk (a : ActD) (hr : a.Rng) (hs : a.Sm) : Mk Tryz.prog 21 #[a.v] (ActD.at_ · a) (ItemTo a) := by
  refine mk_of_cw2 (args:=[_]) _ Tryz.func21 rfl Tryz.ntmps21 rfl fun av bor w0 => ?_
  repeat' (first | apply sw_nil | apply cw_seq | apply cw_reg | refine sy_fld (h:=?_) | refine sy_ld (h:=?_) | refine sw_alloc (h:=fun _ => ?_) | refine sw_box (h:=fun _ => ?_) | fail)
  refine sw_mk (hc:=cloneS_mk a.to (strs a.toL) hs.to (fun cs hcs => by simp only [strs,List.mem_map] at hcs;obtain ⟨x,_,rfl⟩ := hcs;rfl)) (hX:=fun w h => h.1) (h:=fun v1 X1 h1 => ?_)
  obtain ⟨s1,rfl,hn1,hw1⟩ := h1
  repeat' (first | apply sw_nil | apply cw_seq | apply cw_reg | refine sy_fld (h:=?_) | refine sy_ld (h:=?_) | refine sw_st1 (h:=?_) | fail)
  refine sw_mk (hc:=cloneW_mk a.wraps (a.wrapsL.map WrapD.cells) hs.wraps (fun cs hcs => by simp only [List.mem_map] at hcs;obtain ⟨x,_,rfl⟩ := hcs;rfl)) (hX:=fun w h => h.1.2) (h:=fun v2 X2 h2 => ?_)
  obtain ⟨s2,rfl,hn2,hw2⟩ := h2
  repeat' (first | apply sw_nil | apply cw_seq | apply cw_reg | refine sy_fld (h:=?_) | refine sy_ldAll (h:=?_) | refine sw_st1 (h:=?_) | refine sw_stAll (h:=?_) | apply cw_ret | (refine sy_build (h:=?_)))
  have e1 : s1.n = a.to.n := by rw [hn1,hr.to_len];simp [strs]
  have e2 : s2.n = a.wraps.n := by rw [hn2,hr.wraps_len];simp
  apply ends_ret;refine res_cell rfl rfl (by (repeat (exact List.mem_cons_self))) ?_
  · rfl
  refine ⟨s1,s2,rfl,e1,e2,fun w h => ⟨?_, ?_⟩⟩
  · exact hw1 w h.1.1.2
  · exact hw2 w h.1.2
theorem rng_reN {a : ActD} (h : a.Rng) {s1 s2 : SlV} (h1 : s1.n = a.to.n) (h2 : s2.n = a.wraps.n) : (a.re s1 s2).Rng := ⟨h.ints,h.wints,h1.trans h.to_len,h2.trans h.wraps_len⟩
theorem sm_reN {a : ActD} (h : a.Sm) {s1 s2 : SlV} (h1 : s1.n = a.to.n) (h2 : s2.n = a.wraps.n) : (a.re s1 s2).Sm := ⟨by show s1.n * 16 ≤ _;rw [h1];exact h.to,by show s2.n * 64 ≤ _;rw [h2];exact h.wraps,h.target⟩
theorem ver_re {a : ActD} (p : Int) {s1 s2 : SlV} (h1 : s1.n = a.to.n) (h2 : s2.n = a.wraps.n) : verV p (a.re s1 s2) = verV p a := by
  have hr := right_re h1 h2
  have hc : coreV (a.re s1 s2) = coreV a := rfl
  have he : (a.re s1 s2).e = a.e := rfl
  have hs : (a.re s1 s2).s = a.s := rfl
  simp only [verV,actCore,hr,hc,he,hs]
theorem BegOk.re {a : ActD} (h : BegOk a) {s1 s2 : SlV} (h1 : s1.n = a.to.n) (h2 : s2.n = a.wraps.n) : BegOk (a.re s1 s2) :=
  ⟨rng_reN h.rng h1 h2,sm_reN h.sm h1 h2,(right_re h1 h2).trans h.right,h.kind,h.seq,h.prev,h.id,(ver_re _ h1 h2).trans h.ver⟩
theorem nk_rngU : nkU0.Rng := ⟨by decide +kernel,fun w hw => (List.not_mem_nil hw).elim,rfl,rfl⟩
theorem nk_smU : nkU0.Sm := ⟨by decide,by decide,by decide⟩
theorem nk_rngA : nkA0.Rng := ⟨by decide +kernel,fun w hw => (List.not_mem_nil hw).elim,rfl,rfl⟩
theorem nk_smA : nkA0.Sm := ⟨by decide,by decide,by decide⟩
theorem nk_beg : BegOk nkA0 := ⟨nk_rngA,nk_smA,nkr_0,rfl,rfl,rfl,nk_id,nk_ver⟩
theorem res_cells2 {P : Program} {fn : Func} {N t u ty ty2 n n2 : Nat} {s : St} {b b2 T T2 : Nat} {cs cs2 : List Value} [hI : TyAgg P ty n] [hI2 : TyAgg P ty2 n2] (hr : fn.results = #[.cell t ty,.cell u ty2]) (h : Sy.look s.env t = some (.pointer (some ⟨b,0,none⟩))) (h' : Sy.look s.env u = some (.pointer (some ⟨b2,0,none⟩))) (hm : cel b T cs ∈ s.loc) (hn : cs.length = n) (hm2 : cel b2 T2 cs2 ∈ s.loc) (hn2 : cs2.length = n2) :
    Res1 P fn N s (.tuple #[.agg cs.toArray,.agg cs2.toArray]) := fun av bor w0 a w ok => by
  obtain ⟨D,h1,h2,h3⟩ := aggSize_spec hI.out
  obtain ⟨D2,g1,g2,g3⟩ := aggSize_spec hI2.out
  have ht := ok.env t _ h
  have hu := ok.env u _ h'
  have l1 : (loadVar ty ⟨b,0,none⟩).run P w = .ok (.agg cs.toArray) w := by
    cases D <;> simp at h2
    · exact run_loadVar_row w b T ty cs.toArray (0,0) _ (cel_in ok hm) h1 rfl (by rw [h3];simp [hn])
    · exact run_loadVar_row w b T ty cs.toArray (0,0) _ (cel_in ok hm) h1 rfl (by rw [h3];simp [hn])
  have l2 : (loadVar ty2 ⟨b2,0,none⟩).run P w = .ok (.agg cs2.toArray) w := by
    cases D2 <;> simp at g2
    · exact run_loadVar_row w b2 T2 ty2 cs2.toArray (0,0) _ (cel_in ok hm2) g1 rfl (by rw [g3];simp [hn2])
    · exact run_loadVar_row w b2 T2 ty2 cs2.toArray (0,0) _ (cel_in ok hm2) g1 rfl (by rw [g3];simp [hn2])
  simp [results,hr,ht,hu,asAddr,l1,l2]
end Go.Proofs.YtjmpdkmboheknaaGreatDoor

namespace Go.Proofs.YtjmpdkmboheknaaGreatDoor
open Go Go.Proofs Sy
def ownsB (k : KyD) (c : ChainD) (kl : List KeyD) : Bool := (keyV c.acts.n kl (c.acts.n : Int)).isSome && rightK k && decide (k.p = ((keyV c.acts.n kl (c.acts.n : Int)).getD KeyD.zero).public_)
theorem owns_pu (k : KyD) (c : ChainD) (kl : List KeyD) : Pu Tryz.prog 53 #[k.v,c.v] (fun w => c.at_ w ∧ Keyz w c.keys kl) (.bool (ownsB k c kl)) := by
  refine pu_of_cw (args:=[_,_]) _ Tryz.func53 rfl Tryz.ntmps53 rfl fun av bor w0 => ?_
  have hk := chainKey_pu c kl (c.acts.n : Int)
  have hr := signRight_pu k
  unfold ownsB
  unfold keyOP at hk
  generalize keyV c.acts.n kl (c.acts.n : Int) = o at *
  generalize hs : o.isSome = s at hk
  generalize o.getD KeyD.zero = y at *
  generalize rightK k = r at *
  cases s <;> cases r
  all_goals
    repeat' (first | apply sw_nil | apply cw_seq | apply cw_reg | refine sy_move (h:=?_) | refine sy_assign (h:=?_) | refine sy_fld (h:=?_) | refine sy_ld (h:=?_) | refine sy_ldAll (h:=?_) | refine sy_pick_t (h:=?_) | refine sy_pick_f (h:=?_) | refine sy_eql (h:=?_) | refine sy_len (h:=?_) | refine sy_extract (h:=?_) | refine sw_skipT (h:=?_) | refine sw_alloc (h:=fun _ => ?_) | refine sw_box (h:=fun _ => ?_) | refine sw_stAll (h:=?_) | apply cw_ret | (refine sw_pu (hc:=hk) (hX:=fun _ h => h) (h:=?_)) | (refine sw_pu (hc:=hr) (hX:=fun _ _ => trivial) (h:=?_)) | fail)
    exact ends_ret (res_tmp rfl rfl) rfl
theorem written_pu (kd : Int) : Pu Tryz.prog 52 #[.int .i64 kd] (fun _ => True) (.bool (postK kd || decide (kd = 14))) := by
  refine pu_of_cw (args:=[_]) _ Tryz.func52 rfl Tryz.ntmps52 rfl fun av bor w0 => ?_
  have hp := posting_pu kd
  generalize postK kd = q at *
  cases q
  all_goals
    repeat' (first | apply sw_nil | apply cw_seq | apply cw_reg | refine sy_move (h:=?_) | refine sy_assign (h:=?_) | refine sy_pick_t (h:=?_) | refine sy_pick_f (h:=?_) | refine sy_eql (h:=?_) | refine sw_skipF (h:=?_) | apply cw_ret | (refine sw_pu (hc:=hp) (hX:=fun _ _ => trivial) (h:=?_)) | fail)
    exact ends_ret (res_tmp rfl rfl) rfl
end Go.Proofs.YtjmpdkmboheknaaGreatDoor

namespace Go.Proofs.YtjmpdkmboheknaaGreatDoor
open Go Go.Proofs Sy
def pubD (c : ChainD) (a : ActD) (text : ByteArray) (s : SlV) : ActD := { draftV c a.kind a.time with object := a.object,scope := a.scope,group := a.group,to := s,text := text }
def PostAt26 (k : KyD) (c : ChainD) (a : ActD) (text : ByteArray) (u : Value) (X : World → Prop) : Prop := ∃ s s1 s2 : SlV,s.n = 0 ∧ s1.n = (actSignV k (pubD c a text s)).to.n ∧ s2.n = (actSignV k (pubD c a text s)).wraps.n ∧ u = .tuple #[((actSignV k (pubD c a text s)).re s1 s2).v,.int .i64 0] ∧ ∀ w,X w → ((actSignV k (pubD c a text s)).re s1 s2).at_ w
set_option maxRecDepth 20000 in
set_option maxHeartbeats 16000000 in
theorem postPub_mk (k : KyD) (c : ChainD) (kl : List KeyD) (a : ActD) (text : ByteArray) (hc : ActsOk c.actsL) (hkd : (postK a.kind || decide (a.kind = 14)) = true) (hsc : a.scope = 0) (hto : a.to = ⟨none,0,0⟩) (htl : a.toL = []) (hown : ownsB k c kl = true)
    (hrt : ∀ s : SlV,s.n = 0 → rightB (pubD c a text s) = true) (hft : ∀ s : SlV,s.n = 0 → fitsV c (pubD c a text s) (idxV c.actsL a.object) = true) (hrg : ∀ s : SlV,s.n = 0 → (pubD c a text s).Rng ∧ (pubD c a text s).Sm) :
    Mk Tryz.prog 25 #[k.v,c.v,a.v,.string text] (fun w => ((c.at_ w ∧ Keyz w c.keys kl) ∧ a.at_ w) ∧ Glob w) (PostAt26 k c a text) := by
  refine mk_of_cw2 (args:=[_,_,_,_]) _ Tryz.func25 rfl Tryz.ntmps25 rfl fun av bor w0 => ?_
  have hwr := written_pu a.kind
  rw [hkd] at hwr
  have how := owns_pu k c kl
  rw [hown] at how
  have hdr := draft_pu c a.kind a.time
  have hcl := cloneS_mk a.to (strs []) (by rw [hto];decide) (strs_ones _)
  have hg1 : ¬ a.scope < 0 := by omega
  have hg2 : ¬ (3 : Int) < a.scope := by omega
  repeat' (first | refine sw_yield (y_lssW false rfl rfl (decide_eq_false hg1)) rfl (by (first | with_reducible rfl | with_reducible exact Bool.not_true)) rfl ?_ | refine sy_gtrF (hab:=hg2) (h:=?_) | refine sy_eqlT (hab:=hsc) (h:=?_) | apply sw_nil | apply cw_seq | apply cw_reg | refine sy_move (h:=?_) | refine sy_assign (h:=?_) | refine sy_fld (h:=?_) | refine sy_ld (h:=?_) | refine sy_ldAll (h:=?_) | refine sy_pick_f (h:=?_) | refine sy_not (h:=?_) | refine sw_alloc (h:=fun _ => ?_) | refine sw_box (h:=fun _ => ?_) | refine sw_st1 (h:=?_) | refine sw_stAll (h:=?_) | refine cw_cond_t (ht:=?_) | refine cw_cond_f (hf:=?_) | apply cw_skip | (refine sw_pu (hc:=hwr) (hX:=fun _ _ => trivial) (h:=?_)) | (refine sw_pu (hc:=how) (hX:=fun _ h => h.1.1) (h:=?_)) | (refine sw_pu (hc:=hdr) (hX:=fun _ _ => trivial) (h:=?_)) | (refine sw_mk (hc:=hcl) (hX:=fun w h => by have h1 := h.1.2.1;rw [htl] at h1;exact h1) (h:=fun v1 X1 h1 => ?_);obtain ⟨s,rfl,hn1,hw1⟩ := h1) | fail)
  have hn0 : s.n = 0 := hn1
  obtain ⟨p,hp⟩ : ∃ p,pubD c a text s = p := ⟨_,rfl⟩
  have hri := actRight_pu p
  rw [show rightB p = true from by rw [← hp];exact hrt s hn0] at hri
  have hpo : p.object = a.object := by rw [← hp];rfl
  have hfi := chFits_pu c hc p
  rw [hpo,show fitsV c p (idxV c.actsL a.object) = true from by rw [← hp];exact hft s hn0] at hfi
  obtain ⟨hpr,hps⟩ := hrg s hn0
  rw [hp] at hpr hps
  have hsi := actSign_mk k p hpr hps
  have hpat : ∀ w,X1 w → p.at_ w := fun w h => by
    rw [← hp]
    exact ⟨hw1 w h,rowsD_nil w 5⟩
  have hpv : (.agg ((((((draftV c a.kind a.time).cells.set 5 (Value.string a.object)).set 7 (Value.int IntKind.i64 a.scope)).set 8 (Value.string a.group)).set 9 s.v).set 10 (Value.string text)).toArray) = p.v := by rw [← hp];rfl
  rw [hpv]
  have hcs : ((((((draftV c a.kind a.time).cells.set 5 (Value.string a.object)).set 7 (Value.int IntKind.i64 a.scope)).set 8 (Value.string a.group)).set 9 s.v).set 10 (Value.string text)) = p.cells := by rw [← hp];rfl
  rw [hcs]
  repeat' (first | apply sw_nil | apply cw_seq | apply cw_reg | refine sy_assign (h:=?_) | refine sy_ldAll (h:=?_) | refine sy_not (h:=?_) | refine sw_stAll (h:=?_) | refine cw_cond_f (hf:=?_) | apply cw_skip | apply cw_ret | (refine sw_pu (hc:=hri) (hX:=fun w h => hpat w h.2) (h:=?_)) | (refine sw_pu (hc:=hfi) (hX:=fun w h => ⟨⟨h.1.1.1.1,h.1.2⟩,hpat w h.2⟩) (h:=?_)) | (refine sw_mk (hc:=hsi) (hX:=fun w h => ⟨hpat w h.2,h.1.2⟩) (h:=fun v2 X2 h2 => ?_);obtain ⟨s1,s2,rfl,hn2,hn3,hat⟩ := h2) | fail)
  subst hp
  exact ends_ret (res_cellTmp rfl rfl rfl (by (repeat (first | exact List.mem_cons_self | apply List.mem_cons_of_mem))) (by rfl)) ⟨s,s1,s2,hn0,hn2,hn3,rfl,fun w h => hat w h.1.2⟩
end Go.Proofs.YtjmpdkmboheknaaGreatDoor

namespace Go.Proofs.YtjmpdkmboheknaaGreatDoor
open Go Go.Proofs Sy
theorem itemsNil (w : World) : Items w ⟨none,0,0⟩ [] := ⟨rowsD_nil w 49,fun i h => by cases h⟩
def begC (sa sk : SlV) (x : ActD) : ChainD := ⟨nkI,sa,sk,nkD0,0,false, [x]⟩
def BegunAt (u : Value) (X : World → Prop) : Prop := ∃ (ks sa sk s1 s2 : SlV),s1.n = 0 ∧ s2.n = 0 ∧ u = .tuple #[.agg #[.slice none 0 0,ks.v],(begC sa sk (nkA0.re s1 s2)).v] ∧ ∀ w,X w → Acts w sa [nkA0.re s1 s2] ∧ Keyz w sk [⟨0,nkK.p,0⟩]
set_option maxHeartbeats 8000000 in
theorem begun_mk : Mk Tryz.prog 24 #[nkK.v] Glob BegunAt := by
  refine mk_of_cw2 (args:=[_]) _ Tryz.func24 rfl Tryz.ntmps24 rfl fun av bor w0 => ?_
  have hid : Pu Tryz.prog 47 #[.int .i64 nkK.p] Glob (.string nkI) := by
    have h := identOf_pu nkK.p (by decide +kernel)
    rw [show idV nkK.p = nkI from nk_id] at h
    exact h
  have hsg := actSign_mk nkK nkU0 nk_rngU nk_smU
  rw [nks_0] at hsg
  repeat' (first | refine sy_build (cs:=nkU0.cells) (hf:=by rfl) (h:=?_) | apply sw_nil | apply cw_seq | apply cw_reg | refine sy_move (h:=?_) | refine sy_assign (h:=?_) | refine sy_fld (h:=?_) | refine sy_ld (h:=?_) | refine sy_ldAll (h:=?_) | refine sw_alloc (h:=fun _ => ?_) | refine sw_box (h:=fun _ => ?_) | refine sw_stAll (h:=?_) | (refine sw_pu (hc:=hid) (hX:=fun w h => h) (h:=?_)) | (refine sw_mk (hc:=hsg) (hX:=fun w h => ⟨⟨rowsD_nil w 1,rowsD_nil w 5⟩,h⟩) (h:=fun v1 X1 h1 => ?_);obtain ⟨s1,s2,rfl,hn1,hn2,hat⟩ := h1) | fail)
  rename_i b1 b2 b3 b5
  obtain ⟨x,hx⟩ : ∃ x,nkA0.re s1 s2 = x := ⟨_,rfl⟩
  have hxb : BegOk x := by rw [← hx];exact nk_beg.re hn1 hn2
  have hxa : x.author = nkI := by rw [← hx];rfl
  rw [hx] at hat ⊢
  have hof := ofActR_mk x hxb.rng hxb.sm
  have hadd : ∀ s3 s4 : SlV,s3.n = x.to.n → s4.n = x.wraps.n → Mk Tryz.prog 49 #[.agg #[.slice none 0 0,.slice none 0 0],(ofActI (x.re s3 s4)).v] (fun w => (Items w ⟨none,0,0⟩ [] ∧ (ofActI (x.re s3 s4)).at_ w) ∧ Glob w)
      (fun u X' => ∃ s : SlV,u = .tuple #[.agg #[.slice none 0 0,s.v],.bool true] ∧ ∀ w,X' w → Items w s [ofActI (x.re s3 s4)]) := fun s3 s4 h3 h4 => by
    have hb := hxb.re h3 h4
    have hri := rightI0 (x.re s3 s4)
    rw [show rI0 (ofActI (x.re s3 s4)) = true from hb.right] at hri
    exact add_mk ⟨none,0,0⟩ ⟨none,0,0⟩ [] (ofActI (x.re s3 s4)) rI0 dI0 hri (signedA_pu _ _ hb.right) (digI0 _ hb.rng) (fun y hy => by cases hy) (by decide) (fun y hy => by cases hy)
  have hone : ∀ s3 s4 s : SlV,s3.n = x.to.n → s4.n = x.wraps.n → Mk Tryz.prog 51 #[.agg #[.slice none 0 0,s.v],.string nkI] (fun w => Items w s [ofActI (x.re s3 s4)] ∧ Glob w)
      (fun u X' => ∃ sa sk : SlV,u = (⟨nkI,sa,sk,digV (x.re s3 s4),0,false, [x.re s3 s4]⟩ : ChainD).v ∧ ∀ w,X' w → Acts w sa [x.re s3 s4] ∧ Keyz w sk [⟨0,(x.re s3 s4).n,(x.re s3 s4).m⟩]) := fun s3 s4 s h3 h4 => by
    have h := ofOne_mk s (x.re s3 s4) (hxb.re h3 h4)
    rw [show (x.re s3 s4).author = nkI from hxa] at h
    exact h
  (refine cw_draw [cel b5 46 x.cells] (fun w => Glob w ∧ X1 w) (by kernel_rfl) ?_)
  all_goals (refine aw_take 1 (hsub:=by (exact fun _ h => h.drop (by ((repeat (first | exact List.nil_sublist _ | with_reducible apply List.Sublist.cons_cons));done)))) (h:=?_))
  all_goals (refine aw_two 0 7 (h:=?_) (h':=?_);(focus (((refine sw_pu (hc:=new0_pu) (hX:=fun _ _ => trivial) (h:=?_));apply sw_nil;refine aw_fin (hsub:=by (exact fun _ h => h.drop (by ((repeat (first | exact List.nil_sublist _ | with_reducible apply List.Sublist.cons_cons));done)))) (h:=?_));all_goals ((refine aw_two 2 7 (h:=?_) (h':=?_);(focus (((refine sw_mk (hc:=hof) (hX:=fun w h => hat w h.2) (h:=fun v2 X2 h2 => ?_);obtain ⟨s3,s4,rfl,hn3,hn4,hat2⟩ := h2);apply sw_nil;refine aw_fin (hsub:=by (exact fun _ h => (h.drop (by ((repeat (first | exact List.nil_sublist _ | with_reducible apply List.Sublist.cons_cons));done))).imp (fun _ h => h.1))) (h:=?_));all_goals ((refine aw_two 3 7 (h:=?_) (h':=?_);(focus (((refine sw_mk (hc:=hadd s3 s4 hn3 hn4) (hX:=fun w h => ⟨⟨itemsNil w,hat2 w h.2,rowsD_nil w 1⟩,h.1.1⟩) (h:=fun v3 X3 h3 => ?_);obtain ⟨s,rfl,hit⟩ := h3);apply sw_nil;refine aw_fin (hsub:=by (exact fun _ h => (h.drop (by ((repeat (first | exact List.nil_sublist _ | with_reducible apply List.Sublist.cons_cons));done))).imp (fun _ h => h.1.1))) (h:=?_));all_goals ((refine aw_take 4 (hsub:=by (exact fun _ h => (h.drop (by ((repeat (first | exact List.nil_sublist _ | with_reducible apply List.Sublist.cons_cons));done))).imp (fun _ h => h.1.1))) (h:=?_));all_goals (refine aw_take 5 (hsub:=by (exact fun _ h => (h.drop (by ((repeat (first | exact List.nil_sublist _ | with_reducible apply List.Sublist.cons_cons));done))).imp (fun _ h => h.1.1))) (h:=?_));all_goals (refine aw_take 6 (hsub:=by (exact fun _ h => (h.drop (by ((repeat (first | exact List.nil_sublist _ | with_reducible apply List.Sublist.cons_cons));done))).imp (fun _ h => h.1.1))) (h:=?_));all_goals (refine aw_step 7 (h:=?_);(refine sw_alloc (h:=fun _ => ?_));apply sw_nil;refine aw_fin (hsub:=by (exact fun _ h => (h.drop (by ((repeat (first | exact List.nil_sublist _ | with_reducible apply List.Sublist.cons_cons | apply List.Sublist.cons));done))).imp (fun _ h => h.1.1))) (h:=?_));all_goals (refine aw_step 8 (h:=?_);(refine sw_stAll (h:=?_));apply sw_nil;refine aw_fin (hsub:=by (exact fun _ h => (h.drop (by ((repeat (first | exact List.nil_sublist _ | with_reducible apply List.Sublist.cons_cons | apply List.Sublist.cons));done))).imp (fun _ h => h.1.1))) (h:=?_));all_goals (refine aw_take 9 (hsub:=by (exact fun _ h => (h.drop (by ((repeat (first | exact List.nil_sublist _ | with_reducible apply List.Sublist.cons_cons | apply List.Sublist.cons));done))).imp (fun _ h => h.1.1))) (h:=?_));all_goals (refine aw_done (h:=?_)))));rotate_right;(focus (((refine sw_alloc (h:=fun _ => ?_));apply sw_nil;refine aw_fin (hsub:=by (exact fun _ h => (h.drop (by ((repeat (first | exact List.nil_sublist _ | with_reducible apply List.Sublist.cons_cons | apply List.Sublist.cons));done))).imp (fun _ h => h.1))) (h:=?_));all_goals ((refine aw_step 3 (h:=?_);(refine sw_mk (hc:=hadd s3 s4 hn3 hn4) (hX:=fun w h => ⟨⟨itemsNil w,hat2 w h.2,rowsD_nil w 1⟩,h.1.1⟩) (h:=fun v3 X3 h3 => ?_);obtain ⟨s,rfl,hit⟩ := h3);apply sw_nil;refine aw_fin (hsub:=by (exact fun _ h => (h.drop (by ((repeat (first | exact List.nil_sublist _ | with_reducible apply List.Sublist.cons_cons | apply List.Sublist.cons));done))).imp (fun _ h => h.1.1))) (h:=?_));all_goals (refine aw_take 4 (hsub:=by (exact fun _ h => (h.drop (by ((repeat (first | exact List.nil_sublist _ | with_reducible apply List.Sublist.cons_cons | apply List.Sublist.cons));done))).imp (fun _ h => h.1.1))) (h:=?_));all_goals (refine aw_take 5 (hsub:=by (exact fun _ h => (h.drop (by ((repeat (first | exact List.nil_sublist _ | with_reducible apply List.Sublist.cons_cons | apply List.Sublist.cons));done))).imp (fun _ h => h.1.1))) (h:=?_));all_goals (refine aw_take 6 (hsub:=by (exact fun _ h => (h.drop (by ((repeat (first | exact List.nil_sublist _ | with_reducible apply List.Sublist.cons_cons | apply List.Sublist.cons));done))).imp (fun _ h => h.1.1))) (h:=?_));all_goals (refine aw_step 8 (h:=?_);(refine sw_stAll (h:=?_));apply sw_nil;refine aw_fin (hsub:=by (exact fun _ h => (h.drop (by ((repeat (first | exact List.nil_sublist _ | with_reducible apply List.Sublist.cons_cons | apply List.Sublist.cons));done))).imp (fun _ h => h.1.1))) (h:=?_));all_goals (refine aw_take 9 (hsub:=by (exact fun _ h => (h.drop (by ((repeat (first | exact List.nil_sublist _ | with_reducible apply List.Sublist.cons_cons | apply List.Sublist.cons));done))).imp (fun _ h => h.1.1))) (h:=?_));all_goals (refine aw_done (h:=?_)))))))));rotate_right;(focus (((refine sw_alloc (h:=fun _ => ?_));apply sw_nil;refine aw_fin (hsub:=by (exact fun _ h => h.drop (by ((repeat (first | exact List.nil_sublist _ | with_reducible apply List.Sublist.cons_cons | apply List.Sublist.cons));done)))) (h:=?_));all_goals ((refine aw_step 2 (h:=?_);(refine sw_mk (hc:=hof) (hX:=fun w h => hat w h.2) (h:=fun v2 X2 h2 => ?_);obtain ⟨s3,s4,rfl,hn3,hn4,hat2⟩ := h2);apply sw_nil;refine aw_fin (hsub:=by (exact fun _ h => (h.drop (by ((repeat (first | exact List.nil_sublist _ | with_reducible apply List.Sublist.cons_cons | apply List.Sublist.cons));done))).imp (fun _ h => h.1))) (h:=?_));all_goals (refine aw_step 3 (h:=?_);(refine sw_mk (hc:=hadd s3 s4 hn3 hn4) (hX:=fun w h => ⟨⟨itemsNil w,hat2 w h.2,rowsD_nil w 1⟩,h.1.1⟩) (h:=fun v3 X3 h3 => ?_);obtain ⟨s,rfl,hit⟩ := h3);apply sw_nil;refine aw_fin (hsub:=by (exact fun _ h => (h.drop (by ((repeat (first | exact List.nil_sublist _ | with_reducible apply List.Sublist.cons_cons | apply List.Sublist.cons));done))).imp (fun _ h => h.1.1))) (h:=?_));all_goals (refine aw_take 4 (hsub:=by (exact fun _ h => (h.drop (by ((repeat (first | exact List.nil_sublist _ | with_reducible apply List.Sublist.cons_cons | apply List.Sublist.cons));done))).imp (fun _ h => h.1.1))) (h:=?_));all_goals (refine aw_take 5 (hsub:=by (exact fun _ h => (h.drop (by ((repeat (first | exact List.nil_sublist _ | with_reducible apply List.Sublist.cons_cons | apply List.Sublist.cons));done))).imp (fun _ h => h.1.1))) (h:=?_));all_goals (refine aw_take 6 (hsub:=by (exact fun _ h => (h.drop (by ((repeat (first | exact List.nil_sublist _ | with_reducible apply List.Sublist.cons_cons | apply List.Sublist.cons));done))).imp (fun _ h => h.1.1))) (h:=?_));all_goals (refine aw_step 8 (h:=?_);(refine sw_stAll (h:=?_));apply sw_nil;refine aw_fin (hsub:=by (exact fun _ h => (h.drop (by ((repeat (first | exact List.nil_sublist _ | with_reducible apply List.Sublist.cons_cons | apply List.Sublist.cons));done))).imp (fun _ h => h.1.1))) (h:=?_));all_goals (refine aw_take 9 (hsub:=by (exact fun _ h => (h.drop (by ((repeat (first | exact List.nil_sublist _ | with_reducible apply List.Sublist.cons_cons | apply List.Sublist.cons));done))).imp (fun _ h => h.1.1))) (h:=?_));all_goals (refine aw_done (h:=?_)))))))));rotate_right;(focus (((refine sw_alloc (h:=fun _ => ?_));apply sw_nil;refine aw_fin (hsub:=by (exact fun _ h => h.drop (by ((repeat (first | exact List.nil_sublist _ | with_reducible apply List.Sublist.cons_cons | apply List.Sublist.cons));done)))) (h:=?_));all_goals ((refine aw_step 0 (h:=?_);(refine sw_pu (hc:=new0_pu) (hX:=fun _ _ => trivial) (h:=?_));apply sw_nil;refine aw_fin (hsub:=by (exact fun _ h => h.drop (by ((repeat (first | exact List.nil_sublist _ | with_reducible apply List.Sublist.cons_cons | apply List.Sublist.cons));done)))) (h:=?_));all_goals (refine aw_step 2 (h:=?_);(refine sw_mk (hc:=hof) (hX:=fun w h => hat w h.2) (h:=fun v2 X2 h2 => ?_);obtain ⟨s3,s4,rfl,hn3,hn4,hat2⟩ := h2);apply sw_nil;refine aw_fin (hsub:=by (exact fun _ h => (h.drop (by ((repeat (first | exact List.nil_sublist _ | with_reducible apply List.Sublist.cons_cons | apply List.Sublist.cons));done))).imp (fun _ h => h.1))) (h:=?_));all_goals (refine aw_step 3 (h:=?_);(refine sw_mk (hc:=hadd s3 s4 hn3 hn4) (hX:=fun w h => ⟨⟨itemsNil w,hat2 w h.2,rowsD_nil w 1⟩,h.1.1⟩) (h:=fun v3 X3 h3 => ?_);obtain ⟨s,rfl,hit⟩ := h3);apply sw_nil;refine aw_fin (hsub:=by (exact fun _ h => (h.drop (by ((repeat (first | exact List.nil_sublist _ | with_reducible apply List.Sublist.cons_cons | apply List.Sublist.cons));done))).imp (fun _ h => h.1.1))) (h:=?_));all_goals (refine aw_take 4 (hsub:=by (exact fun _ h => (h.drop (by ((repeat (first | exact List.nil_sublist _ | with_reducible apply List.Sublist.cons_cons | apply List.Sublist.cons));done))).imp (fun _ h => h.1.1))) (h:=?_));all_goals (refine aw_take 5 (hsub:=by (exact fun _ h => (h.drop (by ((repeat (first | exact List.nil_sublist _ | with_reducible apply List.Sublist.cons_cons | apply List.Sublist.cons));done))).imp (fun _ h => h.1.1))) (h:=?_));all_goals (refine aw_take 6 (hsub:=by (exact fun _ h => (h.drop (by ((repeat (first | exact List.nil_sublist _ | with_reducible apply List.Sublist.cons_cons | apply List.Sublist.cons));done))).imp (fun _ h => h.1.1))) (h:=?_));all_goals (refine aw_step 8 (h:=?_);(refine sw_stAll (h:=?_));apply sw_nil;refine aw_fin (hsub:=by (exact fun _ h => (h.drop (by ((repeat (first | exact List.nil_sublist _ | with_reducible apply List.Sublist.cons_cons | apply List.Sublist.cons));done))).imp (fun _ h => h.1.1))) (h:=?_));all_goals (refine aw_take 9 (hsub:=by (exact fun _ h => (h.drop (by ((repeat (first | exact List.nil_sublist _ | with_reducible apply List.Sublist.cons_cons | apply List.Sublist.cons));done))).imp (fun _ h => h.1.1))) (h:=?_));all_goals (refine aw_done (h:=?_))))))
  all_goals
    rename_i b6
    apply cw_seq
    (refine cw_draw [cel b6 71 [.slice none 0 0,s.v]] (fun w => ((Glob w ∧ X1 w) ∧ X2 w) ∧ X3 w) (by kernel_rfl) ?_)
    all_goals (refine aw_take 0 (hsub:=by (exact fun _ h => h.drop (by ((repeat (first | exact List.nil_sublist _ | with_reducible apply List.Sublist.cons_cons));done)))) (h:=?_))
    all_goals (refine aw_take 1 (hsub:=by (exact fun _ h => h.drop (by ((repeat (first | exact List.nil_sublist _ | with_reducible apply List.Sublist.cons_cons));done)))) (h:=?_))
    all_goals (refine aw_take 2 (hsub:=by (exact fun _ h => h.drop (by ((repeat (first | exact List.nil_sublist _ | with_reducible apply List.Sublist.cons_cons));done)))) (h:=?_))
    all_goals (refine aw_step 3 (h:=?_);(refine sw_mk (hc:=hone s3 s4 s hn3 hn4) (hX:=fun w h => ⟨hit w h.2,h.1.1.1⟩) (h:=fun v4 X4 h4 => ?_);obtain ⟨sa,sk,rfl,hch⟩ := h4);apply sw_nil;refine aw_fin (hsub:=by (exact fun _ h => (h.drop (by ((repeat (first | exact List.nil_sublist _ | with_reducible apply List.Sublist.cons_cons));done))).imp (fun _ h => h.1))) (h:=?_))
    all_goals (refine aw_step 4 (h:=?_);(refine sw_stAll (h:=?_));apply sw_nil;refine aw_fin (hsub:=by (exact fun _ h => (h.drop (by ((repeat (first | exact List.nil_sublist _ | with_reducible apply List.Sublist.cons_cons));done))).imp (fun _ h => h.1))) (h:=?_))
    all_goals (refine aw_step 5 (h:=?_);(refine sw_stAll (h:=?_));apply sw_nil;refine aw_fin (hsub:=by (exact fun _ h => (h.drop (by ((repeat (first | exact List.nil_sublist _ | with_reducible apply List.Sublist.cons_cons));done))).imp (fun _ h => h.1))) (h:=?_))
    all_goals (refine aw_done (h:=?_))
    all_goals
      repeat' (first | apply cw_ret | fail)
      subst hx
      have hdg : digV ((nkA0.re s1 s2).re s3 s4) = nkD0 := (dig_re hn3 hn4).trans ((dig_re hn1 hn2).trans nkd_0)
      rw [hdg]
      refine ends_ret (res_cells2 rfl rfl rfl (by (repeat (first | exact List.mem_cons_self | apply List.mem_cons_of_mem))) (by rfl) (by (repeat (first | exact List.mem_cons_self | apply List.mem_cons_of_mem))) (by rfl)) ⟨s,sa,sk,s3,s4,hn3.trans hn1,hn4.trans hn2,rfl,fun w h => hch w h.1.2⟩
end Go.Proofs.YtjmpdkmboheknaaGreatDoor

namespace Go.Proofs.YtjmpdkmboheknaaGreatDoor
open Go Go.Proofs Sy
def extC (c : ChainD) (sa : SlV) (a : ActD) : ChainD := ⟨c.id,sa,c.keys,digV a,c.gen,c.fork,c.actsL ++ [a]⟩
def ExtAt (c : ChainD) (a : ActD) (u : Value) (X : World → Prop) : Prop := ∃ sa : SlV,u = (extC c sa a).v ∧ ∀ w,X w → (extC c sa a).at_ w
set_option maxHeartbeats 8000000 in
theorem extended_mk (c : ChainD) (a : ActD) (hr : a.Rng) (hs : a.Sm) (hl : c.actsL.length ≤ 100000) : Mk Tryz.prog 14 #[c.v,a.v] (fun w => (c.at_ w ∧ a.at_ w) ∧ Glob w) (ExtAt c a) := by
  refine mk_of_cw2 (args:=[_,_]) _ Tryz.func14 rfl Tryz.ntmps14 rfl fun av bor w0 => ?_
  refine cw_know (p:=c.acts.n = c.actsL.length ∧ c.acts.n ≤ maxLen) (fun w h => ⟨h.1.1.len_,h.1.1.max_⟩) fun ⟨hn,hm⟩ => ?_
  simp only [maxLen] at hm
  have hsrc : ∀ w,((c.at_ w ∧ a.at_ w) ∧ Glob w) → Src Tryz.prog w 20 c.acts.v c.acts.n (c.actsL.map ActD.cells).flatten := fun w h => src_rows h.1.1.1 (cells_ones _)
  repeat' (first | apply sw_nil | apply cw_seq | apply cw_reg | refine sw_alloc (h:=fun _ => ?_) | refine sw_box (h:=fun _ => ?_) | fail)
  rename_i b2 b3 b4
  refine cw_meet (ι:=Option Addr × Nat) (fun i => ⟨[(2,.pointer (some ⟨b2,0,none⟩)),(3,.pointer (some ⟨b3,0,none⟩)),(4,.pointer (some ⟨b4,0,none⟩))], [orow 46 20 (.slice i.1 (0 + c.acts.n + 1) i.2) (0 + c.acts.n + 1) ([] ++ (c.actsL.map ActD.cells).flatten ++ a.cells),cel b4 39 (chZ ⟨#[]⟩),cel b3 46 a.cells,cel b2 39 [.string c.id,.slice i.1 (0 + c.acts.n + 1) i.2,c.keys.v,.string c.prev,.int .i64 c.gen,.bool c.fork]],fun w => (c.at_ w ∧ a.at_ w) ∧ Glob w⟩) ?_ fun i => ?_
  · (refine cw_draw [cel b3 46 a.cells] (fun w => (c.at_ w ∧ a.at_ w) ∧ Glob w) (by kernel_rfl) ?_)
    all_goals (refine aw_take 1 (hsub:=by (exact fun _ h => h.drop (by ((repeat (first | exact List.nil_sublist _ | with_reducible apply List.Sublist.cons_cons | apply List.Sublist.cons));done)))) (h:=?_))
    all_goals (refine aw_take 4 (hsub:=by (exact fun _ h => h.drop (by ((repeat (first | exact List.nil_sublist _ | with_reducible apply List.Sublist.cons_cons | apply List.Sublist.cons));done)))) (h:=?_))
    all_goals (refine aw_three 0 2 5 (h:=?_) (h':=?_) (h'':=?_);(focus (((refine sw_bsl0 (h:=fun _ => ?_));apply sw_nil;refine aw_fin (hsub:=by (exact fun _ h => h.drop (by ((repeat (first | exact List.nil_sublist _ | with_reducible apply List.Sublist.cons_cons | apply List.Sublist.cons));done)))) (h:=?_));all_goals ((refine aw_two 2 5 (h:=?_) (h':=?_);(focus (((refine sy_ld (h:=?_));apply sw_nil;refine aw_fin (hsub:=by (exact fun _ h => h.drop (by ((repeat (first | exact List.nil_sublist _ | with_reducible apply List.Sublist.cons_cons | apply List.Sublist.cons));done)))) (h:=?_));all_goals ((refine aw_two 3 5 (h:=?_) (h':=?_);(focus (((refine sw_append (size:=20) (news:=(c.actsL.map ActD.cells).flatten) (q:=c.acts.n) rfl rfl rfl rfl (fun _ => At.here _) (fun w G => hsrc w G.keep.now) (by omega) (by simp only [maxLen];omega) rfl ?_ rfl ?_;(with_reducible rfl);intro A2 c2);apply sw_nil;refine aw_fin (hsub:=by (exact fun _ h => h.drop (by ((repeat (first | exact List.nil_sublist _ | with_reducible apply List.Sublist.cons_cons | apply List.Sublist.cons));done)))) (h:=?_));all_goals ((refine aw_step 5 (h:=?_);(refine sw_bslS (size:=20) (vs:=[a.v]) (css:=a.cells) (hsz:=by rfl) (hcs:=by rfl) (h:=fun _ => ?_));apply sw_nil;refine aw_fin (hsub:=by (exact fun _ h => h.drop (by ((repeat (first | exact List.nil_sublist _ | with_reducible apply List.Sublist.cons_cons | apply List.Sublist.cons));done)))) (h:=?_));all_goals (refine aw_step 6 (h:=?_);(refine sw_append (size:=20) (news:=a.cells) (q:=1) rfl rfl rfl rfl (fun _ => At.there _ (At.here _)) (fun w G => src_cel G (.head _) rfl rfl 1) (by omega) (by simp only [maxLen];omega) rfl ?_ rfl ?_;(with_reducible rfl);intro A3 c3);apply sw_nil;refine aw_fin (hsub:=by (exact fun _ h => h.drop (by ((repeat (first | exact List.nil_sublist _ | with_reducible apply List.Sublist.cons_cons | apply List.Sublist.cons));done)))) (h:=?_));all_goals (refine aw_take 7 (hsub:=by (exact fun _ h => h.drop (by ((repeat (first | exact List.nil_sublist _ | with_reducible apply List.Sublist.cons_cons | apply List.Sublist.cons));done)))) (h:=?_));all_goals (refine aw_step 8 (h:=?_);(refine sw_st1 (h:=?_));apply sw_nil;refine aw_fin (hsub:=by (exact fun _ h => h.drop (by ((repeat (first | exact List.nil_sublist _ | with_reducible apply List.Sublist.cons_cons | apply List.Sublist.cons));done)))) (h:=?_));all_goals (refine aw_done (h:=?_)))));rotate_right;(focus (((refine sw_bslS (size:=20) (vs:=[a.v]) (css:=a.cells) (hsz:=by rfl) (hcs:=by rfl) (h:=fun _ => ?_));apply sw_nil;refine aw_fin (hsub:=by (exact fun _ h => h.drop (by ((repeat (first | exact List.nil_sublist _ | with_reducible apply List.Sublist.cons_cons | apply List.Sublist.cons));done)))) (h:=?_));all_goals ((refine aw_step 3 (h:=?_);(refine sw_append (size:=20) (news:=(c.actsL.map ActD.cells).flatten) (q:=c.acts.n) rfl rfl rfl rfl (fun _ => At.there _ (At.here _)) (fun w G => hsrc w G.keep.now) (by omega) (by simp only [maxLen];omega) rfl ?_ rfl ?_;(with_reducible rfl);intro A2 c2);apply sw_nil;refine aw_fin (hsub:=by (exact fun _ h => h.drop (by ((repeat (first | exact List.nil_sublist _ | with_reducible apply List.Sublist.cons_cons | apply List.Sublist.cons));done)))) (h:=?_));all_goals (refine aw_step 6 (h:=?_);(refine sw_append (size:=20) (news:=a.cells) (q:=1) rfl rfl rfl rfl (fun _ => At.there _ (At.here _)) (fun w G => src_cel G (.head _) rfl rfl 1) (by omega) (by simp only [maxLen];omega) rfl ?_ rfl ?_;(with_reducible rfl);intro A3 c3);apply sw_nil;refine aw_fin (hsub:=by (exact fun _ h => h.drop (by ((repeat (first | exact List.nil_sublist _ | with_reducible apply List.Sublist.cons_cons | apply List.Sublist.cons));done)))) (h:=?_));all_goals (refine aw_take 7 (hsub:=by (exact fun _ h => h.drop (by ((repeat (first | exact List.nil_sublist _ | with_reducible apply List.Sublist.cons_cons | apply List.Sublist.cons));done)))) (h:=?_));all_goals (refine aw_step 8 (h:=?_);(refine sw_st1 (h:=?_));apply sw_nil;refine aw_fin (hsub:=by (exact fun _ h => h.drop (by ((repeat (first | exact List.nil_sublist _ | with_reducible apply List.Sublist.cons_cons | apply List.Sublist.cons));done)))) (h:=?_));all_goals (refine aw_done (h:=?_)))))))));rotate_right;(focus (((refine sw_bslS (size:=20) (vs:=[a.v]) (css:=a.cells) (hsz:=by rfl) (hcs:=by rfl) (h:=fun _ => ?_));apply sw_nil;refine aw_fin (hsub:=by (exact fun _ h => h.drop (by ((repeat (first | exact List.nil_sublist _ | with_reducible apply List.Sublist.cons_cons | apply List.Sublist.cons));done)))) (h:=?_));all_goals ((refine aw_step 2 (h:=?_);(refine sy_ld (h:=?_));apply sw_nil;refine aw_fin (hsub:=by (exact fun _ h => h.drop (by ((repeat (first | exact List.nil_sublist _ | with_reducible apply List.Sublist.cons_cons | apply List.Sublist.cons));done)))) (h:=?_));all_goals (refine aw_step 3 (h:=?_);(refine sw_append (size:=20) (news:=(c.actsL.map ActD.cells).flatten) (q:=c.acts.n) rfl rfl rfl rfl (fun _ => At.there _ (At.here _)) (fun w G => hsrc w G.keep.now) (by omega) (by simp only [maxLen];omega) rfl ?_ rfl ?_;(with_reducible rfl);intro A2 c2);apply sw_nil;refine aw_fin (hsub:=by (exact fun _ h => h.drop (by ((repeat (first | exact List.nil_sublist _ | with_reducible apply List.Sublist.cons_cons | apply List.Sublist.cons));done)))) (h:=?_));all_goals (refine aw_step 6 (h:=?_);(refine sw_append (size:=20) (news:=a.cells) (q:=1) rfl rfl rfl rfl (fun _ => At.there _ (At.here _)) (fun w G => src_cel G (.head _) rfl rfl 1) (by omega) (by simp only [maxLen];omega) rfl ?_ rfl ?_;(with_reducible rfl);intro A3 c3);apply sw_nil;refine aw_fin (hsub:=by (exact fun _ h => h.drop (by ((repeat (first | exact List.nil_sublist _ | with_reducible apply List.Sublist.cons_cons | apply List.Sublist.cons));done)))) (h:=?_));all_goals (refine aw_take 7 (hsub:=by (exact fun _ h => h.drop (by ((repeat (first | exact List.nil_sublist _ | with_reducible apply List.Sublist.cons_cons | apply List.Sublist.cons));done)))) (h:=?_));all_goals (refine aw_step 8 (h:=?_);(refine sw_st1 (h:=?_));apply sw_nil;refine aw_fin (hsub:=by (exact fun _ h => h.drop (by ((repeat (first | exact List.nil_sublist _ | with_reducible apply List.Sublist.cons_cons | apply List.Sublist.cons));done)))) (h:=?_));all_goals (refine aw_done (h:=?_)))))))));rotate_right;(focus (((refine sw_bslS (size:=20) (vs:=[a.v]) (css:=a.cells) (hsz:=by rfl) (hcs:=by rfl) (h:=fun _ => ?_));apply sw_nil;refine aw_fin (hsub:=by (exact fun _ h => h.drop (by ((repeat (first | exact List.nil_sublist _ | with_reducible apply List.Sublist.cons_cons | apply List.Sublist.cons));done)))) (h:=?_));all_goals ((refine aw_two 0 2 (h:=?_) (h':=?_);(focus (((refine sw_bsl0 (h:=fun _ => ?_));apply sw_nil;refine aw_fin (hsub:=by (exact fun _ h => h.drop (by ((repeat (first | exact List.nil_sublist _ | with_reducible apply List.Sublist.cons_cons | apply List.Sublist.cons));done)))) (h:=?_));all_goals ((refine aw_step 2 (h:=?_);(refine sy_ld (h:=?_));apply sw_nil;refine aw_fin (hsub:=by (exact fun _ h => h.drop (by ((repeat (first | exact List.nil_sublist _ | with_reducible apply List.Sublist.cons_cons | apply List.Sublist.cons));done)))) (h:=?_));all_goals (refine aw_step 3 (h:=?_);(refine sw_append (size:=20) (news:=(c.actsL.map ActD.cells).flatten) (q:=c.acts.n) rfl rfl rfl rfl (fun _ => At.here _) (fun w G => hsrc w G.keep.now) (by omega) (by simp only [maxLen];omega) rfl ?_ rfl ?_;(with_reducible rfl);intro A2 c2);apply sw_nil;refine aw_fin (hsub:=by (exact fun _ h => h.drop (by ((repeat (first | exact List.nil_sublist _ | with_reducible apply List.Sublist.cons_cons | apply List.Sublist.cons));done)))) (h:=?_));all_goals (refine aw_step 6 (h:=?_);(refine sw_append (size:=20) (news:=a.cells) (q:=1) rfl rfl rfl rfl (fun _ => At.here _) (fun w G => src_cel G (.tail _ (.head _)) rfl rfl 1) (by omega) (by simp only [maxLen];omega) rfl ?_ rfl ?_;(with_reducible rfl);intro A3 c3);apply sw_nil;refine aw_fin (hsub:=by (exact fun _ h => h.drop (by ((repeat (first | exact List.nil_sublist _ | with_reducible apply List.Sublist.cons_cons | apply List.Sublist.cons));done)))) (h:=?_));all_goals (refine aw_take 7 (hsub:=by (exact fun _ h => h.drop (by ((repeat (first | exact List.nil_sublist _ | with_reducible apply List.Sublist.cons_cons | apply List.Sublist.cons));done)))) (h:=?_));all_goals (refine aw_step 8 (h:=?_);(refine sw_st1 (h:=?_));apply sw_nil;refine aw_fin (hsub:=by (exact fun _ h => h.drop (by ((repeat (first | exact List.nil_sublist _ | with_reducible apply List.Sublist.cons_cons | apply List.Sublist.cons));done)))) (h:=?_));all_goals (refine aw_done (h:=?_)))));rotate_right;(focus (((refine sy_ld (h:=?_));apply sw_nil;refine aw_fin (hsub:=by (exact fun _ h => h.drop (by ((repeat (first | exact List.nil_sublist _ | with_reducible apply List.Sublist.cons_cons | apply List.Sublist.cons));done)))) (h:=?_));all_goals ((refine aw_step 0 (h:=?_);(refine sw_bsl0 (h:=fun _ => ?_));apply sw_nil;refine aw_fin (hsub:=by (exact fun _ h => h.drop (by ((repeat (first | exact List.nil_sublist _ | with_reducible apply List.Sublist.cons_cons | apply List.Sublist.cons));done)))) (h:=?_));all_goals (refine aw_step 3 (h:=?_);(refine sw_append (size:=20) (news:=(c.actsL.map ActD.cells).flatten) (q:=c.acts.n) rfl rfl rfl rfl (fun _ => At.here _) (fun w G => hsrc w G.keep.now) (by omega) (by simp only [maxLen];omega) rfl ?_ rfl ?_;(with_reducible rfl);intro A2 c2);apply sw_nil;refine aw_fin (hsub:=by (exact fun _ h => h.drop (by ((repeat (first | exact List.nil_sublist _ | with_reducible apply List.Sublist.cons_cons | apply List.Sublist.cons));done)))) (h:=?_));all_goals (refine aw_step 6 (h:=?_);(refine sw_append (size:=20) (news:=a.cells) (q:=1) rfl rfl rfl rfl (fun _ => At.here _) (fun w G => src_cel G (.tail _ (.head _)) rfl rfl 1) (by omega) (by simp only [maxLen];omega) rfl ?_ rfl ?_;(with_reducible rfl);intro A3 c3);apply sw_nil;refine aw_fin (hsub:=by (exact fun _ h => h.drop (by ((repeat (first | exact List.nil_sublist _ | with_reducible apply List.Sublist.cons_cons | apply List.Sublist.cons));done)))) (h:=?_));all_goals (refine aw_take 7 (hsub:=by (exact fun _ h => h.drop (by ((repeat (first | exact List.nil_sublist _ | with_reducible apply List.Sublist.cons_cons | apply List.Sublist.cons));done)))) (h:=?_));all_goals (refine aw_step 8 (h:=?_);(refine sw_st1 (h:=?_));apply sw_nil;refine aw_fin (hsub:=by (exact fun _ h => h.drop (by ((repeat (first | exact List.nil_sublist _ | with_reducible apply List.Sublist.cons_cons | apply List.Sublist.cons));done)))) (h:=?_));all_goals (refine aw_done (h:=?_)))))))));rotate_right;(focus (((refine sy_ld (h:=?_));apply sw_nil;refine aw_fin (hsub:=by (exact fun _ h => h.drop (by ((repeat (first | exact List.nil_sublist _ | with_reducible apply List.Sublist.cons_cons | apply List.Sublist.cons));done)))) (h:=?_));all_goals ((refine aw_two 0 5 (h:=?_) (h':=?_);(focus (((refine sw_bsl0 (h:=fun _ => ?_));apply sw_nil;refine aw_fin (hsub:=by (exact fun _ h => h.drop (by ((repeat (first | exact List.nil_sublist _ | with_reducible apply List.Sublist.cons_cons | apply List.Sublist.cons));done)))) (h:=?_));all_goals ((refine aw_two 3 5 (h:=?_) (h':=?_);(focus (((refine sw_append (size:=20) (news:=(c.actsL.map ActD.cells).flatten) (q:=c.acts.n) rfl rfl rfl rfl (fun _ => At.here _) (fun w G => hsrc w G.keep.now) (by omega) (by simp only [maxLen];omega) rfl ?_ rfl ?_;(with_reducible rfl);intro A2 c2);apply sw_nil;refine aw_fin (hsub:=by (exact fun _ h => h.drop (by ((repeat (first | exact List.nil_sublist _ | with_reducible apply List.Sublist.cons_cons | apply List.Sublist.cons));done)))) (h:=?_));all_goals ((refine aw_step 5 (h:=?_);(refine sw_bslS (size:=20) (vs:=[a.v]) (css:=a.cells) (hsz:=by rfl) (hcs:=by rfl) (h:=fun _ => ?_));apply sw_nil;refine aw_fin (hsub:=by (exact fun _ h => h.drop (by ((repeat (first | exact List.nil_sublist _ | with_reducible apply List.Sublist.cons_cons | apply List.Sublist.cons));done)))) (h:=?_));all_goals (refine aw_step 6 (h:=?_);(refine sw_append (size:=20) (news:=a.cells) (q:=1) rfl rfl rfl rfl (fun _ => At.there _ (At.here _)) (fun w G => src_cel G (.head _) rfl rfl 1) (by omega) (by simp only [maxLen];omega) rfl ?_ rfl ?_;(with_reducible rfl);intro A3 c3);apply sw_nil;refine aw_fin (hsub:=by (exact fun _ h => h.drop (by ((repeat (first | exact List.nil_sublist _ | with_reducible apply List.Sublist.cons_cons | apply List.Sublist.cons));done)))) (h:=?_));all_goals (refine aw_take 7 (hsub:=by (exact fun _ h => h.drop (by ((repeat (first | exact List.nil_sublist _ | with_reducible apply List.Sublist.cons_cons | apply List.Sublist.cons));done)))) (h:=?_));all_goals (refine aw_step 8 (h:=?_);(refine sw_st1 (h:=?_));apply sw_nil;refine aw_fin (hsub:=by (exact fun _ h => h.drop (by ((repeat (first | exact List.nil_sublist _ | with_reducible apply List.Sublist.cons_cons | apply List.Sublist.cons));done)))) (h:=?_));all_goals (refine aw_done (h:=?_)))));rotate_right;(focus (((refine sw_bslS (size:=20) (vs:=[a.v]) (css:=a.cells) (hsz:=by rfl) (hcs:=by rfl) (h:=fun _ => ?_));apply sw_nil;refine aw_fin (hsub:=by (exact fun _ h => h.drop (by ((repeat (first | exact List.nil_sublist _ | with_reducible apply List.Sublist.cons_cons | apply List.Sublist.cons));done)))) (h:=?_));all_goals ((refine aw_step 3 (h:=?_);(refine sw_append (size:=20) (news:=(c.actsL.map ActD.cells).flatten) (q:=c.acts.n) rfl rfl rfl rfl (fun _ => At.there _ (At.here _)) (fun w G => hsrc w G.keep.now) (by omega) (by simp only [maxLen];omega) rfl ?_ rfl ?_;(with_reducible rfl);intro A2 c2);apply sw_nil;refine aw_fin (hsub:=by (exact fun _ h => h.drop (by ((repeat (first | exact List.nil_sublist _ | with_reducible apply List.Sublist.cons_cons | apply List.Sublist.cons));done)))) (h:=?_));all_goals (refine aw_step 6 (h:=?_);(refine sw_append (size:=20) (news:=a.cells) (q:=1) rfl rfl rfl rfl (fun _ => At.there _ (At.here _)) (fun w G => src_cel G (.head _) rfl rfl 1) (by omega) (by simp only [maxLen];omega) rfl ?_ rfl ?_;(with_reducible rfl);intro A3 c3);apply sw_nil;refine aw_fin (hsub:=by (exact fun _ h => h.drop (by ((repeat (first | exact List.nil_sublist _ | with_reducible apply List.Sublist.cons_cons | apply List.Sublist.cons));done)))) (h:=?_));all_goals (refine aw_take 7 (hsub:=by (exact fun _ h => h.drop (by ((repeat (first | exact List.nil_sublist _ | with_reducible apply List.Sublist.cons_cons | apply List.Sublist.cons));done)))) (h:=?_));all_goals (refine aw_step 8 (h:=?_);(refine sw_st1 (h:=?_));apply sw_nil;refine aw_fin (hsub:=by (exact fun _ h => h.drop (by ((repeat (first | exact List.nil_sublist _ | with_reducible apply List.Sublist.cons_cons | apply List.Sublist.cons));done)))) (h:=?_));all_goals (refine aw_done (h:=?_)))))))));rotate_right;(focus (((refine sw_bslS (size:=20) (vs:=[a.v]) (css:=a.cells) (hsz:=by rfl) (hcs:=by rfl) (h:=fun _ => ?_));apply sw_nil;refine aw_fin (hsub:=by (exact fun _ h => h.drop (by ((repeat (first | exact List.nil_sublist _ | with_reducible apply List.Sublist.cons_cons | apply List.Sublist.cons));done)))) (h:=?_));all_goals ((refine aw_step 0 (h:=?_);(refine sw_bsl0 (h:=fun _ => ?_));apply sw_nil;refine aw_fin (hsub:=by (exact fun _ h => h.drop (by ((repeat (first | exact List.nil_sublist _ | with_reducible apply List.Sublist.cons_cons | apply List.Sublist.cons));done)))) (h:=?_));all_goals (refine aw_step 3 (h:=?_);(refine sw_append (size:=20) (news:=(c.actsL.map ActD.cells).flatten) (q:=c.acts.n) rfl rfl rfl rfl (fun _ => At.here _) (fun w G => hsrc w G.keep.now) (by omega) (by simp only [maxLen];omega) rfl ?_ rfl ?_;(with_reducible rfl);intro A2 c2);apply sw_nil;refine aw_fin (hsub:=by (exact fun _ h => h.drop (by ((repeat (first | exact List.nil_sublist _ | with_reducible apply List.Sublist.cons_cons | apply List.Sublist.cons));done)))) (h:=?_));all_goals (refine aw_step 6 (h:=?_);(refine sw_append (size:=20) (news:=a.cells) (q:=1) rfl rfl rfl rfl (fun _ => At.here _) (fun w G => src_cel G (.tail _ (.head _)) rfl rfl 1) (by omega) (by simp only [maxLen];omega) rfl ?_ rfl ?_;(with_reducible rfl);intro A3 c3);apply sw_nil;refine aw_fin (hsub:=by (exact fun _ h => h.drop (by ((repeat (first | exact List.nil_sublist _ | with_reducible apply List.Sublist.cons_cons | apply List.Sublist.cons));done)))) (h:=?_));all_goals (refine aw_take 7 (hsub:=by (exact fun _ h => h.drop (by ((repeat (first | exact List.nil_sublist _ | with_reducible apply List.Sublist.cons_cons | apply List.Sublist.cons));done)))) (h:=?_));all_goals (refine aw_step 8 (h:=?_);(refine sw_st1 (h:=?_));apply sw_nil;refine aw_fin (hsub:=by (exact fun _ h => h.drop (by ((repeat (first | exact List.nil_sublist _ | with_reducible apply List.Sublist.cons_cons | apply List.Sublist.cons));done)))) (h:=?_));all_goals (refine aw_done (h:=?_))))))))))
    all_goals exact ⟨(A3,c3),ok_sub ⟨rfl,rfl,rfl,trivial⟩ (by first | exact .cons _ (List.Sublist.refl _) | exact .cons_cons _ (.cons _ (List.Sublist.refl _))) fun w h => h⟩
  obtain ⟨A3,c3⟩ := i
  simp only
  repeat' (first | apply cw_seq | apply cw_reg | refine sy_ldAll (h:=?_) | fail)
  refine sw_mk (hc:=ofAct_mk a hr hs) (hX:=fun w h => h.1.2) (h:=fun v1 X1 h1 => ?_)
  obtain ⟨x',rfl,hdig,hr',hat⟩ := h1
  refine sw_pu (hc:=digest_pu x' hr') (hX:=fun w h => ⟨hat w h.2,h.1.2⟩) (h:=?_)
  rw [hdig]
  repeat' (first | apply sw_nil | apply cw_seq | apply cw_reg | refine sy_fld (h:=?_) | refine sy_ldAll (h:=?_) | refine sw_st1 (h:=?_) | refine sw_stAll (h:=?_) | apply cw_ret | fail)
  refine ends_ret (res_cell rfl rfl (by (repeat (first | exact List.mem_cons_self | apply List.mem_cons_of_mem))) (by rfl)) ⟨⟨A3,0 + c.acts.n + 1,c3⟩,rfl,fun w h => ?_⟩
  have hrow := h.2 (orow 46 20 (.slice A3 (0 + c.acts.n + 1) c3) (0 + c.acts.n + 1) ([] ++ (c.actsL.map ActD.cells).flatten ++ a.cells)) (by (repeat (exact List.mem_cons_self)))
  refine acts_of_orow (e:=46) (l:=c.actsL ++ [a]) (by rw [show ((c.actsL ++ [a]).map ActD.cells).flatten = [] ++ (c.actsL.map ActD.cells).flatten ++ a.cells from by simp];exact hrow) (by rw [List.length_append,List.length_singleton];show 0 + c.acts.n + 1 = _;omega) fun x hx => ?_
  rcases List.mem_append.1 hx with hx | hx
  · exact h.1.1.1.1.2 x hx
  · rw [List.mem_singleton.1 hx]
    exact h.1.1.1.2
end Go.Proofs.YtjmpdkmboheknaaGreatDoor

namespace Go.Proofs.YtjmpdkmboheknaaGreatDoor
open Go Go.Proofs Sy
section
variable {P : Program} {N : Nat} {av bor : List Nat} {w0 : World} {st : St} {ty : TypeId} {x y : Operand} {t t2 : TypeId} {k : IntKind}
theorem y_eqlV {a b : Int} (v : Bool) (hx : ev st.env x = some (.int k a)) (hy : ev st.env y = some (.int k b)) (hv : decide (a = b) = v) : Sy.Yields P N av bor w0 st (.binOp .eql t x y t2) ty (.bool v) := hv ▸ y_eql hx hy
theorem y_seqlV {a b : ByteArray} (v : Bool) (hx : ev st.env x = some (.string a)) (hy : ev st.env y = some (.string b)) (hv : seqB a b = v) : Sy.Yields P N av bor w0 st (.binOp .eql t x y t2) ty (.bool v) := hv ▸ y_seql hx hy
end
def NoteAt (r : Res) (s : SlV) (P : List PostD) (i : Nat) (p p1 : PostD) (u : Value) (R : List Res) (X : World → Prop) : Prop := u = .tuple #[] ∧ ∃ (p' : PostD) (ex : List Res),p'.can = p1.can ∧ p'.to = p.to ∧ p'.toL = p.toL ∧ R = ex ++ [r,postR s (P.set i p'),edR p']
theorem set_same {P : List PostD} {i : Nat} {p : PostD} (h : P[i]? = some p) : P.set i p = P := by
  obtain ⟨h1,rfl⟩ := List.getElem?_eq_some_iff.1 h
  exact List.set_getElem_self h1
theorem remove_note {X : World → Prop} (r : Res) (s : SlV) (P : List PostD) (i : Nat) (p : PostD) (u : Value) (k : Nat) (hs : s.n = P.length) (hi : P[i]? = some p) : Ct Tryz.prog 34 #[u,elP s.p (i * 11),.int .i64 (k : Nat)] [r,postR s P,edR p] X (NoteAt r s P i p (goneP p)) := by
  refine ct_of_cw (args:=[_,_,_]) _ Tryz.func34 rfl Tryz.ntmps34 rfl fun av bor w0 => ?_
  have hil := (List.getElem?_eq_some_iff.1 hi).1
  refine cw_knowR (r:=postR s P) (List.mem_cons_of_mem _ List.mem_cons_self) (p:=0 < s.n → s.p.isSome = true) (fun w h hn => orow_some h hn) fun hp => ?_
  have hp' := hp (by omega)
  obtain ⟨ad,had⟩ := Option.isSome_iff_exists.1 hp'
  repeat' (first | apply sw_nil | apply cw_reg | refine sy_move (h:=?_) | (refine sy_nilX (ad:=ad) (hp:=had) (h:=?_)) | (refine sy_fldX (h:=?_)) | (refine sw_stPf (goneP p) (i:=i) (j:=10) (hi:=hi) (hj:=by decide) (hc:=rfl) (hn:=hs) (hsz:=by kernel_rfl) (hv:=rfl) (h1:=rfl) (hA:=At.there _ (At.here _)) (h:=?_)) | fail)
  exact ends_end (res_none rfl) ⟨rfl,goneP p, [],rfl,rfl,rfl,rfl⟩
set_option maxHeartbeats 4000000 in
theorem edit_note (c : ChainD) (s : SlV) (P : List PostD) (i : Nat) (p : PostD) (b q1 q2 k : Nat) (x : ActD) (hs : s.n = P.length) (hi : P[i]? = some p) (hx : c.actsL[k]? = some x) (hk : k ≤ 1000000) (hel : p.ed.n = p.edL.length) (hem : p.ed.n ≤ 1000000) :
    Ct Tryz.prog 35 #[.pointer (some ⟨b,0,none⟩),elP s.p (i * 11),.int .i64 (k : Nat)] [cel b 88 (regC c s.v q1 q2),postR s P,edR p] (fun w => (c.at_ w ∧ Glob w) ∧ Strs w p.to p.toL) (NoteAt (cel b 88 (regC c s.v q1 q2)) s P i p (editP x k p)) := by
  refine ct_of_cw (args:=[_,_,_]) _ Tryz.func35 rfl Tryz.ntmps35 rfl fun av bor w0 => ?_
  have hil := (List.getElem?_eq_some_iff.1 hi).1
  have hkl := (List.getElem?_eq_some_iff.1 hx).1
  refine cw_knowR (r:=postR s P) (List.mem_cons_of_mem _ List.mem_cons_self) (p:=0 < s.n → s.p.isSome = true) (fun w h hn => orow_some h hn) fun hp => ?_
  have hp' := hp (by omega)
  obtain ⟨ad,had⟩ := Option.isSome_iff_exists.1 hp'
  refine cw_know (p:=c.acts.n = c.actsL.length ∧ (0 < c.actsL.length → c.acts.p.isSome = true)) (fun w h => ⟨h.1.1.len_,h.1.1.some_⟩) fun ⟨hl,hpa⟩ => ?_
  have hpa' := hpa (by omega)
  have heq := equalL_pu x.to p.to x.toL p.toL
  repeat' (first | apply sw_nil | apply cw_seq | apply cw_reg | refine sy_move (h:=?_) | refine sy_nilCheck (h:=?_) | refine sy_fld (h:=?_) | refine sy_ld (h:=?_) | refine sw_alloc (h:=fun _ => ?_) | refine sw_stAll (h:=?_) | (refine sy_idxX (q:=k * 20) (h:=?_)) | (refine sy_ldXs (cs:=x.cells) (hF:=fun w h => Acts.get h.1.1 hx) (h:=?_)) | fail)
  rename_i b6
  cases hg : p.gone with
  | true =>
    have h10 : p.cells[10]? = some (.bool true) := by rw [← hg];rfl
    have hE : editB x p = false := by rw [editB,hg];rfl
    (refine cw_draw [cel b6 46 x.cells,cel b 88 (regC c s.v q1 q2),postR s P,edR p] (fun w => (c.at_ w ∧ Glob w) ∧ Strs w p.to p.toL) (by kernel_rfl) ?_)
    all_goals (refine aw_take 0 (h:=?_))
    all_goals (refine aw_take 1 (hy:=by (apply y_nilX (ad:=ad);rfl;exact had)) (h:=?_))
    all_goals (refine aw_take 2 (hy:=by (apply y_fldX;rfl;exact hp';rfl)) (h:=?_))
    all_goals (refine aw_take 3 (hy:=by (apply y_ldPf (i:=i) (j:=10) (P:=P) (p:=p) (u:=.bool true);rfl;exact List.mem_cons_of_mem _ (List.mem_cons_of_mem _ List.mem_cons_self);exact hs;exact hi;exact h10)) (h:=?_))
    all_goals (refine aw_take 4 (h:=?_))
    all_goals (refine aw_take 5 (h:=?_))
    all_goals (refine aw_skipT 6 (h:=?_))
    all_goals (refine aw_skipT 7 (h:=?_))
    all_goals (refine aw_skipT 8 (h:=?_))
    all_goals (refine aw_skipT 9 (h:=?_))
    all_goals (refine aw_skipT 10 (h:=?_))
    all_goals (refine aw_skipT 11 (h:=?_))
    all_goals (refine aw_skipT 12 (h:=?_))
    all_goals (refine aw_take 13 (h:=?_))
    all_goals (refine aw_take 14 (h:=?_))
    all_goals (refine aw_skipT 15 (h:=?_))
    all_goals (refine aw_skipT 16 (h:=?_))
    all_goals (refine aw_skipT 17 (h:=?_))
    all_goals (refine aw_skipT 18 (h:=?_))
    all_goals (refine aw_skipT 19 (h:=?_))
    all_goals (refine aw_skipT 20 (h:=?_))
    all_goals (refine aw_skipT 21 (h:=?_))
    all_goals (refine aw_take 22 (h:=?_))
    all_goals (refine aw_take 23 (h:=?_))
    all_goals (refine aw_skipT 24 (h:=?_))
    all_goals (refine aw_skipT 25 (h:=?_))
    all_goals (refine aw_skipT 26 (h:=?_))
    all_goals (refine aw_skipT 27 (h:=?_))
    all_goals (refine aw_skipT 28 (h:=?_))
    all_goals (refine aw_skipT 29 (h:=?_))
    all_goals (refine aw_step 30 (h:=?_);(refine sw_skipT (h:=?_));apply sw_nil;refine aw_fin (h:=?_))
    all_goals (refine aw_take 31 (h:=?_))
    all_goals (refine aw_done (h:=?_))
    all_goals
      repeat' (first | refine cw_cond_f (hf:=?_) | apply cw_skip | fail)
      first
        | exact ends_end (res_none rfl) ⟨rfl,p, [cel b6 46 x.cells],by rw [editP,hE];rfl,rfl,rfl,by rw [set_same hi];rfl⟩
        | exact ends_ret (res_none rfl) ⟨rfl,p, [cel b6 46 x.cells],by rw [editP,hE];rfl,rfl,rfl,by rw [set_same hi];rfl⟩
  | false =>
    have h10 : p.cells[10]? = some (.bool false) := by rw [← hg];rfl
    by_cases hsc : x.scope = p.scope
    · cases hgr : seqB x.group p.group with
      | false =>
        have hE : editB x p = false := by rw [editB,hgr,Bool.and_false];rfl
        (refine cw_draw [cel b6 46 x.cells,cel b 88 (regC c s.v q1 q2),postR s P,edR p] (fun w => (c.at_ w ∧ Glob w) ∧ Strs w p.to p.toL) (by kernel_rfl) ?_)
        all_goals (refine aw_take 0 (h:=?_))
        all_goals (refine aw_take 1 (hy:=by (apply y_nilX (ad:=ad);rfl;exact had)) (h:=?_))
        all_goals (refine aw_take 2 (hy:=by (apply y_fldX;rfl;exact hp';rfl)) (h:=?_))
        all_goals (refine aw_take 3 (hy:=by (apply y_ldPf (i:=i) (j:=10) (P:=P) (p:=p) (u:=.bool false);rfl;exact List.mem_cons_of_mem _ (List.mem_cons_of_mem _ List.mem_cons_self);exact hs;exact hi;exact h10)) (h:=?_))
        all_goals (refine aw_take 4 (h:=?_))
        all_goals (refine aw_take 5 (h:=?_))
        all_goals (refine aw_take 6 (h:=?_))
        all_goals (refine aw_take 7 (h:=?_))
        all_goals (refine aw_take 8 (h:=?_))
        all_goals (refine aw_take 9 (hy:=by (apply y_nilX (ad:=ad);rfl;exact had)) (h:=?_))
        all_goals (refine aw_take 10 (hy:=by (apply y_fldX;rfl;exact hp';rfl)) (h:=?_))
        all_goals (refine aw_take 11 (hy:=by (apply y_ldPf (i:=i) (j:=4) (P:=P) (p:=p) (u:=.int .i64 p.scope);rfl;exact List.mem_cons_of_mem _ (List.mem_cons_of_mem _ List.mem_cons_self);exact hs;exact hi;exact rfl)) (h:=?_))
        all_goals (refine aw_take 12 (hy:=by (apply y_eqlV true;rfl;rfl;exact decide_eq_true hsc)) (h:=?_))
        all_goals (refine aw_take 13 (h:=?_))
        all_goals (refine aw_take 14 (h:=?_))
        all_goals (refine aw_take 15 (h:=?_))
        all_goals (refine aw_take 16 (h:=?_))
        all_goals (refine aw_take 17 (h:=?_))
        all_goals (refine aw_take 18 (hy:=by (apply y_nilX (ad:=ad);rfl;exact had)) (h:=?_))
        all_goals (refine aw_take 19 (hy:=by (apply y_fldX;rfl;exact hp';rfl)) (h:=?_))
        all_goals (refine aw_take 20 (hy:=by (apply y_ldPf (i:=i) (j:=5) (P:=P) (p:=p) (u:=.string p.group);rfl;exact List.mem_cons_of_mem _ (List.mem_cons_of_mem _ List.mem_cons_self);exact hs;exact hi;exact rfl)) (h:=?_))
        all_goals (refine aw_take 21 (hy:=by (apply y_seqlV false;rfl;rfl;exact hgr)) (h:=?_))
        all_goals (refine aw_take 22 (h:=?_))
        all_goals (refine aw_take 23 (h:=?_))
        all_goals (refine aw_skipT 24 (h:=?_))
        all_goals (refine aw_skipT 25 (h:=?_))
        all_goals (refine aw_skipT 26 (h:=?_))
        all_goals (refine aw_skipT 27 (h:=?_))
        all_goals (refine aw_skipT 28 (h:=?_))
        all_goals (refine aw_skipT 29 (h:=?_))
        all_goals (refine aw_step 30 (h:=?_);(refine sw_skipT (h:=?_));apply sw_nil;refine aw_fin (h:=?_))
        all_goals (refine aw_take 31 (h:=?_))
        all_goals (refine aw_done (h:=?_))
        all_goals
          repeat' (first | refine cw_cond_f (hf:=?_) | apply cw_skip | fail)
          first
            | exact ends_end (res_none rfl) ⟨rfl,p, [cel b6 46 x.cells],by rw [editP,hE];rfl,rfl,rfl,by rw [set_same hi];rfl⟩
            | exact ends_ret (res_none rfl) ⟨rfl,p, [cel b6 46 x.cells],by rw [editP,hE];rfl,rfl,rfl,by rw [set_same hi];rfl⟩
      | true =>
        have hEq : editB x p = eqL x.toL p.toL := by rw [editB,hg,hgr,decide_eq_true hsc];rfl
        cases hE : eqL x.toL p.toL with
        | false =>
          rw [hE] at heq hEq
          have hE := hEq
          (refine cw_draw [cel b6 46 x.cells,cel b 88 (regC c s.v q1 q2),postR s P,edR p] (fun w => (c.at_ w ∧ Glob w) ∧ Strs w p.to p.toL) (by kernel_rfl) ?_)
          all_goals (refine aw_take 0 (h:=?_))
          all_goals (refine aw_take 1 (hy:=by (apply y_nilX (ad:=ad);rfl;exact had)) (h:=?_))
          all_goals (refine aw_take 2 (hy:=by (apply y_fldX;rfl;exact hp';rfl)) (h:=?_))
          all_goals (refine aw_take 3 (hy:=by (apply y_ldPf (i:=i) (j:=10) (P:=P) (p:=p) (u:=.bool false);rfl;exact List.mem_cons_of_mem _ (List.mem_cons_of_mem _ List.mem_cons_self);exact hs;exact hi;exact h10)) (h:=?_))
          all_goals (refine aw_take 4 (h:=?_))
          all_goals (refine aw_take 5 (h:=?_))
          all_goals (refine aw_take 6 (h:=?_))
          all_goals (refine aw_take 7 (h:=?_))
          all_goals (refine aw_take 8 (h:=?_))
          all_goals (refine aw_take 9 (hy:=by (apply y_nilX (ad:=ad);rfl;exact had)) (h:=?_))
          all_goals (refine aw_take 10 (hy:=by (apply y_fldX;rfl;exact hp';rfl)) (h:=?_))
          all_goals (refine aw_take 11 (hy:=by (apply y_ldPf (i:=i) (j:=4) (P:=P) (p:=p) (u:=.int .i64 p.scope);rfl;exact List.mem_cons_of_mem _ (List.mem_cons_of_mem _ List.mem_cons_self);exact hs;exact hi;exact rfl)) (h:=?_))
          all_goals (refine aw_take 12 (hy:=by (apply y_eqlV true;rfl;rfl;exact decide_eq_true hsc)) (h:=?_))
          all_goals (refine aw_take 13 (h:=?_))
          all_goals (refine aw_take 14 (h:=?_))
          all_goals (refine aw_take 15 (h:=?_))
          all_goals (refine aw_take 16 (h:=?_))
          all_goals (refine aw_take 17 (h:=?_))
          all_goals (refine aw_take 18 (hy:=by (apply y_nilX (ad:=ad);rfl;exact had)) (h:=?_))
          all_goals (refine aw_take 19 (hy:=by (apply y_fldX;rfl;exact hp';rfl)) (h:=?_))
          all_goals (refine aw_take 20 (hy:=by (apply y_ldPf (i:=i) (j:=5) (P:=P) (p:=p) (u:=.string p.group);rfl;exact List.mem_cons_of_mem _ (List.mem_cons_of_mem _ List.mem_cons_self);exact hs;exact hi;exact rfl)) (h:=?_))
          all_goals (refine aw_take 21 (hy:=by (apply y_seqlV true;rfl;rfl;exact hgr)) (h:=?_))
          all_goals (refine aw_take 22 (h:=?_))
          all_goals (refine aw_take 23 (h:=?_))
          all_goals (refine aw_take 24 (h:=?_))
          all_goals (refine aw_take 25 (h:=?_))
          all_goals (refine aw_take 26 (h:=?_))
          all_goals (refine aw_take 27 (hy:=by (apply y_nilX (ad:=ad);rfl;exact had)) (h:=?_))
          all_goals (refine aw_take 28 (hy:=by (apply y_fldX;rfl;exact hp';rfl)) (h:=?_))
          all_goals (refine aw_take 29 (hy:=by (apply y_ldPf (i:=i) (j:=6) (P:=P) (p:=p) (u:=p.to.v);rfl;exact List.mem_cons_of_mem _ (List.mem_cons_of_mem _ List.mem_cons_self);exact hs;exact hi;exact rfl)) (h:=?_))
          all_goals (refine aw_step 30 (h:=?_);(refine sw_pu (hc:=heq) (hX:=fun w h => ⟨(h.1.1.2 x (List.mem_of_getElem? hx)).1,h.2⟩) (h:=?_));apply sw_nil;refine aw_fin (h:=?_))
          all_goals (refine aw_take 31 (h:=?_))
          all_goals (refine aw_done (h:=?_))
          all_goals
            repeat' (first | refine cw_cond_f (hf:=?_) | apply cw_skip | fail)
            first
              | exact ends_end (res_none rfl) ⟨rfl,p, [cel b6 46 x.cells],by rw [editP,hE];rfl,rfl,rfl,by rw [set_same hi];rfl⟩
              | exact ends_ret (res_none rfl) ⟨rfl,p, [cel b6 46 x.cells],by rw [editP,hE];rfl,rfl,rfl,by rw [set_same hi];rfl⟩
        | true =>
          rw [hE] at heq hEq
          have hE := hEq
          (refine cw_draw [cel b6 46 x.cells,cel b 88 (regC c s.v q1 q2),postR s P,edR p] (fun w => (c.at_ w ∧ Glob w) ∧ Strs w p.to p.toL) (by kernel_rfl) ?_)
          all_goals (refine aw_take 0 (h:=?_))
          all_goals (refine aw_take 1 (hy:=by (apply y_nilX (ad:=ad);rfl;exact had)) (h:=?_))
          all_goals (refine aw_take 2 (hy:=by (apply y_fldX;rfl;exact hp';rfl)) (h:=?_))
          all_goals (refine aw_take 3 (hy:=by (apply y_ldPf (i:=i) (j:=10) (P:=P) (p:=p) (u:=.bool false);rfl;exact List.mem_cons_of_mem _ (List.mem_cons_of_mem _ List.mem_cons_self);exact hs;exact hi;exact h10)) (h:=?_))
          all_goals (refine aw_take 4 (h:=?_))
          all_goals (refine aw_take 5 (h:=?_))
          all_goals (refine aw_take 6 (h:=?_))
          all_goals (refine aw_take 7 (h:=?_))
          all_goals (refine aw_take 8 (h:=?_))
          all_goals (refine aw_take 9 (hy:=by (apply y_nilX (ad:=ad);rfl;exact had)) (h:=?_))
          all_goals (refine aw_take 10 (hy:=by (apply y_fldX;rfl;exact hp';rfl)) (h:=?_))
          all_goals (refine aw_take 11 (hy:=by (apply y_ldPf (i:=i) (j:=4) (P:=P) (p:=p) (u:=.int .i64 p.scope);rfl;exact List.mem_cons_of_mem _ (List.mem_cons_of_mem _ List.mem_cons_self);exact hs;exact hi;exact rfl)) (h:=?_))
          all_goals (refine aw_take 12 (hy:=by (apply y_eqlV true;rfl;rfl;exact decide_eq_true hsc)) (h:=?_))
          all_goals (refine aw_take 13 (h:=?_))
          all_goals (refine aw_take 14 (h:=?_))
          all_goals (refine aw_take 15 (h:=?_))
          all_goals (refine aw_take 16 (h:=?_))
          all_goals (refine aw_take 17 (h:=?_))
          all_goals (refine aw_take 18 (hy:=by (apply y_nilX (ad:=ad);rfl;exact had)) (h:=?_))
          all_goals (refine aw_take 19 (hy:=by (apply y_fldX;rfl;exact hp';rfl)) (h:=?_))
          all_goals (refine aw_take 20 (hy:=by (apply y_ldPf (i:=i) (j:=5) (P:=P) (p:=p) (u:=.string p.group);rfl;exact List.mem_cons_of_mem _ (List.mem_cons_of_mem _ List.mem_cons_self);exact hs;exact hi;exact rfl)) (h:=?_))
          all_goals (refine aw_take 21 (hy:=by (apply y_seqlV true;rfl;rfl;exact hgr)) (h:=?_))
          all_goals (refine aw_take 22 (h:=?_))
          all_goals (refine aw_take 23 (h:=?_))
          all_goals (refine aw_take 24 (h:=?_))
          all_goals (refine aw_take 25 (h:=?_))
          all_goals (refine aw_take 26 (h:=?_))
          all_goals (refine aw_take 27 (hy:=by (apply y_nilX (ad:=ad);rfl;exact had)) (h:=?_))
          all_goals (refine aw_take 28 (hy:=by (apply y_fldX;rfl;exact hp';rfl)) (h:=?_))
          all_goals (refine aw_take 29 (hy:=by (apply y_ldPf (i:=i) (j:=6) (P:=P) (p:=p) (u:=p.to.v);rfl;exact List.mem_cons_of_mem _ (List.mem_cons_of_mem _ List.mem_cons_self);exact hs;exact hi;exact rfl)) (h:=?_))
          all_goals (refine aw_step 30 (h:=?_);(refine sw_pu (hc:=heq) (hX:=fun w h => ⟨(h.1.1.2 x (List.mem_of_getElem? hx)).1,h.2⟩) (h:=?_));apply sw_nil;refine aw_fin (h:=?_))
          all_goals (refine aw_take 31 (h:=?_))
          all_goals (refine aw_done (h:=?_))
          all_goals
            repeat' (first | apply cw_reg | refine sy_move (h:=?_) | refine sw_bsl (h:=fun _ => ?_) | refine cw_cond_t (ht:=?_) | (refine sy_nilX (ad:=ad) (hp:=had) (h:=?_)) | (refine sy_fldX (h:=?_)) | (refine sw_yield (y_ldPf (i:=i) (j:=9) (P:=P) (p:=p) (u:=p.ed.v) rfl (List.mem_cons_of_mem _ (List.mem_cons_of_mem _ List.mem_cons_self)) hs hi rfl) rfl rfl rfl ?_) | fail)
            rename_i bn
            refine sw_append (size:=1) (news:=[.int .i64 (k : Nat)]) (q:=1) rfl rfl rfl rfl (fun _ => At.there _ (At.there _ (At.there _ (At.there _ (At.here _))))) (fun w G => src_cel G List.mem_cons_self rfl rfl 1) (by omega) (by simp only [maxLen];omega) rfl ?_ rfl ?_
            · (with_reducible rfl)
            intro A2 c2
            repeat' (first | apply sw_nil | (refine sy_nilX (ad:=ad) (hp:=had) (h:=?_)) | (refine sy_fldX (h:=?_)) | (refine sw_stPf { p with ed := ⟨A2,p.ed.n + 1,c2⟩,edL := p.edL ++ [(k : Int)] } (i:=i) (j:=9) (hi:=hi) (hj:=by decide) (hc:=rfl) (hn:=hs) (hsz:=by kernel_rfl) (hv:=rfl) (h1:=rfl) (hA:=At.there _ (At.there _ (At.there _ (At.here _)))) (h:=?_)) | fail)
            refine ends_end (res_none rfl) ⟨rfl, { p with ed := ⟨A2,p.ed.n + 1,c2⟩,edL := p.edL ++ [(k : Int)] }, [cel bn 3 [.int .i64 (k : Nat)],cel b6 46 x.cells],by rw [editP,hE];rfl,rfl,rfl, ?_⟩
            simp only [edR,List.map_append,List.map_cons,List.map_nil]
            rfl
    · have hE : editB x p = false := by rw [editB,decide_eq_false hsc,Bool.and_false];rfl
      (refine cw_draw [cel b6 46 x.cells,cel b 88 (regC c s.v q1 q2),postR s P,edR p] (fun w => (c.at_ w ∧ Glob w) ∧ Strs w p.to p.toL) (by kernel_rfl) ?_)
      all_goals (refine aw_take 0 (h:=?_))
      all_goals (refine aw_take 1 (hy:=by (apply y_nilX (ad:=ad);rfl;exact had)) (h:=?_))
      all_goals (refine aw_take 2 (hy:=by (apply y_fldX;rfl;exact hp';rfl)) (h:=?_))
      all_goals (refine aw_take 3 (hy:=by (apply y_ldPf (i:=i) (j:=10) (P:=P) (p:=p) (u:=.bool false);rfl;exact List.mem_cons_of_mem _ (List.mem_cons_of_mem _ List.mem_cons_self);exact hs;exact hi;exact h10)) (h:=?_))
      all_goals (refine aw_take 4 (h:=?_))
      all_goals (refine aw_take 5 (h:=?_))
      all_goals (refine aw_take 6 (h:=?_))
      all_goals (refine aw_take 7 (h:=?_))
      all_goals (refine aw_take 8 (h:=?_))
      all_goals (refine aw_take 9 (hy:=by (apply y_nilX (ad:=ad);rfl;exact had)) (h:=?_))
      all_goals (refine aw_take 10 (hy:=by (apply y_fldX;rfl;exact hp';rfl)) (h:=?_))
      all_goals (refine aw_take 11 (hy:=by (apply y_ldPf (i:=i) (j:=4) (P:=P) (p:=p) (u:=.int .i64 p.scope);rfl;exact List.mem_cons_of_mem _ (List.mem_cons_of_mem _ List.mem_cons_self);exact hs;exact hi;exact rfl)) (h:=?_))
      all_goals (refine aw_take 12 (hy:=by (apply y_eqlV false;rfl;rfl;exact decide_eq_false hsc)) (h:=?_))
      all_goals (refine aw_take 13 (h:=?_))
      all_goals (refine aw_take 14 (h:=?_))
      all_goals (refine aw_skipT 15 (h:=?_))
      all_goals (refine aw_skipT 16 (h:=?_))
      all_goals (refine aw_skipT 17 (h:=?_))
      all_goals (refine aw_skipT 18 (h:=?_))
      all_goals (refine aw_skipT 19 (h:=?_))
      all_goals (refine aw_skipT 20 (h:=?_))
      all_goals (refine aw_skipT 21 (h:=?_))
      all_goals (refine aw_take 22 (h:=?_))
      all_goals (refine aw_take 23 (h:=?_))
      all_goals (refine aw_skipT 24 (h:=?_))
      all_goals (refine aw_skipT 25 (h:=?_))
      all_goals (refine aw_skipT 26 (h:=?_))
      all_goals (refine aw_skipT 27 (h:=?_))
      all_goals (refine aw_skipT 28 (h:=?_))
      all_goals (refine aw_skipT 29 (h:=?_))
      all_goals (refine aw_step 30 (h:=?_);(refine sw_skipT (h:=?_));apply sw_nil;refine aw_fin (h:=?_))
      all_goals (refine aw_take 31 (h:=?_))
      all_goals (refine aw_done (h:=?_))
      all_goals
        repeat' (first | refine cw_cond_f (hf:=?_) | apply cw_skip | fail)
        first
          | exact ends_end (res_none rfl) ⟨rfl,p, [cel b6 46 x.cells],by rw [editP,hE];rfl,rfl,rfl,by rw [set_same hi];rfl⟩
          | exact ends_ret (res_none rfl) ⟨rfl,p, [cel b6 46 x.cells],by rw [editP,hE];rfl,rfl,rfl,by rw [set_same hi];rfl⟩
end Go.Proofs.YtjmpdkmboheknaaGreatDoor

namespace Go.Proofs.YtjmpdkmboheknaaGreatDoor
open Go Go.Proofs Sy
theorem edR_perm {P : List PostD} {n : Nat} {p : PostD} (h : P[n]? = some p) : (P.map edR).Perm (edR p :: (P.eraseIdx n).map edR) := by
  obtain ⟨h1,rfl⟩ := List.getElem?_eq_some_iff.1 h
  have e : P = P.take n ++ P[n] :: P.drop (n + 1) := by rw [← List.drop_eq_getElem_cons h1,List.take_append_drop]
  rw [List.eraseIdx_eq_take_drop_succ]
  conv => lhs;rw [e]
  rw [List.map_append,List.map_cons,List.map_append]
  exact List.perm_middle
theorem permA (c m2 m1 po e : Res) (E : List Res) : ([c,m2,m1,po] ++ (e :: E)).Perm ([c,po,e] ++ ([m2,m1] ++ E)) := by
  have h := (List.perm_append_comm (l₁:=[m2,m1]) (l₂:=[po,e])).append_right E
  simpa using h.cons c
theorem permB (c m2 m1 po : Res) {P : List PostD} {n : Nat} {p : PostD} (h : P[n]? = some p) : ([c,m2,m1,po] ++ P.map edR).Perm ([c,po,edR p] ++ ([m2,m1] ++ (P.eraseIdx n).map edR)) :=
  ((edR_perm h).append_left _).trans (permA c m2 m1 po (edR p) _)
theorem eraseIdx_set_same {P : List PostD} {n : Nat} {p : PostD} : (P.set n p).eraseIdx n = P.eraseIdx n := by
  rw [List.eraseIdx_set_eq]
theorem permC (ex : List Res) (c m2 m1 po : Res) {P : List PostD} {n : Nat} {p' : PostD} (h : n < P.length) : ((ex ++ [c,po,edR p']) ++ ([m2,m1] ++ (P.eraseIdx n).map edR)).Perm (ex ++ ([c,m2,m1,po] ++ (P.set n p').map edR)) := by
  have h1 := permB c m2 m1 po (P:=P.set n p') (n:=n) (p:=p') (by simp [h])
  rw [eraseIdx_set_same] at h1
  rw [List.append_assoc]
  exact (h1.symm).append_left ex
section
variable {P : Program} {N : Nat} {av bor : List Nat} {w0 : World} {ops : Array Oper} {rest : List Oper} {kk : St → Prop} {E : Env} {loc : List Res} {X : World → Prop} {x y : Operand} {t t2 : TypeId}
variable {n : Nat} {ty : TypeId} {pos : String} {af : Array Edge} {g : Option (Nat × Bool)} {bb want : Bool}
theorem sy_geqT {k : IntKind} {a b : Int} [hI : TyInt P t k] (hx : ev E x = some (.int k a) := by rfl) (hy : ev E y = some (.int k b) := by rfl) (hab : b ≤ a := by (first | decide | omega)) (hg : gdB ops E g = some (bb,want) := by rfl) (hbb : bb = want := by (first | with_reducible rfl | with_reducible assumption | with_reducible exact Bool.not_false | with_reducible exact Bool.not_true)) (hd : Nat.blt n N = true := by rfl) (h : Sw P N av bor w0 ops rest ⟨(n,.bool true) :: E,loc,X⟩ kk) :
    Sw P N av bor w0 ops (⟨some n,.binOp .geq t x y t2,ty,pos,af,g⟩ :: rest) ⟨E,loc,X⟩ kk := sy_geq (hx:=hx) (hy:=hy) (hg:=hg) (hbb:=hbb) (hd:=hd) (h:=by
      have e : ∀ u,u = Value.bool true → Sw P N av bor w0 ops rest ⟨(n,u) :: E,loc,X⟩ kk := fun u hu => hu ▸ h
      exact e _ (by simp [hab]))
end
structure PostTo (P Q : List PostD) : Prop where
  to : Q.map (fun p => (p.to,p.toL,p.pos)) = P.map fun p => (p.to,p.toL,p.pos)
theorem set_sameG {α : Type} {P : List α} {i : Nat} {p : α} (h : P[i]? = some p) : P.set i p = P := by
  obtain ⟨h1,rfl⟩ := List.getElem?_eq_some_iff.1 h
  exact List.set_getElem_self h1
def ReferAt (c : ChainD) (r m2 m1 : Res) (s : SlV) (P : List PostD) (k : Nat) (g : PostD → PostD) (u : Value) (R : List Res) (X : World → Prop) : Prop := u = .tuple #[] ∧ ∃ (Q : List PostD) (ex : List Res),Q.map PostD.can = modP (P.map PostD.can) (refV c.actsL P k) g ∧ PostTo P Q ∧ R = ex ++ ([r,m2,m1,postR s Q] ++ Q.map edR)
set_option maxHeartbeats 8000000 in
theorem refer_ct (c : ChainD) (s : SlV) (P : List PostD) (b q1 q2 k nf : Nat) (hnf : FnBody Tryz.prog nf) (pl : List (ByteArray × Value)) (num : List (Int × Value)) (x : ActD) (g : PostD → PostD) (hs : s.n = P.length) (hx : c.actsL[k]? = some x) (hkm : k ≤ 1000000)
    (hpl : ∀ d,mget pl d = (idxV c.actsL d).map fun (j : Nat) => Value.int .i64 (j : Int)) (hnum : ∀ j : Nat,mget num (j : Int) = (posP P j).map fun (n : Nat) => Value.int .i64 (n : Int)) (hcl : c.actsL.length ≤ 1000000) (hPm : P.length ≤ 1000000)
    (hg : ∀ p,(g p).can = g p.can) (hgp : ∀ p,(g p).pos = p.pos)
    (hnote : ∀ n p,P[n]? = some p → Ct Tryz.prog nf #[.pointer (some ⟨b,0,none⟩),elP s.p (n * 11),.int .i64 (k : Nat)] [cel b 88 (regC c s.v q1 q2),postR s P,edR p] (fun w => (c.at_ w ∧ Glob w) ∧ Strs w p.to p.toL) (NoteAt (cel b 88 (regC c s.v q1 q2)) s P n p (g p))) :
    Ct Tryz.prog 33 #[.pointer (some ⟨b,0,none⟩),.int .i64 (k : Nat),.func (.func nf) #[.pointer (some ⟨b,0,none⟩)] #[]] ([cel b 88 (regC c s.v q1 q2),mapr q2 pl,mapr q1 num,postR s P] ++ P.map edR) (fun w => (c.at_ w ∧ Glob w) ∧ ∀ p ∈ P,Strs w p.to p.toL)
      (ReferAt c (cel b 88 (regC c s.v q1 q2)) (mapr q2 pl) (mapr q1 num) s P k g) := by
  refine ct_of_cw (args:=[_,_,_]) _ Tryz.func33 rfl Tryz.ntmps33 rfl fun av bor w0 => ?_
  have hkl := (List.getElem?_eq_some_iff.1 hx).1
  refine cw_knowR (r:=postR s P) (by simp) (p:=0 < s.n → s.p.isSome = true) (fun w h hn => orow_some h hn) fun hp => ?_
  refine cw_know (p:=c.acts.n = c.actsL.length ∧ (0 < c.actsL.length → c.acts.p.isSome = true)) (fun w h => ⟨h.1.1.len_,h.1.1.some_⟩) fun ⟨hl,hpa⟩ => ?_
  have hpa' := hpa (by omega)
  have hxD : c.actsL.getD k ActD.zero = x := by rw [List.getD_eq_getElem?_getD,hx];rfl
  have hlk := hpl x.object
  have hM0 : ∀ {o},refV c.actsL P k = o → o = none → P.map PostD.can = modP (P.map PostD.can) (refV c.actsL P k) g := fun {o} h1 h2 => by rw [h1,h2];rfl
  simp only [List.cons_append,List.nil_append]
  cases hj : idxV c.actsL x.object with
  | none =>
    rw [hj] at hlk
    have hR : refV c.actsL P k = none := by rw [refV,hxD,hj]
    repeat apply cw_seq
    (refine cw_draw [cel b 88 (regC c s.v q1 q2)] (fun w => (c.at_ w ∧ Glob w) ∧ ∀ p ∈ P,Strs w p.to p.toL) (by kernel_rfl) ?_)
    all_goals (refine aw_take 0 (hsub:=by (exact fun _ h => h.drop (by ((repeat (first | exact List.nil_sublist _ | apply List.Sublist.cons_cons));done)))) (h:=?_))
    all_goals (refine aw_take 1 (hsub:=by (exact fun _ h => h.drop (by ((repeat (first | exact List.nil_sublist _ | apply List.Sublist.cons_cons));done)))) (h:=?_))
    all_goals (refine aw_take 2 (hsub:=by (exact fun _ h => h.drop (by ((repeat (first | exact List.nil_sublist _ | apply List.Sublist.cons_cons));done)))) (h:=?_))
    all_goals (refine aw_take 3 (hsub:=by (exact fun _ h => h.drop (by ((repeat (first | exact List.nil_sublist _ | apply List.Sublist.cons_cons));done)))) (h:=?_))
    all_goals (refine aw_take 4 (hsub:=by (exact fun _ h => h.drop (by ((repeat (first | exact List.nil_sublist _ | apply List.Sublist.cons_cons));done)))) (h:=?_))
    all_goals (refine aw_take 5 (hsub:=by (exact fun _ h => h.drop (by ((repeat (first | exact List.nil_sublist _ | apply List.Sublist.cons_cons));done)))) (h:=?_))
    all_goals (refine aw_take 6 (hsub:=by (exact fun _ h => h.drop (by ((repeat (first | exact List.nil_sublist _ | apply List.Sublist.cons_cons));done)))) (h:=?_))
    all_goals (refine aw_take 7 (hsub:=by (exact fun _ h => h.drop (by ((repeat (first | exact List.nil_sublist _ | apply List.Sublist.cons_cons));done)))) (h:=?_))
    all_goals (refine aw_take 8 (hsub:=by (exact fun _ h => h.drop (by ((repeat (first | exact List.nil_sublist _ | apply List.Sublist.cons_cons));done)))) (h:=?_))
    all_goals (refine aw_take 9 (hsub:=by (exact fun _ h => h.drop (by ((repeat (first | exact List.nil_sublist _ | apply List.Sublist.cons_cons));done)))) (h:=?_))
    all_goals (refine aw_take 10 (hsub:=by (exact fun _ h => h.drop (by ((repeat (first | exact List.nil_sublist _ | apply List.Sublist.cons_cons));done)))) (hy:=by (apply y_idxX (q:=k * 20);rfl;rfl;omega;omega;assumption;(rfl))) (h:=?_))
    all_goals (refine aw_take 11 (hsub:=by (exact fun _ h => h.drop (by ((repeat (first | exact List.nil_sublist _ | apply List.Sublist.cons_cons));done)))) (hy:=by (apply y_fldX;rfl;exact hpa';rfl)) (h:=?_))
    all_goals (refine aw_take 12 (hsub:=by (exact fun _ h => h.drop (by ((repeat (first | exact List.nil_sublist _ | apply List.Sublist.cons_cons));done)))) (hy:=by (apply y_ldX (q:=k * 20 + 5) (u:=.string x.object);rfl;exact (fun w h => (Acts.get h.1.1 hx).2.2 5 _ rfl))) (h:=?_))
    all_goals (refine aw_step 13 (h:=?_);(refine sy_lookup2 (κ:=ByteArray) (kk:=x.object) (b:=false) (v:=.int .i64 0) (hl:=map_loc (List.mem_cons_of_mem _ List.mem_cons_self)) (ho:=hlk) (h:=?_));apply sw_nil;refine aw_fin (hsub:=by (exact fun _ h => h.drop (by ((repeat (first | exact List.nil_sublist _ | apply List.Sublist.cons_cons));done)))) (h:=?_))
    all_goals (refine aw_take 14 (hsub:=by (exact fun _ h => h.drop (by ((repeat (first | exact List.nil_sublist _ | apply List.Sublist.cons_cons));done)))) (h:=?_))
    all_goals (refine aw_take 15 (hsub:=by (exact fun _ h => h.drop (by ((repeat (first | exact List.nil_sublist _ | apply List.Sublist.cons_cons));done)))) (h:=?_))
    all_goals (refine aw_take 16 (hsub:=by (exact fun _ h => h.drop (by ((repeat (first | exact List.nil_sublist _ | apply List.Sublist.cons_cons));done)))) (h:=?_))
    all_goals (refine aw_take 17 (hsub:=by (exact fun _ h => h.drop (by ((repeat (first | exact List.nil_sublist _ | apply List.Sublist.cons_cons));done)))) (h:=?_))
    all_goals (refine aw_take 18 (hsub:=by (exact fun _ h => h.drop (by ((repeat (first | exact List.nil_sublist _ | apply List.Sublist.cons_cons));done)))) (h:=?_))
    all_goals (refine aw_done (h:=?_))
    all_goals
      repeat' (first | apply sw_nil | apply cw_seq | apply cw_reg | refine sy_move (h:=?_) | refine sy_pick_t (h:=?_) | refine sy_not (h:=?_) | refine sw_skipF (h:=?_) | refine cw_cond_t (ht:=?_) | apply cw_ret | fail)
      first
        | exact ends_ret (res_none rfl) ⟨rfl,P, [],hM0 hR rfl,⟨rfl⟩,rfl⟩
        | exact ends_end (res_none rfl) ⟨rfl,P, [],hM0 hR rfl,⟨rfl⟩,rfl⟩
  | some j =>
    rw [hj] at hlk
    have hjl := idxV_lt hj
    by_cases hjk : j < k
    · have hlk2 := hnum j
      cases hn : posP P j with
      | none =>
        rw [hn] at hlk2
        have hR : refV c.actsL P k = none := by
          rw [refV,hxD,hj]
          simp only [decide_eq_true hjk,cond_true,hn]
        repeat apply cw_seq
        (refine cw_draw [cel b 88 (regC c s.v q1 q2)] (fun w => (c.at_ w ∧ Glob w) ∧ ∀ p ∈ P,Strs w p.to p.toL) (by kernel_rfl) ?_)
        all_goals (refine aw_take 0 (hsub:=by (exact fun _ h => h.drop (by ((repeat (first | exact List.nil_sublist _ | apply List.Sublist.cons_cons));done)))) (h:=?_))
        all_goals (refine aw_take 1 (hsub:=by (exact fun _ h => h.drop (by ((repeat (first | exact List.nil_sublist _ | apply List.Sublist.cons_cons));done)))) (h:=?_))
        all_goals (refine aw_take 2 (hsub:=by (exact fun _ h => h.drop (by ((repeat (first | exact List.nil_sublist _ | apply List.Sublist.cons_cons));done)))) (h:=?_))
        all_goals (refine aw_take 3 (hsub:=by (exact fun _ h => h.drop (by ((repeat (first | exact List.nil_sublist _ | apply List.Sublist.cons_cons));done)))) (h:=?_))
        all_goals (refine aw_take 4 (hsub:=by (exact fun _ h => h.drop (by ((repeat (first | exact List.nil_sublist _ | apply List.Sublist.cons_cons));done)))) (h:=?_))
        all_goals (refine aw_take 5 (hsub:=by (exact fun _ h => h.drop (by ((repeat (first | exact List.nil_sublist _ | apply List.Sublist.cons_cons));done)))) (h:=?_))
        all_goals (refine aw_take 6 (hsub:=by (exact fun _ h => h.drop (by ((repeat (first | exact List.nil_sublist _ | apply List.Sublist.cons_cons));done)))) (h:=?_))
        all_goals (refine aw_take 7 (hsub:=by (exact fun _ h => h.drop (by ((repeat (first | exact List.nil_sublist _ | apply List.Sublist.cons_cons));done)))) (h:=?_))
        all_goals (refine aw_take 8 (hsub:=by (exact fun _ h => h.drop (by ((repeat (first | exact List.nil_sublist _ | apply List.Sublist.cons_cons));done)))) (h:=?_))
        all_goals (refine aw_take 9 (hsub:=by (exact fun _ h => h.drop (by ((repeat (first | exact List.nil_sublist _ | apply List.Sublist.cons_cons));done)))) (h:=?_))
        all_goals (refine aw_take 10 (hsub:=by (exact fun _ h => h.drop (by ((repeat (first | exact List.nil_sublist _ | apply List.Sublist.cons_cons));done)))) (hy:=by (apply y_idxX (q:=k * 20);rfl;rfl;omega;omega;assumption;(rfl))) (h:=?_))
        all_goals (refine aw_take 11 (hsub:=by (exact fun _ h => h.drop (by ((repeat (first | exact List.nil_sublist _ | apply List.Sublist.cons_cons));done)))) (hy:=by (apply y_fldX;rfl;exact hpa';rfl)) (h:=?_))
        all_goals (refine aw_take 12 (hsub:=by (exact fun _ h => h.drop (by ((repeat (first | exact List.nil_sublist _ | apply List.Sublist.cons_cons));done)))) (hy:=by (apply y_ldX (q:=k * 20 + 5) (u:=.string x.object);rfl;exact (fun w h => (Acts.get h.1.1 hx).2.2 5 _ rfl))) (h:=?_))
        all_goals (refine aw_step 13 (h:=?_);(refine sy_lookup2 (κ:=ByteArray) (kk:=x.object) (b:=true) (v:=.int .i64 (j : Nat)) (hl:=map_loc (List.mem_cons_of_mem _ List.mem_cons_self)) (ho:=hlk) (h:=?_));apply sw_nil;refine aw_fin (hsub:=by (exact fun _ h => h.drop (by ((repeat (first | exact List.nil_sublist _ | apply List.Sublist.cons_cons));done)))) (h:=?_))
        all_goals (refine aw_take 14 (hsub:=by (exact fun _ h => h.drop (by ((repeat (first | exact List.nil_sublist _ | apply List.Sublist.cons_cons));done)))) (h:=?_))
        all_goals (refine aw_take 15 (hsub:=by (exact fun _ h => h.drop (by ((repeat (first | exact List.nil_sublist _ | apply List.Sublist.cons_cons));done)))) (h:=?_))
        all_goals (refine aw_take 16 (hsub:=by (exact fun _ h => h.drop (by ((repeat (first | exact List.nil_sublist _ | apply List.Sublist.cons_cons));done)))) (h:=?_))
        all_goals (refine aw_take 17 (hsub:=by (exact fun _ h => h.drop (by ((repeat (first | exact List.nil_sublist _ | apply List.Sublist.cons_cons));done)))) (h:=?_))
        all_goals (refine aw_take 18 (hsub:=by (exact fun _ h => h.drop (by ((repeat (first | exact List.nil_sublist _ | apply List.Sublist.cons_cons));done)))) (h:=?_))
        all_goals (refine aw_done (h:=?_))
        all_goals
          repeat' (first | refine sy_geqF (hab:=by omega) (h:=?_) | apply sw_nil | apply cw_seq | apply cw_reg | refine sy_move (h:=?_) | refine sy_assign (h:=?_) | refine sy_nilCheck (h:=?_) | refine sy_fld (h:=?_) | refine sy_ld (h:=?_) | refine sy_pick_f (h:=?_) | refine sy_not (h:=?_) | refine sy_extract (h:=?_) | refine cw_cond_f (hf:=?_) | apply cw_skip | (refine sy_lookup2 (κ:=Int) (kk:=(j : Int)) (b:=false) (v:=.int .i64 0) (hl:=map_loc (List.mem_cons_of_mem _ (List.mem_cons_of_mem _ List.mem_cons_self))) (ho:=hlk2) (h:=?_)) | fail)
          first
            | exact ends_ret (res_none rfl) ⟨rfl,P, [],hM0 hR rfl,⟨rfl⟩,rfl⟩
            | exact ends_end (res_none rfl) ⟨rfl,P, [],hM0 hR rfl,⟨rfl⟩,rfl⟩
      | some n =>
        rw [hn] at hlk2
        have hnl := posP_lt hn
        obtain ⟨p,hpn⟩ : ∃ p,P[n]? = some p := ⟨_,List.getElem?_eq_getElem hnl⟩
        have hp' := hp (by omega)
        have hR : refV c.actsL P k = some n := by
          rw [refV,hxD,hj]
          simp only [decide_eq_true hjk,cond_true,hn]
        have hpm := List.mem_of_getElem? hpn
        have hno := hnote n p hpn
        repeat apply cw_seq
        (refine cw_draw [cel b 88 (regC c s.v q1 q2)] (fun w => (c.at_ w ∧ Glob w) ∧ ∀ p ∈ P,Strs w p.to p.toL) (by kernel_rfl) ?_)
        all_goals (refine aw_take 0 (hsub:=by (exact fun _ h => h.drop (by ((repeat (first | exact List.nil_sublist _ | apply List.Sublist.cons_cons));done)))) (h:=?_))
        all_goals (refine aw_take 1 (hsub:=by (exact fun _ h => h.drop (by ((repeat (first | exact List.nil_sublist _ | apply List.Sublist.cons_cons));done)))) (h:=?_))
        all_goals (refine aw_take 2 (hsub:=by (exact fun _ h => h.drop (by ((repeat (first | exact List.nil_sublist _ | apply List.Sublist.cons_cons));done)))) (h:=?_))
        all_goals (refine aw_take 3 (hsub:=by (exact fun _ h => h.drop (by ((repeat (first | exact List.nil_sublist _ | apply List.Sublist.cons_cons));done)))) (h:=?_))
        all_goals (refine aw_take 4 (hsub:=by (exact fun _ h => h.drop (by ((repeat (first | exact List.nil_sublist _ | apply List.Sublist.cons_cons));done)))) (h:=?_))
        all_goals (refine aw_take 5 (hsub:=by (exact fun _ h => h.drop (by ((repeat (first | exact List.nil_sublist _ | apply List.Sublist.cons_cons));done)))) (h:=?_))
        all_goals (refine aw_take 6 (hsub:=by (exact fun _ h => h.drop (by ((repeat (first | exact List.nil_sublist _ | apply List.Sublist.cons_cons));done)))) (h:=?_))
        all_goals (refine aw_take 7 (hsub:=by (exact fun _ h => h.drop (by ((repeat (first | exact List.nil_sublist _ | apply List.Sublist.cons_cons));done)))) (h:=?_))
        all_goals (refine aw_take 8 (hsub:=by (exact fun _ h => h.drop (by ((repeat (first | exact List.nil_sublist _ | apply List.Sublist.cons_cons));done)))) (h:=?_))
        all_goals (refine aw_take 9 (hsub:=by (exact fun _ h => h.drop (by ((repeat (first | exact List.nil_sublist _ | apply List.Sublist.cons_cons));done)))) (h:=?_))
        all_goals (refine aw_take 10 (hsub:=by (exact fun _ h => h.drop (by ((repeat (first | exact List.nil_sublist _ | apply List.Sublist.cons_cons));done)))) (hy:=by (apply y_idxX (q:=k * 20);rfl;rfl;omega;omega;assumption;(rfl))) (h:=?_))
        all_goals (refine aw_take 11 (hsub:=by (exact fun _ h => h.drop (by ((repeat (first | exact List.nil_sublist _ | apply List.Sublist.cons_cons));done)))) (hy:=by (apply y_fldX;rfl;exact hpa';rfl)) (h:=?_))
        all_goals (refine aw_take 12 (hsub:=by (exact fun _ h => h.drop (by ((repeat (first | exact List.nil_sublist _ | apply List.Sublist.cons_cons));done)))) (hy:=by (apply y_ldX (q:=k * 20 + 5) (u:=.string x.object);rfl;exact (fun w h => (Acts.get h.1.1 hx).2.2 5 _ rfl))) (h:=?_))
        all_goals (refine aw_step 13 (h:=?_);(refine sy_lookup2 (κ:=ByteArray) (kk:=x.object) (b:=true) (v:=.int .i64 (j : Nat)) (hl:=map_loc (List.mem_cons_of_mem _ List.mem_cons_self)) (ho:=hlk) (h:=?_));apply sw_nil;refine aw_fin (hsub:=by (exact fun _ h => h.drop (by ((repeat (first | exact List.nil_sublist _ | apply List.Sublist.cons_cons));done)))) (h:=?_))
        all_goals (refine aw_take 14 (hsub:=by (exact fun _ h => h.drop (by ((repeat (first | exact List.nil_sublist _ | apply List.Sublist.cons_cons));done)))) (h:=?_))
        all_goals (refine aw_take 15 (hsub:=by (exact fun _ h => h.drop (by ((repeat (first | exact List.nil_sublist _ | apply List.Sublist.cons_cons));done)))) (h:=?_))
        all_goals (refine aw_take 16 (hsub:=by (exact fun _ h => h.drop (by ((repeat (first | exact List.nil_sublist _ | apply List.Sublist.cons_cons));done)))) (h:=?_))
        all_goals (refine aw_take 17 (hsub:=by (exact fun _ h => h.drop (by ((repeat (first | exact List.nil_sublist _ | apply List.Sublist.cons_cons));done)))) (h:=?_))
        all_goals (refine aw_take 18 (hsub:=by (exact fun _ h => h.drop (by ((repeat (first | exact List.nil_sublist _ | apply List.Sublist.cons_cons));done)))) (h:=?_))
        all_goals (refine aw_done (h:=?_))
        all_goals
          repeat' (first | refine sy_geqF (hab:=by omega) (h:=?_) | apply sw_nil | apply cw_seq | apply cw_reg | refine sy_move (h:=?_) | refine sy_assign (h:=?_) | refine sy_nilCheck (h:=?_) | refine sy_fld (h:=?_) | refine sy_ld (h:=?_) | refine sy_pick_f (h:=?_) | refine sy_not (h:=?_) | refine sy_extract (h:=?_) | refine cw_cond_t (ht:=?_) | refine cw_cond_f (hf:=?_) | apply cw_skip | (refine sy_lookup2 (κ:=Int) (kk:=(j : Int)) (b:=true) (v:=.int .i64 (n : Nat)) (hl:=map_loc (List.mem_cons_of_mem _ (List.mem_cons_of_mem _ List.mem_cons_self))) (ho:=hlk2) (h:=?_)) | (refine sy_idxX (q:=n * 11) (h:=?_)) | fail)
          refine sw_perm (permB _ _ _ _ hpn) ?_
          refine sw_fn (first:=#[.pointer (some ⟨b,0,none⟩)]) (caps:=#[]) (pre:=[cel b 88 (regC c s.v q1 q2),postR s P,edR p]) (fr:=[mapr q2 pl,mapr q1 num] ++ (P.eraseIdx n).map edR) (hc:=hno) (hX:=fun w h => ⟨h.1,h.2 p hpm⟩) (h:=?_)
          rintro _ _ X' ⟨rfl,p',ex,hcan,hto,htl,rfl⟩
          refine sw_perm (permC ex _ _ _ _ hnl) ?_
          repeat' (first | apply sw_nil | fail)
          have hpos : p'.pos = p.pos := (congrArg PostD.pos hcan).trans (hgp p)
          refine ends_end (res_none rfl) ⟨rfl,P.set n p',ex, ?_,⟨?_⟩,rfl⟩
          · rw [hR]
            show (P.set n p').map PostD.can = (P.map PostD.can).set n (g ((P.map PostD.can).getD n PostD.zero))
            rw [List.map_set,getD_canP,List.getD_eq_getElem?_getD,hpn,Option.getD_some, ← hg p,hcan]
          · rw [List.map_set,hto,htl,hpos]
            exact set_sameG (by simp [hpn])
    · have hR : refV c.actsL P k = none := by
        rw [refV,hxD,hj]
        simp only [decide_eq_false hjk,cond_false]
      repeat apply cw_seq
      (refine cw_draw [cel b 88 (regC c s.v q1 q2)] (fun w => (c.at_ w ∧ Glob w) ∧ ∀ p ∈ P,Strs w p.to p.toL) (by kernel_rfl) ?_)
      all_goals (refine aw_take 0 (hsub:=by (exact fun _ h => h.drop (by ((repeat (first | exact List.nil_sublist _ | apply List.Sublist.cons_cons));done)))) (h:=?_))
      all_goals (refine aw_take 1 (hsub:=by (exact fun _ h => h.drop (by ((repeat (first | exact List.nil_sublist _ | apply List.Sublist.cons_cons));done)))) (h:=?_))
      all_goals (refine aw_take 2 (hsub:=by (exact fun _ h => h.drop (by ((repeat (first | exact List.nil_sublist _ | apply List.Sublist.cons_cons));done)))) (h:=?_))
      all_goals (refine aw_take 3 (hsub:=by (exact fun _ h => h.drop (by ((repeat (first | exact List.nil_sublist _ | apply List.Sublist.cons_cons));done)))) (h:=?_))
      all_goals (refine aw_take 4 (hsub:=by (exact fun _ h => h.drop (by ((repeat (first | exact List.nil_sublist _ | apply List.Sublist.cons_cons));done)))) (h:=?_))
      all_goals (refine aw_take 5 (hsub:=by (exact fun _ h => h.drop (by ((repeat (first | exact List.nil_sublist _ | apply List.Sublist.cons_cons));done)))) (h:=?_))
      all_goals (refine aw_take 6 (hsub:=by (exact fun _ h => h.drop (by ((repeat (first | exact List.nil_sublist _ | apply List.Sublist.cons_cons));done)))) (h:=?_))
      all_goals (refine aw_take 7 (hsub:=by (exact fun _ h => h.drop (by ((repeat (first | exact List.nil_sublist _ | apply List.Sublist.cons_cons));done)))) (h:=?_))
      all_goals (refine aw_take 8 (hsub:=by (exact fun _ h => h.drop (by ((repeat (first | exact List.nil_sublist _ | apply List.Sublist.cons_cons));done)))) (h:=?_))
      all_goals (refine aw_take 9 (hsub:=by (exact fun _ h => h.drop (by ((repeat (first | exact List.nil_sublist _ | apply List.Sublist.cons_cons));done)))) (h:=?_))
      all_goals (refine aw_take 10 (hsub:=by (exact fun _ h => h.drop (by ((repeat (first | exact List.nil_sublist _ | apply List.Sublist.cons_cons));done)))) (hy:=by (apply y_idxX (q:=k * 20);rfl;rfl;omega;omega;assumption;(rfl))) (h:=?_))
      all_goals (refine aw_take 11 (hsub:=by (exact fun _ h => h.drop (by ((repeat (first | exact List.nil_sublist _ | apply List.Sublist.cons_cons));done)))) (hy:=by (apply y_fldX;rfl;exact hpa';rfl)) (h:=?_))
      all_goals (refine aw_take 12 (hsub:=by (exact fun _ h => h.drop (by ((repeat (first | exact List.nil_sublist _ | apply List.Sublist.cons_cons));done)))) (hy:=by (apply y_ldX (q:=k * 20 + 5) (u:=.string x.object);rfl;exact (fun w h => (Acts.get h.1.1 hx).2.2 5 _ rfl))) (h:=?_))
      all_goals (refine aw_step 13 (h:=?_);(refine sy_lookup2 (κ:=ByteArray) (kk:=x.object) (b:=true) (v:=.int .i64 (j : Nat)) (hl:=map_loc (List.mem_cons_of_mem _ List.mem_cons_self)) (ho:=hlk) (h:=?_));apply sw_nil;refine aw_fin (hsub:=by (exact fun _ h => h.drop (by ((repeat (first | exact List.nil_sublist _ | apply List.Sublist.cons_cons));done)))) (h:=?_))
      all_goals (refine aw_take 14 (hsub:=by (exact fun _ h => h.drop (by ((repeat (first | exact List.nil_sublist _ | apply List.Sublist.cons_cons));done)))) (h:=?_))
      all_goals (refine aw_take 15 (hsub:=by (exact fun _ h => h.drop (by ((repeat (first | exact List.nil_sublist _ | apply List.Sublist.cons_cons));done)))) (h:=?_))
      all_goals (refine aw_take 16 (hsub:=by (exact fun _ h => h.drop (by ((repeat (first | exact List.nil_sublist _ | apply List.Sublist.cons_cons));done)))) (h:=?_))
      all_goals (refine aw_take 17 (hsub:=by (exact fun _ h => h.drop (by ((repeat (first | exact List.nil_sublist _ | apply List.Sublist.cons_cons));done)))) (h:=?_))
      all_goals (refine aw_take 18 (hsub:=by (exact fun _ h => h.drop (by ((repeat (first | exact List.nil_sublist _ | apply List.Sublist.cons_cons));done)))) (h:=?_))
      all_goals (refine aw_done (h:=?_))
      all_goals
        repeat' (first | refine sy_geqT (hab:=by omega) (h:=?_) | apply sw_nil | apply cw_seq | apply cw_reg | refine sy_move (h:=?_) | refine sy_pick_f (h:=?_) | refine sy_not (h:=?_) | refine cw_cond_t (ht:=?_) | apply cw_ret | fail)
        first
          | exact ends_ret (res_none rfl) ⟨rfl,P, [],hM0 hR rfl,⟨rfl⟩,rfl⟩
          | exact ends_end (res_none rfl) ⟨rfl,P, [],hM0 hR rfl,⟨rfl⟩,rfl⟩
end Go.Proofs.YtjmpdkmboheknaaGreatDoor
