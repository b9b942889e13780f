/- Chains as data; contracts: item.OfAct, chain.Index, chain.Find. -/
import Derived.Test.YtfpojkoddcdojaaGreatDoorDg
set_option linter.unusedVariables false
set_option linter.unusedSimpArgs false
namespace Go.Proofs.YtfpojkoddcdojaaGreatDoor
open Go Go.Proofs Sy
structure ActD.Sm (a : ActD) : Prop where
  to : a.to.n ≤ 1000000
  wraps : a.wraps.n ≤ 1000000
  target : a.target.size ≤ maxLen
def ActD.re (a : ActD) (s1 s2 : SlV) : ActD := { a with to := s1, wraps := s2 }
theorem right_re {a : ActD} {s1 s2 : SlV} (h1 : s1.n = a.to.n) (h2 : s2.n = a.wraps.n) : rightB (a.re s1 s2) = rightB a := by
  obtain ⟨au, sq, pv, kd, tm, ob, tg, sc, gr, ⟨p, n, c⟩, tx, bd, ep, ⟨p', n', c'⟩, nn, mm, ee, ss, tl, wl⟩ := a
  obtain ⟨q, m, d⟩ := s1
  obtain ⟨q', m', d'⟩ := s2
  simp only at h1 h2
  subst h1
  subst h2
  simp only [rightB, ruleB, ruleL, usedV, audienceB, rule1B, rule2B, rule3B, rule4B, rule5B, rule6B, objectB, targetB, grantB, labelB, homeB, setupB, wrappedB, placedB, ActD.re]
  rfl
theorem dig_re {a : ActD} {s1 s2 : SlV} (h1 : s1.n = a.to.n) (h2 : s2.n = a.wraps.n) : digV (a.re s1 s2) = digV a := by
  have hr := right_re h1 h2
  have hc : coreV (a.re s1 s2) = coreV a := rfl
  have he : (a.re s1 s2).e = a.e := rfl
  have hs : (a.re s1 s2).s = a.s := rfl
  simp only [digV, bytesV, actBytes, actCore, hr, hc, he, hs]
def OfActAt (a : ActD) (u : Value) (X : World → Prop) : Prop := ∃ a' : ActD, u = itemV 0 a' ∧ digV a' = digV a ∧ a'.Rng ∧ ∀ w, X w → a'.at_ w
set_option maxRecDepth 20000 in
theorem ofAct_mk (a : ActD) (hr : a.Rng) (hs : a.Sm) : Mk Tryz.prog 61 #[a.v] (ActD.at_ · a) (OfActAt a) := by
  refine mk_of_cw2 (args := [_]) _ Tryz.func61 rfl Tryz.ntmps61 rfl fun av bor w0 => ?_
  repeat' (first | apply sw_nil | apply cw_seq | apply cw_reg | refine sy_move (h := ?_) | refine sy_assign (h := ?_) | refine sy_nilCheck (h := ?_) | refine sy_fld (h := ?_) | refine sy_ld (h := ?_) | refine sy_ldAll (h := ?_) | refine sy_pick_t (h := ?_) | refine sy_pick_f (h := ?_) | refine sy_not (h := ?_) | refine sy_eql (h := ?_) | refine sy_neq (h := ?_) | refine sy_lss (h := ?_) | refine sy_leq (h := ?_) | refine sy_gtr (h := ?_) | refine sy_geq (h := ?_) | refine sy_seql (h := ?_) | refine sy_sneq (h := ?_) | refine sy_slen (h := ?_) | refine sy_len (h := ?_) | refine sy_extract (h := ?_) | refine sy_add (h := ?_) | refine sy_sub (h := ?_) | refine sw_skipT (h := ?_) | refine sw_skipF (h := ?_) | refine sw_skipU (h := ?_) | refine sw_alloc (h := fun _ => ?_) | refine sw_box (h := fun _ => ?_) | refine sw_rangeS (h := fun _ => ?_) | refine sw_nextS (h1 := fun _ => ?_) (h2 := fun _ => ?_) | refine sw_bsl (h := fun _ => ?_) | refine sw_st1 (h := ?_) | refine sw_stAll (h := ?_) | refine cw_cond_t (ht := ?_) | refine cw_cond_f (hf := ?_) | apply cw_skip | apply cw_block | apply cw_ret | apply cw_exit | refine sy_and (h := ?_) | refine sy_or (h := ?_) | refine sy_xor (h := ?_) | refine sy_andNot (h := ?_) | refine sy_xorU (h := ?_) | refine sy_shl (h := ?_) | refine sy_shr (h := ?_) | refine sy_mul (h := ?_) | refine sy_int (h := ?_) | refine sy_beql (h := ?_) | refine sy_bneq (h := ?_) | refine sy_min (h := ?_) | refine sy_max (h := ?_) | refine sy_arrA (h := ?_) | refine sy_strI (h := ?_))
  refine sw_mk (hc := cloneS_mk a.to (strs a.toL) hs.to (fun cs hcs => by simp only [strs, List.mem_map] at hcs; obtain ⟨x, _, rfl⟩ := hcs; rfl)) (hX := fun w h => h.1) (h := fun v1 X1 h1 => ?_)
  obtain ⟨s1, rfl, hn1, hw1⟩ := h1
  repeat' (first | apply sw_nil | apply cw_seq | apply cw_reg | refine sy_move (h := ?_) | refine sy_assign (h := ?_) | refine sy_nilCheck (h := ?_) | refine sy_fld (h := ?_) | refine sy_ld (h := ?_) | refine sy_ldAll (h := ?_) | refine sy_pick_t (h := ?_) | refine sy_pick_f (h := ?_) | refine sy_not (h := ?_) | refine sy_eql (h := ?_) | refine sy_neq (h := ?_) | refine sy_lss (h := ?_) | refine sy_leq (h := ?_) | refine sy_gtr (h := ?_) | refine sy_geq (h := ?_) | refine sy_seql (h := ?_) | refine sy_sneq (h := ?_) | refine sy_slen (h := ?_) | refine sy_len (h := ?_) | refine sy_extract (h := ?_) | refine sy_add (h := ?_) | refine sy_sub (h := ?_) | refine sw_skipT (h := ?_) | refine sw_skipF (h := ?_) | refine sw_skipU (h := ?_) | refine sw_alloc (h := fun _ => ?_) | refine sw_box (h := fun _ => ?_) | refine sw_rangeS (h := fun _ => ?_) | refine sw_nextS (h1 := fun _ => ?_) (h2 := fun _ => ?_) | refine sw_bsl (h := fun _ => ?_) | refine sw_st1 (h := ?_) | refine sw_stAll (h := ?_) | refine cw_cond_t (ht := ?_) | refine cw_cond_f (hf := ?_) | apply cw_skip | apply cw_block | apply cw_ret | apply cw_exit | refine sy_and (h := ?_) | refine sy_or (h := ?_) | refine sy_xor (h := ?_) | refine sy_andNot (h := ?_) | refine sy_xorU (h := ?_) | refine sy_shl (h := ?_) | refine sy_shr (h := ?_) | refine sy_mul (h := ?_) | refine sy_int (h := ?_) | refine sy_beql (h := ?_) | refine sy_bneq (h := ?_) | refine sy_min (h := ?_) | refine sy_max (h := ?_) | refine sy_arrA (h := ?_) | refine sy_strI (h := ?_))
  refine sw_mk (hc := cloneW_mk a.wraps (a.wrapsL.map WrapD.cells) hs.wraps (fun cs hcs => by simp only [List.mem_map] at hcs; obtain ⟨x, _, rfl⟩ := hcs; rfl)) (hX := fun w h => h.1.2) (h := fun v2 X2 h2 => ?_)
  obtain ⟨s2, rfl, hn2, hw2⟩ := h2
  repeat' (first | apply sw_nil | apply cw_seq | apply cw_reg | refine sy_move (h := ?_) | refine sy_assign (h := ?_) | refine sy_nilCheck (h := ?_) | refine sy_fld (h := ?_) | refine sy_ld (h := ?_) | refine sy_ldAll (h := ?_) | refine sy_pick_t (h := ?_) | refine sy_pick_f (h := ?_) | refine sy_not (h := ?_) | refine sy_eql (h := ?_) | refine sy_neq (h := ?_) | refine sy_lss (h := ?_) | refine sy_leq (h := ?_) | refine sy_gtr (h := ?_) | refine sy_geq (h := ?_) | refine sy_seql (h := ?_) | refine sy_sneq (h := ?_) | refine sy_slen (h := ?_) | refine sy_len (h := ?_) | refine sy_extract (h := ?_) | refine sy_add (h := ?_) | refine sy_sub (h := ?_) | refine sw_skipT (h := ?_) | refine sw_skipF (h := ?_) | refine sw_skipU (h := ?_) | refine sw_alloc (h := fun _ => ?_) | refine sw_box (h := fun _ => ?_) | refine sw_rangeS (h := fun _ => ?_) | refine sw_nextS (h1 := fun _ => ?_) (h2 := fun _ => ?_) | refine sw_bsl (h := fun _ => ?_) | refine sw_st1 (h := ?_) | refine sw_stAll (h := ?_) | refine cw_cond_t (ht := ?_) | refine cw_cond_f (hf := ?_) | apply cw_skip | apply cw_block | apply cw_ret | apply cw_exit | refine sy_and (h := ?_) | refine sy_or (h := ?_) | refine sy_xor (h := ?_) | refine sy_andNot (h := ?_) | refine sy_xorU (h := ?_) | refine sy_shl (h := ?_) | refine sy_shr (h := ?_) | refine sy_mul (h := ?_) | refine sy_int (h := ?_) | refine sy_beql (h := ?_) | refine sy_bneq (h := ?_) | refine sy_min (h := ?_) | refine sy_max (h := ?_) | refine sy_arrA (h := ?_) | refine sy_strI (h := ?_) | (refine sy_build (h := ?_)))
  have e1 : s1.n = a.to.n := by rw [hn1, hr.to_len]; simp [strs]
  have e2 : s2.n = a.wraps.n := by rw [hn2, hr.wraps_len]; simp
  apply ends_ret; refine res_cell rfl rfl (by (repeat (first | exact List.mem_cons_self | apply List.mem_cons_of_mem))) ?_
  · rfl
  refine ⟨a.re s1 s2, rfl, dig_re e1 e2, ⟨hr.ints, hr.wints, ?_, ?_⟩, fun w h => ⟨?_, ?_⟩⟩
  · rw [show (a.re s1 s2).to = s1 from rfl, e1, hr.to_len]; rfl
  · rw [show (a.re s1 s2).wraps = s2 from rfl, e2, hr.wraps_len]; rfl
  · exact hw1 w h.1.1.2
  · exact hw2 w h.1.2
structure ChainD where
  id : ByteArray
  acts : SlV
  keys : SlV
  prev : ByteArray
  gen : Int
  fork : Bool
  actsL : List ActD
def ChainD.cells (c : ChainD) : List Value := [.string c.id, c.acts.v, c.keys.v, .string c.prev, .int .i64 c.gen, .bool c.fork]
def ChainD.v (c : ChainD) : Value := .agg c.cells.toArray
theorem ChainD.v_cells (c : ChainD) : c.v.cells.toList = c.cells := rfl
def ChainD.zero : ChainD := ⟨⟨#[]⟩, ⟨none, 0, 0⟩, ⟨none, 0, 0⟩, ⟨#[]⟩, 0, false, []⟩
def Acts (w : World) (s : SlV) (l : List ActD) : Prop := RowsD w 20 s (l.map ActD.cells) ∧ ∀ a ∈ l, a.at_ w
def ChainD.at_ (w : World) (c : ChainD) : Prop := Acts w c.acts c.actsL
structure ActsOk (l : List ActD) : Prop where
  rng : ∀ a ∈ l, a.Rng
  sm : ∀ a ∈ l, a.Sm
theorem Acts.len_ {w : World} {s : SlV} {l : List ActD} (h : Acts w s l) : s.n = l.length := by have := RowsD.len h.1; simpa using this
theorem Acts.max_ {w : World} {s : SlV} {l : List ActD} (h : Acts w s l) : s.n ≤ maxLen := Nat.le_trans (RowsD.cap h.1) (RowsD.max h.1)
theorem Acts.some_ {w : World} {s : SlV} {l : List ActD} (h : Acts w s l) (hl : 0 < l.length) : s.p.isSome = true := by
  have hx : l[0]? = some l[0] := List.getElem?_eq_getElem hl
  exact (RowsD.row h.1 0 l[0].cells (by simp [hx])).2.1
theorem Acts.get {w : World} {s : SlV} {l : List ActD} (h : Acts w s l) {i : Nat} {x : ActD} (hx : l[i]? = some x) : x.cells.length = 20 ∧ s.p.isSome = true ∧ ∀ j u, x.cells[j]? = some u → CellAt w s.p (i * 20 + j) u :=
  RowsD.row h.1 i x.cells (by simp [hx])
def idxV (l : List ActD) (d : ByteArray) : Option Nat := l.findIdx? fun a => seqB (digV a) d
def idxP (o : Option Nat) : Value := .tuple #[.int .i64 ((o.getD 0 : Nat) : Int), .bool o.isSome]
def badI (l : List ActD) (d : ByteArray) (k : Nat) : Bool :=
  match l[k]? with
  | some x => seqB (digV x) d
  | none => false
theorem badI_at {l : List ActD} {d : ByteArray} {k : Nat} {x : ActD} (h : l[k]? = some x) : badI l d k = seqB (digV x) d := by simp only [badI, h]
theorem idxV_found {l : List ActD} {d : ByteArray} (i : Upto l.length (badI l d)) (hlt : i.k < l.length) (hb : badI l d i.k = true) : idxV l d = some i.k := by
  rw [idxV, List.findIdx?_eq_some_iff_getElem]
  refine ⟨hlt, ?_, fun j hj => ?_⟩
  · rw [badI_at (List.getElem?_eq_getElem hlt)] at hb; exact hb
  · have := i.ok j hj
    rw [badI_at (List.getElem?_eq_getElem (by omega))] at this
    simp [this]
theorem idxV_none {l : List ActD} {d : ByteArray} (i : Upto l.length (badI l d)) (h : ¬ i.k < l.length) : idxV l d = none := by
  rw [idxV, List.findIdx?_eq_none_iff]
  intro x hx
  obtain ⟨k, hk, rfl⟩ := List.getElem_of_mem hx
  have := i.ok k (by omega)
  rwa [badI_at (List.getElem?_eq_getElem hk)] at this
theorem index_pu (c : ChainD) (hc : ActsOk c.actsL) (d : ByteArray) : Pu Tryz.prog 43 #[c.v, .string d] (fun w => c.at_ w ∧ Glob w) (idxP (idxV c.actsL d)) := by
  refine pu_of_cw (args := [_, _]) _ Tryz.func43 rfl Tryz.ntmps43 rfl fun av bor w0 => ?_
  refine cw_know (p := c.acts.n = c.actsL.length ∧ c.acts.n ≤ maxLen ∧ (0 < c.actsL.length → c.acts.p.isSome = true)) (fun w h => ⟨h.1.len_, h.1.max_, h.1.some_⟩) fun ⟨hl, hm, hp⟩ => ?_
  simp only [maxLen] at hm
  repeat' (first | apply sw_nil | apply cw_seq | apply cw_reg | refine sy_move (h := ?_) | refine sy_assign (h := ?_) | refine sy_nilCheck (h := ?_) | refine sy_fld (h := ?_) | refine sy_ld (h := ?_) | refine sy_ldAll (h := ?_) | refine sy_pick_t (h := ?_) | refine sy_pick_f (h := ?_) | refine sy_not (h := ?_) | refine sy_eql (h := ?_) | refine sy_neq (h := ?_) | refine sy_lss (h := ?_) | refine sy_leq (h := ?_) | refine sy_gtr (h := ?_) | refine sy_geq (h := ?_) | refine sy_seql (h := ?_) | refine sy_sneq (h := ?_) | refine sy_slen (h := ?_) | refine sy_len (h := ?_) | refine sy_extract (h := ?_) | refine sy_add (h := ?_) | refine sy_sub (h := ?_) | refine sw_skipT (h := ?_) | refine sw_skipF (h := ?_) | refine sw_skipU (h := ?_) | refine sw_alloc (h := fun _ => ?_) | refine sw_box (h := fun _ => ?_) | refine sw_rangeS (h := fun _ => ?_) | refine sw_nextS (h1 := fun _ => ?_) (h2 := fun _ => ?_) | refine sw_bsl (h := fun _ => ?_) | refine sw_st1 (h := ?_) | refine sw_stAll (h := ?_) | refine cw_cond_t (ht := ?_) | refine cw_cond_f (hf := ?_) | apply cw_skip | apply cw_block | apply cw_ret | apply cw_exit | refine sy_and (h := ?_) | refine sy_or (h := ?_) | refine sy_xor (h := ?_) | refine sy_andNot (h := ?_) | refine sy_xorU (h := ?_) | refine sy_shl (h := ?_) | refine sy_shr (h := ?_) | refine sy_mul (h := ?_) | refine sy_int (h := ?_) | refine sy_beql (h := ?_) | refine sy_bneq (h := ?_) | refine sy_min (h := ?_) | refine sy_max (h := ?_) | refine sy_arrA (h := ?_) | refine sy_strI (h := ?_))
  rename_i b
  refine cw_loop (ι := Upto c.actsL.length (badI c.actsL d)) (fun i => ⟨[(1, .string d), (9, c.acts.v), (10, .int .i64 c.acts.n), (11, .int .i64 i.k)], [], fun w => c.at_ w ∧ Glob w⟩) (fun i => c.actsL.length - i.k) (Upto.zero _ _) (ok_sub ⟨rfl, rfl, rfl, rfl, trivial⟩ (List.Sublist.cons _ (List.Sublist.refl _)) fun _ h => h) fun i => ?_
  have hik := i.hk
  repeat' (first | apply sw_nil | apply cw_seq | apply cw_reg | refine sy_move (h := ?_) | refine sy_assign (h := ?_) | refine sy_nilCheck (h := ?_) | refine sy_fld (h := ?_) | refine sy_ld (h := ?_) | refine sy_ldAll (h := ?_) | refine sy_pick_t (h := ?_) | refine sy_pick_f (h := ?_) | refine sy_not (h := ?_) | refine sy_eql (h := ?_) | refine sy_neq (h := ?_) | refine sy_lss (h := ?_) | refine sy_leq (h := ?_) | refine sy_gtr (h := ?_) | refine sy_geq (h := ?_) | refine sy_seql (h := ?_) | refine sy_sneq (h := ?_) | refine sy_slen (h := ?_) | refine sy_len (h := ?_) | refine sy_extract (h := ?_) | refine sy_add (h := ?_) | refine sy_sub (h := ?_) | refine sw_skipT (h := ?_) | refine sw_skipF (h := ?_) | refine sw_skipU (h := ?_) | refine sw_alloc (h := fun _ => ?_) | refine sw_box (h := fun _ => ?_) | refine sw_rangeS (h := fun _ => ?_) | refine sw_nextS (h1 := fun _ => ?_) (h2 := fun _ => ?_) | refine sw_bsl (h := fun _ => ?_) | refine sw_st1 (h := ?_) | refine sw_stAll (h := ?_) | refine cw_cond_t (ht := ?_) | refine cw_cond_f (hf := ?_) | apply cw_skip | apply cw_block | apply cw_ret | apply cw_exit | refine sy_and (h := ?_) | refine sy_or (h := ?_) | refine sy_xor (h := ?_) | refine sy_andNot (h := ?_) | refine sy_xorU (h := ?_) | refine sy_shl (h := ?_) | refine sy_shr (h := ?_) | refine sy_mul (h := ?_) | refine sy_int (h := ?_) | refine sy_beql (h := ?_) | refine sy_bneq (h := ?_) | refine sy_min (h := ?_) | refine sy_max (h := ?_) | refine sy_arrA (h := ?_) | refine sy_strI (h := ?_) | ((fail_if_success (refine sw_chk (h := ?_))); refine sw_guard (ht := ?_) (hf := ?_); all_goals (intro hx_; first | have := of_decide_eq_true hx_ | have := of_decide_eq_false hx_ | skip)) | (refine cw_cond (ht := ?_) (hf := ?_); all_goals (intro hx_; first | have := of_decide_eq_true hx_ | have := of_decide_eq_false hx_ | skip)))
  · have hlt : i.k < c.actsL.length := by omega
    have hp' := hp (by omega)
    obtain ⟨x, hx⟩ : ∃ x, c.actsL[i.k]? = some x := ⟨_, List.getElem?_eq_getElem hlt⟩
    have hxm : x ∈ c.actsL := List.mem_of_getElem? hx
    repeat' (first | apply sw_nil | apply cw_seq | apply cw_reg | refine sy_move (h := ?_) | refine sy_assign (h := ?_) | refine sy_nilCheck (h := ?_) | refine sy_fld (h := ?_) | refine sy_ld (h := ?_) | refine sy_ldAll (h := ?_) | refine sy_pick_t (h := ?_) | refine sy_pick_f (h := ?_) | refine sy_not (h := ?_) | refine sy_eql (h := ?_) | refine sy_neq (h := ?_) | refine sy_lss (h := ?_) | refine sy_leq (h := ?_) | refine sy_gtr (h := ?_) | refine sy_geq (h := ?_) | refine sy_seql (h := ?_) | refine sy_sneq (h := ?_) | refine sy_slen (h := ?_) | refine sy_len (h := ?_) | refine sy_extract (h := ?_) | refine sy_add (h := ?_) | refine sy_sub (h := ?_) | refine sw_skipT (h := ?_) | refine sw_skipF (h := ?_) | refine sw_skipU (h := ?_) | refine sw_alloc (h := fun _ => ?_) | refine sw_box (h := fun _ => ?_) | refine sw_rangeS (h := fun _ => ?_) | refine sw_nextS (h1 := fun _ => ?_) (h2 := fun _ => ?_) | refine sw_bsl (h := fun _ => ?_) | refine sw_st1 (h := ?_) | refine sw_stAll (h := ?_) | refine cw_cond_t (ht := ?_) | refine cw_cond_f (hf := ?_) | apply cw_skip | apply cw_block | apply cw_ret | apply cw_exit | refine sy_and (h := ?_) | refine sy_or (h := ?_) | refine sy_xor (h := ?_) | refine sy_andNot (h := ?_) | refine sy_xorU (h := ?_) | refine sy_shl (h := ?_) | refine sy_shr (h := ?_) | refine sy_mul (h := ?_) | refine sy_int (h := ?_) | refine sy_beql (h := ?_) | refine sy_bneq (h := ?_) | refine sy_min (h := ?_) | refine sy_max (h := ?_) | refine sy_arrA (h := ?_) | refine sy_strI (h := ?_) | (refine sy_idxX (q := i.k * 20) (h := ?_)) | (refine sy_ldXs (cs := x.cells) (hF := fun w h => Acts.get h.1 hx) (h := ?_)))
    refine sw_mk (hc := ofAct_mk x (hc.rng x hxm) (hc.sm x hxm)) (hX := fun w h => h.1.2 x hxm) (h := fun v1 X1 h1 => ?_)
    obtain ⟨x', rfl, hdig, hr', hat⟩ := h1
    refine sw_pu (hc := digest_pu x' hr') (hX := fun w h => ⟨hat w h.2, h.1.2⟩) (h := ?_)
    rw [hdig]
    repeat' (first | apply sw_nil | apply cw_seq | apply cw_reg | refine sy_move (h := ?_) | refine sy_assign (h := ?_) | refine sy_nilCheck (h := ?_) | refine sy_fld (h := ?_) | refine sy_ld (h := ?_) | refine sy_ldAll (h := ?_) | refine sy_pick_t (h := ?_) | refine sy_pick_f (h := ?_) | refine sy_not (h := ?_) | refine sy_eql (h := ?_) | refine sy_neq (h := ?_) | refine sy_lss (h := ?_) | refine sy_leq (h := ?_) | refine sy_gtr (h := ?_) | refine sy_geq (h := ?_) | refine sy_seql (h := ?_) | refine sy_sneq (h := ?_) | refine sy_slen (h := ?_) | refine sy_len (h := ?_) | refine sy_extract (h := ?_) | refine sy_add (h := ?_) | refine sy_sub (h := ?_) | refine sw_skipT (h := ?_) | refine sw_skipF (h := ?_) | refine sw_skipU (h := ?_) | refine sw_alloc (h := fun _ => ?_) | refine sw_box (h := fun _ => ?_) | refine sw_rangeS (h := fun _ => ?_) | refine sw_nextS (h1 := fun _ => ?_) (h2 := fun _ => ?_) | refine sw_bsl (h := fun _ => ?_) | refine sw_st1 (h := ?_) | refine sw_stAll (h := ?_) | refine cw_cond_t (ht := ?_) | refine cw_cond_f (hf := ?_) | apply cw_skip | apply cw_block | apply cw_ret | apply cw_exit | refine sy_and (h := ?_) | refine sy_or (h := ?_) | refine sy_xor (h := ?_) | refine sy_andNot (h := ?_) | refine sy_xorU (h := ?_) | refine sy_shl (h := ?_) | refine sy_shr (h := ?_) | refine sy_mul (h := ?_) | refine sy_int (h := ?_) | refine sy_beql (h := ?_) | refine sy_bneq (h := ?_) | refine sy_min (h := ?_) | refine sy_max (h := ?_) | refine sy_arrA (h := ?_) | refine sy_strI (h := ?_) | ((fail_if_success (refine sw_chk (h := ?_))); refine sw_guard (ht := ?_) (hf := ?_); all_goals (intro hx_; first | have := of_decide_eq_true hx_ | have := of_decide_eq_false hx_ | skip)) | (refine cw_cond (ht := ?_) (hf := ?_); all_goals (intro hx_; first | have := of_decide_eq_true hx_ | have := of_decide_eq_false hx_ | skip)))
    · apply ends_ret; apply res_tmp2; rfl; rfl; rfl
      rw [idxV_found i hlt (by rw [badI_at hx]; assumption)]
      rfl
    · exact ⟨i.next hlt (by rw [badI_at hx]; assumption), (by show c.actsL.length - (i.k + 1) < c.actsL.length - i.k; omega), ok_sub ⟨rfl, rfl, rfl, rfl, trivial⟩ (List.nil_sublist _) fun _ h => h.1⟩
  · apply ends_ret; apply res_tmp2; rfl; rfl; rfl
    rw [idxV_none i (by omega)]
    rfl
/-! Find -/
def Chains (w : World) (s : SlV) (l : List ChainD) : Prop := RowsD w 6 s (l.map ChainD.cells) ∧ ∀ c ∈ l, c.at_ w
theorem Chains.len_ {w : World} {s : SlV} {l : List ChainD} (h : Chains w s l) : s.n = l.length := by have := RowsD.len h.1; simpa using this
theorem Chains.max_ {w : World} {s : SlV} {l : List ChainD} (h : Chains w s l) : s.n ≤ maxLen := Nat.le_trans (RowsD.cap h.1) (RowsD.max h.1)
theorem Chains.some_ {w : World} {s : SlV} {l : List ChainD} (h : Chains w s l) (hl : 0 < l.length) : s.p.isSome = true := by
  have hx : l[0]? = some l[0] := List.getElem?_eq_getElem hl
  exact (RowsD.row h.1 0 l[0].cells (by simp [hx])).2.1
theorem Chains.get {w : World} {s : SlV} {l : List ChainD} (h : Chains w s l) {i : Nat} {x : ChainD} (hx : l[i]? = some x) : x.cells.length = 6 ∧ s.p.isSome = true ∧ ∀ j u, x.cells[j]? = some u → CellAt w s.p (i * 6 + j) u :=
  RowsD.row h.1 i x.cells (by simp [hx])
def findC (l : List ChainD) (id : ByteArray) : Option ChainD := l.find? fun c => seqB c.id id
def findP (o : Option ChainD) : Value := .tuple #[(o.getD ChainD.zero).v, .bool o.isSome]
def badF (l : List ChainD) (d : ByteArray) (k : Nat) : Bool :=
  match l[k]? with
  | some x => seqB x.id d
  | none => false
theorem badF_at {l : List ChainD} {d : ByteArray} {k : Nat} {x : ChainD} (h : l[k]? = some x) : badF l d k = seqB x.id d := by simp only [badF, h]
theorem find_at {α : Type} {p : α → Bool} : ∀ (l : List α) (k : Nat) (x : α), l[k]? = some x → p x = true → (∀ j y, j < k → l[j]? = some y → p y = false) → l.find? p = some x
  | [], k, x, h, _, _ => by simp at h
  | a :: l, 0, x, h, hp, _ => by simp at h; subst h; simp [hp]
  | a :: l, k + 1, x, h, hp, hb => by
    have h0 := hb 0 a (by omega) rfl
    simp only [List.find?_cons, h0]
    exact find_at l k x (by simpa using h) hp fun j y hj hy => hb (j + 1) y (by omega) (by simpa using hy)
theorem findC_found {l : List ChainD} {d : ByteArray} (i : Upto l.length (badF l d)) {x : ChainD} (hx : l[i.k]? = some x) (hb : seqB x.id d = true) : findC l d = some x :=
  find_at l i.k x hx hb fun j y hj hy => by have := i.ok j hj; rwa [badF_at hy] at this
theorem findC_none {l : List ChainD} {d : ByteArray} (i : Upto l.length (badF l d)) (h : ¬ i.k < l.length) : findC l d = none := by
  rw [findC, List.find?_eq_none]
  intro x hx
  obtain ⟨k, hk, rfl⟩ := List.getElem_of_mem hx
  have := i.ok k (by omega)
  rw [badF_at (List.getElem?_eq_getElem hk)] at this
  simp [this]
theorem res_cellTmp {P : Program} {fn : Func} {N t u ty n : Nat} {s : St} {b T : Nat} {cs : List Value} {x : Value} [hI : TyAgg P ty n] (hr : fn.results = #[.cell t ty, .tmp u]) (h : Sy.look s.env t = some (.pointer (some ⟨b, 0, none⟩))) (h' : Sy.look s.env u = some x) (hm : cel b T cs ∈ s.loc) (hn : cs.length = n) :
    Res1 P fn N s (.tuple #[.agg cs.toArray, x]) := fun av bor w0 a w ok => by
  obtain ⟨D, h1, h2, h3⟩ := aggSize_spec hI.out
  have ht := ok.env t _ h
  have hu := ok.env u _ h'
  have : (loadVar ty ⟨b, 0, none⟩).run P w = .ok (.agg cs.toArray) w := by
    cases D <;> simp at h2
    · exact run_loadVar_row w b T ty cs.toArray (0, 0) _ (cel_in ok hm) h1 rfl (by rw [h3]; simp [hn])
    · exact run_loadVar_row w b T ty cs.toArray (0, 0) _ (cel_in ok hm) h1 rfl (by rw [h3]; simp [hn])
  simp [results, hr, ht, hu, asAddr, this]
theorem find_pu (s : SlV) (l : List ChainD) (id : ByteArray) : Pu Tryz.prog 17 #[s.v, .string id] (fun w => Chains w s l) (findP (findC l id)) := by
  refine pu_of_cw (args := [_, _]) _ Tryz.func17 rfl Tryz.ntmps17 rfl fun av bor w0 => ?_
  refine cw_know (p := s.n = l.length ∧ s.n ≤ maxLen ∧ (0 < l.length → s.p.isSome = true)) (fun w h => ⟨h.len_, h.max_, h.some_⟩) fun ⟨hl, hm, hp⟩ => ?_
  simp only [maxLen] at hm
  repeat' (first | apply sw_nil | apply cw_seq | apply cw_reg | refine sy_move (h := ?_) | refine sy_assign (h := ?_) | refine sy_nilCheck (h := ?_) | refine sy_fld (h := ?_) | refine sy_ld (h := ?_) | refine sy_ldAll (h := ?_) | refine sy_pick_t (h := ?_) | refine sy_pick_f (h := ?_) | refine sy_not (h := ?_) | refine sy_eql (h := ?_) | refine sy_neq (h := ?_) | refine sy_lss (h := ?_) | refine sy_leq (h := ?_) | refine sy_gtr (h := ?_) | refine sy_geq (h := ?_) | refine sy_seql (h := ?_) | refine sy_sneq (h := ?_) | refine sy_slen (h := ?_) | refine sy_len (h := ?_) | refine sy_extract (h := ?_) | refine sy_add (h := ?_) | refine sy_sub (h := ?_) | refine sw_skipT (h := ?_) | refine sw_skipF (h := ?_) | refine sw_skipU (h := ?_) | refine sw_alloc (h := fun _ => ?_) | refine sw_box (h := fun _ => ?_) | refine sw_rangeS (h := fun _ => ?_) | refine sw_nextS (h1 := fun _ => ?_) (h2 := fun _ => ?_) | refine sw_bsl (h := fun _ => ?_) | refine sw_st1 (h := ?_) | refine sw_stAll (h := ?_) | refine cw_cond_t (ht := ?_) | refine cw_cond_f (hf := ?_) | apply cw_skip | apply cw_block | apply cw_ret | apply cw_exit | refine sy_and (h := ?_) | refine sy_or (h := ?_) | refine sy_xor (h := ?_) | refine sy_andNot (h := ?_) | refine sy_xorU (h := ?_) | refine sy_shl (h := ?_) | refine sy_shr (h := ?_) | refine sy_mul (h := ?_) | refine sy_int (h := ?_) | refine sy_beql (h := ?_) | refine sy_bneq (h := ?_) | refine sy_min (h := ?_) | refine sy_max (h := ?_) | refine sy_arrA (h := ?_) | refine sy_strI (h := ?_))
  rename_i b
  refine cw_loop (ι := Upto l.length (badF l id)) (fun i => ⟨[(1, .string id), (4, .pointer (some ⟨b, 0, none⟩)), (8, s.v), (9, .int .i64 s.n), (10, .int .i64 i.k)], [cel b 40 ChainD.zero.cells], fun w => Chains w s l⟩) (fun i => l.length - i.k) (Upto.zero _ _) (ok_sub ⟨rfl, rfl, rfl, rfl, rfl, trivial⟩ (List.Sublist.refl _) fun _ h => h) fun i => ?_
  have hik := i.hk
  repeat' (first | apply sw_nil | apply cw_seq | apply cw_reg | refine sy_move (h := ?_) | refine sy_assign (h := ?_) | refine sy_nilCheck (h := ?_) | refine sy_fld (h := ?_) | refine sy_ld (h := ?_) | refine sy_ldAll (h := ?_) | refine sy_pick_t (h := ?_) | refine sy_pick_f (h := ?_) | refine sy_not (h := ?_) | refine sy_eql (h := ?_) | refine sy_neq (h := ?_) | refine sy_lss (h := ?_) | refine sy_leq (h := ?_) | refine sy_gtr (h := ?_) | refine sy_geq (h := ?_) | refine sy_seql (h := ?_) | refine sy_sneq (h := ?_) | refine sy_slen (h := ?_) | refine sy_len (h := ?_) | refine sy_extract (h := ?_) | refine sy_add (h := ?_) | refine sy_sub (h := ?_) | refine sw_skipT (h := ?_) | refine sw_skipF (h := ?_) | refine sw_skipU (h := ?_) | refine sw_alloc (h := fun _ => ?_) | refine sw_box (h := fun _ => ?_) | refine sw_rangeS (h := fun _ => ?_) | refine sw_nextS (h1 := fun _ => ?_) (h2 := fun _ => ?_) | refine sw_bsl (h := fun _ => ?_) | refine sw_st1 (h := ?_) | refine sw_stAll (h := ?_) | refine cw_cond_t (ht := ?_) | refine cw_cond_f (hf := ?_) | apply cw_skip | apply cw_block | apply cw_ret | apply cw_exit | refine sy_and (h := ?_) | refine sy_or (h := ?_) | refine sy_xor (h := ?_) | refine sy_andNot (h := ?_) | refine sy_xorU (h := ?_) | refine sy_shl (h := ?_) | refine sy_shr (h := ?_) | refine sy_mul (h := ?_) | refine sy_int (h := ?_) | refine sy_beql (h := ?_) | refine sy_bneq (h := ?_) | refine sy_min (h := ?_) | refine sy_max (h := ?_) | refine sy_arrA (h := ?_) | refine sy_strI (h := ?_) | ((fail_if_success (refine sw_chk (h := ?_))); refine sw_guard (ht := ?_) (hf := ?_); all_goals (intro hx_; first | have := of_decide_eq_true hx_ | have := of_decide_eq_false hx_ | skip)) | (refine cw_cond (ht := ?_) (hf := ?_); all_goals (intro hx_; first | have := of_decide_eq_true hx_ | have := of_decide_eq_false hx_ | skip)))
  · have hlt : i.k < l.length := by omega
    have hp' := hp (by omega)
    obtain ⟨x, hx⟩ : ∃ x, l[i.k]? = some x := ⟨_, List.getElem?_eq_getElem hlt⟩
    repeat' (first | apply sw_nil | apply cw_seq | apply cw_reg | refine sy_move (h := ?_) | refine sy_assign (h := ?_) | refine sy_nilCheck (h := ?_) | refine sy_fld (h := ?_) | refine sy_ld (h := ?_) | refine sy_ldAll (h := ?_) | refine sy_pick_t (h := ?_) | refine sy_pick_f (h := ?_) | refine sy_not (h := ?_) | refine sy_eql (h := ?_) | refine sy_neq (h := ?_) | refine sy_lss (h := ?_) | refine sy_leq (h := ?_) | refine sy_gtr (h := ?_) | refine sy_geq (h := ?_) | refine sy_seql (h := ?_) | refine sy_sneq (h := ?_) | refine sy_slen (h := ?_) | refine sy_len (h := ?_) | refine sy_extract (h := ?_) | refine sy_add (h := ?_) | refine sy_sub (h := ?_) | refine sw_skipT (h := ?_) | refine sw_skipF (h := ?_) | refine sw_skipU (h := ?_) | refine sw_alloc (h := fun _ => ?_) | refine sw_box (h := fun _ => ?_) | refine sw_rangeS (h := fun _ => ?_) | refine sw_nextS (h1 := fun _ => ?_) (h2 := fun _ => ?_) | refine sw_bsl (h := fun _ => ?_) | refine sw_st1 (h := ?_) | refine sw_stAll (h := ?_) | refine cw_cond_t (ht := ?_) | refine cw_cond_f (hf := ?_) | apply cw_skip | apply cw_block | apply cw_ret | apply cw_exit | refine sy_and (h := ?_) | refine sy_or (h := ?_) | refine sy_xor (h := ?_) | refine sy_andNot (h := ?_) | refine sy_xorU (h := ?_) | refine sy_shl (h := ?_) | refine sy_shr (h := ?_) | refine sy_mul (h := ?_) | refine sy_int (h := ?_) | refine sy_beql (h := ?_) | refine sy_bneq (h := ?_) | refine sy_min (h := ?_) | refine sy_max (h := ?_) | refine sy_arrA (h := ?_) | refine sy_strI (h := ?_) | (refine sy_idxX (q := i.k * 6) (h := ?_)) | (refine sy_ldXs (cs := x.cells) (hF := fun w h => Chains.get h hx) (h := ?_)) | ((fail_if_success (refine sw_chk (h := ?_))); refine sw_guard (ht := ?_) (hf := ?_); all_goals (intro hx_; first | have := of_decide_eq_true hx_ | have := of_decide_eq_false hx_ | skip)) | (refine cw_cond (ht := ?_) (hf := ?_); all_goals (intro hx_; first | have := of_decide_eq_true hx_ | have := of_decide_eq_false hx_ | skip)))
    · apply ends_ret; refine res_cellTmp rfl rfl rfl (by (repeat (first | exact List.mem_cons_self | apply List.mem_cons_of_mem))) ?_
      · rfl
      rw [findC_found i hx (by assumption)]
      rfl
    · exact ⟨i.next hlt (by rw [badF_at hx]; assumption), (by show l.length - (i.k + 1) < l.length - i.k; omega), ok_sub ⟨rfl, rfl, rfl, rfl, rfl, trivial⟩ (List.Sublist.cons _ (List.Sublist.refl _)) fun _ h => h⟩
  · repeat' (first | apply sw_nil | apply cw_seq | apply cw_reg | refine sy_move (h := ?_) | refine sy_assign (h := ?_) | refine sy_nilCheck (h := ?_) | refine sy_fld (h := ?_) | refine sy_ld (h := ?_) | refine sy_ldAll (h := ?_) | refine sy_pick_t (h := ?_) | refine sy_pick_f (h := ?_) | refine sy_not (h := ?_) | refine sy_eql (h := ?_) | refine sy_neq (h := ?_) | refine sy_lss (h := ?_) | refine sy_leq (h := ?_) | refine sy_gtr (h := ?_) | refine sy_geq (h := ?_) | refine sy_seql (h := ?_) | refine sy_sneq (h := ?_) | refine sy_slen (h := ?_) | refine sy_len (h := ?_) | refine sy_extract (h := ?_) | refine sy_add (h := ?_) | refine sy_sub (h := ?_) | refine sw_skipT (h := ?_) | refine sw_skipF (h := ?_) | refine sw_skipU (h := ?_) | refine sw_alloc (h := fun _ => ?_) | refine sw_box (h := fun _ => ?_) | refine sw_rangeS (h := fun _ => ?_) | refine sw_nextS (h1 := fun _ => ?_) (h2 := fun _ => ?_) | refine sw_bsl (h := fun _ => ?_) | refine sw_st1 (h := ?_) | refine sw_stAll (h := ?_) | refine cw_cond_t (ht := ?_) | refine cw_cond_f (hf := ?_) | apply cw_skip | apply cw_block | apply cw_ret | apply cw_exit | refine sy_and (h := ?_) | refine sy_or (h := ?_) | refine sy_xor (h := ?_) | refine sy_andNot (h := ?_) | refine sy_xorU (h := ?_) | refine sy_shl (h := ?_) | refine sy_shr (h := ?_) | refine sy_mul (h := ?_) | refine sy_int (h := ?_) | refine sy_beql (h := ?_) | refine sy_bneq (h := ?_) | refine sy_min (h := ?_) | refine sy_max (h := ?_) | refine sy_arrA (h := ?_) | refine sy_strI (h := ?_) | (refine sy_build (h := ?_)))
    apply ends_ret; refine res_cellTmp rfl rfl rfl (by (repeat (first | exact List.mem_cons_self | apply List.mem_cons_of_mem))) ?_
    · rfl
    rw [findC_none i (by omega)]
    rfl
end Go.Proofs.YtfpojkoddcdojaaGreatDoor
