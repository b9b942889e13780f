/- Contract of agoralaw21.Told. -/
import Derived.Test.YtepckpofhegmiaaGreatDoorTr
import Derived.Test.YtepckpofhegmiaaGreatDoorMg
set_option linter.unusedVariables false
set_option linter.unusedSimpArgs false
namespace Go.Proofs.YtepckpofhegmiaaGreatDoor
open Go Go.Proofs Sy
def toldN (l : List WishD) (n : Nat) : List ChainD × List ByteArray := toldV (l.take n)
theorem toldN_succ (l : List WishD) {n : Nat} {x : WishD} (h : l[n]? = some x) : toldN l (n + 1) = toldS (toldN l n) x := by
  rw [toldN, toldN, toldV, toldV, List.take_add_one, h, Option.toList_some, List.foldl_append]
  rfl
structure ToldI (l : List WishD) where
  k : Nat
  hk : k ≤ l.length
  L : List ChainD
  ks : List ByteArray
  hT : (L.map ChainD.can, ks) = toldN l k
  hl : L.length = 4
  hkl : ks.length ≤ k
  hb : ∀ c ∈ L, ActsOk c.actsL ∧ c.actsL.length ≤ k + 1
  xs : List Value
  hxs : xs = (L.map ChainD.cells).flatten
  n : Nat
  hn : n = ks.length
  ys : List Value
  hys : ys = ks.map encB
  A : Option Addr
  c : Nat
  B : Option Addr
  d : Nat
theorem cells6 (L : List ChainD) : ∀ r ∈ L.map ChainD.cells, r.length = 6 := fun r hr => by
  obtain ⟨c, _, rfl⟩ := List.mem_map.1 hr
  rfl
theorem idA21_size (i : Nat) : (idA21 i).size ≤ maxLen := by
  rw [idA21, idV_size]
  decide
theorem draftW_rng (c : ChainD) (w : WishD) (ks : List ByteArray) (hn : c.acts.n ≤ 9223372036854775807) (hd : w.do_ < 9223372036854775808) (ht : w.time < 9223372036854775808) : (draftW c w ks).Rng := by
  have z : (0 : Int) < 9223372036854775808 := by decide
  have hn' : ((c.acts.n : Nat) : Int) < 9223372036854775808 := by omega
  rw [draftW]
  cases decide (w.do_ = 6) <;> exact ⟨⟨hn', hd, ht, z, z, z, z, z, z⟩, fun w hw => (List.not_mem_nil hw).elim, rfl, rfl⟩
theorem draftW_sm (c : ChainD) (w : WishD) (ks : List ByteArray) : (draftW c w ks).Sm := by
  rw [draftW]
  cases decide (w.do_ = 6) with
  | true => exact ⟨by show 0 * 16 ≤ _; omega, by show 0 * 64 ≤ _; omega, (show 0 ≤ maxLen by decide)⟩
  | false => exact ⟨by show 0 * 16 ≤ _; omega, by show 0 * 64 ≤ _; omega, idA21_size _⟩
theorem draftW_at (c : ChainD) (w : WishD) (ks : List ByteArray) (v : World) : (draftW c w ks).at_ v := by
  rw [draftW]
  cases decide (w.do_ = 6) <;> exact ⟨rowsD_nil v 1, rowsD_nil v 5⟩
theorem cells6w (l : List WishD) : ∀ r ∈ l.map WishD.cells, r.length = 6 := fun r hr => by
  obtain ⟨c, _, rfl⟩ := List.mem_map.1 hr
  rfl
section
variable {P : Program} {N : Nat} {av bor : List Nat} {w0 : World} {st : St} {ty : TypeId} {x : Operand} {t : TypeId}
/-- One cell of an element of an own row. -/
theorem y_ldO1 {e size m i c j : Nat} [h : TyOne P t] {A : Option Addr} {xs : List (List Value)} {cs : List Value} {u : Value} (hx : ev st.env x = some (elP A (i * size + j))) (hm : orow e size (.slice A m c) m xs.flatten ∈ st.loc) (hn : m = xs.length) (hs : ∀ r ∈ xs, r.length = size) (hi : xs[i]? = some cs) (hj : cs[j]? = some u) :
    Sy.Yields P N av bor w0 st (.load t x) ty u := Sy.Yields.mk fun B w ok d pos af g => by
  have hr := rows_of_orow (ok.gam.here _ hm).now hn hs
  obtain ⟨h1, hp, hc⟩ := RowsD.row hr i cs hi
  obtain ⟨a, rfl⟩ := Option.isSome_iff_exists.1 hp
  simp [execOp, ok.eval hx, elP, Instr.loadAt, Instr.sureAddr, loadVar, (oneCell_spec h.out w).1, (hc j u hj).2 a rfl]
/-- Two own resources become data at the call's end. -/
theorem ct_give2 {f : FuncId} {args : Array Value} {pre : List Res} {X : World → Prop} {Post : Value → List Res → (World → Prop) → Prop} (h : Ct P f args pre X fun u R X1 => ∃ a b l, R = a :: b :: l ∧ Post u l (fun w => (X1 w ∧ a.F w) ∧ b.F w)) : Ct P f args pre X Post :=
  Ct.mk fun w av G => (h.run w av G).mono fun e w' ⟨u, R, X1, he, ⟨a, b, l, hR, hp⟩, G'⟩ => by
    subst hR
    exact ⟨u, l, _, he, hp, G'.give.give⟩
end
abbrev wishR (s : SlV) (l : List WishD) : Res := orow 48 6 (.slice s.p s.n s.c) s.n (l.map WishD.cells).flatten
def ToldAt (l : List WishD) (r : Res) (u : Value) (R : List Res) (X : World → Prop) : Prop := ∃ (L : List ChainD) (s1 : SlV), L.map ChainD.can = (toldV l).1 ∧ (∀ c ∈ L, ActsOk c.actsL ∧ c.actsL.length ≤ l.length + 1) ∧ u = s1.v ∧ R = [r] ∧ ∀ w, X w → Glob w ∧ Chains w s1 L
set_option maxRecDepth 20000 in
set_option maxHeartbeats 8000000 in
theorem told_ct (s : SlV) (l : List WishD) (hsl : s.n = l.length) (hlen : l.length ≤ 1000) (hok : ∀ n x, l[n]? = some x → WishOk x (toldN l n).2) (htm : ∀ x ∈ l, x.time < 9223372036854775808) : Ct Tryz.prog 15 #[s.v] [orow 48 6 (.slice s.p s.n s.c) s.n (l.map WishD.cells).flatten] Glob (ToldAt l (orow 48 6 (.slice s.p s.n s.c) s.n (l.map WishD.cells).flatten)) := by
  refine ct_give2 (ct_of_cw (args := [_]) _ Tryz.func15 rfl Tryz.ntmps15 rfl fun av bor w0 => ?_)
  refine cw_knowR (r := orow 48 6 (.slice s.p s.n s.c) s.n (l.map WishD.cells).flatten) List.mem_cons_self (p := 0 < s.n → s.p.isSome = true) (fun w h hn => orow_some h hn) fun hp => ?_
  refine cw_nilRow 9 1 ?_
  repeat' (first | apply sw_nil | apply cw_seq | apply cw_reg | refine sy_move (h := ?_) | refine sy_assign (h := ?_) | refine sy_fld (h := ?_) | refine sy_ld (h := ?_) | refine sy_ldAll (h := ?_) | refine sy_lss (h := ?_) | refine sy_slen (h := ?_) | refine sy_len (h := ?_) | refine sy_add (h := ?_) | refine sw_alloc (h := fun _ => ?_) | refine sw_bsl (h := fun _ => ?_) | refine sw_st1 (h := ?_) | refine sw_stAll (h := ?_) | refine cw_cond_t (ht := ?_) | refine cw_cond_f (hf := ?_) | apply cw_skip | apply cw_block | apply cw_ret | apply cw_exit | refine sy_arrA (h := ?_) | refine sy_strI (h := ?_))
  refine sw_fn0 (hc := begun_ct) (hX := fun w h => h) (h := ?_)
  rintro _ _ X1 ⟨L0, A0, c0, hL0, hb0, rfl, rfl, hX0⟩
  repeat' (first | apply sw_nil | apply cw_seq | apply cw_reg | refine sy_move (h := ?_) | refine sy_assign (h := ?_) | refine sy_fld (h := ?_) | refine sy_ld (h := ?_) | refine sy_ldAll (h := ?_) | refine sy_lss (h := ?_) | refine sy_slen (h := ?_) | refine sy_len (h := ?_) | refine sy_add (h := ?_) | refine sw_alloc (h := fun _ => ?_) | refine sw_bsl (h := fun _ => ?_) | refine sw_st1 (h := ?_) | refine sw_stAll (h := ?_) | refine cw_cond_t (ht := ?_) | refine cw_cond_f (hf := ?_) | apply cw_skip | apply cw_block | apply cw_ret | apply cw_exit | refine sy_arrA (h := ?_) | refine sy_strI (h := ?_))
  refine cw_loop (ι := ToldI l) (fun i => ⟨[(0, s.v), (3, .slice i.A 4 i.c), (4, .slice i.B i.n i.d), (5, .int .i64 (i.k : Nat))], [orow 28 6 (.slice i.A 4 i.c) 4 i.xs, orow 9 1 (.slice i.B i.n i.d) i.n i.ys, orow 48 6 (.slice s.p s.n s.c) s.n (l.map WishD.cells).flatten], fun w => Glob w ∧ ∀ c ∈ i.L, c.at_ w⟩) (fun i => l.length - i.k)
    ⟨0, Nat.zero_le _, L0, [], by rw [hL0]; rfl, by have := congrArg List.length hL0; simpa using this, Nat.le_refl _, (fun c hc => hb0 c hc), _, rfl, 0, rfl, [], rfl, A0, c0, none, 0⟩ (ok_sub ⟨rfl, rfl, rfl, rfl, trivial⟩ (List.Sublist.refl _) fun w h => ⟨h.1, (hX0 w h.2).2⟩) fun i => ?_
  obtain ⟨k, hk, L, ks, hT, hl4, hkl, hbL, xs, hxs, n, hn, ys, hys, A, c, B, d⟩ := i
  simp only
  subst hxs hn hys
  refine cw_knowR (r := orow 28 6 (.slice A 4 c) 4 (L.map ChainD.cells).flatten) List.mem_cons_self (fun w h => orow_some h (by decide)) fun hA => ?_
  repeat' (first | apply sw_nil | apply cw_seq | apply cw_reg | refine sy_move (h := ?_) | refine sy_assign (h := ?_) | refine sy_fld (h := ?_) | refine sy_ld (h := ?_) | refine sy_ldAll (h := ?_) | refine sy_lss (h := ?_) | refine sy_slen (h := ?_) | refine sy_len (h := ?_) | refine sy_add (h := ?_) | refine sw_alloc (h := fun _ => ?_) | refine sw_bsl (h := fun _ => ?_) | refine sw_st1 (h := ?_) | refine sw_stAll (h := ?_) | refine cw_cond_t (ht := ?_) | refine cw_cond_f (hf := ?_) | apply cw_skip | apply cw_block | apply cw_ret | apply cw_exit | refine sy_arrA (h := ?_) | refine sy_strI (h := ?_) | (refine cw_cond (ht := ?_) (hf := ?_); all_goals (intro hx_; first | have := of_decide_eq_true hx_ | have := of_decide_eq_false hx_ | skip)))
  · have hlt : k < l.length := by omega
    have hp' := hp (by omega)
    obtain ⟨x, hx⟩ : ∃ x, l[k]? = some x := ⟨_, List.getElem?_eq_getElem hlt⟩
    obtain ⟨p, hp4, hpv⟩ := pickV_rng x.by_ 4 (by decide)
    have hpk := pick_pu x.by_ 4 (by decide) (by decide)
    rw [hpv] at hpk
    obtain ⟨cd, hcd⟩ : ∃ cd, L[p]? = some cd := ⟨_, List.getElem?_eq_getElem (by omega)⟩
    have hky := key_pu p (by omega)
    have hwk := hok k x hx
    rw [← hT] at hwk
    have hgd : (L.map ChainD.can).getD (pickV x.by_ (4 : Nat)).toNat ChainD.zero = cd.can := by
      rw [hpv, Int.toNat_natCast, List.getD_eq_getElem?_getD, List.getElem?_map, hcd]
      rfl
    have hTA : toldA (L.map ChainD.can) ks x = actSignV (keyA p) (draftW cd x ks) := by
      rw [toldA, hgd, draftW_can, hpv, Int.toNat_natCast]
    have hTB : ∀ {v : Bool}, fitsV cd (actSignV (keyA p) (draftW cd x ks)) (idxV cd.actsL (actSignV (keyA p) (draftW cd x ks)).object) = v → toldB (L.map ChainD.can) ks x = v := fun {v} h => by
      rw [toldB, hgd, hTA, fitsV_can]
      show fitsV cd _ (idxV (cd.actsL.map ActD.can) _) = v
      rw [idxV_can]
      exact h
    have hdr := draftW_pu cd x ⟨B, ks.length, d⟩ ks hwk
    repeat' (first | apply sw_nil | apply cw_seq | apply cw_reg | refine sy_move (h := ?_) | refine sy_assign (h := ?_) | refine sy_fld (h := ?_) | refine sy_ld (h := ?_) | refine sy_ldAll (h := ?_) | refine sy_lss (h := ?_) | refine sy_slen (h := ?_) | refine sy_len (h := ?_) | refine sy_add (h := ?_) | refine sw_alloc (h := fun _ => ?_) | refine sw_bsl (h := fun _ => ?_) | refine sw_st1 (h := ?_) | refine sw_stAll (h := ?_) | refine cw_cond_t (ht := ?_) | refine cw_cond_f (hf := ?_) | apply cw_skip | apply cw_block | apply cw_ret | apply cw_exit | refine sy_arrA (h := ?_) | refine sy_strI (h := ?_) | (refine sy_idxX (q := k * 6) (h := ?_)) | (refine sy_fldX (h := ?_)) | (refine sw_yield (y_ldO1 (xs := l.map WishD.cells) (cs := x.cells) (i := k) (j := 0) rfl (by (repeat (first | exact List.mem_cons_self | apply List.mem_cons_of_mem))) (by simp [hsl]) (cells6w l) (by simp [hx]) rfl) rfl rfl rfl ?_) | (refine sw_pu (hc := hpk) (hX := fun _ _ => trivial) (h := ?_)) | (refine cw_cond (ht := ?_) (hf := ?_); all_goals (intro hx_; first | have := of_decide_eq_true hx_ | have := of_decide_eq_false hx_ | skip)))
    have hcm := List.mem_of_getElem? hcd
    refine cw_know (p := cd.acts.n ≤ maxLen) (fun w h => Acts.max_ (h.2 cd hcm)) fun hcn => ?_
    simp only [maxLen] at hcn
    have hdo : x.do_ < 9223372036854775808 := by rcases hwk with h | ⟨h, _⟩ <;> omega
    have hsg := actSign_mk (keyA p) (draftW cd x ks) (draftW_rng cd x ks (by omega) hdo (htm x (List.mem_of_getElem? hx))) (draftW_sm cd x ks)
    have hat := draftW_at cd x ks
    have hsr : (actSignV (keyA p) (draftW cd x ks)).Rng := rng_sign (draftW_rng cd x ks (by omega) hdo (htm x (List.mem_of_getElem? hx)))
    have hss : (actSignV (keyA p) (draftW cd x ks)).Sm := sm_sign (draftW_sm cd x ks)
    generalize draftW cd x ks = dw at *
    refine cw_meet (ι := { j : Nat × SlV × SlV // j.2.1.n = (actSignV (keyA p) dw).to.n ∧ j.2.2.n = (actSignV (keyA p) dw).wraps.n }) (fun j => ⟨[(0, s.v), (3, .slice A 4 c), (4, .slice B ks.length d), (5, .int .i64 (k : Nat)), (6, .int .i64 (p : Nat)), (7, .pointer (some ⟨j.1.1, 0, none⟩))], [cel j.1.1 42 ((actSignV (keyA p) dw).re j.1.2.1 j.1.2.2).cells, orow 28 6 (.slice A 4 c) 4 (L.map ChainD.cells).flatten, orow 9 1 (.slice B ks.length d) ks.length (ks.map encB), orow 48 6 (.slice s.p s.n s.c) s.n (l.map WishD.cells).flatten], fun w => (Glob w ∧ ∀ c ∈ L, c.at_ w) ∧ ((actSignV (keyA p) dw).re j.1.2.1 j.1.2.2).at_ w⟩) ?_ fun j => ?_
    · (refine cw_draw [orow 28 6 (.slice A 4 c) 4 (L.map ChainD.cells).flatten, orow 9 1 (.slice B ks.length d) ks.length (ks.map encB), orow 48 6 (.slice s.p s.n s.c) s.n (l.map WishD.cells).flatten] (fun w => Glob w ∧ ∀ c ∈ L, c.at_ w) (by kernel_rfl) ?_)
      all_goals (refine aw_take 0 (h := ?_))
      all_goals (refine aw_take 2 (h := ?_))
      all_goals (refine aw_take 3 (h := ?_))
      all_goals (first | refine aw_take 4 (h := ?_) | refine aw_take 4 (hy := by (first | (apply y_idxX (q := p * 6); rfl; rfl; omega; omega; assumption; (first | rfl | omega)) | (apply y_idxX (q := k * 6); rfl; rfl; omega; omega; assumption; (first | rfl | omega)))) (h := ?_))
      all_goals (first | refine aw_take 5 (h := ?_) | refine aw_take 5 (hy := by (first | (apply y_ldOs (xs := L.map ChainD.cells) (cs := cd.cells) (i := p); rfl; exact List.mem_cons_self; (simp [hl4]); exact cells6 L; (simp [hcd])) | (apply y_ldOs (xs := l.map WishD.cells) (cs := x.cells) (i := k); rfl; exact List.mem_cons_of_mem _ (List.mem_cons_of_mem _ List.mem_cons_self); (simp [hsl]); exact cells6w l; (simp [hx])))) (h := ?_))
      all_goals (refine aw_take 6 (h := ?_))
      all_goals (refine aw_take 7 (h := ?_))
      all_goals (first | refine aw_take 8 (h := ?_) | refine aw_take 8 (hy := by (first | (apply y_idxX (q := p * 6); rfl; rfl; omega; omega; assumption; (first | rfl | omega)) | (apply y_idxX (q := k * 6); rfl; rfl; omega; omega; assumption; (first | rfl | omega)))) (h := ?_))
      all_goals (first | refine aw_take 9 (h := ?_) | refine aw_take 9 (hy := by (first | (apply y_ldOs (xs := L.map ChainD.cells) (cs := cd.cells) (i := p); rfl; exact List.mem_cons_self; (simp [hl4]); exact cells6 L; (simp [hcd])) | (apply y_ldOs (xs := l.map WishD.cells) (cs := x.cells) (i := k); rfl; exact List.mem_cons_of_mem _ (List.mem_cons_of_mem _ List.mem_cons_self); (simp [hsl]); exact cells6w l; (simp [hx])))) (h := ?_))
      all_goals (refine aw_take 10 (h := ?_))
      all_goals (refine aw_two 1 13 (h := ?_) (h' := ?_); (focus (((first | (refine sw_pu (hc := hky) (hX := fun _ h => h.1) (h := ?_)) | (refine sw_puL (hc := hdr) (hX := fun w h hr => ⟨strs_of_orow (hr (orow 9 1 (.slice B ks.length d) ks.length (ks.map encB)) (by (repeat (first | exact List.mem_cons_self | apply List.mem_cons_of_mem)))) rfl, h.1⟩) (h := ?_)) | (refine sw_mk (hc := hsg) (hX := fun w h => ⟨hat w, h.1⟩) (h := fun v2 X2 h2 => ?_); obtain ⟨s1, s2, rfl, e1, e2, hat2⟩ := h2)); apply sw_nil; refine aw_fin (h := ?_)); all_goals ((refine aw_two 11 13 (h := ?_) (h' := ?_); (focus (((first | (refine sw_pu (hc := hky) (hX := fun _ h => h.1) (h := ?_)) | (refine sw_puL (hc := hdr) (hX := fun w h hr => ⟨strs_of_orow (hr (orow 9 1 (.slice B ks.length d) ks.length (ks.map encB)) (by (repeat (first | exact List.mem_cons_self | apply List.mem_cons_of_mem)))) rfl, h.1⟩) (h := ?_)) | (refine sw_mk (hc := hsg) (hX := fun w h => ⟨hat w, h.1⟩) (h := fun v2 X2 h2 => ?_); obtain ⟨s1, s2, rfl, e1, e2, hat2⟩ := h2)); apply sw_nil; refine aw_fin (h := ?_)); all_goals ((refine aw_two 12 13 (h := ?_) (h' := ?_); (focus (((first | (refine sw_pu (hc := hky) (hX := fun _ h => h.1) (h := ?_)) | (refine sw_puL (hc := hdr) (hX := fun w h hr => ⟨strs_of_orow (hr (orow 9 1 (.slice B ks.length d) ks.length (ks.map encB)) (by (repeat (first | exact List.mem_cons_self | apply List.mem_cons_of_mem)))) rfl, h.1⟩) (h := ?_)) | (refine sw_mk (hc := hsg) (hX := fun w h => ⟨hat w, h.1⟩) (h := fun v2 X2 h2 => ?_); obtain ⟨s1, s2, rfl, e1, e2, hat2⟩ := h2)); apply sw_nil; refine aw_fin (h := ?_)); all_goals ((refine aw_step 13 (h := ?_); (first | (refine sw_alloc (h := fun _ => ?_))); apply sw_nil; refine aw_fin (h := ?_)); all_goals (refine aw_step 14 (h := ?_); (first | (refine sw_st1 (h := ?_)) | (refine sw_stAll (h := ?_))); apply sw_nil; refine aw_fin (h := ?_)); all_goals (refine aw_done (h := ?_))))); rotate_right; (focus (((first | (refine sw_alloc (h := fun _ => ?_))); apply sw_nil; refine aw_fin (h := ?_)); all_goals ((refine aw_step 12 (h := ?_); (first | (refine sw_pu (hc := hky) (hX := fun _ h => h.1) (h := ?_)) | (refine sw_puL (hc := hdr) (hX := fun w h hr => ⟨strs_of_orow (hr (orow 9 1 (.slice B ks.length d) ks.length (ks.map encB)) (by (repeat (first | exact List.mem_cons_self | apply List.mem_cons_of_mem)))) rfl, h.1⟩) (h := ?_)) | (refine sw_mk (hc := hsg) (hX := fun w h => ⟨hat w, h.1⟩) (h := fun v2 X2 h2 => ?_); obtain ⟨s1, s2, rfl, e1, e2, hat2⟩ := h2)); apply sw_nil; refine aw_fin (h := ?_)); all_goals (refine aw_step 14 (h := ?_); (first | (refine sw_st1 (h := ?_)) | (refine sw_stAll (h := ?_))); apply sw_nil; refine aw_fin (h := ?_)); all_goals (refine aw_done (h := ?_))))))))); rotate_right; (focus (((first | (refine sw_alloc (h := fun _ => ?_))); apply sw_nil; refine aw_fin (h := ?_)); all_goals ((refine aw_step 11 (h := ?_); (first | (refine sw_pu (hc := hky) (hX := fun _ h => h.1) (h := ?_)) | (refine sw_puL (hc := hdr) (hX := fun w h hr => ⟨strs_of_orow (hr (orow 9 1 (.slice B ks.length d) ks.length (ks.map encB)) (by (repeat (first | exact List.mem_cons_self | apply List.mem_cons_of_mem)))) rfl, h.1⟩) (h := ?_)) | (refine sw_mk (hc := hsg) (hX := fun w h => ⟨hat w, h.1⟩) (h := fun v2 X2 h2 => ?_); obtain ⟨s1, s2, rfl, e1, e2, hat2⟩ := h2)); apply sw_nil; refine aw_fin (h := ?_)); all_goals (refine aw_step 12 (h := ?_); (first | (refine sw_pu (hc := hky) (hX := fun _ h => h.1) (h := ?_)) | (refine sw_puL (hc := hdr) (hX := fun w h hr => ⟨strs_of_orow (hr (orow 9 1 (.slice B ks.length d) ks.length (ks.map encB)) (by (repeat (first | exact List.mem_cons_self | apply List.mem_cons_of_mem)))) rfl, h.1⟩) (h := ?_)) | (refine sw_mk (hc := hsg) (hX := fun w h => ⟨hat w, h.1⟩) (h := fun v2 X2 h2 => ?_); obtain ⟨s1, s2, rfl, e1, e2, hat2⟩ := h2)); apply sw_nil; refine aw_fin (h := ?_)); all_goals (refine aw_step 14 (h := ?_); (first | (refine sw_st1 (h := ?_)) | (refine sw_stAll (h := ?_))); apply sw_nil; refine aw_fin (h := ?_)); all_goals (refine aw_done (h := ?_))))))))); rotate_right; (focus (((first | (refine sw_alloc (h := fun _ => ?_))); apply sw_nil; refine aw_fin (h := ?_)); all_goals ((refine aw_step 1 (h := ?_); (first | (refine sw_pu (hc := hky) (hX := fun _ h => h.1) (h := ?_)) | (refine sw_puL (hc := hdr) (hX := fun w h hr => ⟨strs_of_orow (hr (orow 9 1 (.slice B ks.length d) ks.length (ks.map encB)) (by (repeat (first | exact List.mem_cons_self | apply List.mem_cons_of_mem)))) rfl, h.1⟩) (h := ?_)) | (refine sw_mk (hc := hsg) (hX := fun w h => ⟨hat w, h.1⟩) (h := fun v2 X2 h2 => ?_); obtain ⟨s1, s2, rfl, e1, e2, hat2⟩ := h2)); apply sw_nil; refine aw_fin (h := ?_)); all_goals (refine aw_step 11 (h := ?_); (first | (refine sw_pu (hc := hky) (hX := fun _ h => h.1) (h := ?_)) | (refine sw_puL (hc := hdr) (hX := fun w h hr => ⟨strs_of_orow (hr (orow 9 1 (.slice B ks.length d) ks.length (ks.map encB)) (by (repeat (first | exact List.mem_cons_self | apply List.mem_cons_of_mem)))) rfl, h.1⟩) (h := ?_)) | (refine sw_mk (hc := hsg) (hX := fun w h => ⟨hat w, h.1⟩) (h := fun v2 X2 h2 => ?_); obtain ⟨s1, s2, rfl, e1, e2, hat2⟩ := h2)); apply sw_nil; refine aw_fin (h := ?_)); all_goals (refine aw_step 12 (h := ?_); (first | (refine sw_pu (hc := hky) (hX := fun _ h => h.1) (h := ?_)) | (refine sw_puL (hc := hdr) (hX := fun w h hr => ⟨strs_of_orow (hr (orow 9 1 (.slice B ks.length d) ks.length (ks.map encB)) (by (repeat (first | exact List.mem_cons_self | apply List.mem_cons_of_mem)))) rfl, h.1⟩) (h := ?_)) | (refine sw_mk (hc := hsg) (hX := fun w h => ⟨hat w, h.1⟩) (h := fun v2 X2 h2 => ?_); obtain ⟨s1, s2, rfl, e1, e2, hat2⟩ := h2)); apply sw_nil; refine aw_fin (h := ?_)); all_goals (refine aw_step 14 (h := ?_); (first | (refine sw_st1 (h := ?_)) | (refine sw_stAll (h := ?_))); apply sw_nil; refine aw_fin (h := ?_)); all_goals (refine aw_done (h := ?_))))))
      all_goals exact ⟨⟨(_, s1, s2), e1, e2⟩, ok_sub ⟨rfl, rfl, rfl, rfl, rfl, rfl, trivial⟩ (List.Sublist.refl _) fun w h => ⟨h.1, hat2 w h.2⟩⟩
    obtain ⟨⟨b, s1, s2⟩, e1, e2⟩ := j
    simp only at e1 e2 ⊢
    have hfi := chFits_pu cd (hbL cd hcm).1 ((actSignV (keyA p) dw).re s1 s2)
    rw [fitsV_re cd (actSignV (keyA p) dw) _ e1 e2, show ((actSignV (keyA p) dw).re s1 s2).object = (actSignV (keyA p) dw).object from rfl] at hfi
    generalize hAv : (actSignV (keyA p) dw).re s1 s2 = a at *
    cases hF : fitsV cd (actSignV (keyA p) dw) (idxV cd.actsL (actSignV (keyA p) dw).object) with
    | false =>
      rw [hF] at hfi
      apply cw_seq
      (refine cw_draw [cel b 42 a.cells, orow 28 6 (.slice A 4 c) 4 (L.map ChainD.cells).flatten, orow 9 1 (.slice B ks.length d) ks.length (ks.map encB), orow 48 6 (.slice s.p s.n s.c) s.n (l.map WishD.cells).flatten] (fun w => (Glob w ∧ ∀ c ∈ L, c.at_ w) ∧ a.at_ w) (by kernel_rfl) ?_)
      all_goals (refine aw_take 0 (h := ?_))
      all_goals (refine aw_take 1 (h := ?_))
      all_goals (first | refine aw_take 2 (h := ?_) | refine aw_take 2 (hy := by (first | (apply y_idxX (q := p * 6); rfl; rfl; omega; omega; assumption; (first | rfl | omega)))) (h := ?_))
      all_goals (first | refine aw_take 3 (h := ?_) | refine aw_take 3 (hy := by (first | (apply y_ldOs (xs := L.map ChainD.cells) (cs := cd.cells) (i := p); rfl; exact List.mem_cons_of_mem _ List.mem_cons_self; (simp [hl4]); exact cells6 L; (simp [hcd])))) (h := ?_))
      all_goals (first | refine aw_take 4 (h := ?_) | refine aw_take 4 (hy := by (first | (apply y_ldOs (xs := L.map ChainD.cells) (cs := cd.cells) (i := p); rfl; exact List.mem_cons_of_mem _ List.mem_cons_self; (simp [hl4]); exact cells6 L; (simp [hcd])))) (h := ?_))
      all_goals (refine aw_step 5 (h := ?_); (first | (refine sw_pu (hc := hfi) (hX := fun w h => ⟨⟨h.1.2 cd hcm, h.1.1⟩, h.2⟩) (h := ?_))); apply sw_nil; refine aw_fin (h := ?_))
      all_goals (refine aw_done (h := ?_))
      all_goals
        repeat' (first | apply sw_nil | apply cw_seq | apply cw_reg | refine sy_move (h := ?_) | refine sy_assign (h := ?_) | refine sy_fld (h := ?_) | refine sy_ld (h := ?_) | refine sy_ldAll (h := ?_) | refine sy_lss (h := ?_) | refine sy_slen (h := ?_) | refine sy_len (h := ?_) | refine sy_add (h := ?_) | refine sw_alloc (h := fun _ => ?_) | refine sw_bsl (h := fun _ => ?_) | refine sw_st1 (h := ?_) | refine sw_stAll (h := ?_) | refine cw_cond_t (ht := ?_) | refine cw_cond_f (hf := ?_) | apply cw_skip | apply cw_block | apply cw_ret | apply cw_exit | refine sy_arrA (h := ?_) | refine sy_strI (h := ?_) | (refine cw_cond (ht := ?_) (hf := ?_); all_goals (intro hx_; first | have := of_decide_eq_true hx_ | have := of_decide_eq_false hx_ | skip)))
        exact ⟨(⟨k + 1, hlt, L, ks, by rw [toldN_succ l hx, ← hT, toldS, hTB hF]; rfl, hl4, Nat.le_succ_of_le hkl, (fun c hc => ⟨(hbL c hc).1, Nat.le_succ_of_le (hbL c hc).2⟩), _, rfl, _, rfl, _, rfl, A, c, B, d⟩ : ToldI l), (by show l.length - (k + 1) < l.length - k; omega), ok_sub ⟨rfl, rfl, rfl, rfl, trivial⟩ (List.Sublist.cons _ (List.Sublist.refl _)) fun w h => h.1⟩
    | true =>
      rw [hF] at hfi
      have hra : a.Rng := by rw [← hAv]; exact rng_re hsr e1 e2
      have hsa : a.Sm := by rw [← hAv]; exact sm_re hss e1 e2
      have hlo := longer_mk cd a hra hsa (by have := (hbL cd hcm).2; omega)
      have hdi := digest21_pu a hra hsa
      have hda : digV a = digV (actSignV (keyA p) dw) := by rw [← hAv]; exact dig_re e1 e2
      have hN : ∀ s3 : SlV, s3.n = cd.acts.n + 1 → ((L.set p (cd.more s3 a)).map ChainD.can, ks ++ [digV a]) = toldN l (k + 1) := fun s3 h3 => by
        rw [toldN_succ l hx, ← hT, toldS]
        simp only
        rw [hTB hF, cond_true, hgd, hTA, hpv, Int.toNat_natCast, set_can, more_can hAv e1 e2 h3, hda]
        rfl
      have hBn : ∀ s3 : SlV, ∀ c ∈ L.set p (cd.more s3 a), ActsOk c.actsL ∧ c.actsL.length ≤ k + 1 + 1 := fun s3 c hc => by
        rcases List.mem_or_eq_of_mem_set hc with hc | rfl
        · exact ⟨(hbL c hc).1, Nat.le_succ_of_le (hbL c hc).2⟩
        · have hb1 := hbL cd hcm
          refine ⟨⟨fun y hy => ?_, fun y hy => ?_⟩, ?_⟩
          · rcases List.mem_append.1 hy with hy | hy
            · exact hb1.1.rng y hy
            · rw [List.mem_singleton] at hy
              subst hy
              exact hra
          · rcases List.mem_append.1 hy with hy | hy
            · exact hb1.1.sm y hy
            · rw [List.mem_singleton] at hy
              subst hy
              exact hsa
          · show (cd.actsL ++ [a]).length ≤ _
            rw [List.length_append]
            have := hb1.2
            simp only [List.length_cons, List.length_nil]
            omega
      apply cw_seq
      (refine cw_draw [cel b 42 a.cells, orow 28 6 (.slice A 4 c) 4 (L.map ChainD.cells).flatten, orow 9 1 (.slice B ks.length d) ks.length (ks.map encB), orow 48 6 (.slice s.p s.n s.c) s.n (l.map WishD.cells).flatten] (fun w => (Glob w ∧ ∀ c ∈ L, c.at_ w) ∧ a.at_ w) (by kernel_rfl) ?_)
      all_goals (refine aw_take 0 (h := ?_))
      all_goals (refine aw_take 1 (h := ?_))
      all_goals (first | refine aw_take 2 (h := ?_) | refine aw_take 2 (hy := by (first | (apply y_idxX (q := p * 6); rfl; rfl; omega; omega; assumption; (first | rfl | omega)))) (h := ?_))
      all_goals (first | refine aw_take 3 (h := ?_) | refine aw_take 3 (hy := by (first | (apply y_ldOs (xs := L.map ChainD.cells) (cs := cd.cells) (i := p); rfl; exact List.mem_cons_of_mem _ List.mem_cons_self; (simp [hl4]); exact cells6 L; (simp [hcd])))) (h := ?_))
      all_goals (first | refine aw_take 4 (h := ?_) | refine aw_take 4 (hy := by (first | (apply y_ldOs (xs := L.map ChainD.cells) (cs := cd.cells) (i := p); rfl; exact List.mem_cons_of_mem _ List.mem_cons_self; (simp [hl4]); exact cells6 L; (simp [hcd])))) (h := ?_))
      all_goals (refine aw_step 5 (h := ?_); (first | (refine sw_pu (hc := hfi) (hX := fun w h => ⟨⟨h.1.2 cd hcm, h.1.1⟩, h.2⟩) (h := ?_))); apply sw_nil; refine aw_fin (h := ?_))
      all_goals (refine aw_done (h := ?_))
      all_goals
        repeat' (first | apply sw_nil | apply cw_seq | apply cw_reg | refine sy_move (h := ?_) | refine sy_assign (h := ?_) | refine sy_fld (h := ?_) | refine sy_ld (h := ?_) | refine sy_ldAll (h := ?_) | refine sy_lss (h := ?_) | refine sy_slen (h := ?_) | refine sy_len (h := ?_) | refine sy_add (h := ?_) | refine sw_alloc (h := fun _ => ?_) | refine sw_bsl (h := fun _ => ?_) | refine sw_st1 (h := ?_) | refine sw_stAll (h := ?_) | refine cw_cond_t (ht := ?_) | refine cw_cond_f (hf := ?_) | apply cw_skip | apply cw_block | apply cw_ret | apply cw_exit | refine sy_arrA (h := ?_) | refine sy_strI (h := ?_) | (refine cw_cond (ht := ?_) (hf := ?_); all_goals (intro hx_; first | have := of_decide_eq_true hx_ | have := of_decide_eq_false hx_ | skip)))
        (refine cw_draw [] (fun _ => True) (by kernel_rfl) ?_)
        all_goals (refine aw_take 0 (h := ?_))
        all_goals (refine aw_take 1 (h := ?_))
        all_goals (refine aw_take 2 (h := ?_))
        all_goals (refine aw_take 3 (h := ?_))
        all_goals (first | refine aw_take 4 (h := ?_) | refine aw_take 4 (hy := by (first | (apply y_idxX (q := p * 6); rfl; rfl; omega; omega; assumption; (first | rfl | omega)))) (h := ?_))
        all_goals (refine aw_two 5 6 (h := ?_) (h' := ?_); (focus (((first | (refine sy_ld (h := ?_)) | (refine sy_ldAll (h := ?_)) | (refine sw_yield (y_ldOs (xs := L.map ChainD.cells) (cs := cd.cells) (i := p) rfl (by (repeat (first | exact List.mem_cons_self | apply List.mem_cons_of_mem))) (by simp [hl4]) (cells6 L) (by simp [hcd])) rfl rfl rfl ?_)); apply sw_nil; refine aw_fin (h := ?_)); all_goals ((refine aw_step 6 (h := ?_); (first | (refine sy_ld (h := ?_)) | (refine sy_ldAll (h := ?_)) | (refine sw_yield (y_ldOs (xs := L.map ChainD.cells) (cs := cd.cells) (i := p) rfl (by (repeat (first | exact List.mem_cons_self | apply List.mem_cons_of_mem))) (by simp [hl4]) (cells6 L) (by simp [hcd])) rfl rfl rfl ?_)); apply sw_nil; refine aw_fin (h := ?_)); all_goals (refine aw_step 7 (h := ?_); (first | (refine sw_mk (hc := hlo) (hX := fun w h => ⟨⟨h.1.2 cd hcm, h.2⟩, h.1.1⟩) (h := fun v3 X3 h3 => ?_); obtain ⟨s3, rfl, e3, hat3⟩ := h3)); apply sw_nil; refine aw_fin (h := ?_)); all_goals (first | refine aw_take 8 (h := ?_) | refine aw_take 8 (hy := by (first | (apply y_idxX (q := p * 6); rfl; rfl; omega; omega; assumption; (first | rfl | omega)))) (h := ?_)); all_goals (refine aw_step 9 (h := ?_); (first | (refine sw_st1 (h := ?_)) | (refine sw_stAll (h := ?_)) | (refine sw_stO (i := p) (size := 6) (vs := (cd.more s3 a).cells) (by kernel_rfl) rfl rfl rfl rfl rfl (by omega) rfl (by (repeat (first | exact At.here _ | apply At.there))) rfl (by (first | with_reducible rfl | with_reducible assumption | with_reducible exact Bool.not_false | with_reducible exact Bool.not_true)) rfl ?_)); apply sw_nil; refine aw_fin (h := ?_)); all_goals (refine aw_done (h := ?_))))); rotate_right; (focus (((first | (refine sy_ld (h := ?_)) | (refine sy_ldAll (h := ?_)) | (refine sw_yield (y_ldOs (xs := L.map ChainD.cells) (cs := cd.cells) (i := p) rfl (by (repeat (first | exact List.mem_cons_self | apply List.mem_cons_of_mem))) (by simp [hl4]) (cells6 L) (by simp [hcd])) rfl rfl rfl ?_)); apply sw_nil; refine aw_fin (h := ?_)); all_goals ((refine aw_step 5 (h := ?_); (first | (refine sy_ld (h := ?_)) | (refine sy_ldAll (h := ?_)) | (refine sw_yield (y_ldOs (xs := L.map ChainD.cells) (cs := cd.cells) (i := p) rfl (by (repeat (first | exact List.mem_cons_self | apply List.mem_cons_of_mem))) (by simp [hl4]) (cells6 L) (by simp [hcd])) rfl rfl rfl ?_)); apply sw_nil; refine aw_fin (h := ?_)); all_goals (refine aw_step 7 (h := ?_); (first | (refine sw_mk (hc := hlo) (hX := fun w h => ⟨⟨h.1.2 cd hcm, h.2⟩, h.1.1⟩) (h := fun v3 X3 h3 => ?_); obtain ⟨s3, rfl, e3, hat3⟩ := h3)); apply sw_nil; refine aw_fin (h := ?_)); all_goals (first | refine aw_take 8 (h := ?_) | refine aw_take 8 (hy := by (first | (apply y_idxX (q := p * 6); rfl; rfl; omega; omega; assumption; (first | rfl | omega)))) (h := ?_)); all_goals (refine aw_step 9 (h := ?_); (first | (refine sw_st1 (h := ?_)) | (refine sw_stAll (h := ?_)) | (refine sw_stO (i := p) (size := 6) (vs := (cd.more s3 a).cells) (by kernel_rfl) rfl rfl rfl rfl rfl (by omega) rfl (by (repeat (first | exact At.here _ | apply At.there))) rfl (by (first | with_reducible rfl | with_reducible assumption | with_reducible exact Bool.not_false | with_reducible exact Bool.not_true)) rfl ?_)); apply sw_nil; refine aw_fin (h := ?_)); all_goals (refine aw_done (h := ?_))))))
        all_goals
          repeat' (first | apply sw_nil | apply cw_seq | apply cw_reg | refine sy_move (h := ?_) | refine sy_assign (h := ?_) | refine sy_fld (h := ?_) | refine sy_ld (h := ?_) | refine sy_ldAll (h := ?_) | refine sy_lss (h := ?_) | refine sy_slen (h := ?_) | refine sy_len (h := ?_) | refine sy_add (h := ?_) | refine sw_alloc (h := fun _ => ?_) | refine sw_bsl (h := fun _ => ?_) | refine sw_st1 (h := ?_) | refine sw_stAll (h := ?_) | refine cw_cond_t (ht := ?_) | refine cw_cond_f (hf := ?_) | apply cw_skip | apply cw_block | apply cw_ret | apply cw_exit | refine sy_arrA (h := ?_) | refine sy_strI (h := ?_) | (refine sw_pu (hc := hdi) (hX := fun w h => ⟨h.1.2, h.1.1.1⟩) (h := ?_)) | (refine sw_bsl (len := 1) (vs := [.string (digV a)]) (h := fun _ => ?_)) | (refine cw_cond (ht := ?_) (hf := ?_); all_goals (intro hx_; first | have := of_decide_eq_true hx_ | have := of_decide_eq_false hx_ | skip)))
          refine sw_append (size := 1) (news := [encB (digV a)]) (q := 1) rfl rfl rfl rfl (fun _ => At.there _ (At.there _ (At.there _ (At.here _)))) (fun w G => src_cel G List.mem_cons_self rfl rfl 1) (by omega) (by simp only [maxLen]; omega) rfl ?_ rfl ?_
          · (first | with_reducible rfl | with_reducible assumption | with_reducible exact Bool.not_false | with_reducible exact Bool.not_true)
          intro A2 c2
          repeat' (first | apply sw_nil | apply cw_seq | apply cw_reg | refine sy_move (h := ?_) | refine sy_assign (h := ?_) | refine sy_fld (h := ?_) | refine sy_ld (h := ?_) | refine sy_ldAll (h := ?_) | refine sy_lss (h := ?_) | refine sy_slen (h := ?_) | refine sy_len (h := ?_) | refine sy_add (h := ?_) | refine sw_alloc (h := fun _ => ?_) | refine sw_bsl (h := fun _ => ?_) | refine sw_st1 (h := ?_) | refine sw_stAll (h := ?_) | refine cw_cond_t (ht := ?_) | refine cw_cond_f (hf := ?_) | apply cw_skip | apply cw_block | apply cw_ret | apply cw_exit | refine sy_arrA (h := ?_) | refine sy_strI (h := ?_) | (refine cw_cond (ht := ?_) (hf := ?_); all_goals (intro hx_; first | have := of_decide_eq_true hx_ | have := of_decide_eq_false hx_ | skip)))
          exact ⟨(⟨k + 1, hlt, L.set p (cd.more s3 a), ks ++ [digV a], hN s3 e3, by rw [List.length_set]; exact hl4, by rw [List.length_append]; exact Nat.succ_le_succ hkl, hBn s3, _, flatten_set L p _ (by omega), ks.length + 1, by rw [List.length_append]; rfl, ks.map encB ++ [encB (digV a)], by rw [List.map_append]; rfl, A, c, A2, c2⟩ : ToldI l), (by show l.length - (k + 1) < l.length - k; omega), ok_sub ⟨rfl, rfl, rfl, rfl, trivial⟩ (List.Sublist.cons _ (List.Sublist.cons _ (List.Sublist.refl _))) fun w h => ⟨h.1.1.1, fun c hc => (List.mem_or_eq_of_mem_set hc).elim (h.1.1.2 c) (fun e => e ▸ hat3 w h.2)⟩⟩
  · have hkE : k = l.length := by omega
    subst hkE
    exact ends_ret (res_tmp rfl rfl) ⟨_, _, _, rfl, L, ⟨A, 4, c⟩, by have h := congrArg Prod.fst hT; rw [toldN, List.take_length] at h; exact h, hbL, rfl, rfl, fun w h => ⟨h.1.1.1, rows_of_orow h.1.2 (by simp [hl4]) (cells6 L), h.1.1.2⟩⟩
end Go.Proofs.YtepckpofhegmiaaGreatDoor
