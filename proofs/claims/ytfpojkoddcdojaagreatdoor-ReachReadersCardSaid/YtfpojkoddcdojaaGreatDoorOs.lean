/- Laws more: deletions, lengths of maps, cut slices, contracts that hand back resources. No program in sight. -/
import Derived.Test.YtfpojkoddcdojaaGreatDoorOr
import Derived.Test.YtfpojkoddcdojaaGreatDoorKe
set_option linter.unusedVariables false
set_option linter.unusedSimpArgs false
namespace Go.Proofs.YtfpojkoddcdojaaGreatDoor.Sy
open Go Go.RowKit Go.MapKept

def mdel {κ β : Type} [KeyT κ] : List (κ × β) → κ → List (κ × β)
  | [], _ => []
  | (k', v') :: r, k => bif KeyT.eqb k k' then r else (k', v') :: mdel r k
theorem mdel_of_none {κ β : Type} [KeyT κ] : ∀ (l : List (κ × β)) (k : κ), mget l k = none → mdel l k = l
  | [], _, _ => rfl
  | (k', v') :: r, k, h => by
    simp only [mget] at h
    simp only [mdel]
    cases hb : KeyT.eqb k k' with
    | true => rw [hb] at h; simp at h
    | false => rw [hb] at h; rw [cond_false, mdel_of_none r k (by simpa using h)]
theorem mdel_of_at {κ β : Type} [KeyT κ] : ∀ (l : List (κ × β)) (k : κ) (j : Nat) (v : β), l[j]? = some (k, v) → (l.map (·.1)).Nodup → mdel l k = l.eraseIdx j
  | [], _, j, v, h, _ => by simp at h
  | (k', v') :: r, k, 0, v, h, hn => by
    simp at h
    obtain ⟨rfl, rfl⟩ := h
    have : KeyT.eqb k' k' = true := (KeyT.eqb_iff k' k').2 rfl
    simp [mdel, this]
  | (k', v') :: r, k, j + 1, v, h, hn => by
    have hne : KeyT.eqb k k' = false := by
      cases hb : KeyT.eqb k k' with
      | false => rfl
      | true =>
        have e := (KeyT.eqb_iff k k').1 hb
        subst e
        simp only [List.map_cons, List.nodup_cons] at hn
        exact absurd (List.mem_map.2 ⟨(k, v), List.mem_of_getElem? (by simpa using h), rfl⟩) hn.1
    simp only [mdel, hne, cond_false, List.eraseIdx_cons_succ]
    rw [mdel_of_at r k j v (by simpa using h) (by simp only [List.map_cons, List.nodup_cons] at hn; exact hn.2)]
theorem enc_inj {κ : Type} [KeyT κ] {a b : κ} (h : KeyT.enc a = KeyT.enc b) : a = b := by
  have h1 := KeyT.same a a
  have h2 := KeyT.same a b
  rw [← h] at h2
  rw [h1] at h2
  have h3 : KeyT.eqb a a = true := (KeyT.eqb_iff a a).2 rfl
  rw [h3] at h2
  exact (KeyT.eqb_iff a b).1 (Option.some.inj h2).symm
theorem map_erase {α β : Type} (f : α → β) : ∀ (l : List α) (j : Nat), (l.eraseIdx j).map f = (l.map f).eraseIdx j
  | [], j => by simp
  | a :: l, 0 => rfl
  | a :: l, j + 1 => by simp [map_erase f l j]
theorem run_delete_at {κ : Type} [KeyT κ] {P : Program} {w : World} {t et kt ty : TypeId} (ht : mapOf P t = some (et, keyD κ)) {g : Nat} {l : List (κ × Value)} (h : MapAt w g l) (k : κ) :
    ∃ o, (Builtin.delete_ #[t, kt] ty #[.map (some g), KeyT.enc k]).run P w = .ok (.tuple #[]) { w with heap := w.heap.setIfInBounds g o } ∧ ∀ w' : World, w'.heap[g]? = some o → MapAt w' g (mdel l k) := by
  obtain ⟨kt', h1, h2⟩ := mapOf_spec ht
  obtain ⟨es, clock, hb, hs, hl⟩ := h
  have hk := KeyT.ok k
  have hnd : (l.map (·.1)).Nodup := by
    have h3 := hs.2.2
    have h4 : es.toList.map (·.key) = l.map fun p => KeyT.enc p.1 := by
      have := congrArg (List.map Prod.fst) hl
      simpa [List.map_map, Function.comp_def] using this
    rw [h4] at h3
    unfold List.Nodup at h3 ⊢
    rw [List.pairwise_map] at h3 ⊢
    exact h3.imp fun hab e => hab (by rw [e])
  rcases find_enc k es.toList l 0 hl with ⟨g1, g2, g3, g4⟩ | ⟨j, e, v0, g1, g2, g3, g4, g5⟩
  · refine ⟨.map es clock, ?_, fun w' hw => ⟨es, clock, hw, hs, ?_⟩⟩
    · simp [Builtin.delete_, run_underlying h1, MapKept.run_getObj_map hb, MapKept.run_checkKey h2 hk, MapKept.run_findKey h2 g1, MapKept.run_setObj_map _ hb, Result.andThen]
    · rw [mdel_of_none l k g2]
      exact hl
  · have hj : es[j]? = some e := by simpa using g2
    have hlj : l[j]? = some (k, v0) := by
      have h3 := congrArg (fun q => q[j]?) hl
      simp only [List.getElem?_map, Array.getElem?_toList, hj, Option.map_some] at h3
      cases hq : l[j]? with
      | none => rw [hq] at h3; simp at h3
      | some p =>
        rw [hq] at h3
        simp only [Option.map_some, Option.some.injEq, Prod.mk.injEq] at h3
        have e1 : p.1 = k := enc_inj (h3.1.symm.trans g3)
        have e2 : mget l k = some p.2 := by
          have key : ∀ (l : List (κ × Value)) (j : Nat) (p : κ × Value), l[j]? = some p → (l.map (·.1)).Nodup → mget l p.1 = some p.2 := by
            intro l
            induction l with
            | nil => intro j p h; simp at h
            | cons a r ih =>
              intro j p h hn
              cases j with
              | zero =>
                simp at h
                subst h
                have : KeyT.eqb a.1 a.1 = true := (KeyT.eqb_iff _ _).2 rfl
                simp [mget, this]
              | succ j =>
                simp only [List.map_cons, List.nodup_cons] at hn
                have hne : KeyT.eqb p.1 a.1 = false := by
                  cases hb : KeyT.eqb p.1 a.1 with
                  | false => rfl
                  | true =>
                    have e := (KeyT.eqb_iff _ _).1 hb
                    exact absurd (List.mem_map.2 ⟨p, List.mem_of_getElem? (by simpa using h), e⟩) hn.1
                simp only [mget, hne, cond_false]
                exact ih j p (by simpa using h) hn.2
          have := key l j p hq hnd
          rwa [e1] at this
        rw [g4] at e2
        obtain ⟨p1, p2⟩ := p
        simp only at e1 e2
        rw [e1, Option.some.inj e2]
    refine ⟨.map (es.eraseIdxIfInBounds j) clock, ?_, fun w' hw => ⟨_, _, hw, stamped_erase hs j, ?_⟩⟩
    · simp [Builtin.delete_, run_underlying h1, MapKept.run_getObj_map hb, MapKept.run_checkKey h2 hk, MapKept.run_findKey h2 g1, MapKept.run_setObj_map _ hb, Result.andThen]
    · rw [mdel_of_at l k j v0 hlj hnd]
      have hlt : j < es.size := (Array.getElem?_eq_some_iff.1 hj).1
      have e1 : (es.eraseIdxIfInBounds j).toList = es.toList.eraseIdx j := by simp [Array.eraseIdxIfInBounds, hlt]
      rw [e1, map_erase, hl, ← map_erase]

section
variable {P : Program} {N : Nat} {av bor : List Nat} {w0 : World} {ops : Array Oper} {rest : List Oper} {k : St → Prop} {E : Env} {loc loc' : List Res} {X : World → Prop}
variable {d : Option Tmp} {ty : TypeId} {pos : String} {af : Array Edge} {g : Option (Nat × Bool)} {bb want : Bool} {K : Exit → St → Prop}
theorem sw_delete {κ : Type} [KeyT κ] {t et kt : Nat} [ht : TyMap P t et (keyD κ)] {m x : Operand} {q : Nat} {l : List (κ × Value)} {kk : κ} (hm : ev E m = some (.map (some q)) := by rfl) (hx : ev E x = some (KeyT.enc kk) := by rfl)
    (hA : At (mapr q l) (mapr q (mdel l kk)) loc loc' := by (repeat (first | exact At.here _ | apply At.there))) (hg : gdB ops E g = some (bb, want) := by rfl) (hb : bb = want := by (first | with_reducible rfl | with_reducible assumption | with_reducible exact Bool.not_false | with_reducible exact Bool.not_true)) (hd : inB N d = true := by rfl)
    (h : Sw P N av bor w0 ops rest ⟨putE E d (.tuple #[]), loc', X⟩ k) : Sw P N av bor w0 ops (⟨d, .call ⟨.builtin .delete, #[m, x], #[t, kt]⟩, ty, pos, af, g⟩ :: rest) ⟨E, loc, X⟩ k := Sw.mk fun a w ok => by
  simp only [wpList]
  rw [wanted_of ok (o := ⟨d, .call ⟨.builtin .delete, #[m, x], #[t, kt]⟩, ty, pos, af, g⟩) hg]
  subst hb
  simp only [beq_self_eq_true, if_true]
  left
  unfold Oper.wp
  have hmm : MapAt w q l := (ok.gam.here _ hA.mem).now
  obtain ⟨o, hr, ho⟩ := run_delete_at (P := P) (kt := kt) (ty := ty) ht.out hmm kk
  obtain ⟨es, c, hb', _⟩ := hmm
  have hs := heap_set (o' := o) hb'
  have ok' : Ok N av bor w0 ⟨E, loc', X⟩ a { w with heap := w.heap.setIfInBounds q o } := ⟨ok.defers, ok.size, ok.env, ok.gam.turn hA rfl rfl rfl (by simp) (fun i hi => hs.2 i hi) fun w2 h2 => ho w2 (h2.trans hs.1)⟩
  have hr' : (execOp a.eval ⟨d, .call ⟨.builtin .delete, #[m, x], #[t, kt]⟩, ty, pos, af, g⟩).run P w = .ok (.value (.tuple #[])) { w with heap := w.heap.setIfInBounds q o } := by
    simp only [execOp, resolve, invoke, builtin, Sem.run_bind, Sem.run_pure, Result.andThen_ok, List.map_toArray, List.map_cons, List.map_nil, ok.eval (st := ⟨E, loc, X⟩) hm, ok.eval (st := ⟨E, loc, X⟩) hx, hr]
  rw [hr']
  exact h.run _ _ (put_eq d _ ▸ ok'.put hd _)
theorem y_mlen {κ : Type} [KeyT κ] {st : St} {t et : Nat} [ht : TyMap P t et (keyD κ)] {m : Operand} {q : Nat} {l : List (κ × Value)} (hm : ev st.env m = some (.map (some q))) (hl : mapr q l ∈ st.loc) :
    Sy.Yields P N av bor w0 st (.call ⟨.builtin .len, #[m], #[t]⟩) ty (.int .i64 (l.length : Int)) := Sy.Yields.mk fun A w ok d pos af g => by
  obtain ⟨kt', h1, h2⟩ := mapOf_spec ht.out
  obtain ⟨es, clock, hb, hs, hle⟩ : MapAt w q l := (ok.gam.here _ hl).now
  have hz : es.size = l.length := by have := congrArg List.length hle; simpa using this
  simp [execOp, resolve, invoke, builtin, Builtin.len_, ok.eval hm, run_underlying h1, MapKept.run_getObj_map hb, goInt, hz]
theorem sy_mlen {κ : Type} [KeyT κ] {n : Nat} {t et : Nat} [ht : TyMap P t et (keyD κ)] {m : Operand} {q : Nat} {l : List (κ × Value)} (hm : ev E m = some (.map (some q)) := by rfl) (hl : mapr q l ∈ loc := by (repeat (first | exact List.mem_cons_self | apply List.mem_cons_of_mem))) (hg : gdB ops E g = some (bb, want) := by rfl) (hbb : bb = want := by (first | with_reducible rfl | with_reducible assumption | with_reducible exact Bool.not_false | with_reducible exact Bool.not_true)) (hd : Nat.blt n N = true := by rfl)
    (h : Sw P N av bor w0 ops rest ⟨(n, .int .i64 (l.length : Int)) :: E, loc, X⟩ k) : Sw P N av bor w0 ops (⟨some n, .call ⟨.builtin .len, #[m], #[t]⟩, ty, pos, af, g⟩ :: rest) ⟨E, loc, X⟩ k := sw_yield (y_mlen hm hl) hg hbb hd h
/-- 's[:h]' of a slice. -/
theorem y_slcH {st : St} {x y : Operand} {t e size b' : Nat} [hI : TySl P t e size b'] {p : Option Addr} {m c : Nat} {kk : IntKind} {i : Int} (hx : ev st.env x = some (.slice p m c)) (hy : ev st.env y = some (.int kk i)) (h0 : 0 ≤ i) (h1 : i ≤ (c : Int)) :
    Sy.Yields P N av bor w0 st (.slice t x none (some y) none) ty (.slice p i.toNat c) := Sy.Yields.mk fun A w ok d pos af g => by
  obtain ⟨hu, inf, hi, hs, hb⟩ := slOf_spec hI.out
  have hz := run_sizeOf (P := P) (w := w) (t := e) (n := size) (by simp [hi, hs])
  have hadd : ∀ a : Addr, a.add 0 = a := fun a => by simp [Addr.add]
  have hmap : p.map (fun a => a.add 0) = p := by cases p <;> simp [hadd]
  simp [execOp, ok.eval hx, ok.eval hy, Instr.sliceAt, run_underlying hu, Instr.slice, Instr.sliceBounds, run_sliceBound, h0, h1, hz, hmap]
theorem sy_slcH {n : Nat} {x y : Operand} {t e size b' : Nat} [hI : TySl P t e size b'] {p : Option Addr} {m c : Nat} {kk : IntKind} {i : Int} (hx : ev E x = some (.slice p m c) := by rfl) (hy : ev E y = some (.int kk i) := by rfl) (h0 : 0 ≤ i := by omega) (h1 : i ≤ (c : Int)) (hg : gdB ops E g = some (bb, want) := by rfl) (hbb : bb = want := by (first | with_reducible rfl | with_reducible assumption | with_reducible exact Bool.not_false | with_reducible exact Bool.not_true)) (hd : Nat.blt n N = true := by rfl)
    (h : Sw P N av bor w0 ops rest ⟨(n, .slice p i.toNat c) :: E, loc, X⟩ k) : Sw P N av bor w0 ops (⟨some n, .slice t x none (some y) none, ty, pos, af, g⟩ :: rest) ⟨E, loc, X⟩ k := sw_yield (y_slcH hx hy h0 h1) hg hbb hd h
def nullR : Res := ⟨[], fun _ => True⟩
theorem Gam.null {w : World} (G : Gam av bor w0 loc X w) : Gam av bor w0 (nullR :: loc) X w := by
  have e1 : fps (nullR :: loc) = fps loc := by simp [fps, nullR]
  refine ⟨G.fr, G.avb, by rw [e1]; exact G.nodup, by rw [e1]; exact G.own, fun x hx => ?_, by rw [e1]; exact G.keep⟩
  rcases List.mem_cons.1 hx with rfl | hx
  · exact fun _ _ => trivial
  · exact G.here x hx
/-- A call that takes one resource, wherever it stands. -/
theorem sw_fnAt {x : Operand} {xs : List Operand} {ats : Array TypeId} {f : FuncId} {first caps : Array Value} {args all : List Value} {X1 : World → Prop} {Post : Value → List Res → (World → Prop) → Prop} {r : Res}
    (hx : ev E x = some (.func (.func f) first caps) := by rfl) (ha : evs E xs = some args := by rfl) (hall : first.toList ++ args ++ caps.toList = all := by rfl) (hg : gdB ops E g = some (bb, want) := by rfl) (hb : bb = want := by (first | with_reducible rfl | with_reducible assumption | with_reducible exact Bool.not_false | with_reducible exact Bool.not_true)) (hd : inB N d = true := by rfl) (hf : FnBody P f := by infer_instance)
    (hc : Ct P f all.toArray [r] X1 Post) (hA : At r nullR loc loc' := by (repeat (first | exact At.here _ | apply At.there))) (hX : ∀ w, X w → X1 w := by (first | exact fun _ _ => trivial | exact fun _ h => h | exact fun _ h => h.1 | exact fun _ h => h.2))
    (h : ∀ v R X', Post v R X' → Sw P N av bor w0 ops rest ⟨putE E d v, R ++ loc', fun w => X w ∧ X' w⟩ k) :
    Sw P N av bor w0 ops (⟨d, .call ⟨.value x, xs.toArray, ats⟩, ty, pos, af, g⟩ :: rest) ⟨E, loc, X⟩ k := by
  obtain ⟨f', h1, h2⟩ := hA.perm
  refine sw_perm h1 ?_
  refine sw_fn (pre := [r]) (fr := f') (Post := Post) hx ha hall hg hb hd hf hc hX fun u R X' hp => ?_
  refine sw_to (fun a w ok => ?_) (h u R X' hp)
  refine ⟨ok.defers, ok.size, ok.env, ?_⟩
  have G1 := (ok.gam.null).perm (List.perm_middle (l₁ := R) (a := nullR) (l₂ := f')).symm
  exact G1.perm ((List.Perm.refl R).append h2.symm)
theorem ok_perm {E' : Env} {l' : List Res} {X' : World → Prop} (he : sub E E') (hl : loc.Perm l') (hx : ∀ w, X w → X' w) : ∀ a w, Ok N av bor w0 ⟨E, loc, X⟩ a w → Ok N av bor w0 ⟨E', l', X'⟩ a w := fun a w ok =>
  ok_sub he (List.Sublist.refl _) hx a w ⟨ok.defers, ok.size, ok.env, ok.gam.perm hl⟩
theorem cw_drop {c : Code} {l : List Res} (hs : l.Sublist loc) (h : Cw P N av bor w0 c ⟨E, l, X⟩ K) : Cw P N av bor w0 c ⟨E, loc, X⟩ K := Cw.mk fun a w ok => h.run a w ⟨ok.defers, ok.size, ok.env, ok.gam.drop hs⟩
theorem cw_perm {c : Code} {l : List Res} (hs : loc.Perm l) (h : Cw P N av bor w0 c ⟨E, l, X⟩ K) : Cw P N av bor w0 c ⟨E, loc, X⟩ K := Cw.mk fun a w ok => h.run a w ⟨ok.defers, ok.size, ok.env, ok.gam.perm hs⟩
end
/-- The contract of a function that hands back some of what it owns. -/
theorem ct_of_cwS {P : Program} {f : FuncId} {fn : Func} {c : Code} {args : List Value} {pre : List Res} {X : World → Prop} {Post : Value → List Res → Prop} (N : Nat)
    (hf : P.funcs[f]? = some fn) (hb : fn.body = some c) (hN : fn.ntmps = N) (hn : Nat.ble args.length N = true)
    (h : ∀ av bor w0, Cw P N av bor w0 c ⟨params 0 args, pre, X⟩ (ends P fn N fun u R _ => ∃ R', R'.Sublist R ∧ Post u R')) : Ct P f args.toArray pre X fun u R _ => Post u R := Ct.mk fun w av G => by
  have h1 := (ct_of_cw (P := P) (Post := fun u R _ => ∃ R', R'.Sublist R ∧ Post u R') N hf hb hN hn h).run w av G
  refine h1.mono fun e w' ⟨u, R, X', he, ⟨R', hs, hp⟩, G'⟩ => ⟨u, R', X', he, hp, G'.drop hs⟩
end Go.Proofs.YtfpojkoddcdojaaGreatDoor.Sy
