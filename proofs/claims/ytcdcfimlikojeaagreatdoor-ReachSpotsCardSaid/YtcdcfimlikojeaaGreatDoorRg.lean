/- Ranges over functions, for the calculus of XSy. No program in sight. -/
import Derived.Test.YtcdcfimlikojeaaGreatDoorMb
import Derived.RangeFuncSeq
import Derived.OrdersIn
set_option linter.unusedVariables false
namespace Go.Proofs.YtcdcfimlikojeaaGreatDoor.Sy
open Go Go.RowKit

/-! ### From the walk outside a round to the walk in one -/
def fen (ρ : Option Nat) : Fence := { Fence.wide with round := ρ }
def isDefer : Op → Bool
  | .defer _ => true
  | _ => false
section
variable {P : Program} {N : Nat} {av bor : List Nat} {w0 : World} {ops : Array Oper} {st : St}
theorem rows_in {ρ : Option Nat} {n : Nat} {row : String} {args : Array Value} {w : World} {R : Value → World → Prop} (h : Rows P row args w R) : RowsIn (fen ρ) n P row args w R := fun c cs _ => by
  obtain ⟨v, w', r, s⟩ := h c cs
  exact ⟨v, w', r, stepsIn_wide.2 s⟩
theorem calls_in {ρ : Option Nat} {n : Nat} {f : FuncId} {args : Array Value} {w : World} {R : Ending → World → Prop} (h : Calls P f args w R) : CallsIn (fen ρ) n P f args w R := (callsIn_wide (n := n)).2 h
theorem upon_in {ρ : Option Nat} {n : Nat} {o : Oper} {a : Act} {w : World} {K K' : Act → World → Prop} {k k' : St → Prop} (hd : isDefer o.op = false) (hK : ∀ a w, K a w → K' a w)
    (h : o.wp P a w K (post N av bor w0 (only k'))) : o.wpIn (fen ρ) n P a w K' (post N av bor w0 (only k)) := by
  refine ⟨fun _ _ => trivial, ?_⟩
  rw [Oper.semAt_plain _ _ _ (fun c e => by rw [e] at hd; cases hd)]
  unfold Oper.wp at h
  generalize (execOp a.eval o).run P w = r at *
  cases r with
  | ok nx w' =>
    cases nx <;> simp only [Oper.upon] at h <;> simp only [Oper.uponIn]
    case value u => exact hK _ _ h
    case skip => exact hK _ _ h
    case defer d => exact hK _ _ h
    case enter f args =>
      refine ⟨(fun hh => by cases hh), ?_⟩
      refine calls_in (Calls.mono h ?_)
      intro e w'' he
      cases e with
      | returned v => exact hK _ _ he
      | panicked c => exact (he : False).elim
      | outgrown => obtain ⟨_, _, h⟩ := he; exact (h : False).elim
    case row row args =>
      refine ⟨(fun hh => by cases hh), ?_⟩
      exact rows_in (Rows.mono h fun u w'' he => hK _ _ he)
  | halt x w' => cases x <;> simp only [Oper.upon] at h <;> exact (h : False).elim
theorem list_pre {ρ : Option Nat} {n : Nat} {k k' : St → Prop} {rest : List Oper} (hr : ∀ a w, post N av bor w0 (only k') .normal a w → wpListIn (fen ρ) n P ops (post N av bor w0 (only k)) rest a w) : ∀ (todo : List Oper) (a : Act) (w : World), todo.all (fun o => !isDefer o.op) = true →
    wpList P ops (post N av bor w0 (only k')) todo a w → wpListIn (fen ρ) n P ops (post N av bor w0 (only k)) (todo ++ rest) a w
  | [], a, w, _, h => hr a w h
  | o :: l, a, w, hd, h => by
    simp only [List.all_cons, Bool.and_eq_true, Bool.not_eq_true'] at hd
    simp only [wpList] at h
    simp only [List.cons_append, wpListIn]
    split
    · rename_i hw
      simp only [hw, if_true] at h
      rcases h with h | ⟨_, _, _, h⟩
      · exact upon_in hd.1 (fun a w h => list_pre hr l a w hd.2 h) h
      · exact (h : False).elim
    · rename_i hw
      simp only [hw] at h
      exact ⟨fun _ _ => trivial, list_pre hr l _ _ hd.2 h⟩
theorem list_in {ρ : Option Nat} {n : Nat} {k : St → Prop} (todo : List Oper) (a : Act) (w : World) (hd : todo.all (fun o => !isDefer o.op) = true)
    (h : wpList P ops (post N av bor w0 (only k)) todo a w) : wpListIn (fen ρ) n P ops (post N av bor w0 (only k)) todo a w := by
  have := list_pre (ρ := ρ) (n := n) (k := k) (rest := []) (fun a w h => h) todo a w hd h
  rwa [List.append_nil] at this
end

/-! ### In a round -/
/-- The code is walked in a round of the loop l. -/
def Cr (P : Program) (N : Nat) (av bor : List Nat) (w0 : World) (l : Nat) (c : Code) (st : St) (K : Exit → St → Prop) : Prop :=
  ∀ n a w, Ok N av bor w0 st a w → c.wpIn (fen (some l)) n P (post N av bor w0 K) a w
theorem Cr.mk {P : Program} {N : Nat} {av bor : List Nat} {w0 : World} {l : Nat} {c : Code} {st : St} {K : Exit → St → Prop} (h : ∀ n a w, Ok N av bor w0 st a w → c.wpIn (fen (some l)) n P (post N av bor w0 K) a w) : Cr P N av bor w0 l c st K := h
theorem Cr.run {P : Program} {N : Nat} {av bor : List Nat} {w0 : World} {l : Nat} {c : Code} {st : St} {K : Exit → St → Prop} (h : Cr P N av bor w0 l c st K) : ∀ n a w, Ok N av bor w0 st a w → c.wpIn (fen (some l)) n P (post N av bor w0 K) a w := h
namespace Rd
section
variable {P : Program} {N : Nat} {av bor : List Nat} {w0 : World} {l : Nat} {st : St} {K : Exit → St → Prop} {E : Env} {loc : List Res} {X : World → Prop}
theorem cw_skip (h : K .normal st) : Cr P N av bor w0 l .skip st K := fun n a w ok => wpIn_skip ⟨st, h, ok⟩
theorem cw_seq {x y : Code} (h : Cr P N av bor w0 l x st (thn (fun s => Cr P N av bor w0 l y s K) K)) : Cr P N av bor w0 l (.seq x y) st K := fun n a w ok =>
  wpIn_seq (wpIn_mono (h n a w ok) (fun e a w q => by
    cases e with
    | panic _ => exact q
    | outgrown => exact q
    | normal => obtain ⟨s, h1, h2⟩ := q; exact h1 n a w h2
    | exit _ => exact q
    | goto _ => exact q
    | ret => exact q))
theorem cw_cond {c : Operand} {x y : Code} {b : Bool} (hc : ev st.env c = some (.bool b) := by rfl) (ht : b = true → Cr P N av bor w0 l x st K) (hf : b = false → Cr P N av bor w0 l y st K) :
    Cr P N av bor w0 l (.cond c x y) st K := fun n a w ok => wpIn_cond_split (ok.eval hc) (fun h => ht h n a w ok) (fun h => hf h n a w ok)
theorem cw_cond_t {c : Operand} {x y : Code} {b : Bool} (hc : ev st.env c = some (.bool b) := by rfl) (hb : b = true := by (first | with_reducible rfl | with_reducible assumption | with_reducible exact Bool.not_false | with_reducible exact Bool.not_true)) (ht : Cr P N av bor w0 l x st K) :
    Cr P N av bor w0 l (.cond c x y) st K := cw_cond hc (fun _ => ht) (fun h => by rw [hb] at h; cases h)
theorem cw_cond_f {c : Operand} {x y : Code} {b : Bool} (hc : ev st.env c = some (.bool b) := by rfl) (hb : b = false := by (first | with_reducible rfl | with_reducible assumption | with_reducible exact Bool.not_false | with_reducible exact Bool.not_true)) (hf : Cr P N av bor w0 l y st K) :
    Cr P N av bor w0 l (.cond c x y) st K := cw_cond hc (fun h => by rw [hb] at h; cases h) (fun _ => hf)
theorem cw_block {id : Nat} {c : Code} (h : Cr P N av bor w0 l c st (blk id K)) : Cr P N av bor w0 l (.block id c) st K := fun n a w ok =>
  wpIn_block (wpIn_mono (h n a w ok) (fun e a w q => by
    cases e with
    | panic _ => exact q
    | outgrown => exact q
    | normal => exact q
    | exit id' =>
      obtain ⟨s, h1, h2⟩ := q
      by_cases hi : id' = id
      · simp only [blk, hi, if_true] at h1
        simp only [Exit.inBlock, hi, if_true]
        exact ⟨s, h1, h2⟩
      · simp only [blk, hi, if_false] at h1
        simp only [Exit.inBlock, hi, if_false]
        exact ⟨s, h1, h2⟩
    | goto _ => exact q
    | ret => exact q))
theorem reg_post {k : St → Prop} {e : Exit} {a : Act} {w : World} (hk : ∀ s, k s → K .normal s) (h : post N av bor w0 (only k) e a w) : post N av bor w0 K e a w := by
  cases e with
  | panic _ => exact h
  | outgrown => exact h
  | normal => obtain ⟨s, h1, h2⟩ := h; exact ⟨s, hk s h1, h2⟩
  | exit _ => obtain ⟨s, h1, h2⟩ := h; exact h1.elim
  | goto _ => obtain ⟨s, h1, h2⟩ := h; exact h1.elim
  | ret => obtain ⟨s, h1, h2⟩ := h; exact h1.elim
theorem cw_reg {id : Nat} {ol : List Oper} (hno : ol.all (fun o => !isDefer o.op) = true := by rfl) (h : Sw P N av bor w0 ol.toArray ol st (K .normal)) : Cr P N av bor w0 l (.region id ol.toArray false) st K := fun n a w ok =>
  wpIn_mono (wpIn_region_lit (list_in ol a w hno (h.run a w ok))) fun e a w q => reg_post (fun _ h => h) q
end
end Rd

/-! ### A call of yield -/
/-- What a round says to the function that is ranged over: it is handed 'pre'. -/
def YCt (P : Program) (l : Nat) (args : List Value) (pre : List Res) (X : World → Prop) (Post : Value → List Res → (World → Prop) → Prop) : Prop :=
  ∀ (n : Nat) (w : World) (av : List Nat), Gam av (fps pre) w pre X w → YieldAt Fence.wide n P l args.toArray w fun e w' => ∃ v R X', e = .returned v ∧ Post v R X' ∧ Gam av (fps pre) w R X' w'
/-- The operations of a region that calls yield. -/
def Sv (P : Program) (N : Nat) (av bor : List Nat) (w0 : World) (ops : Array Oper) (todo : List Oper) (st : St) (k : St → Prop) : Prop :=
  ∀ n a w, Ok N av bor w0 st a w → wpListIn Fence.wide n P ops (post N av bor w0 (only k)) todo a w
section
variable {P : Program} {N : Nat} {av bor : List Nat} {w0 : World} {ops : Array Oper} {rest : List Oper} {k : St → Prop} {E : Env} {loc : List Res} {X : World → Prop} {K : Exit → St → Prop}
variable {d : Option Tmp} {ty : TypeId} {pos : String} {af : Array Edge} {g : Option (Nat × Bool)} {bb want : Bool}
theorem sv_of_sw (hno : rest.all (fun o => !isDefer o.op) = true) (h : Sw P N av bor w0 ops rest ⟨E, loc, X⟩ k) : Sv P N av bor w0 ops rest ⟨E, loc, X⟩ k := fun n a w ok => list_in (ρ := none) rest a w hno (h.run a w ok)
theorem cw_regv {id : Nat} {ol : List Oper} {st : St} (h : Sv P N av bor w0 ol.toArray ol st (K .normal)) : Cw P N av bor w0 (.region id ol.toArray false) st K := Cw.mk fun a w ok =>
  (wpIn_wide (n := 0)).1 (wpIn_mono (wpIn_region_lit (h 0 a w ok)) fun e a w q => Rd.reg_post (fun _ h => h) q)
/-- The operations ahead of the call of yield. -/
theorem sv_pre (pre : List Oper) {st : St} (hno : pre.all (fun o => !isDefer o.op) = true) (h : Sw P N av bor w0 ops pre st (fun s => Sv P N av bor w0 ops rest s k)) : Sv P N av bor w0 ops (pre ++ rest) st k := fun n a w ok =>
  list_pre (ρ := none) (fun a w ⟨s, h1, h2⟩ => h1 n a w h2) pre a w hno (h.run a w ok)
theorem sv_call {x : Operand} {xs : List Operand} {ats : Array TypeId} {l : Nat} {args : List Value} {pre fr : List Res} {X1 : World → Prop} {Post : Value → List Res → (World → Prop) → Prop}
    (hx : ev E x = some (.func (.yield l) #[] #[])) (ha : evs E xs = some args) (hg : gdB ops E g = some (bb, want)) (hb : bb = want) (hd : inB N d = true) (hc : YCt P l args pre X1 Post) (hX : ∀ w, X w → X1 w)
    (h : ∀ v R X', Post v R X' → Sv P N av bor w0 ops rest ⟨putE E d v, R ++ fr, fun w => X w ∧ X' w⟩ k) :
    Sv P N av bor w0 ops (⟨d, .call ⟨.value x, xs.toArray, ats⟩, ty, pos, af, g⟩ :: rest) ⟨E, pre ++ fr, X⟩ k := fun m a w ok => by
  simp only [wpListIn]
  rw [wanted_of ok (o := ⟨d, .call ⟨.value x, xs.toArray, ats⟩, ty, pos, af, g⟩) hg]
  subst hb
  simp only [beq_self_eq_true, if_true]
  refine ⟨fun _ _ => trivial, ?_⟩
  obtain ⟨av', G0, hback⟩ := ok.call
  obtain ⟨fn, tmps, assign, body, hy, hR⟩ := hc (m - 1) w av' (G0.imp hX)
  have e1 : xs.toArray.map a.eval = args.toArray := by rw [List.map_toArray, evs_eval ok xs args ha]
  have hr : (execOp a.eval ⟨d, .call ⟨.value x, xs.toArray, ats⟩, ty, pos, af, g⟩).run P w = .ok (.round l fn tmps assign body) w := by
    simp only [execOp, resolve, ok.eval (st := ⟨E, pre ++ fr, X⟩) hx, Deferred.ofValue, invoke, e1]
    simp only [Sem.run_bind, Sem.run_pure, Result.andThen_ok]
    simpa using hy
  rw [Fence.wide_round, Oper.semAt_none, hr]
  simp only [Oper.uponIn]
  refine ⟨(fun hh => by cases hh), ?_⟩
  refine hR.mono ?_
  rintro e w' ⟨v, R, X', he, hp, G'⟩
  subst he
  have ok' := hback R X' w' G'
  exact h v R X' hp m _ _ (put_eq d v ▸ ok'.put hd v)
end

/-! ### The statement -/
/-- The function value 'g' with the captured 'lb' hands its yield 'xs', one after another, and leaves the rest to the rounds. -/
def It {α : Type} (P : Program) (g : FuncId) (lb : List Value) (X1 : World → Prop) (enc : α → List Value) (xs : List α) : Prop :=
  ∀ (l : Nat) (X : World → Prop) (Rs : List α → List Res → Prop), (∀ w, X w → X1 w) →
    (∀ pre x suf R, xs = pre ++ x :: suf → Rs pre R → YCt P l (enc x) R X fun v R' _ => v = .bool true ∧ Rs (pre ++ [x]) R') →
    ∀ R0, Rs [] R0 → Ct P g (.func (.yield l) #[] #[] :: lb).toArray R0 X fun _ R' _ => Rs xs R'
def putEs (E : Env) : List Tmp → List Value → Env
  | p :: ps, v :: vs => putEs ((p, v) :: E) ps vs
  | _, _ => E
theorem env_puts {N : Nat} : ∀ (ps : List Tmp) (vs : List Value) (E : Env) (t : Array Value), ps.all (fun p => Nat.blt p N) = true → t.size = N → (∀ n v, look E n = some v → t[n]? = some v) →
    ((ps.zip vs).foldl (fun t (p : Tmp × Value) => t.setIfInBounds p.1 p.2) t).size = N ∧ ∀ n v, look (putEs E ps vs) n = some v → ((ps.zip vs).foldl (fun t (p : Tmp × Value) => t.setIfInBounds p.1 p.2) t)[n]? = some v
  | [], vs, E, t, _, hs, h => ⟨by simpa using hs, fun n v hn => by simpa [putEs] using h n v (by simpa [putEs] using hn)⟩
  | p :: ps, [], E, t, _, hs, h => ⟨by simpa using hs, fun n v hn => by simpa [putEs] using h n v (by simpa [putEs] using hn)⟩
  | p :: ps, v :: vs, E, t, hp, hs, h => by
    simp only [List.all_cons, Bool.and_eq_true] at hp
    simp only [List.zip_cons_cons, List.foldl_cons, putEs]
    refine env_puts ps vs ((p, v) :: E) _ hp.2 (by simpa using hs) fun n u hn => ?_
    have hlt : p < t.size := by rw [hs]; exact Nat.le_of_ble_eq_true hp.1
    simp only [look] at hn
    by_cases e : n = p
    · subst e
      have hb : Nat.beq n n = true := by simp
      rw [hb] at hn
      simp only [cond_true, Option.some.injEq] at hn
      subst hn
      simp [hlt]
    · rw [beq_no e] at hn
      simp only [cond_false] at hn
      rw [Array.getElem?_setIfInBounds_ne (Ne.symm e)]
      exact h n u hn
theorem at_last {r r' : Res} : ∀ (L : List Res), At r r' (L ++ [r]) (L ++ [r'])
  | [] => .here []
  | x :: L => .there x (at_last L)

section
variable {P : Program} {N : Nat} {av bor : List Nat} {w0 : World} {E : Env} {loc : List Res} {X : World → Prop} {K : Exit → St → Prop}
def lres (l : Nat) (r : Loop) : Res := ⟨[l], fun w => w.heap[l]? = some (.loop r)⟩
theorem cw_range {α : Type} {g : Operand} {ps : List Tmp} {assign body : Code} {gf : Nat} {lb : List Value} {enc : α → List Value} {xs : List α} {X1 : World → Prop}
    (hg : ev E g = some (.func (.func gf) #[] lb.toArray) := by rfl) (hf : FnBody P gf := by infer_instance) (hit : It P gf lb X1 enc xs) (hX : ∀ w, X w → X1 w := by (first | exact fun _ _ => trivial | exact fun _ h => h | exact fun _ h => h.1 | exact fun _ h => h.2)) (hps : ∀ x, (enc x).length = ps.length) (hpn : ps.all (fun p => Nat.blt p N) = true := by rfl)
    (Inv : List α → List Res → Prop) (h0 : Inv [] loc)
    (hround : ∀ l pre x suf loc1, xs = pre ++ x :: suf → Inv pre loc1 → ∀ av bor w0, Cr P N av bor w0 l assign ⟨putEs E ps (enc x), loc1, X⟩ (only fun st1 => ∀ av bor w0, Cr P N av bor w0 l body st1 (only fun st2 => ∃ loc2, loc2.Sublist st2.loc ∧ Inv (pre ++ [x]) loc2)))
    (hdone : ∀ loc1, Inv xs loc1 → K .normal ⟨E, loc1, X⟩) : Cw P N av bor w0 (.rangeFunc g ps.toArray assign body) ⟨E, loc, X⟩ K := Cw.mk fun a w ok => by
  refine (wpIn_wide (n := 0)).1 (wpIn_rangeFunc fun fn _ => ?_)
  obtain ⟨rec, hrec⟩ : ∃ rec : LoopState → Option Code → Loop, rec = fun st pe => { state := st, pending := pe, fn, tmps := a.tmps, params := ps.toArray, assign, body, defers := w.heap.size } := ⟨_, rfl⟩
  have G0 : Gam av bor w0 (loc ++ mres a.defers) X w := ok.gamM
  have G1 := (G0.new (.deferred (some [])) (fun w2 => w2.heap[w.heap.size]? = some (.deferred (some []))) fun _ h => h).new (.loop (rec .ready none)) (fun w2 => w2.heap[(w.alloc (.deferred (some []))).heap.size]? = some (.loop (rec .ready none))) fun _ h => h
  rw [World.size_alloc] at G1
  obtain ⟨W1, hW1⟩ : ∃ W1, (w.alloc (.deferred (some []))).alloc (.loop (rec .ready none)) = W1 := ⟨_, rfl⟩
  rw [hW1] at G1
  obtain ⟨l, hl⟩ : ∃ l, w.heap.size + 1 = l := ⟨_, rfl⟩
  obtain ⟨mk, hmk⟩ : ∃ mk : Deferred, mk = { target := .collected w.heap.size, args := #[] } := ⟨_, rfl⟩
  have hM : mres (mk :: a.defers) = ⟨[w.heap.size], fun w2 => w2.heap[w.heap.size]? = some (.deferred (some []))⟩ :: mres a.defers := by subst hmk; rfl
  have G2 : Gam av bor w0 ((lres l (rec .ready none) :: loc) ++ mres (mk :: a.defers)) X W1 := by
    rw [hM]
    refine G1.perm ?_
    subst hl
    exact List.Perm.cons _ List.perm_middle.symm
  refine ⟨l, [mk], W1, { target := .fn (.func gf) lb.toArray, args := #[.func (.yield l) #[] #[]] }, W1, gf, #[.func (.yield l) #[] #[]] ++ lb.toArray, W1, ?_, ?_, fun _ _ => trivial, ?_, (fun h => by cases h), ?_⟩
  · rw [← hW1, hrec, ← hl, hmk, Fence.wide_round]
    exact run_enterLoop_outer _ _ _ _ _
  · simp only [resolve, ok.eval (st := ⟨E, loc, X⟩) hg]
    simp [go_sem]
  · have eg : ∀ args w, (callFunc gf args).run P w = .ok (.enter gf args) w := fun args w => run_enter args w
    simp [invoke, go_sem, eg]
  · -- the function that is ranged over
    have hct := hit l X (fun pre R => ∃ loc1, Inv pre loc1 ∧ R = lres l (rec .ready none) :: loc1) hX ?_ (lres l (rec .ready none) :: loc) ⟨loc, h0, rfl⟩
    · have e2 : (.func (.yield l) #[] #[] :: lb : List Value).toArray = #[.func (.yield l) #[] #[]] ++ lb.toArray := by simp
      rw [e2] at hct
      refine (callsIn_wide (n := 0)).2 ((hct.run W1 _ G2.start).mono fun e w' ⟨v, R', X', he, ⟨loc1, hI, hR⟩, G'⟩ => ?_)
      subst he
      subst hR
      have G3 := G2.frame G'
      have hl3 : w'.heap[l]? = some (.loop (rec .ready none)) := (G3.here (lres l (rec .ready none)) (by simp)).now
      refine ⟨none, _, by have := run_endLoop (P := P) hl3 (by rw [hrec]; simp); rw [hrec] at this; exact this, ?_⟩
      refine ⟨⟨E, loc1, X⟩, hdone loc1 hI, ok.size, ok.env, ?_⟩
      have G4 := G3.turn (w' := w'.putObj l (.loop { rec .ready none with state := .exhausted })) (loc' := ⟨[l], fun _ => True⟩ :: (loc1 ++ mres (mk :: a.defers))) (At.here _) rfl rfl rfl (by simp [World.putObj]) (fun i hi => World.putObj_heap_other hi) (fun _ _ => trivial)
      have G5 := (G4.drop (List.sublist_cons_self _ _)).imp fun w h => h.1
      rw [hrec] at G5
      exact G5
    · -- one round
      rintro pre x suf R hxs ⟨loc1, hI, rfl⟩ n W av' G
      have hlW : W.heap[l]? = some (.loop (rec .ready none)) := (G.here (lres l (rec .ready none)) (by simp)).now
      have hy := run_yield (P := P) (args := (enc x).toArray) hlW (by rw [hrec]; simpa using hps x)
      have hrp : ∀ s q, (rec s q).params = ps.toArray ∧ (rec s q).tmps = a.tmps ∧ (rec s q).assign = assign ∧ (rec s q).body = body ∧ (rec s q).state = s := fun s q => by subst hrec; exact ⟨rfl, rfl, rfl, rfl, rfl⟩
      refine ⟨_, _, _, _, hy, roundIn_of_wpIn trivial ?_⟩
      rw [(hrp _ _).1, (hrp _ _).2.1, (hrp _ _).2.2.1, (hrp _ _).2.2.2.1]
      have Ga : Gam av' (fps (lres l (rec .ready none) :: loc1)) W (loc1 ++ [lres l (rec .ready none)]) X W := G.perm (List.perm_append_singleton _ _).symm
      have hE := env_puts (N := N) ps (enc x) E a.tmps hpn ok.size ok.env
      have hz : (Array.foldl (fun (tmps : Array Value) (x : Tmp × Value) => tmps.setIfInBounds x.1 x.2) a.tmps (ps.toArray.zip (enc x).toArray)) = (ps.zip (enc x)).foldl (fun t (p : Tmp × Value) => t.setIfInBounds p.1 p.2) a.tmps := by simp
      have ok0 : Ok N (av' ++ fps [lres l (rec .ready none)]) (fps loc1) W ⟨putEs E ps (enc x), loc1, X⟩ { tmps := (ps.zip (enc x)).foldl (fun t (p : Tmp × Value) => t.setIfInBounds p.1 p.2) a.tmps, defers := [] } W := ⟨hE.1, hE.2, by simpa [mres] using Ga.start⟩
      refine wpIn_mono (F := fen (some l)) (Q := post N (av' ++ fps [lres l (rec .ready none)]) (fps loc1) W (only fun st1 => ∀ av bor w0, Cr P N av bor w0 l body st1 (only fun st2 => ∃ loc2, loc2.Sublist st2.loc ∧ Inv (pre ++ [x]) loc2))) ?_ ?_
      · have := (hround l pre x suf loc1 hxs hI (av' ++ fps [lres l (rec .ready none)]) (fps loc1) W).run n _ _ ok0
        simpa using this
      · intro e a1 w1 q
        cases e with
        | panic _ => exact q
        | outgrown => exact q
        | exit _ => obtain ⟨_, h, _⟩ := q; exact h.elim
        | goto _ => obtain ⟨_, h, _⟩ := q; exact h.elim
        | ret => obtain ⟨_, h, _⟩ := q; exact h.elim
        | normal =>
          obtain ⟨st1, h1, ok1⟩ := q
          have Gb := Ga.frame ok1.gamM
          have hl1 : w1.heap[l]? = some (.loop (rec .ready none)) := (Gb.here (lres l (rec .ready none)) (by simp)).now
          refine ⟨_, run_beginRound hl1 (hrp _ _).2.2.2.2, ?_⟩
          have hb : { rec .ready none with state := .busy } = rec .busy none := by rw [hrec]
          rw [hb]
          have Gc := Gb.turn (w' := w1.putObj l (.loop (rec .busy none))) (loc' := (st1.loc ++ mres a1.defers) ++ [lres l (rec .busy none)]) (at_last _) rfl rfl rfl (by simp [World.putObj]) (fun i hi => World.putObj_heap_other hi)
            (fun w2 h2 => by rw [h2]; exact World.putObj_heap_same (Array.getElem?_eq_some_iff.1 hl1).1)
          have ok1' := (h1 (av' ++ fps [lres l (rec .busy none)]) (fps (st1.loc ++ mres a1.defers)) (w1.putObj l (.loop (rec .busy none)))).run n a1 _ ⟨ok1.size, ok1.env, Gc.start.imp fun _ h => h.2⟩
          refine wpIn_mono ok1' ?_
          intro e a2 w3 q
          cases e with
          | panic _ => exact q
          | outgrown => exact q
          | exit _ => obtain ⟨_, h, _⟩ := q; exact h.elim
          | goto _ => obtain ⟨_, h, _⟩ := q; exact h.elim
          | ret => obtain ⟨_, h, _⟩ := q; exact h.elim
          | normal =>
            obtain ⟨st2, ⟨loc2, hs2, h2⟩, ok2⟩ := q
            have Gd := Gc.frame ok2.gamM
            have hl3 : w3.heap[l]? = some (.loop (rec .busy none)) := (Gd.here (lres l (rec .busy none)) (by simp)).now
            have he : { rec .busy none with state := if (none : Option Code).isNone then .ready else .done, pending := none } = rec .ready none := by rw [hrec]; rfl
            have hr := run_endRound (P := P) none hl3
            rw [he] at hr
            have Ge := Gd.turn (w' := w3.putObj l (.loop (rec .ready none))) (loc' := (st2.loc ++ mres a2.defers) ++ [lres l (rec .ready none)]) (at_last _) rfl rfl rfl (by simp [World.putObj]) (fun i hi => World.putObj_heap_other hi)
              (fun w2 h2 => by rw [h2]; exact World.putObj_heap_same (Array.getElem?_eq_some_iff.1 hl3).1)
            have Gf := (Ge.drop (loc' := loc2 ++ [lres l (rec .ready none)]) ((hs2.trans (List.sublist_append_left _ _)).append_right _)).perm (List.perm_append_singleton _ _)
            exact ⟨_, _, hr, .bool true, lres l (rec .ready none) :: loc2, _, rfl, ⟨rfl, loc2, h2, rfl⟩, Gf⟩
end
end Go.Proofs.YtcdcfimlikojeaaGreatDoor.Sy
