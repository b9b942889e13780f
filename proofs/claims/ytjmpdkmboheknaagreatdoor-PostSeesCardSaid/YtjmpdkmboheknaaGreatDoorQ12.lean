/- Joined by program out of: Rb Hp Sv Sw Sz Pi Np. -/
import Derived.Test.YtjmpdkmboheknaaGreatDoorQ11
set_option linter.unusedVariables false
set_option linter.unusedSimpArgs false
namespace Go.Proofs.YtjmpdkmboheknaaGreatDoor
open Go Go.Proofs Sy
theorem rtext_pu (c : ChainD) (i : Int) : Pu Tryz.prog 40 #[c.v,.int .i64 i] (XC c) (.bool (rtextV c i)) := by
  refine pu_of_cw (args:=[_,_]) _ Tryz.func40 rfl Tryz.ntmps40 rfl fun av bor w0 => ?_
  refine cw_know XC.know fun ⟨hl,hm,hp,hcap⟩ => ?_
  simp only [maxLen] at hm
  by_cases hi : 0 ≤ i ∧ i < c.actsL.length
  · obtain ⟨hi0,hi1⟩ := hi
    have hlt : i.toNat < c.actsL.length := by omega
    have hp' := hp (by omega)
    obtain ⟨x,hx⟩ : ∃ x,c.actsL[i.toNat]? = some x := ⟨_,List.getElem?_eq_getElem hlt⟩
    have hT : rtextV c i = (postK x.kind || decide (x.kind = 14)) := by
      rw [rtextV,decide_eq_true (by omega),Bool.true_and,hx]
    repeat' (first | apply sw_nil | apply cw_seq | apply cw_reg | refine sy_move (h:=?_) | refine sy_assign (h:=?_) | refine sy_fld (h:=?_) | refine sy_ld (h:=?_) | refine sy_pick_t (h:=?_) | refine sy_pick_f (h:=?_) | refine sy_eql (h:=?_) | refine sy_lss (h:=?_) | refine sy_leq (h:=?_) | refine sy_len (h:=?_) | refine sw_skipT (h:=?_) | refine sw_skipF (h:=?_) | refine sw_skipU (h:=?_) | refine sw_box (h:=fun _ => ?_) | apply cw_ret | (refine sy_idxX (q:=i.toNat * 20) (h:=?_)) | (refine sy_fldX (h:=?_)) | (refine sy_ldX (q:=i.toNat * 20 + 3) (u:=.int .i64 x.kind) (hF:=fun w h => (Acts.get h.1 hx).2.2 3 _ rfl) (h:=?_)) | refine sw_pu (hc:=posting_pu x.kind) (h:=?_) | ((fail_if_success (refine sw_chk (h:=?_)));refine sw_guard (ht:=?_) (hf:=?_);all_goals (intro hx_;first | have := of_decide_eq_true hx_ | have := of_decide_eq_false hx_ | skip)) | fail)
    all_goals first
      | (exfalso;omega)
      | (apply ends_ret;apply res_tmp;rfl;rfl
         simp only [hT, *,decide_true,decide_false,cond_true,cond_false,Bool.and_true,Bool.true_and,Bool.and_false,Bool.false_and,Bool.not_true,Bool.not_false,Bool.or_true,Bool.true_or,Bool.or_false,Bool.false_or])
  · have hT : rtextV c i = false := by
      rw [rtextV]
      by_cases h0 : 0 ≤ i
      · rw [List.getElem?_eq_none (by omega),Bool.and_false]
      · rw [decide_eq_false h0,Bool.false_and]
    repeat' (first | apply sw_nil | apply cw_seq | apply cw_reg | refine sy_move (h:=?_) | refine sy_assign (h:=?_) | refine sy_fld (h:=?_) | refine sy_ld (h:=?_) | refine sy_pick_t (h:=?_) | refine sy_pick_f (h:=?_) | refine sy_lss (h:=?_) | refine sy_leq (h:=?_) | refine sy_len (h:=?_) | refine sw_skipT (h:=?_) | refine sw_skipU (h:=?_) | refine sw_box (h:=fun _ => ?_) | apply cw_ret | ((fail_if_success (refine sw_chk (h:=?_)));refine sw_guard (ht:=?_) (hf:=?_);all_goals (intro hx_;first | have := of_decide_eq_true hx_ | have := of_decide_eq_false hx_)) | fail)
    all_goals first
      | (exfalso;omega)
      | (apply ends_ret;apply res_tmp;rfl;rfl
         simp only [hT, *,decide_true,decide_false,cond_true,cond_false,Bool.and_true,Bool.true_and,Bool.and_false,Bool.false_and,Bool.not_true,Bool.not_false,Bool.or_true,Bool.true_or,Bool.or_false,Bool.false_or])
theorem rtext_some {c : ChainD} {i : Int} (h : rtextV c i = true) : ∃ q x,i = (q : Nat) ∧ c.actsL[q]? = some x := by
  simp only [rtextV,Bool.and_eq_true,decide_eq_true_eq] at h
  obtain ⟨q,rfl⟩ := Int.eq_ofNat_of_zero_le h.1
  have h2 := h.2
  rw [Int.toNat_natCast] at h2
  cases hx : c.actsL[q]? with
  | none => rw [hx] at h2;cases h2
  | some x => exact ⟨q,x,rfl,hx⟩
theorem well_some {c : ChainD} {i : Int} (h : wellV c i = true) : ∃ q x,i = (q : Nat) ∧ c.actsL[q]? = some x := by
  simp only [wellV,Bool.and_eq_true,decide_eq_true_eq] at h
  obtain ⟨q,rfl⟩ := Int.eq_ofNat_of_zero_le h.1
  have h2 := h.2
  rw [Int.toNat_natCast] at h2
  cases hx : c.actsL[q]? with
  | none => rw [hx] at h2;cases h2
  | some x => exact ⟨q,x,rfl,hx⟩
theorem rmembers_ct (c : ChainD) (hc : ActsOk c.actsL) (hcl : c.actsL.length ≤ 1000000) (hto : ∀ x ∈ c.actsL,x.to.n ≤ 1000000) (i : Int) : Ct Tryz.prog 42 #[c.v,.int .i64 i] [] (XC c) (fun u R _ => OwnStrs (rmemV c i) u R) := by
  refine ct_of_cwS (args:=[_,_]) (Post:=OwnStrs (rmemV c i)) _ Tryz.func42 rfl Tryz.ntmps42 rfl fun av bor w0 => ?_
  refine cw_know XC.know fun ⟨hl,hm,hp,hcap⟩ => ?_
  simp only [maxLen] at hm
  have hwe := well_pu c hc hcl hto i
  cases hw : wellV c i with
  | false =>
    rw [hw] at hwe
    refine cw_nilRow 9 1 ?_
    repeat' (first | apply sw_nil | apply cw_seq | apply cw_reg | refine sy_move (h:=?_) | refine sy_assign (h:=?_) | refine sy_ldAll (h:=?_) | refine sy_not (h:=?_) | refine sw_box (h:=fun _ => ?_) | refine cw_cond_t (ht:=?_) | apply cw_ret | (refine sw_pu (hc:=hwe) (hX:=fun w h => h) (h:=?_)) | fail)
    have e : rmemV c i = [] := by rw [rmemV,hw];rfl
    rw [e]
    exact ends_ret (res_tmp rfl rfl) ⟨_,List.Sublist.cons _ (List.Sublist.refl _),none,0,rfl,rfl⟩
  | true =>
    rw [hw] at hwe
    obtain ⟨q,x,rfl,hx⟩ := well_some hw
    have hlt := (List.getElem?_eq_some_iff.1 hx).1
    have hp' := hp (by omega)
    have hxm := List.mem_of_getElem? hx
    have h1 := (hc.rng x hxm).to_len
    have h2 := hto x hxm
    have e : rmemV c (q : Nat) = membersV c (q : Nat) x.scope x.group x.toL := by rw [rmem_some (a:=x) (by rw [Int.toNat_natCast];exact hx),hw];rfl
    rw [e]
    have hme := members_ct c hc hcl hto (q : Nat) x.scope x.group x.to x.toL (by omega)
    generalize membersV c (q : Nat) x.scope x.group x.toL = M at *
    repeat' (first | apply sw_nil | apply cw_seq | apply cw_reg | refine sy_move (h:=?_) | refine sy_assign (h:=?_) | refine sy_fld (h:=?_) | refine sy_ld (h:=?_) | refine sy_ldAll (h:=?_) | refine sy_not (h:=?_) | refine sw_alloc (h:=fun _ => ?_) | refine sw_box (h:=fun _ => ?_) | refine sw_stAll (h:=?_) | refine cw_cond_f (hf:=?_) | apply cw_skip | apply cw_ret | (refine sw_pu (hc:=hwe) (hX:=fun w h => h) (h:=?_)) | (refine sy_idxX (q:=q * 20) (h:=?_)) | (refine sy_ldXs (cs:=x.cells) (hF:=fun w h => Acts.get h.1 hx) (h:=?_)) | (refine sw_fn0 (hc:=hme) (hX:=fun w h => ⟨h,(h.1.2 x hxm).1⟩) (h:=?_);rintro v R X' ⟨A,c2,rfl,rfl⟩) | fail)
    exact ends_ret (res_tmp rfl rfl) ⟨_,List.Sublist.cons_cons _ (List.nil_sublist _),A,c2,rfl,rfl⟩
theorem may_pu (c : ChainD) (hc : ActsOk c.actsL) (hcl : c.actsL.length ≤ 1000000) (hto : ∀ x ∈ c.actsL,x.to.n ≤ 1000000) (i : Int) (r : ByteArray) : Pu Tryz.prog 22 #[c.v,.int .i64 i,.string r] (XC c) (.bool (mayV c i r)) := by
  refine pu_of_cw (args:=[_,_,_]) _ Tryz.func22 rfl Tryz.ntmps22 rfl fun av bor w0 => ?_
  refine cw_know XC.know fun ⟨hl,hm,hp,hcap⟩ => ?_
  simp only [maxLen] at hm
  have hte := rtext_pu c i
  cases ht : rtextV c i with
  | false =>
    rw [ht] at hte
    repeat' (first | apply sw_nil | apply cw_seq | apply cw_reg | refine sy_move (h:=?_) | refine sy_assign (h:=?_) | refine sy_ldAll (h:=?_) | refine sy_not (h:=?_) | refine sw_box (h:=fun _ => ?_) | refine cw_cond_t (ht:=?_) | apply cw_ret | (refine sw_pu (hc:=hte) (hX:=fun w h => h) (h:=?_)) | fail)
    apply ends_ret;apply res_tmp;rfl;rfl
    rw [mayV,ht]
    rfl
  | true =>
    rw [ht] at hte
    obtain ⟨q,x,rfl,hx⟩ := rtext_some ht
    have hlt := (List.getElem?_eq_some_iff.1 hx).1
    have hp' := hp (by omega)
    have hpb : pubV c (q : Nat) = decide (x.scope = 0) := by rw [pubV,Int.toNat_natCast,hx]
    have hM : mayV c (q : Nat) r = (seqB r c.id || decide (x.scope = 0) || hasS (rmemV c (q : Nat)) r) := by rw [mayV,ht,hpb];rfl
    rw [hM]
    have hrm := mk_of_own (rmembers_ct c hc hcl hto (q : Nat))
    generalize rmemV c (q : Nat) = M at *
    repeat' (first | apply sw_nil | apply cw_seq | apply cw_reg | refine sy_move (h:=?_) | refine sy_assign (h:=?_) | refine sy_fld (h:=?_) | refine sy_ld (h:=?_) | refine sy_ldAll (h:=?_) | refine sy_pick_t (h:=?_) | refine sy_pick_f (h:=?_) | refine sy_not (h:=?_) | refine sy_eql (h:=?_) | refine sy_seql (h:=?_) | refine sw_skipF (h:=?_) | refine sw_box (h:=fun _ => ?_) | refine cw_cond_t (ht:=?_) | refine cw_cond_f (hf:=?_) | apply cw_skip | apply cw_ret | (refine sw_pu (hc:=hte) (hX:=fun w h => h) (h:=?_)) | (refine sy_idxX (q:=q * 20) (h:=?_)) | (refine sy_fldX (h:=?_)) | (refine sy_ldX (q:=q * 20 + 7) (u:=.int .i64 x.scope) (hF:=fun w h => (Acts.get h.1 hx).2.2 7 _ rfl) (h:=?_)) | (refine sw_mk (hc:=hrm) (hX:=fun w h => h) (h:=fun v1 X1 h1 => ?_);obtain ⟨s1,rfl,hs1⟩ := h1) | (refine sw_pu (hc:=containsS_pu s1 M r) (hX:=fun w h => hs1 w h.2) (h:=?_)) | ((fail_if_success (refine sw_chk (h:=?_)));refine sw_guard (ht:=?_) (hf:=?_);all_goals (intro hx_;skip)) | (refine cw_cond (ht:=?_) (hf:=?_);all_goals (intro hx_;first | have := of_decide_eq_true hx_ | have := of_decide_eq_false hx_)))
    all_goals
      apply ends_ret;apply res_tmp;rfl;rfl
      simp only [*,decide_true,decide_false,cond_true,cond_false,Bool.and_true,Bool.true_and,Bool.and_false,Bool.false_and,Bool.not_true,Bool.not_false,Bool.or_true,Bool.true_or,Bool.or_false,Bool.false_or]
end Go.Proofs.YtjmpdkmboheknaaGreatDoor

namespace Go.Proofs.YtjmpdkmboheknaaGreatDoor
open Go Go.Proofs Sy
def intV (n : Int) : Value := .int .i64 n
def histV (l : List ChainD) (p : PostD) (r : ByteArray) : List Int := bif p.gone then [] else match findC l p.author with
  | none => []
  | some c => ((p.pos : Int) :: p.edL).filter fun i => mayV c i r
structure ChOk (c : ChainD) : Prop where
  acts : ActsOk c.actsL
  len : c.actsL.length ≤ 1000000
  to : ∀ x ∈ c.actsL,x.to.n ≤ 1000000
def IntsAt (l : List Int) (u : Value) (X : World → Prop) : Prop := ∃ s : SlV,u = s.v ∧ ∀ w,X w → Ints w s l
theorem ints_of_row {w : World} {e n c : Nat} {A : Option Addr} {l : List Int} (h : ORow w e 1 (.slice A n c) n (l.map intV)) (hn : n = l.length) : Ints w ⟨A,n,c⟩ l := by
  have e1 : (l.map fun n => [(.int .i64 n : Value)]).flatten = l.map intV := by
    clear h hn
    induction l with
    | nil => rfl
    | cons a l ih => rw [List.map_cons,List.flatten_cons,ih];rfl
  rw [← e1] at h
  exact rows_of_orow h (by rw [List.length_map,hn]) fun r hr => by
    obtain ⟨n,_,rfl⟩ := List.mem_map.1 hr
    rfl
theorem pv_eq {p : PostD} {b : Bool} (h : p.gone = b) : p.v = .agg #[.string p.id,.string p.author,.int .i64 (p.pos : Nat),.int .i64 p.kind,.int .i64 p.scope,.string p.group,p.to.v,.string p.object,.int .i64 p.time,p.ed.v,.bool b] := by rw [PostD.v,PostD.cells,h]
theorem findC_in {l : List ChainD} {k : ByteArray} {c : ChainD} (h : findC l k = some c) : c ∈ l := List.mem_of_find?_eq_some h
structure HisI (m : Nat) where
  k : Nat
  hk : k ≤ m
  A : Option Addr
  c : Nat
theorem take_filter {α : Type} (f : α → Bool) (a : α) (L : List α) {k : Nat} {x : α} (hx : L[k]? = some x) : ((a :: L).take (k + 2)).filter f = ((a :: L).take (k + 1)).filter f ++ bif f x then [x] else [] := by
  have e : (a :: L).take (k + 2) = (a :: L).take (k + 1) ++ [x] := by
    rw [List.take_add_one (i:=k + 1),List.getElem?_cons_succ,hx];rfl
  rw [e,List.filter_append]
  cases h : f x <;> simp [h]
set_option maxHeartbeats 8000000 in
theorem history_mk (s : SlV) (l : List ChainD) (p : PostD) (r : ByteArray) (hok : ∀ c ∈ l,ChOk c) (hel : p.edL.length ≤ 1000000) :
    Mk Tryz.prog 12 #[s.v,p.v,.string r] (fun w => (Chains w s l ∧ Ints w p.ed p.edL) ∧ Glob w) (IntsAt (histV l p r)) := by
  refine mk_of_cw2 (args:=[_,_,_]) _ Tryz.func12 rfl Tryz.ntmps12 rfl fun av bor w0 => ?_
  cases hg : p.gone with
  | true =>
    have e : histV l p r = [] := by rw [histV,hg];rfl
    rw [e]
    rw [pv_eq hg]
    repeat' (first | apply sw_nil | apply cw_seq | apply cw_reg | refine sy_assign (h:=?_) | refine sy_fld (h:=?_) | refine sy_ld (h:=?_) | refine sw_box (h:=fun _ => ?_) | refine cw_cond_t (ht:=?_) | apply cw_ret | fail)
    all_goals exact ends_ret (res_tmp rfl rfl) ⟨⟨none,0,0⟩,rfl,fun w _ => rowsD_nil w 1⟩
  | false =>
    refine cw_know (p:=p.ed.n = p.edL.length ∧ p.ed.n ≤ maxLen ∧ (0 < p.edL.length → p.ed.p.isSome = true)) (fun w h => ⟨h.1.2.len_,Nat.le_trans (RowsD.cap h.1.2) (RowsD.max h.1.2),h.1.2.some_⟩) fun ⟨hn,hm,hp⟩ => ?_
    simp only [maxLen] at hm
    have hfi := find_pu s l p.author
    cases hf : findC l p.author with
    | none =>
      rw [hf] at hfi
      replace hfi : Pu Tryz.prog 29 #[s.v,.string p.author] (fun w => Chains w s l) (.tuple #[ChainD.zero.v,.bool false]) := hfi
      have e : histV l p r = [] := by rw [histV,hg,hf];rfl
      rw [e]
      clear e
      rw [pv_eq hg]
      repeat' (first | apply sw_nil | apply cw_seq | apply cw_reg | refine sy_move (h:=?_) | refine sy_assign (h:=?_) | refine sy_fld (h:=?_) | refine sy_ld (h:=?_) | refine sy_not (h:=?_) | refine sy_extract (h:=?_) | refine sw_alloc (h:=fun _ => ?_) | refine sw_box (h:=fun _ => ?_) | refine sw_stAll (h:=?_) | refine cw_cond_t (ht:=?_) | refine cw_cond_f (hf:=?_) | apply cw_skip | apply cw_ret | (refine sw_pu (hc:=hfi) (hX:=fun w h => h.1.1) (h:=?_)) | fail)
      all_goals exact ends_ret (res_tmp rfl rfl) ⟨⟨none,0,0⟩,rfl,fun w _ => rowsD_nil w 1⟩
    | some c =>
      rw [hf] at hfi
      replace hfi : Pu Tryz.prog 29 #[s.v,.string p.author] (fun w => Chains w s l) (.tuple #[c.v,.bool true]) := hfi
      have hcm := findC_in hf
      have hco := hok c hcm
      have e : histV l p r = ((p.pos : Int) :: p.edL).filter fun i => mayV c i r := by rw [histV,hg,hf];rfl
      rw [e]
      clear e
      have hmay := fun i => may_pu c hco.acts hco.len hco.to i r
      rw [pv_eq hg]
      refine cw_nilRow 3 1 ?_
      repeat' (first | apply sw_nil | apply cw_seq | apply cw_reg | refine sy_move (h:=?_) | refine sy_assign (h:=?_) | refine sy_fld (h:=?_) | refine sy_ld (h:=?_) | refine sy_ldAll (h:=?_) | refine sy_not (h:=?_) | refine sy_extract (h:=?_) | refine sw_alloc (h:=fun _ => ?_) | refine sw_box (h:=fun _ => ?_) | refine sw_stAll (h:=?_) | refine cw_cond_f (hf:=?_) | apply cw_skip | (refine sw_pu (hc:=hfi) (hX:=fun w h => h.1.1) (h:=?_)) | fail)
      rename_i b1 b2
      generalize hcs : (Value.agg #[.string p.id,.string p.author,.int .i64 (p.pos : Nat),.int .i64 p.kind,.int .i64 p.scope,.string p.group,p.to.v,.string p.object,.int .i64 p.time,p.ed.v,.bool false]) = pv
      have hF1 : ∀ k x,p.edL[k]? = some x → (((p.pos : Int) :: p.edL).take (k + 1 + 1)).filter (fun i => mayV c i r) = (((p.pos : Int) :: p.edL).take (k + 1)).filter (fun i => mayV c i r) ++ bif mayV c x r then [x] else [] := fun k x hx => take_filter (fun i => mayV c i r) _ _ hx
      have hFl : ∀ k,((((p.pos : Int) :: p.edL).take (k + 1)).filter fun i => mayV c i r).length ≤ 1000001 := fun k => by
        have h1 := List.length_filter_le (fun i => mayV c i r) (((p.pos : Int) :: p.edL).take (k + 1))
        have h2 := List.length_take_le (k + 1) ((p.pos : Int) :: p.edL)
        have h3 : ((p.pos : Int) :: p.edL).length = p.edL.length + 1 := rfl
        have h4 := List.length_take_le' (k + 1) ((p.pos : Int) :: p.edL)
        omega
      have hFe : (((p.pos : Int) :: p.edL).take (p.edL.length + 1)).filter (fun i => mayV c i r) = ((p.pos : Int) :: p.edL).filter fun i => mayV c i r := by rw [List.take_of_length_le (by simp)]
      have hF0 : (((p.pos : Int) :: p.edL).take (0 + 1)).filter (fun i => mayV c i r) = bif mayV c p.pos r then [(p.pos : Int)] else [] := by
        show [(p.pos : Int)].filter _ = _
        cases h : mayV c p.pos r <;> simp [h]
      have hd := hmay p.pos
      generalize hFF : (fun k : Nat => (((p.pos : Int) :: p.edL).take (k + 1)).filter fun i => mayV c i r) = F at *
      have hF : ∀ k,(((p.pos : Int) :: p.edL).take (k + 1)).filter (fun i => mayV c i r) = F k := fun k => congrFun hFF k
      rw [← hFe]
      simp only [hF] at *
      cases h0 : mayV c p.pos r
      · rw [h0] at hd hF0
        simp only [cond_true,cond_false] at hF0
        subst hcs
        repeat' (first | apply sw_nil | apply cw_seq | apply cw_reg | refine sy_move (h:=?_) | refine sy_fld (h:=?_) | refine sy_ld (h:=?_) | refine sy_len (h:=?_) | refine cw_cond_f (hf:=?_) | apply cw_skip | apply cw_block | (refine sw_pu (hc:=hd) (hX:=fun w h => ⟨h.1.1.2 c hcm,h.2⟩) (h:=?_)) | fail)
        refine cw_loop (ι:=HisI p.edL.length) (fun i => ⟨[(2,.string r),(4,.pointer (some ⟨b1,0,none⟩)),(7,.pointer (some ⟨b2,0,none⟩)),(9,.slice i.A (F i.k).length i.c),(34,p.ed.v),(35,.int .i64 (p.ed.n : Nat)),(36,.int .i64 (i.k : Nat))], [cel b2 39 c.cells,cel b1 26 [.string p.id,.string p.author,.int .i64 (p.pos : Nat),.int .i64 p.kind,.int .i64 p.scope,.string p.group,p.to.v,.string p.object,.int .i64 p.time,p.ed.v,.bool false],orow 3 1 (.slice i.A (F i.k).length i.c) (F i.k).length ((F i.k).map intV)],fun w => (Chains w s l ∧ Ints w p.ed p.edL) ∧ Glob w⟩) (fun i => p.edL.length - i.k) ⟨0,Nat.zero_le _,none,0⟩ (ok_sub (by simp only [hF0,List.length_nil,List.length_cons];exact ⟨rfl,rfl,rfl,rfl,rfl,rfl,rfl,trivial⟩) (by simp only [hF0,List.length_nil,List.length_cons,List.map_nil,List.map_cons];exact List.Sublist.refl _) fun _ h => h) fun i => ?_
        have hik := i.hk
        obtain ⟨k,hk,A,cp⟩ := i
        simp only at hik ⊢
        repeat' (first | apply sw_nil | apply cw_seq | apply cw_reg | refine sy_move (h:=?_) | refine sy_assign (h:=?_) | refine sy_lss (h:=?_) | apply cw_skip | apply cw_block | apply cw_ret | apply cw_exit | (refine cw_cond (ht:=?_) (hf:=?_);all_goals (intro hx_;first | have := of_decide_eq_true hx_ | have := of_decide_eq_false hx_)))
        · have hlt : k < p.edL.length := by omega
          have hp' := hp (by omega)
          obtain ⟨x,hx⟩ : ∃ x,p.edL[k]? = some x := ⟨_,List.getElem?_eq_getElem hlt⟩
          have hxD : p.edL.getD k 0 = x := by rw [List.getD_eq_getElem?_getD,hx];rfl
          have hfl := hFl k
          have hst := hF1 k x hx
          have hdx := hmay x
          generalize hac : F k = acc at *
          cases hmx : mayV c x r
          · rw [hmx] at hdx hst
            simp only [cond_false,List.append_nil] at hst
            repeat' (first | apply sw_nil | apply cw_seq | apply cw_reg | refine sy_move (h:=?_) | refine sy_assign (h:=?_) | refine sy_ldAll (h:=?_) | refine sy_add (h:=?_) | refine cw_cond_f (hf:=?_) | apply cw_skip | (refine sy_idxX (q:=k) (h:=?_)) | (refine sy_ldX (u:=.int .i64 x) (hF:=fun w h => hxD ▸ Ints.get h.1.2 hlt) (h:=?_)) | (refine sw_pu (hc:=hdx) (hX:=fun w h => ⟨h.1.1.2 c hcm,h.2⟩) (h:=?_)) | fail)
            exact ⟨(⟨k + 1,hlt,A,cp⟩ : HisI p.edL.length),(by show p.edL.length - (k + 1) < p.edL.length - k;omega),ok_sub (by simp only [hst];exact ⟨rfl,rfl,rfl,rfl,rfl,rfl,rfl,trivial⟩) (by simp only [hst];exact List.Sublist.refl _) fun _ h => h⟩
          · rw [hmx] at hdx hst
            simp only [cond_true] at hst
            repeat' (first | apply sw_nil | apply cw_seq | apply cw_reg | refine sy_move (h:=?_) | refine sy_assign (h:=?_) | refine sy_ldAll (h:=?_) | refine sy_add (h:=?_) | refine sw_bsl (h:=fun _ => ?_) | refine cw_cond_t (ht:=?_) | (refine sy_idxX (q:=k) (h:=?_)) | (refine sy_ldX (u:=.int .i64 x) (hF:=fun w h => hxD ▸ Ints.get h.1.2 hlt) (h:=?_)) | (refine sw_pu (hc:=hdx) (hX:=fun w h => ⟨h.1.1.2 c hcm,h.2⟩) (h:=?_)) | (refine sw_append (size:=1) (news:=[intV x]) (q:=1) rfl rfl rfl rfl (fun _ => At.there _ (At.there _ (At.there _ (At.here _)))) (fun w G => src_cel G List.mem_cons_self rfl rfl 1) (by omega) (by simp only [maxLen];omega) rfl ?_ rfl ?_;(with_reducible rfl);intro A2 c2) | fail)
            exact ⟨(⟨k + 1,hlt,A2,c2⟩ : HisI p.edL.length),(by show p.edL.length - (k + 1) < p.edL.length - k;omega),ok_sub (by simp only [hst,List.length_append,List.length_cons,List.length_nil,Nat.zero_add];exact ⟨rfl,rfl,rfl,rfl,rfl,rfl,rfl,trivial⟩) (by simp only [hst,List.length_append,List.length_cons,List.length_nil,Nat.zero_add,List.map_append,List.map_cons,List.map_nil];exact List.Sublist.cons _ (List.Sublist.refl _)) fun _ h => h⟩
        · have hkE : k = p.edL.length := by omega
          subst hkE
          exact ends_ret (res_tmp rfl rfl) ⟨⟨A,(F p.edL.length).length,cp⟩,rfl,fun w h => ints_of_row (h.2 (orow 3 1 (.slice A (F p.edL.length).length cp) (F p.edL.length).length ((F p.edL.length).map intV)) (.tail _ (.tail _ (.head _)))) rfl⟩
      · rw [h0] at hd hF0
        simp only [cond_true,cond_false] at hF0
        subst hcs
        repeat' (first | apply sw_nil | apply cw_seq | apply cw_reg | refine sy_move (h:=?_) | refine sy_assign (h:=?_) | refine sy_fld (h:=?_) | refine sy_ld (h:=?_) | refine sy_len (h:=?_) | refine sw_bsl (h:=fun _ => ?_) | refine cw_cond_t (ht:=?_) | apply cw_block | (refine sw_pu (hc:=hd) (hX:=fun w h => ⟨h.1.1.2 c hcm,h.2⟩) (h:=?_)) | (refine sw_append (size:=1) (news:=[intV p.pos]) (q:=1) rfl rfl rfl rfl (fun _ => At.there _ (At.there _ (At.there _ (At.here _)))) (fun w G => src_cel G List.mem_cons_self rfl rfl 1) (by omega) (by simp only [maxLen];omega) rfl ?_ rfl ?_;(with_reducible rfl);intro A2 c2) | fail)
        refine cw_loop (ι:=HisI p.edL.length) (fun i => ⟨[(2,.string r),(4,.pointer (some ⟨b1,0,none⟩)),(7,.pointer (some ⟨b2,0,none⟩)),(9,.slice i.A (F i.k).length i.c),(34,p.ed.v),(35,.int .i64 (p.ed.n : Nat)),(36,.int .i64 (i.k : Nat))], [cel b2 39 c.cells,cel b1 26 [.string p.id,.string p.author,.int .i64 (p.pos : Nat),.int .i64 p.kind,.int .i64 p.scope,.string p.group,p.to.v,.string p.object,.int .i64 p.time,p.ed.v,.bool false],orow 3 1 (.slice i.A (F i.k).length i.c) (F i.k).length ((F i.k).map intV)],fun w => (Chains w s l ∧ Ints w p.ed p.edL) ∧ Glob w⟩) (fun i => p.edL.length - i.k) ⟨0,Nat.zero_le _,A2,c2⟩ (ok_sub (by simp only [hF0,List.length_nil,List.length_cons];exact ⟨rfl,rfl,rfl,rfl,rfl,rfl,rfl,trivial⟩) (by simp only [hF0,List.length_nil,List.length_cons,List.map_nil,List.map_cons];exact List.Sublist.cons _ (List.Sublist.refl _)) fun _ h => h) fun i => ?_
        have hik := i.hk
        obtain ⟨k,hk,A,cp⟩ := i
        simp only at hik ⊢
        repeat' (first | apply sw_nil | apply cw_seq | apply cw_reg | refine sy_move (h:=?_) | refine sy_assign (h:=?_) | refine sy_lss (h:=?_) | apply cw_skip | apply cw_block | apply cw_ret | apply cw_exit | (refine cw_cond (ht:=?_) (hf:=?_);all_goals (intro hx_;first | have := of_decide_eq_true hx_ | have := of_decide_eq_false hx_)))
        · have hlt : k < p.edL.length := by omega
          have hp' := hp (by omega)
          obtain ⟨x,hx⟩ : ∃ x,p.edL[k]? = some x := ⟨_,List.getElem?_eq_getElem hlt⟩
          have hxD : p.edL.getD k 0 = x := by rw [List.getD_eq_getElem?_getD,hx];rfl
          have hfl := hFl k
          have hst := hF1 k x hx
          have hdx := hmay x
          generalize hac : F k = acc at *
          cases hmx : mayV c x r
          · rw [hmx] at hdx hst
            simp only [cond_false,List.append_nil] at hst
            repeat' (first | apply sw_nil | apply cw_seq | apply cw_reg | refine sy_move (h:=?_) | refine sy_assign (h:=?_) | refine sy_ldAll (h:=?_) | refine sy_add (h:=?_) | refine cw_cond_f (hf:=?_) | apply cw_skip | (refine sy_idxX (q:=k) (h:=?_)) | (refine sy_ldX (u:=.int .i64 x) (hF:=fun w h => hxD ▸ Ints.get h.1.2 hlt) (h:=?_)) | (refine sw_pu (hc:=hdx) (hX:=fun w h => ⟨h.1.1.2 c hcm,h.2⟩) (h:=?_)) | fail)
            exact ⟨(⟨k + 1,hlt,A,cp⟩ : HisI p.edL.length),(by show p.edL.length - (k + 1) < p.edL.length - k;omega),ok_sub (by simp only [hst];exact ⟨rfl,rfl,rfl,rfl,rfl,rfl,rfl,trivial⟩) (by simp only [hst];exact List.Sublist.refl _) fun _ h => h⟩
          · rw [hmx] at hdx hst
            simp only [cond_true] at hst
            repeat' (first | apply sw_nil | apply cw_seq | apply cw_reg | refine sy_move (h:=?_) | refine sy_assign (h:=?_) | refine sy_ldAll (h:=?_) | refine sy_add (h:=?_) | refine sw_bsl (h:=fun _ => ?_) | refine cw_cond_t (ht:=?_) | (refine sy_idxX (q:=k) (h:=?_)) | (refine sy_ldX (u:=.int .i64 x) (hF:=fun w h => hxD ▸ Ints.get h.1.2 hlt) (h:=?_)) | (refine sw_pu (hc:=hdx) (hX:=fun w h => ⟨h.1.1.2 c hcm,h.2⟩) (h:=?_)) | (refine sw_append (size:=1) (news:=[intV x]) (q:=1) rfl rfl rfl rfl (fun _ => At.there _ (At.there _ (At.there _ (At.here _)))) (fun w G => src_cel G List.mem_cons_self rfl rfl 1) (by omega) (by simp only [maxLen];omega) rfl ?_ rfl ?_;(with_reducible rfl);intro A2 c2) | fail)
            exact ⟨(⟨k + 1,hlt,A2,c2⟩ : HisI p.edL.length),(by show p.edL.length - (k + 1) < p.edL.length - k;omega),ok_sub (by simp only [hst,List.length_append,List.length_cons,List.length_nil,Nat.zero_add];exact ⟨rfl,rfl,rfl,rfl,rfl,rfl,rfl,trivial⟩) (by simp only [hst,List.length_append,List.length_cons,List.length_nil,Nat.zero_add,List.map_append,List.map_cons,List.map_nil];exact List.Sublist.cons _ (List.Sublist.refl _)) fun _ h => h⟩
        · have hkE : k = p.edL.length := by omega
          subst hkE
          exact ends_ret (res_tmp rfl rfl) ⟨⟨A,(F p.edL.length).length,cp⟩,rfl,fun w h => ints_of_row (h.2 (orow 3 1 (.slice A (F p.edL.length).length cp) (F p.edL.length).length ((F p.edL.length).map intV)) (.tail _ (.tail _ (.head _)))) rfl⟩
def lastV (l : List ChainD) (p : PostD) (r : ByteArray) : Value := .tuple #[.int .i64 ((histV l p r).getLast?.getD 0),.bool (histV l p r).getLast?.isSome]
theorem last_pu (s : SlV) (l : List ChainD) (p : PostD) (r : ByteArray) (hok : ∀ c ∈ l,ChOk c) (hel : p.edL.length ≤ 1000000) :
    Pu Tryz.prog 9 #[s.v,p.v,.string r] (fun w => (Chains w s l ∧ Ints w p.ed p.edL) ∧ Glob w) (lastV l p r) := by
  refine pu_of_cw (args:=[_,_,_]) _ Tryz.func9 rfl Tryz.ntmps9 rfl fun av bor w0 => ?_
  have hh := history_mk s l p r hok hel
  rw [lastV]
  generalize histV l p r = H at *
  repeat' (first | apply sw_nil | apply cw_seq | apply cw_reg | refine sy_move (h:=?_) | refine sy_assign (h:=?_) | refine sy_ldAll (h:=?_) | refine sw_box (h:=fun _ => ?_) | fail)
  refine sw_mk (hc:=hh) (hX:=fun w h => h) (h:=fun v1 X1 h1 => ?_)
  obtain ⟨s1,rfl,hs1⟩ := h1
  refine sw_know (p:=s1.n = H.length ∧ s1.n ≤ maxLen ∧ (0 < H.length → s1.p.isSome = true)) (fun w h => ⟨(hs1 w h.2).len_,Nat.le_trans (RowsD.cap (hs1 w h.2)) (RowsD.max (hs1 w h.2)),(hs1 w h.2).some_⟩) fun ⟨hn,hm,hp⟩ => ?_
  simp only [maxLen] at hm
  by_cases h0 : H.length = 0
  · have e : H = [] := List.length_eq_zero_iff.1 h0
    subst e
    repeat' (first | refine sy_eqlT (hab:=by omega) (h:=?_) | apply sw_nil | apply cw_seq | apply cw_reg | refine sy_move (h:=?_) | refine sy_assign (h:=?_) | refine sy_len (h:=?_) | refine cw_cond_t (ht:=?_) | apply cw_ret | fail)
    exact ends_ret (res_tmp2 rfl rfl rfl) rfl
  · have hlt : H.length - 1 < H.length := by omega
    have hp' := hp (by omega)
    have e : H.getLast? = some (H.getD (H.length - 1) 0) := by
      rw [List.getLast?_eq_getElem?,List.getD_eq_getElem?_getD,List.getElem?_eq_getElem hlt];rfl
    rw [e]
    repeat' (first | refine sy_eqlF (hab:=by omega) (h:=?_) | apply sw_nil | apply cw_seq | apply cw_reg | refine sy_move (h:=?_) | refine sy_assign (h:=?_) | refine sy_len (h:=?_) | refine sy_sub (h:=?_) | refine cw_cond_f (hf:=?_) | apply cw_skip | apply cw_ret | (refine sy_idxX (q:=H.length - 1) (h:=?_)) | (refine sy_ldX (u:=.int .i64 (H.getD (H.length - 1) 0)) (hF:=fun w h => Ints.get (hs1 w h.2) hlt) (h:=?_)) | fail)
    exact ends_ret (res_tmp2 rfl rfl rfl) rfl
end Go.Proofs.YtjmpdkmboheknaaGreatDoor

namespace Go.Proofs.YtjmpdkmboheknaaGreatDoor
open Go Go.Proofs Sy
section
variable {P : Program} {N : Nat} {av bor : List Nat} {w0 : World} {st : St} {ty : TypeId} {x y : Operand} {t t2 : TypeId} {k : IntKind}
theorem y_gtrT {a b : Int} [hI : TyInt P t k] (hx : ev st.env x = some (.int k a)) (hy : ev st.env y = some (.int k b)) (hab : b < a) : Sy.Yields P N av bor w0 st (.binOp .gtr t x y t2) ty (.bool true) := by
  have h := y_gtr (P:=P) (N:=N) (av:=av) (bor:=bor) (w0:=w0) (st:=st) (ty:=ty) (t:=t) (t2:=t2) hx hy
  rwa [decide_eq_true hab] at h
theorem y_gtrF {a b : Int} [hI : TyInt P t k] (hx : ev st.env x = some (.int k a)) (hy : ev st.env y = some (.int k b)) (hab : ¬ b < a) : Sy.Yields P N av bor w0 st (.binOp .gtr t x y t2) ty (.bool false) := by
  have h := y_gtr (P:=P) (N:=N) (av:=av) (bor:=bor) (w0:=w0) (st:=st) (ty:=ty) (t:=t) (t2:=t2) hx hy
  rwa [decide_eq_false hab] at h
end
structure InsI (P : List PostD) (a b : Nat) where
  k : Nat
  h1 : a + 1 ≤ k
  h2 : k ≤ b ∨ k = a + 1
  Q : List PostD
  hQ : Q.Perm P
structure InsJ (P : List PostD) (a k : Nat) where
  j : Nat
  h1 : a ≤ j
  h2 : j ≤ k
  Q : List PostD
  hQ : Q.Perm P
set_option maxHeartbeats 4000000 in
theorem insertion_ct (s : SlV) (P : List PostD) (a b : Nat) (hs : s.n = P.length) (hm : s.n ≤ 1000000) (ha : a ≤ s.n) (hb : b ≤ s.n) :
    Ct Tryz.prog 174 #[s.v,.int .i64 (a : Nat),.int .i64 (b : Nat),cmpF] [postR s P] (fun _ => True) (PermAt s P) := by
  refine ct_of_cw (args:=[_,_,_,_]) _ Tryz.func174 rfl Tryz.ntmps174 rfl fun av bor w0 => ?_
  refine cw_knowR (r:=postR s P) List.mem_cons_self (p:=0 < s.n → s.p.isSome = true) (fun w h hn => orow_some h hn) fun hp => ?_
  repeat' (first | refine sy_addN (q:=1) (hq:=by omega) (h:=?_) | apply sw_nil | apply cw_seq | apply cw_reg | refine sy_move (h:=?_) | refine sy_assign (h:=?_) | apply cw_block | fail)
  refine cw_loop (ι:=InsI P a b) (fun i => ⟨[(0,s.v),(1,.int .i64 (a : Nat)),(2,.int .i64 (b : Nat)),(3,cmpF),(8,.int .i64 (i.k : Nat))], [postR s i.Q],fun _ => True⟩) (fun i => b - i.k) ⟨a + 1,Nat.le_refl _,.inr rfl,P,List.Perm.refl _⟩ (ok_sub ⟨rfl,rfl,rfl,rfl,rfl,trivial⟩ (List.Sublist.refl _) fun _ h => h) fun i => ?_
  obtain ⟨k,h1,h2,Q,hQ⟩ := i
  simp only
  have hl := hQ.length_eq
  repeat' (first | apply sw_nil | apply cw_seq | apply cw_reg | refine sy_move (h:=?_) | refine sy_assign (h:=?_) | refine sy_lss (h:=?_) | apply cw_skip | apply cw_block | apply cw_exit | (refine cw_cond (ht:=?_) (hf:=?_);all_goals (intro hx_;first | have := of_decide_eq_true hx_ | have := of_decide_eq_false hx_)))
  · have hkb : k < b := by omega
    refine cw_loop (ι:=InsJ P a k) (fun i => ⟨[(0,s.v),(1,.int .i64 (a : Nat)),(2,.int .i64 (b : Nat)),(3,cmpF),(8,.int .i64 (k : Nat)),(9,.int .i64 (i.j : Nat))], [postR s i.Q],fun _ => True⟩) (fun i => i.j) ⟨k,by omega,Nat.le_refl _,Q,hQ⟩ (ok_sub ⟨rfl,rfl,rfl,rfl,rfl,rfl,trivial⟩ (List.Sublist.refl _) fun _ h => h) fun i => ?_
    obtain ⟨j,h3,h4,Q2,hQ2⟩ := i
    simp only
    have hl2 := hQ2.length_eq
    have hp' := hp (by omega)
    by_cases hja : a < j
    · obtain ⟨x,hx⟩ : ∃ x,Q2[j]? = some x := ⟨_,List.getElem?_eq_getElem (by omega)⟩
      obtain ⟨y,hy⟩ : ∃ y,Q2[j - 1]? = some y := ⟨_,List.getElem?_eq_getElem (by omega)⟩
      have hcm := cmp_pu x y
      generalize cmpB x.id y.id = z at *
      apply cw_seq
      apply cw_seq
      unfold cmpF
      (refine cw_draw [] (fun _ => True) (by kernel_rfl) ?_)
      all_goals (refine aw_take 0 (h:=?_))
      all_goals (refine aw_take 1 (h:=?_))
      all_goals (refine aw_take 2 (hy:=by (apply y_gtrT;rfl;rfl;omega)) (h:=?_))
      all_goals (refine aw_take 3 (h:=?_))
      all_goals (refine aw_take 4 (h:=?_))
      all_goals (refine aw_take 5 (h:=?_))
      all_goals (refine aw_take 6 (h:=?_))
      all_goals (refine aw_take 7 (hy:=by (apply y_idxX (q:=j * 11);rfl;rfl;omega;omega;assumption;(rfl))) (h:=?_))
      all_goals (refine aw_take 9 (h:=?_))
      all_goals (refine aw_take 10 (h:=?_))
      all_goals (refine aw_take 11 (h:=?_))
      all_goals (refine aw_take 12 (hy:=by (apply y_idxX (q:=(j - 1) * 11);rfl;rfl;omega;omega;assumption;(omega))) (h:=?_))
      all_goals (refine aw_two 8 13 (h:=?_) (h':=?_);(focus (((refine sw_yield (y_ldP (i:=j) (P:=Q2) rfl List.mem_cons_self (by omega) hx) rfl rfl rfl ?_);apply sw_nil;refine aw_fin (h:=?_));all_goals ((refine aw_step 13 (h:=?_);(refine sw_yield (y_ldP (i:=j - 1) (P:=Q2) rfl List.mem_cons_self (by omega) hy) rfl rfl rfl ?_);apply sw_nil;refine aw_fin (h:=?_));all_goals (refine aw_step 14 (h:=?_);(refine sw_pu (hc:=hcm) (hX:=fun _ _ => trivial) (h:=?_));apply sw_nil;refine aw_fin (h:=?_));all_goals (refine aw_take 15 (h:=?_));all_goals (refine aw_take 16 (h:=?_));all_goals (refine aw_done (h:=?_)))));rotate_right;(focus (((refine sw_yield (y_ldP (i:=j - 1) (P:=Q2) rfl List.mem_cons_self (by omega) hy) rfl rfl rfl ?_);apply sw_nil;refine aw_fin (h:=?_));all_goals ((refine aw_step 8 (h:=?_);(refine sw_yield (y_ldP (i:=j) (P:=Q2) rfl List.mem_cons_self (by omega) hx) rfl rfl rfl ?_);apply sw_nil;refine aw_fin (h:=?_));all_goals (refine aw_step 14 (h:=?_);(refine sw_pu (hc:=hcm) (hX:=fun _ _ => trivial) (h:=?_));apply sw_nil;refine aw_fin (h:=?_));all_goals (refine aw_take 15 (h:=?_));all_goals (refine aw_take 16 (h:=?_));all_goals (refine aw_done (h:=?_))))))
      all_goals
        repeat' (first | apply sw_nil | apply cw_seq | apply cw_reg | refine sy_move (h:=?_) | refine sy_assign (h:=?_) | refine sy_add (h:=?_) | apply cw_skip | apply cw_block | apply cw_exit | (refine cw_cond (ht:=?_) (hf:=?_);all_goals (intro hx_;first | have := of_decide_eq_true hx_ | have := of_decide_eq_false hx_)))
        · (refine cw_draw [] (fun _ => True) (by kernel_rfl) ?_)
          all_goals (refine aw_take 0 (h:=?_))
          all_goals (refine aw_take 1 (h:=?_))
          all_goals (refine aw_take 2 (h:=?_))
          all_goals (refine aw_take 3 (h:=?_))
          all_goals (refine aw_take 4 (h:=?_))
          all_goals (refine aw_take 5 (h:=?_))
          all_goals (refine aw_take 6 (h:=?_))
          all_goals (refine aw_take 7 (h:=?_))
          all_goals (refine aw_take 8 (hy:=by (apply y_idxX (q:=(j - 1) * 11);rfl;rfl;omega;omega;assumption;(omega))) (h:=?_))
          all_goals (refine aw_take 10 (h:=?_))
          all_goals (refine aw_take 11 (h:=?_))
          all_goals (refine aw_take 12 (hy:=by (apply y_idxX (q:=j * 11);rfl;rfl;omega;omega;assumption;(rfl))) (h:=?_))
          all_goals (refine aw_two 9 13 (h:=?_) (h':=?_);(focus (((refine sw_yield (y_ldP (i:=j - 1) (P:=Q2) rfl List.mem_cons_self (by omega) hy) rfl rfl rfl ?_);apply sw_nil;refine aw_fin (h:=?_));all_goals ((refine aw_step 13 (h:=?_);(refine sw_yield (y_ldP (i:=j) (P:=Q2) rfl List.mem_cons_self (by omega) hx) rfl rfl rfl ?_);apply sw_nil;refine aw_fin (h:=?_));all_goals (refine aw_take 14 (hy:=by (apply y_idxX (q:=j * 11);rfl;rfl;omega;omega;assumption;(rfl))) (h:=?_));all_goals (refine aw_step 15 (h:=?_);(refine sw_stP (i:=j) (p:=y) rfl rfl (by omega) (by omega) (At.here _) rfl (by (with_reducible rfl)) rfl ?_);apply sw_nil;refine aw_fin (h:=?_));all_goals (refine aw_take 16 (hy:=by (apply y_idxX (q:=(j - 1) * 11);rfl;rfl;omega;omega;assumption;(omega))) (h:=?_));all_goals (refine aw_step 17 (h:=?_);(refine sw_stP (i:=j - 1) (p:=x) rfl rfl (by omega) (by (simp only [List.length_set];omega)) (At.here _) rfl (by (with_reducible rfl)) rfl ?_);apply sw_nil;refine aw_fin (h:=?_));all_goals (refine aw_done (h:=?_)))));rotate_right;(focus (((refine sw_yield (y_ldP (i:=j) (P:=Q2) rfl List.mem_cons_self (by omega) hx) rfl rfl rfl ?_);apply sw_nil;refine aw_fin (h:=?_));all_goals ((refine aw_step 9 (h:=?_);(refine sw_yield (y_ldP (i:=j - 1) (P:=Q2) rfl List.mem_cons_self (by omega) hy) rfl rfl rfl ?_);apply sw_nil;refine aw_fin (h:=?_));all_goals (refine aw_take 14 (hy:=by (apply y_idxX (q:=j * 11);rfl;rfl;omega;omega;assumption;(rfl))) (h:=?_));all_goals (refine aw_step 15 (h:=?_);(refine sw_stP (i:=j) (p:=y) rfl rfl (by omega) (by omega) (At.here _) rfl (by (with_reducible rfl)) rfl ?_);apply sw_nil;refine aw_fin (h:=?_));all_goals (refine aw_take 16 (hy:=by (apply y_idxX (q:=(j - 1) * 11);rfl;rfl;omega;omega;assumption;(omega))) (h:=?_));all_goals (refine aw_step 17 (h:=?_);(refine sw_stP (i:=j - 1) (p:=x) rfl rfl (by omega) (by (simp only [List.length_set];omega)) (At.here _) rfl (by (with_reducible rfl)) rfl ?_);apply sw_nil;refine aw_fin (h:=?_));all_goals (refine aw_done (h:=?_))))))
          all_goals
            repeat' (first | refine sy_subN (q:=1) (hq:=by omega) (h:=?_) | apply sw_nil | apply cw_reg | refine sy_move (h:=?_) | refine sy_assign (h:=?_) | fail)
            exact ⟨(⟨j - 1,by omega,by omega,(Q2.set j y).set (j - 1) x,(swap_perm hx hy).trans hQ2⟩ : InsJ P a k),(by show j - 1 < j;omega),ok_sub ⟨rfl,rfl,rfl,rfl,rfl,rfl,trivial⟩ (List.Sublist.refl _) fun _ h => h⟩
        · repeat' (first | refine sy_addN (q:=1) (hq:=by omega) (h:=?_) | fail)
          exact ⟨(⟨k + 1,by omega,by omega,Q2,hQ2⟩ : InsI P a b),(by show b - (k + 1) < b - k;omega),ok_sub ⟨rfl,rfl,rfl,rfl,rfl,trivial⟩ (List.Sublist.refl _) fun _ h => h⟩
    · apply cw_seq
      apply cw_seq
      unfold cmpF
      (refine cw_draw [] (fun _ => True) (by kernel_rfl) ?_)
      all_goals (refine aw_take 0 (h:=?_))
      all_goals (refine aw_take 1 (h:=?_))
      all_goals (refine aw_take 2 (hy:=by (apply y_gtrF;rfl;rfl;omega)) (h:=?_))
      all_goals (refine aw_take 3 (h:=?_))
      all_goals (refine aw_skipT 4 (h:=?_))
      all_goals (refine aw_skipT 5 (h:=?_))
      all_goals (refine aw_skipT 6 (h:=?_))
      all_goals (refine aw_skipT 7 (h:=?_))
      all_goals (refine aw_skipT 9 (h:=?_))
      all_goals (refine aw_skipT 10 (h:=?_))
      all_goals (refine aw_skipT 11 (h:=?_))
      all_goals (refine aw_skipT 12 (h:=?_))
      all_goals (refine aw_two 8 13 (h:=?_) (h':=?_);(focus (((refine sw_skipT (h:=?_));apply sw_nil;refine aw_fin (h:=?_));all_goals ((refine aw_step 13 (h:=?_);(refine sw_skipT (h:=?_));apply sw_nil;refine aw_fin (h:=?_));all_goals (refine aw_step 14 (h:=?_);(refine sw_skipT (h:=?_));apply sw_nil;refine aw_fin (h:=?_));all_goals (refine aw_skipT 15 (h:=?_));all_goals (refine aw_take 16 (h:=?_));all_goals (refine aw_done (h:=?_)))));rotate_right;(focus (((refine sw_skipT (h:=?_));apply sw_nil;refine aw_fin (h:=?_));all_goals ((refine aw_step 8 (h:=?_);(refine sw_skipT (h:=?_));apply sw_nil;refine aw_fin (h:=?_));all_goals (refine aw_step 14 (h:=?_);(refine sw_skipT (h:=?_));apply sw_nil;refine aw_fin (h:=?_));all_goals (refine aw_skipT 15 (h:=?_));all_goals (refine aw_take 16 (h:=?_));all_goals (refine aw_done (h:=?_))))))
      all_goals
        repeat' (first | refine sy_addN (q:=1) (hq:=by omega) (h:=?_) | apply sw_nil | apply cw_reg | refine sy_move (h:=?_) | refine sy_assign (h:=?_) | refine cw_cond_f (hf:=?_) | apply cw_exit | fail)
        exact ⟨(⟨k + 1,by omega,by omega,Q2,hQ2⟩ : InsI P a b),(by show b - (k + 1) < b - k;omega),ok_sub ⟨rfl,rfl,rfl,rfl,rfl,trivial⟩ (List.Sublist.refl _) fun _ h => h⟩
  · exact ends_end (res_none rfl) ⟨rfl,Q,hQ,rfl⟩
end Go.Proofs.YtjmpdkmboheknaaGreatDoor

namespace Go.Proofs.YtjmpdkmboheknaaGreatDoor
open Go Go.Proofs Sy
theorem shr1 (x : Nat) : shrV .u64 (x : Int) 1 = ((x / 2 : Nat) : Int) := by
  show (x : Int).fdiv (2 ^ (min (1 : Int).toNat 64)) = _
  rw [show (2 : Int) ^ (min (1 : Int).toNat 64) = ((2 : Nat) : Int) from rfl, ← Int.ofNat_fdiv]
section
variable {N : Nat} {av bor : List Nat} {w0 : World} {ops : Array Oper} {rest : List Oper} {k : St → Prop} {E : Env} {loc : List Res} {X : World → Prop} {d : Option Tmp} {ty : TypeId} {pos : String} {af : Array Edge} {g : Option (Nat × Bool)} {bb want : Bool} {n : Nat} {t t2 : TypeId}
theorem sy_shrN {p : Nat} {x y : Operand} (hx : ev E x = some (.int .u64 (p : Nat)) := by rfl) (hy : ev E y = some (.int .u64 1) := by rfl) (hg : gdB ops E g = some (bb,want) := by rfl) (hbb : bb = want := by (first | with_reducible rfl | with_reducible assumption | with_reducible exact Bool.not_false | with_reducible exact Bool.not_true)) (hd : Nat.blt n N = true := by rfl) (h : Sw Tryz.prog N av bor w0 ops rest ⟨(n,.int .u64 ((p / 2 : Nat) : Int)) :: E,loc,X⟩ k) :
    Sw Tryz.prog N av bor w0 ops (⟨some n,.binOp .shr t x y t2,ty,pos,af,g⟩ :: rest) ⟨E,loc,X⟩ k := sy_shr hx hy (by decide) hg hbb hd (by rw [shr1];exact h)
theorem u64_inN {p : Nat} (h : p < 9223372036854775808) : IntKind.u64.wrap (p : Int) = (p : Int) := by
  simp [IntKind.wrap,IntKind.signed,IntKind.bits]
  omega
theorem sy_toU [h1 : TyInt Tryz.prog t .i64] [h2 : TyInt Tryz.prog t2 .u64] {p : Nat} {x : Operand} (hx : ev E x = some (.int .i64 (p : Nat)) := by rfl) (hq : p < 9223372036854775808) (hg : gdB ops E g = some (bb,want) := by rfl) (hbb : bb = want := by (first | with_reducible rfl | with_reducible assumption | with_reducible exact Bool.not_false | with_reducible exact Bool.not_true)) (hd : Nat.blt n N = true := by rfl) (h : Sw Tryz.prog N av bor w0 ops rest ⟨(n,.int .u64 (p : Nat)) :: E,loc,X⟩ k) :
    Sw Tryz.prog N av bor w0 ops (⟨some n,.convert t t2 x,ty,pos,af,g⟩ :: rest) ⟨E,loc,X⟩ k := sy_int hx (u64_inN hq) hg hbb hd h
theorem sy_toI [h1 : TyInt Tryz.prog t .u64] [h2 : TyInt Tryz.prog t2 .i64] {p : Nat} {x : Operand} (hx : ev E x = some (.int .u64 (p : Nat)) := by rfl) (hq : p < 9223372036854775808) (hg : gdB ops E g = some (bb,want) := by rfl) (hbb : bb = want := by (first | with_reducible rfl | with_reducible assumption | with_reducible exact Bool.not_false | with_reducible exact Bool.not_true)) (hd : Nat.blt n N = true := by rfl) (h : Sw Tryz.prog N av bor w0 ops rest ⟨(n,.int .i64 (p : Nat)) :: E,loc,X⟩ k) :
    Sw Tryz.prog N av bor w0 ops (⟨some n,.convert t t2 x,ty,pos,af,g⟩ :: rest) ⟨E,loc,X⟩ k := sy_int hx (IntWalk.i64_in _ (by omega)) hg hbb hd h
theorem sy_lssF {x y : Operand} {k' : IntKind} {a b : Int} [hI : TyInt Tryz.prog t k'] (hx : ev E x = some (.int k' a) := by rfl) (hy : ev E y = some (.int k' b) := by rfl) (hab : ¬ a < b) (hg : gdB ops E g = some (bb,want) := by rfl) (hbb : bb = want := by (first | with_reducible rfl | with_reducible assumption | with_reducible exact Bool.not_false | with_reducible exact Bool.not_true)) (hd : Nat.blt n N = true := by rfl) (h : Sw Tryz.prog N av bor w0 ops rest ⟨(n,.bool false) :: E,loc,X⟩ k) :
    Sw Tryz.prog N av bor w0 ops (⟨some n,.binOp .lss t x y t2,ty,pos,af,g⟩ :: rest) ⟨E,loc,X⟩ k := sy_lss (hx:=hx) (hy:=hy) (hg:=hg) (hbb:=hbb) (hd:=hd) (h:=by
      have e : ∀ u,u = Value.bool false → Sw Tryz.prog N av bor w0 ops rest ⟨(n,u) :: E,loc,X⟩ k := fun u hu => hu ▸ h
      exact e _ (by simp [hab]))
theorem sy_lssT {x y : Operand} {k' : IntKind} {a b : Int} [hI : TyInt Tryz.prog t k'] (hx : ev E x = some (.int k' a) := by rfl) (hy : ev E y = some (.int k' b) := by rfl) (hab : a < b := by (first | decide | omega)) (hg : gdB ops E g = some (bb,want) := by rfl) (hbb : bb = want := by (first | with_reducible rfl | with_reducible assumption | with_reducible exact Bool.not_false | with_reducible exact Bool.not_true)) (hd : Nat.blt n N = true := by rfl) (h : Sw Tryz.prog N av bor w0 ops rest ⟨(n,.bool true) :: E,loc,X⟩ k) :
    Sw Tryz.prog N av bor w0 ops (⟨some n,.binOp .lss t x y t2,ty,pos,af,g⟩ :: rest) ⟨E,loc,X⟩ k := sy_lss (hx:=hx) (hy:=hy) (hg:=hg) (hbb:=hbb) (hd:=hd) (h:=by
      have e : ∀ u,u = Value.bool true → Sw Tryz.prog N av bor w0 ops rest ⟨(n,u) :: E,loc,X⟩ k := fun u hu => hu ▸ h
      exact e _ (by simp [hab]))
theorem sw_permB {x : Operand} {xs : List Operand} {ats : Array TypeId} {f : FuncId} {args : List Value} {s : SlV} {P Q : List PostD} (hQ : Q.Perm P)
    (hx : ev E x = some (.func (.func f) #[] #[]) := by rfl) (ha : evs E xs = some args := by rfl) (hg : gdB ops E g = some (bb,want) := by rfl) (hb : bb = want := by (first | with_reducible rfl | with_reducible assumption | with_reducible exact Bool.not_false | with_reducible exact Bool.not_true)) (hd : inB N d = true := by rfl) (hf : FnBody Tryz.prog f := by infer_instance)
    (hc : ∀ Q : List PostD,Q.Perm P → Ct Tryz.prog f args.toArray [postR s Q] (fun _ => True) (PermAt s Q))
    (h : ∀ Q' : List PostD,Q'.Perm P → Sw Tryz.prog N av bor w0 ops rest ⟨putE E d (.tuple #[]), [postR s Q'],X⟩ k) :
    Sw Tryz.prog N av bor w0 ops (⟨d,.call ⟨.value x,xs.toArray,ats⟩,ty,pos,af,g⟩ :: rest) ⟨E, [postR s Q],X⟩ k := sw_permAt hx ha hg hb hd hf (hc Q hQ) fun Q' h1 => h Q' (h1.trans hQ)
end
structure BinI (lo hi : Nat) where
  i : Nat
  j : Nat
  h1 : lo ≤ i
  h2 : i ≤ j
  h3 : j ≤ hi
structure UpI (P : List PostD) (a : Nat) where
  k : Nat
  h1 : a ≤ k
  Q : List PostD
  hQ : Q.Perm P
structure DownI (P : List PostD) (i m : Nat) where
  k : Nat
  h1 : i ≤ k
  h2 : k ≤ m
  Q : List PostD
  hQ : Q.Perm P
structure MerI (a m b mid : Nat) where
  i : Nat
  j : Nat
  h1 : i ≤ j
  h2 : mid < m → mid + m ≤ i + b ∧ j ≤ mid
  h3 : m ≤ mid → a ≤ i ∧ j ≤ m
set_option maxRecDepth 20000 in
set_option maxHeartbeats 8000000 in
theorem symMerge_ct : ∀ (d : Nat) (s : SlV) (P : List PostD) (a m b : Nat),b - a ≤ d → s.n = P.length → s.n ≤ 1000000 → a < m → m < b → b ≤ s.n →
    Ct Tryz.prog 175 #[s.v,.int .i64 (a : Nat),.int .i64 (m : Nat),.int .i64 (b : Nat),cmpF] [postR s P] (fun _ => True) (PermAt s P)
  | 0,s,P,a,m,b,hd,hs,hm,ha,hb,hbs => absurd hd (by omega)
  | d + 1,s,P,a,m,b,hd,hs,hm,ha,hb,hbs => by
    have ih := symMerge_ct d
    have hP : P.Perm P := List.Perm.refl P
    refine ct_of_cw (args:=[_,_,_,_,_]) _ Tryz.func175 rfl Tryz.ntmps175 rfl fun av bor w0 => ?_
    refine cw_knowR (r:=postR s P) List.mem_cons_self (p:=0 < s.n → s.p.isSome = true) (fun w h hn => orow_some h hn) fun hp => ?_
    have hp' := hp (by omega)
    by_cases hA : m - a = 1
    · repeat' (first | refine sy_subN (hq:=by omega) (h:=?_) | refine sy_eqlT (hab:=by omega) (h:=?_) | apply sw_nil | apply cw_seq | apply cw_reg | refine sy_move (h:=?_) | refine sy_assign (h:=?_) | refine cw_cond_t (ht:=?_) | apply cw_block | fail)
      refine cw_loop (ι:=BinI m b) (fun r => ⟨[(0,s.v),(1,.int .i64 (a : Nat)),(4,cmpF),(10,.int .i64 (r.i : Nat)),(11,.int .i64 (r.j : Nat))], [postR s P],fun _ => True⟩) (fun r => r.j - r.i) ⟨m,b,by omega,by omega,by omega⟩ (ok_sub ⟨rfl,rfl,rfl,rfl,rfl,trivial⟩ (List.Sublist.refl _) fun _ h => h) fun r => ?_
      obtain ⟨i,j,h1,h2,h3⟩ := r
      simp only
      repeat' (first | refine sy_addN (hq:=by omega) (h:=?_) | refine sy_toU (hq:=by omega) (h:=?_) | refine sy_shrN (h:=?_) | refine sy_toI (hq:=by omega) (h:=?_) | apply sw_nil | apply cw_seq | apply cw_reg | refine sy_move (h:=?_) | refine sy_assign (h:=?_) | refine sy_lss (h:=?_) | apply cw_skip | apply cw_block | apply cw_exit | (refine cw_cond (ht:=?_) (hf:=?_);all_goals (intro hx_;first | have := of_decide_eq_true hx_ | have := of_decide_eq_false hx_)))
      · have hlt : i < j := by omega
        obtain ⟨x,hx⟩ : ∃ x,P[(i + j) / 2]? = some x := ⟨_,List.getElem?_eq_getElem (by omega)⟩
        obtain ⟨y,hy⟩ : ∃ y,P[a]? = some y := ⟨_,List.getElem?_eq_getElem (by omega)⟩
        have hcm := cmp_pu x y
        generalize cmpB x.id y.id = z at *
        unfold cmpF
        (refine cw_draw [] (fun _ => True) (by kernel_rfl) ?_)
        all_goals (refine aw_take 0 (h:=?_))
        all_goals (refine aw_take 1 (h:=?_))
        all_goals (refine aw_take 2 (h:=?_))
        all_goals (refine aw_take 3 (hy:=by (apply y_idxX (q:=((i + j) / 2) * 11);rfl;rfl;omega;omega;assumption;(rfl))) (h:=?_))
        all_goals (refine aw_take 5 (h:=?_))
        all_goals (refine aw_take 6 (h:=?_))
        all_goals (refine aw_take 7 (hy:=by (apply y_idxX (q:=(a) * 11);rfl;rfl;omega;omega;assumption;(rfl))) (h:=?_))
        all_goals (refine aw_two 4 8 (h:=?_) (h':=?_);(focus (((refine sw_yield (y_ldP (i:=(i + j) / 2) (P:=P) rfl List.mem_cons_self (by omega) hx) rfl rfl rfl ?_);apply sw_nil;refine aw_fin (h:=?_));all_goals ((refine aw_step 8 (h:=?_);(refine sw_yield (y_ldP (i:=a) (P:=P) rfl List.mem_cons_self (by omega) hy) rfl rfl rfl ?_);apply sw_nil;refine aw_fin (h:=?_));all_goals (refine aw_step 9 (h:=?_);(refine sw_pu (hc:=hcm) (hX:=fun _ _ => trivial) (h:=?_));apply sw_nil;refine aw_fin (h:=?_));all_goals (refine aw_take 10 (h:=?_));all_goals (refine aw_done (h:=?_)))));rotate_right;(focus (((refine sw_yield (y_ldP (i:=a) (P:=P) rfl List.mem_cons_self (by omega) hy) rfl rfl rfl ?_);apply sw_nil;refine aw_fin (h:=?_));all_goals ((refine aw_step 4 (h:=?_);(refine sw_yield (y_ldP (i:=(i + j) / 2) (P:=P) rfl List.mem_cons_self (by omega) hx) rfl rfl rfl ?_);apply sw_nil;refine aw_fin (h:=?_));all_goals (refine aw_step 9 (h:=?_);(refine sw_pu (hc:=hcm) (hX:=fun _ _ => trivial) (h:=?_));apply sw_nil;refine aw_fin (h:=?_));all_goals (refine aw_take 10 (h:=?_));all_goals (refine aw_done (h:=?_))))))
        all_goals
          repeat' (first | refine sy_addN (q:=1) (hq:=by omega) (h:=?_) | apply sw_nil | apply cw_reg | refine sy_move (h:=?_) | refine sy_assign (h:=?_) | (refine cw_cond (ht:=?_) (hf:=?_);all_goals (intro hx_;first | have := of_decide_eq_true hx_ | have := of_decide_eq_false hx_)))
          · exact ⟨(⟨(i + j) / 2 + 1,j,by omega,by omega,h3⟩ : BinI m b),(by show j - ((i + j) / 2 + 1) < j - i;omega),ok_sub ⟨rfl,rfl,rfl,rfl,rfl,trivial⟩ (List.Sublist.refl _) fun _ h => h⟩
          · exact ⟨(⟨i,(i + j) / 2,h1,by omega,by omega⟩ : BinI m b),(by show (i + j) / 2 - i < j - i;omega),ok_sub ⟨rfl,rfl,rfl,rfl,rfl,trivial⟩ (List.Sublist.refl _) fun _ h => h⟩
      · refine cw_loop (ι:=UpI P a) (fun r => ⟨[(0,s.v),(10,.int .i64 (i : Nat)),(13,.int .i64 (r.k : Nat))], [postR s r.Q],fun _ => True⟩) (fun r => i - r.k) ⟨a,Nat.le_refl _,P,hP⟩ (ok_sub ⟨rfl,rfl,rfl,trivial⟩ (List.Sublist.refl _) fun _ h => h) fun r => ?_
        obtain ⟨k,h4,Q,hQ⟩ := r
        simp only
        have hl := hQ.length_eq
        repeat' (first | refine sy_subN (q:=1) (hq:=by omega) (h:=?_) | apply sw_nil | apply cw_seq | apply cw_reg | refine sy_move (h:=?_) | refine sy_lss (h:=?_) | apply cw_skip | apply cw_block | apply cw_ret | apply cw_exit | (refine cw_cond (ht:=?_) (hf:=?_);all_goals (intro hx_;first | have := of_decide_eq_true hx_ | have := of_decide_eq_false hx_)))
        · have hlt : k + 1 < i := by omega
          obtain ⟨x,hx⟩ : ∃ x,Q[k]? = some x := ⟨_,List.getElem?_eq_getElem (by omega)⟩
          obtain ⟨y,hy⟩ : ∃ y,Q[k + 1]? = some y := ⟨_,List.getElem?_eq_getElem (by omega)⟩
          (refine cw_draw [] (fun _ => True) (by kernel_rfl) ?_)
          all_goals (refine aw_take 0 (h:=?_))
          all_goals (refine aw_take 1 (h:=?_))
          all_goals (refine aw_take 2 (h:=?_))
          all_goals (refine aw_take 3 (h:=?_))
          all_goals (refine aw_take 4 (h:=?_))
          all_goals (refine aw_take 5 (h:=?_))
          all_goals (refine aw_take 6 (h:=?_))
          all_goals (refine aw_take 7 (h:=?_))
          all_goals (refine aw_take 8 (hy:=by (apply y_idxX (q:=(k + 1) * 11);rfl;rfl;omega;omega;assumption;(rfl))) (h:=?_))
          all_goals (refine aw_take 10 (h:=?_))
          all_goals (refine aw_take 11 (h:=?_))
          all_goals (refine aw_take 12 (hy:=by (apply y_idxX (q:=(k) * 11);rfl;rfl;omega;omega;assumption;(rfl))) (h:=?_))
          all_goals (refine aw_two 9 13 (h:=?_) (h':=?_);(focus (((refine sw_yield (y_ldP (i:=k + 1) (P:=Q) rfl List.mem_cons_self (by omega) hy) rfl rfl rfl ?_);apply sw_nil;refine aw_fin (h:=?_));all_goals ((refine aw_step 13 (h:=?_);(refine sw_yield (y_ldP (i:=k) (P:=Q) rfl List.mem_cons_self (by omega) hx) rfl rfl rfl ?_);apply sw_nil;refine aw_fin (h:=?_));all_goals (refine aw_take 14 (hy:=by (apply y_idxX (q:=(k) * 11);rfl;rfl;omega;omega;assumption;(rfl))) (h:=?_));all_goals (refine aw_step 15 (h:=?_);(refine sw_stP (i:=k) (p:=y) rfl rfl (by omega) (by omega) (At.here _) rfl (by (with_reducible rfl)) rfl ?_);apply sw_nil;refine aw_fin (h:=?_));all_goals (refine aw_take 16 (hy:=by (apply y_idxX (q:=(k + 1) * 11);rfl;rfl;omega;omega;assumption;(rfl))) (h:=?_));all_goals (refine aw_step 17 (h:=?_);(refine sw_stP (i:=k + 1) (p:=x) rfl rfl (by omega) (by (simp only [List.length_set];omega)) (At.here _) rfl (by (with_reducible rfl)) rfl ?_);apply sw_nil;refine aw_fin (h:=?_));all_goals (refine aw_done (h:=?_)))));rotate_right;(focus (((refine sw_yield (y_ldP (i:=k) (P:=Q) rfl List.mem_cons_self (by omega) hx) rfl rfl rfl ?_);apply sw_nil;refine aw_fin (h:=?_));all_goals ((refine aw_step 9 (h:=?_);(refine sw_yield (y_ldP (i:=k + 1) (P:=Q) rfl List.mem_cons_self (by omega) hy) rfl rfl rfl ?_);apply sw_nil;refine aw_fin (h:=?_));all_goals (refine aw_take 14 (hy:=by (apply y_idxX (q:=(k) * 11);rfl;rfl;omega;omega;assumption;(rfl))) (h:=?_));all_goals (refine aw_step 15 (h:=?_);(refine sw_stP (i:=k) (p:=y) rfl rfl (by omega) (by omega) (At.here _) rfl (by (with_reducible rfl)) rfl ?_);apply sw_nil;refine aw_fin (h:=?_));all_goals (refine aw_take 16 (hy:=by (apply y_idxX (q:=(k + 1) * 11);rfl;rfl;omega;omega;assumption;(rfl))) (h:=?_));all_goals (refine aw_step 17 (h:=?_);(refine sw_stP (i:=k + 1) (p:=x) rfl rfl (by omega) (by (simp only [List.length_set];omega)) (At.here _) rfl (by (with_reducible rfl)) rfl ?_);apply sw_nil;refine aw_fin (h:=?_));all_goals (refine aw_done (h:=?_))))))
          all_goals
            repeat' (first | refine sy_addN (q:=1) (hq:=by omega) (h:=?_) | apply sw_nil | apply cw_reg | refine sy_move (h:=?_) | refine sy_assign (h:=?_) | fail)
            exact ⟨(⟨k + 1,by omega,(Q.set k y).set (k + 1) x,(swap_perm hx hy).trans hQ⟩ : UpI P a),(by show i - (k + 1) < i - k;omega),ok_sub ⟨rfl,rfl,rfl,trivial⟩ (List.Sublist.refl _) fun _ h => h⟩
        · exact ends_ret (res_none rfl) ⟨rfl,Q,hQ,rfl⟩
    · by_cases hB : b - m = 1
      · repeat' (first | refine sy_subN (hq:=by omega) (h:=?_) | refine sy_eqlT (hab:=by omega) (h:=?_) | refine sy_eqlF (hab:=by omega) (h:=?_) | apply sw_nil | apply cw_seq | apply cw_reg | refine sy_move (h:=?_) | refine sy_assign (h:=?_) | refine cw_cond_t (ht:=?_) | refine cw_cond_f (hf:=?_) | apply cw_skip | apply cw_block | fail)
        refine cw_loop (ι:=BinI a m) (fun r => ⟨[(0,s.v),(2,.int .i64 (m : Nat)),(4,cmpF),(14,.int .i64 (r.i : Nat)),(15,.int .i64 (r.j : Nat))], [postR s P],fun _ => True⟩) (fun r => r.j - r.i) ⟨a,m,by omega,by omega,by omega⟩ (ok_sub ⟨rfl,rfl,rfl,rfl,rfl,trivial⟩ (List.Sublist.refl _) fun _ h => h) fun r => ?_
        obtain ⟨i,j,h1,h2,h3⟩ := r
        simp only
        repeat' (first | refine sy_addN (hq:=by omega) (h:=?_) | refine sy_toU (hq:=by omega) (h:=?_) | refine sy_shrN (h:=?_) | refine sy_toI (hq:=by omega) (h:=?_) | apply sw_nil | apply cw_seq | apply cw_reg | refine sy_move (h:=?_) | refine sy_assign (h:=?_) | refine sy_lss (h:=?_) | apply cw_skip | apply cw_block | apply cw_exit | (refine cw_cond (ht:=?_) (hf:=?_);all_goals (intro hx_;first | have := of_decide_eq_true hx_ | have := of_decide_eq_false hx_)))
        · have hlt : i < j := by omega
          obtain ⟨x,hx⟩ : ∃ x,P[m]? = some x := ⟨_,List.getElem?_eq_getElem (by omega)⟩
          obtain ⟨y,hy⟩ : ∃ y,P[(i + j) / 2]? = some y := ⟨_,List.getElem?_eq_getElem (by omega)⟩
          have hcm := cmp_pu x y
          generalize cmpB x.id y.id = z at *
          unfold cmpF
          (refine cw_draw [] (fun _ => True) (by kernel_rfl) ?_)
          all_goals (refine aw_take 0 (h:=?_))
          all_goals (refine aw_take 1 (h:=?_))
          all_goals (refine aw_take 2 (h:=?_))
          all_goals (refine aw_take 3 (hy:=by (apply y_idxX (q:=(m) * 11);rfl;rfl;omega;omega;assumption;(rfl))) (h:=?_))
          all_goals (refine aw_take 5 (h:=?_))
          all_goals (refine aw_take 6 (h:=?_))
          all_goals (refine aw_take 7 (hy:=by (apply y_idxX (q:=((i + j) / 2) * 11);rfl;rfl;omega;omega;assumption;(rfl))) (h:=?_))
          all_goals (refine aw_two 4 8 (h:=?_) (h':=?_);(focus (((refine sw_yield (y_ldP (i:=m) (P:=P) rfl List.mem_cons_self (by omega) hx) rfl rfl rfl ?_);apply sw_nil;refine aw_fin (h:=?_));all_goals ((refine aw_step 8 (h:=?_);(refine sw_yield (y_ldP (i:=(i + j) / 2) (P:=P) rfl List.mem_cons_self (by omega) hy) rfl rfl rfl ?_);apply sw_nil;refine aw_fin (h:=?_));all_goals (refine aw_step 9 (h:=?_);(refine sw_pu (hc:=hcm) (hX:=fun _ _ => trivial) (h:=?_));apply sw_nil;refine aw_fin (h:=?_));all_goals (refine aw_take 10 (h:=?_));all_goals (refine aw_take 11 (h:=?_));all_goals (refine aw_done (h:=?_)))));rotate_right;(focus (((refine sw_yield (y_ldP (i:=(i + j) / 2) (P:=P) rfl List.mem_cons_self (by omega) hy) rfl rfl rfl ?_);apply sw_nil;refine aw_fin (h:=?_));all_goals ((refine aw_step 4 (h:=?_);(refine sw_yield (y_ldP (i:=m) (P:=P) rfl List.mem_cons_self (by omega) hx) rfl rfl rfl ?_);apply sw_nil;refine aw_fin (h:=?_));all_goals (refine aw_step 9 (h:=?_);(refine sw_pu (hc:=hcm) (hX:=fun _ _ => trivial) (h:=?_));apply sw_nil;refine aw_fin (h:=?_));all_goals (refine aw_take 10 (h:=?_));all_goals (refine aw_take 11 (h:=?_));all_goals (refine aw_done (h:=?_))))))
          all_goals
            repeat' (first | refine sy_addN (q:=1) (hq:=by omega) (h:=?_) | apply sw_nil | apply cw_reg | refine sy_move (h:=?_) | refine sy_assign (h:=?_) | (refine cw_cond (ht:=?_) (hf:=?_);all_goals (intro hx_;skip)))
            · exact ⟨(⟨(i + j) / 2 + 1,j,by omega,by omega,h3⟩ : BinI a m),(by show j - ((i + j) / 2 + 1) < j - i;omega),ok_sub ⟨rfl,rfl,rfl,rfl,rfl,trivial⟩ (List.Sublist.refl _) fun _ h => h⟩
            · exact ⟨(⟨i,(i + j) / 2,h1,by omega,by omega⟩ : BinI a m),(by show (i + j) / 2 - i < j - i;omega),ok_sub ⟨rfl,rfl,rfl,rfl,rfl,trivial⟩ (List.Sublist.refl _) fun _ h => h⟩
        · refine cw_loop (ι:=DownI P i m) (fun r => ⟨[(0,s.v),(14,.int .i64 (i : Nat)),(17,.int .i64 (r.k : Nat))], [postR s r.Q],fun _ => True⟩) (fun r => r.k) ⟨m,by omega,Nat.le_refl _,P,hP⟩ (ok_sub ⟨rfl,rfl,rfl,trivial⟩ (List.Sublist.refl _) fun _ h => h) fun r => ?_
          obtain ⟨k,h4,h5,Q,hQ⟩ := r
          simp only
          have hl := hQ.length_eq
          repeat' (first | apply sw_nil | apply cw_seq | apply cw_reg | refine sy_move (h:=?_) | refine sy_gtr (h:=?_) | apply cw_skip | apply cw_block | apply cw_ret | apply cw_exit | (refine cw_cond (ht:=?_) (hf:=?_);all_goals (intro hx_;first | have := of_decide_eq_true hx_ | have := of_decide_eq_false hx_)))
          · have hlt : i < k := by omega
            obtain ⟨x,hx⟩ : ∃ x,Q[k]? = some x := ⟨_,List.getElem?_eq_getElem (by omega)⟩
            obtain ⟨y,hy⟩ : ∃ y,Q[k - 1]? = some y := ⟨_,List.getElem?_eq_getElem (by omega)⟩
            (refine cw_draw [] (fun _ => True) (by kernel_rfl) ?_)
            all_goals (refine aw_take 0 (h:=?_))
            all_goals (refine aw_take 1 (h:=?_))
            all_goals (refine aw_take 2 (h:=?_))
            all_goals (refine aw_take 3 (h:=?_))
            all_goals (refine aw_take 4 (h:=?_))
            all_goals (refine aw_take 5 (h:=?_))
            all_goals (refine aw_take 6 (h:=?_))
            all_goals (refine aw_take 7 (h:=?_))
            all_goals (refine aw_take 8 (hy:=by (apply y_idxX (q:=(k - 1) * 11);rfl;rfl;omega;omega;assumption;(omega))) (h:=?_))
            all_goals (refine aw_take 10 (h:=?_))
            all_goals (refine aw_take 11 (h:=?_))
            all_goals (refine aw_take 12 (hy:=by (apply y_idxX (q:=(k) * 11);rfl;rfl;omega;omega;assumption;(rfl))) (h:=?_))
            all_goals (refine aw_two 9 13 (h:=?_) (h':=?_);(focus (((refine sw_yield (y_ldP (i:=k - 1) (P:=Q) rfl List.mem_cons_self (by omega) hy) rfl rfl rfl ?_);apply sw_nil;refine aw_fin (h:=?_));all_goals ((refine aw_step 13 (h:=?_);(refine sw_yield (y_ldP (i:=k) (P:=Q) rfl List.mem_cons_self (by omega) hx) rfl rfl rfl ?_);apply sw_nil;refine aw_fin (h:=?_));all_goals (refine aw_take 14 (hy:=by (apply y_idxX (q:=(k) * 11);rfl;rfl;omega;omega;assumption;(rfl))) (h:=?_));all_goals (refine aw_step 15 (h:=?_);(refine sw_stP (i:=k) (p:=y) rfl rfl (by omega) (by omega) (At.here _) rfl (by (with_reducible rfl)) rfl ?_);apply sw_nil;refine aw_fin (h:=?_));all_goals (refine aw_take 16 (hy:=by (apply y_idxX (q:=(k - 1) * 11);rfl;rfl;omega;omega;assumption;(omega))) (h:=?_));all_goals (refine aw_step 17 (h:=?_);(refine sw_stP (i:=k - 1) (p:=x) rfl rfl (by omega) (by (simp only [List.length_set];omega)) (At.here _) rfl (by (with_reducible rfl)) rfl ?_);apply sw_nil;refine aw_fin (h:=?_));all_goals (refine aw_done (h:=?_)))));rotate_right;(focus (((refine sw_yield (y_ldP (i:=k) (P:=Q) rfl List.mem_cons_self (by omega) hx) rfl rfl rfl ?_);apply sw_nil;refine aw_fin (h:=?_));all_goals ((refine aw_step 9 (h:=?_);(refine sw_yield (y_ldP (i:=k - 1) (P:=Q) rfl List.mem_cons_self (by omega) hy) rfl rfl rfl ?_);apply sw_nil;refine aw_fin (h:=?_));all_goals (refine aw_take 14 (hy:=by (apply y_idxX (q:=(k) * 11);rfl;rfl;omega;omega;assumption;(rfl))) (h:=?_));all_goals (refine aw_step 15 (h:=?_);(refine sw_stP (i:=k) (p:=y) rfl rfl (by omega) (by omega) (At.here _) rfl (by (with_reducible rfl)) rfl ?_);apply sw_nil;refine aw_fin (h:=?_));all_goals (refine aw_take 16 (hy:=by (apply y_idxX (q:=(k - 1) * 11);rfl;rfl;omega;omega;assumption;(omega))) (h:=?_));all_goals (refine aw_step 17 (h:=?_);(refine sw_stP (i:=k - 1) (p:=x) rfl rfl (by omega) (by (simp only [List.length_set];omega)) (At.here _) rfl (by (with_reducible rfl)) rfl ?_);apply sw_nil;refine aw_fin (h:=?_));all_goals (refine aw_done (h:=?_))))))
            all_goals
              repeat' (first | refine sy_subN (q:=1) (hq:=by omega) (h:=?_) | apply sw_nil | apply cw_reg | refine sy_move (h:=?_) | refine sy_assign (h:=?_) | fail)
              exact ⟨(⟨k - 1,by omega,by omega,(Q.set k y).set (k - 1) x,(swap_perm hx hy).trans hQ⟩ : DownI P i m),(by show k - 1 < k;omega),ok_sub ⟨rfl,rfl,rfl,trivial⟩ (List.Sublist.refl _) fun _ h => h⟩
          · exact ends_ret (res_none rfl) ⟨rfl,Q,hQ,rfl⟩
      · obtain ⟨mid,hmid⟩ : ∃ mid,mid = (a + b) / 2 := ⟨_,rfl⟩
        have hm1 : a < mid := by omega
        have hm2 : mid < b := by omega
        have hm3 : 2 * mid ≤ a + b := by omega
        have hm4 : a + b ≤ 2 * mid + 1 := by omega
        by_cases hmm : mid < m
        all_goals
          repeat' (first | refine sy_eqlF (hab:=by omega) (h:=?_) | refine sy_gtrT (hab:=by omega) (h:=?_) | refine sy_gtrF (hab:=by omega) (h:=?_) | refine sy_subN (q:=1) (hq:=by omega) (h:=?_) | refine sy_subN (hq:=by omega) (h:=?_) | refine sy_addN (hq:=by omega) (h:=?_) | refine sy_toU (hq:=by omega) (h:=?_) | refine sy_shrN (h:=?_) | refine sy_toI (hq:=by omega) (h:=?_) | apply sw_nil | apply cw_seq | apply cw_reg | refine sy_move (h:=?_) | refine sy_assign (h:=?_) | refine cw_cond_t (ht:=?_) | refine cw_cond_f (hf:=?_) | apply cw_skip | apply cw_block | fail)
          rw [← hmid]
          first
            | refine cw_loop (ι:=MerI a m b mid) (fun r => ⟨[(0,s.v),(1,.int .i64 (a : Nat)),(2,.int .i64 (m : Nat)),(3,.int .i64 (b : Nat)),(4,cmpF),(18,.int .i64 (mid : Nat)),(19,.int .i64 ((mid + m : Nat) : Int)),(20,.int .i64 (r.i : Nat)),(21,.int .i64 (r.j : Nat)),(22,.int .i64 ((mid + m - 1 : Nat) : Int))], [postR s P],fun _ => True⟩) (fun r => r.j - r.i) ⟨mid + m - b,mid,by omega,by omega,by omega⟩ (ok_sub ⟨rfl,rfl,rfl,rfl,rfl,rfl,rfl,rfl,rfl,rfl,trivial⟩ (List.Sublist.refl _) fun _ h => h) fun r => ?_
            | refine cw_loop (ι:=MerI a m b mid) (fun r => ⟨[(0,s.v),(1,.int .i64 (a : Nat)),(2,.int .i64 (m : Nat)),(3,.int .i64 (b : Nat)),(4,cmpF),(18,.int .i64 (mid : Nat)),(19,.int .i64 ((mid + m : Nat) : Int)),(20,.int .i64 (r.i : Nat)),(21,.int .i64 (r.j : Nat)),(22,.int .i64 ((mid + m - 1 : Nat) : Int))], [postR s P],fun _ => True⟩) (fun r => r.j - r.i) ⟨a,m,by omega,by omega,by omega⟩ (ok_sub ⟨rfl,rfl,rfl,rfl,rfl,rfl,rfl,rfl,rfl,rfl,trivial⟩ (List.Sublist.refl _) fun _ h => h) fun r => ?_
          obtain ⟨i,j,h1,h2,h3⟩ := r
          simp only
          have hk1 : a ≤ i := by omega
          have hk2 : j ≤ m := by omega
          have hk3 : i ≤ mid + m := by omega
          by_cases hij : i < j
          · have hk4 : (i + j) / 2 < j := by omega
            have hk5 : i ≤ (i + j) / 2 := by omega
            have hk6 : (i + j) / 2 ≤ mid + m - 1 := by omega
            have hk7 : mid + m - 1 - (i + j) / 2 < b := by omega
            repeat' (first | refine sy_lssT (hab:=by omega) (h:=?_) | refine sy_addN (hq:=by omega) (h:=?_) | refine sy_toU (hq:=by omega) (h:=?_) | refine sy_shrN (h:=?_) | refine sy_toI (hq:=by omega) (h:=?_) | apply sw_nil | apply cw_seq | apply cw_reg | refine sy_move (h:=?_) | refine sy_assign (h:=?_) | refine cw_cond_t (ht:=?_) | apply cw_skip | apply cw_block | fail)
            obtain ⟨x,hx⟩ : ∃ x,P[mid + m - 1 - (i + j) / 2]? = some x := ⟨_,List.getElem?_eq_getElem (by omega)⟩
            obtain ⟨y,hy⟩ : ∃ y,P[(i + j) / 2]? = some y := ⟨_,List.getElem?_eq_getElem (by omega)⟩
            have hcm := cmp_pu x y
            generalize cmpB x.id y.id = z at *
            unfold cmpF
            (refine cw_draw [] (fun _ => True) (by kernel_rfl) ?_)
            all_goals (refine aw_take 0 (h:=?_))
            all_goals (refine aw_take 1 (h:=?_))
            all_goals (refine aw_take 2 (h:=?_))
            all_goals (refine aw_take 3 (h:=?_))
            all_goals (refine aw_take 4 (h:=?_))
            all_goals (refine aw_take 5 (hy:=by (apply y_idxX (q:=(mid + m - 1 - (i + j) / 2) * 11);rfl;rfl;omega;omega;assumption;(omega))) (h:=?_))
            all_goals (refine aw_take 7 (h:=?_))
            all_goals (refine aw_take 8 (h:=?_))
            all_goals (refine aw_take 9 (hy:=by (apply y_idxX (q:=((i + j) / 2) * 11);rfl;rfl;omega;omega;assumption;(rfl))) (h:=?_))
            all_goals (refine aw_two 6 10 (h:=?_) (h':=?_);(focus (((refine sw_yield (y_ldP (i:=mid + m - 1 - (i + j) / 2) (P:=P) rfl List.mem_cons_self (by omega) hx) rfl rfl rfl ?_);apply sw_nil;refine aw_fin (h:=?_));all_goals ((refine aw_step 10 (h:=?_);(refine sw_yield (y_ldP (i:=(i + j) / 2) (P:=P) rfl List.mem_cons_self (by omega) hy) rfl rfl rfl ?_);apply sw_nil;refine aw_fin (h:=?_));all_goals (refine aw_step 11 (h:=?_);(refine sw_pu (hc:=hcm) (hX:=fun _ _ => trivial) (h:=?_));apply sw_nil;refine aw_fin (h:=?_));all_goals (refine aw_take 12 (h:=?_));all_goals (refine aw_take 13 (h:=?_));all_goals (refine aw_done (h:=?_)))));rotate_right;(focus (((refine sw_yield (y_ldP (i:=(i + j) / 2) (P:=P) rfl List.mem_cons_self (by omega) hy) rfl rfl rfl ?_);apply sw_nil;refine aw_fin (h:=?_));all_goals ((refine aw_step 6 (h:=?_);(refine sw_yield (y_ldP (i:=mid + m - 1 - (i + j) / 2) (P:=P) rfl List.mem_cons_self (by omega) hx) rfl rfl rfl ?_);apply sw_nil;refine aw_fin (h:=?_));all_goals (refine aw_step 11 (h:=?_);(refine sw_pu (hc:=hcm) (hX:=fun _ _ => trivial) (h:=?_));apply sw_nil;refine aw_fin (h:=?_));all_goals (refine aw_take 12 (h:=?_));all_goals (refine aw_take 13 (h:=?_));all_goals (refine aw_done (h:=?_))))))
            all_goals
              repeat' (first | refine sy_addN (q:=1) (hq:=by omega) (h:=?_) | apply sw_nil | apply cw_reg | refine sy_move (h:=?_) | refine sy_assign (h:=?_) | (refine cw_cond (ht:=?_) (hf:=?_);all_goals (intro hx_;skip)))
              · exact ⟨(⟨(i + j) / 2 + 1,j,by omega,by omega,by omega⟩ : MerI a m b mid),(by show j - ((i + j) / 2 + 1) < j - i;omega),ok_sub ⟨rfl,rfl,rfl,rfl,rfl,rfl,rfl,rfl,rfl,rfl,trivial⟩ (List.Sublist.refl _) fun _ h => h⟩
              · exact ⟨(⟨i,(i + j) / 2,by omega,by omega,by omega⟩ : MerI a m b mid),(by show (i + j) / 2 - i < j - i;omega),ok_sub ⟨rfl,rfl,rfl,rfl,rfl,rfl,rfl,rfl,rfl,rfl,trivial⟩ (List.Sublist.refl _) fun _ h => h⟩
          · have hk8 : mid + m - i ≤ b := by omega
            have hnl : ¬ (i : Int) < (j : Int) := by omega
            repeat' (first | refine sy_lssF (hab:=by first | exact hnl | omega) (h:=?_) | refine sy_lssT (hab:=by omega) (h:=?_) | refine sy_subN (hq:=by omega) (h:=?_) | apply sw_nil | apply cw_seq | apply cw_reg | refine sy_move (h:=?_) | refine sy_assign (h:=?_) | refine sy_pick_t (h:=?_) | refine sy_pick_f (h:=?_) | refine sy_lss (h:=?_) | refine sw_skipT (h:=?_) | refine cw_cond_t (ht:=?_) | refine cw_cond_f (hf:=?_) | apply cw_skip | apply cw_exit | (refine sw_permB (P:=P) (hQ:=by assumption) (hc:=fun Q hQ => rotate_ct s Q i m (mid + m - i) cmpF (hs.trans hQ.length_eq.symm) hm (by omega) (by omega) (by omega)) (h:=fun Q2 hQ2 => ?_)) | (refine sw_permB (P:=P) (hQ:=by assumption) (hc:=fun Q hQ => ih s Q a i mid (by omega) (hs.trans hQ.length_eq.symm) hm (by omega) (by omega) (by omega)) (h:=fun Q2 hQ2 => ?_)) | (refine sw_permB (P:=P) (hQ:=by assumption) (hc:=fun Q hQ => ih s Q mid (mid + m - i) b (by omega) (hs.trans hQ.length_eq.symm) hm (by omega) (by omega) (by omega)) (h:=fun Q2 hQ2 => ?_)) | ((fail_if_success (refine sw_chk (h:=?_)));refine sw_guard (ht:=?_) (hf:=?_);all_goals (intro hx_;first | have := of_decide_eq_true hx_ | have := of_decide_eq_false hx_)) | (refine cw_cond (ht:=?_) (hf:=?_);all_goals (intro hx_;first | have := of_decide_eq_true hx_ | have := of_decide_eq_false hx_)))
            all_goals
              refine ends_end (res_none rfl) ⟨rfl,_, ?_,rfl⟩
              assumption
end Go.Proofs.YtjmpdkmboheknaaGreatDoor

namespace Go.Proofs.YtjmpdkmboheknaaGreatDoor
open Go Go.Proofs Sy
section
variable {N : Nat} {av bor : List Nat} {w0 : World} {ops : Array Oper} {rest : List Oper} {k : St → Prop} {E : Env} {loc : List Res} {X : World → Prop} {ty : TypeId} {pos : String} {af : Array Edge} {g : Option (Nat × Bool)} {bb want : Bool} {n : Nat} {t t2 : TypeId} {x y : Operand}
theorem sy_mulN [hI : TyInt Tryz.prog t .i64] {p q : Nat} (hx : ev E x = some (.int .i64 (p : Nat)) := by rfl) (hy : ev E y = some (.int .i64 (q : Nat)) := by rfl) (hq : p * q < 9223372036854775808) (hg : gdB ops E g = some (bb,want) := by rfl) (hbb : bb = want := by (first | with_reducible rfl | with_reducible assumption | with_reducible exact Bool.not_false | with_reducible exact Bool.not_true)) (hd : Nat.blt n N = true := by rfl) (h : Sw Tryz.prog N av bor w0 ops rest ⟨(n,.int .i64 ((p * q : Nat) : Int)) :: E,loc,X⟩ k) :
    Sw Tryz.prog N av bor w0 ops (⟨some n,.binOp .mul t x y t2,ty,pos,af,g⟩ :: rest) ⟨E,loc,X⟩ k := sy_mul (c:=((p * q : Nat) : Int)) hx hy (by rw [← Int.natCast_mul];exact IntWalk.i64_in _ (by omega)) hg hbb hd h
end
structure StaI (P : List PostD) (n w : Nat) where
  a : Nat
  b : Nat
  h1 : a ≤ n
  h2 : b = a + w
  Q : List PostD
  hQ : Q.Perm P
structure StaO (P : List PostD) (n : Nat) where
  z : Nat
  h1 : 1 ≤ z
  h2 : z ≤ 2 * n + 20
  Q : List PostD
  hQ : Q.Perm P
set_option maxRecDepth 20000 in
set_option maxHeartbeats 8000000 in
theorem stable_ct (s : SlV) (P : List PostD) (hs : s.n = P.length) (hm : s.n ≤ 1000000) : Ct Tryz.prog 109 #[s.v,.int .i64 (s.n : Nat),cmpF] [postR s P] (fun _ => True) (PermAt s P) := by
  have hP : P.Perm P := List.Perm.refl P
  refine ct_of_cw (args:=[_,_,_]) _ Tryz.func109 rfl Tryz.ntmps109 rfl fun av bor w0 => ?_
  repeat' (first | apply sw_nil | apply cw_seq | apply cw_reg | refine sy_move (h:=?_) | refine sy_assign (h:=?_) | apply cw_block | fail)
  refine cw_loop (ι:=StaI P s.n 20) (fun r => ⟨[(0,s.v),(1,.int .i64 (s.n : Nat)),(2,cmpF),(6,.int .i64 20),(7,.int .i64 (r.a : Nat)),(8,.int .i64 (r.b : Nat))], [postR s r.Q],fun _ => True⟩) (fun r => s.n - r.a) ⟨0,20,Nat.zero_le _,rfl,P,hP⟩ (ok_sub ⟨rfl,rfl,rfl,rfl,rfl,rfl,trivial⟩ (List.Sublist.refl _) fun _ h => h) fun r => ?_
  obtain ⟨a,b,h1,h2,Q,hQ⟩ := r
  simp only
  repeat' (first | refine sy_addN (q:=20) (hq:=by omega) (h:=?_) | apply sw_nil | apply cw_seq | apply cw_reg | refine sy_move (h:=?_) | refine sy_assign (h:=?_) | refine sy_leq (h:=?_) | apply cw_skip | apply cw_block | apply cw_exit | (refine sw_permB (P:=P) (hQ:=by assumption) (hc:=fun Q hQ => insertion_ct s Q a b (hs.trans hQ.length_eq.symm) hm (by omega) (by omega)) (h:=fun Q2 hQ2 => ?_)) | (refine sw_permB (P:=P) (hQ:=by assumption) (hc:=fun Q hQ => insertion_ct s Q a s.n (hs.trans hQ.length_eq.symm) hm (by omega) (by omega)) (h:=fun Q2 hQ2 => ?_)) | (refine cw_cond (ht:=?_) (hf:=?_);all_goals (intro hx_;first | have := of_decide_eq_true hx_ | have := of_decide_eq_false hx_)))
  · exact ⟨(⟨b,b + 20,by omega,rfl,Q2,hQ2⟩ : StaI P s.n 20),(by show s.n - b < s.n - a;omega),ok_sub ⟨rfl,rfl,rfl,rfl,rfl,rfl,trivial⟩ (List.Sublist.refl _) fun _ h => h⟩
  · refine cw_loop (ι:=StaO P s.n) (fun r => ⟨[(0,s.v),(1,.int .i64 (s.n : Nat)),(2,cmpF),(6,.int .i64 (r.z : Nat))], [postR s r.Q],fun _ => True⟩) (fun r => s.n - r.z) ⟨20,by omega,by omega,Q2,hQ2⟩ (ok_sub ⟨rfl,rfl,rfl,rfl,trivial⟩ (List.Sublist.refl _) fun _ h => h) fun r => ?_
    clear h1 h2 hQ hQ2
    obtain ⟨z,h1,h2,Q,hQ⟩ := r
    simp only
    repeat' (first | refine sy_mulN (p:=2) (hq:=by omega) (h:=?_) | apply sw_nil | apply cw_seq | apply cw_reg | refine sy_move (h:=?_) | refine sy_assign (h:=?_) | refine sy_lss (h:=?_) | apply cw_skip | apply cw_block | apply cw_exit | (refine cw_cond (ht:=?_) (hf:=?_);all_goals (intro hx_;first | have := of_decide_eq_true hx_ | have := of_decide_eq_false hx_)))
    · have hzn : z < s.n := by omega
      refine cw_loop (ι:=StaI P s.n (2 * z)) (fun r => ⟨[(0,s.v),(1,.int .i64 (s.n : Nat)),(2,cmpF),(6,.int .i64 (z : Nat)),(7,.int .i64 (r.a : Nat)),(8,.int .i64 (r.b : Nat))], [postR s r.Q],fun _ => True⟩) (fun r => s.n - r.a) ⟨0,2 * z,Nat.zero_le _,(Nat.zero_add _).symm,Q,hQ⟩ (ok_sub ⟨rfl,rfl,rfl,rfl,rfl,rfl,trivial⟩ (List.Sublist.refl _) fun _ h => h) fun r => ?_
      obtain ⟨a,b,h3,h4,Q3,hQ3⟩ := r
      simp only
      repeat' (first | refine sy_addN (hq:=by omega) (h:=?_) | refine sy_mulN (p:=2) (hq:=by omega) (h:=?_) | refine sy_mulN (q:=2) (hq:=by omega) (h:=?_) | apply sw_nil | apply cw_seq | apply cw_reg | refine sy_move (h:=?_) | refine sy_assign (h:=?_) | refine sy_lss (h:=?_) | refine sy_leq (h:=?_) | apply cw_skip | apply cw_block | apply cw_exit | (refine sw_permB (P:=P) (hQ:=by assumption) (hc:=fun Q hQ => symMerge_ct (b - a) s Q a (a + z) b (Nat.le_refl _) (hs.trans hQ.length_eq.symm) hm (by omega) (by omega) (by omega)) (h:=fun Q2 hQ2 => ?_)) | (refine sw_permB (P:=P) (hQ:=by assumption) (hc:=fun Q hQ => symMerge_ct (s.n - a) s Q a (a + z) s.n (Nat.le_refl _) (hs.trans hQ.length_eq.symm) hm (by omega) (by omega) (by omega)) (h:=fun Q2 hQ2 => ?_)) | (refine cw_cond (ht:=?_) (hf:=?_);all_goals (intro hx_;first | have := of_decide_eq_true hx_ | have := of_decide_eq_false hx_)))
      · exact ⟨(⟨b,b + 2 * z,by omega,rfl,Q2,hQ2⟩ : StaI P s.n (2 * z)),(by show s.n - b < s.n - a;omega),ok_sub ⟨rfl,rfl,rfl,rfl,rfl,rfl,trivial⟩ (List.Sublist.refl _) fun _ h => h⟩
      all_goals
        refine ⟨(⟨z * 2,by omega,by omega,_, ?_⟩ : StaO P s.n),(by show s.n - z * 2 < s.n - z;omega),ok_sub ⟨rfl,rfl,rfl,rfl,trivial⟩ (List.Sublist.refl _) fun _ h => h⟩
        assumption
    · exact ends_end (res_none rfl) ⟨rfl,Q,hQ,rfl⟩
theorem sortStable_ct (s : SlV) (P : List PostD) (hs : s.n = P.length) (hm : s.n ≤ 1000000) : Ct Tryz.prog 61 #[s.v,cmpF] [postR s P] (fun _ => True) (PermAt s P) := by
  have hP : P.Perm P := List.Perm.refl P
  refine ct_of_cw (args:=[_,_]) _ Tryz.func61 rfl Tryz.ntmps61 rfl fun av bor w0 => ?_
  repeat' (first | apply sw_nil | apply cw_reg | refine sy_move (h:=?_) | refine sy_len (h:=?_) | (refine sw_permB (P:=P) (hQ:=by assumption) (hc:=fun Q hQ => stable_ct s Q (hs.trans hQ.length_eq.symm) hm) (h:=fun Q2 hQ2 => ?_)) | fail)
  exact ends_end (res_none rfl) ⟨rfl,Q2,hQ2,rfl⟩
end Go.Proofs.YtjmpdkmboheknaaGreatDoor

namespace Go.Proofs.YtjmpdkmboheknaaGreatDoor
open Go Go.Proofs Sy
theorem postCells_ones (L : List PostD) : ∀ cs ∈ L.map PostD.cells,cs.all (·.oneCell') = true := by
  intro r hr
  obtain ⟨a,_,rfl⟩ := List.mem_map.1 hr
  rfl
def AllAt (l : List ChainD) (u : Value) (X : World → Prop) : Prop := ∃ (s : SlV) (P : List PostD),u = s.v ∧ (P.map PostD.can).Perm (l.flatMap postsV) ∧ P.length ≤ 1000000 ∧ ∀ w,X w → RowsD w 11 s (P.map PostD.cells)
def Behind (w : World) (P : List PostD) : Prop := ∀ p ∈ P,Strs w p.to p.toL ∧ Ints w p.ed p.edL
def AllAtS (l : List ChainD) (u : Value) (X : World → Prop) : Prop := ∃ (s : SlV) (P : List PostD),u = s.v ∧ (P.map PostD.can).Perm (l.flatMap postsV) ∧ P.length ≤ 1000000 ∧ ∀ w,X w → RowsD w 11 s (P.map PostD.cells) ∧ Behind w P
theorem AllAtS.weak {l : List ChainD} {u : Value} {X : World → Prop} (h : AllAtS l u X) : AllAt l u X := by
  obtain ⟨s,P,h1,h2,h3,h4⟩ := h
  exact ⟨s,P,h1,h2,h3,fun w hw => (h4 w hw).1⟩
theorem Behind.nil {w : World} : Behind w [] := fun p hp => (List.not_mem_nil hp).elim
theorem Behind.app {w : World} {P Q : List PostD} (h : Behind w P) (k : Behind w Q) : Behind w (P ++ Q) := fun p hp => (List.mem_append.1 hp).elim (h p) (k p)
structure AllI (l : List ChainD) where
  k : Nat
  hk : k ≤ l.length
  P : List PostD
  hP : P.map PostD.can = (l.take k).flatMap postsV
  hm : P.length ≤ k * 1000
  n : Nat
  hn : n = P.length
  xs : List Value
  hxs : xs = (P.map PostD.cells).flatten
  A : Option Addr
  c : Nat
set_option maxHeartbeats 4000000 in
theorem allP_mkS (s : SlV) (l : List ChainD) (hok : ∀ c ∈ l,ActsOk c.actsL) (hlen : ∀ c ∈ l,c.actsL.length ≤ 1000) (hll : l.length ≤ 1000) : Mk Tryz.prog 26 #[s.v] (fun w => Chains w s l ∧ Glob w) (AllAtS l) := by
  refine mk_of_cw2 (args:=[_]) _ Tryz.func26 rfl Tryz.ntmps26 rfl fun av bor w0 => ?_
  refine cw_know (p:=s.n = l.length ∧ s.n ≤ maxLen ∧ (0 < l.length → s.p.isSome = true)) (fun w h => ⟨h.1.len_,h.1.max_,h.1.some_⟩) fun ⟨hl,hm,hp⟩ => ?_
  simp only [maxLen] at hm
  refine cw_nilRow 26 11 ?_
  repeat' (first | apply sw_nil | apply cw_seq | apply cw_reg | refine sy_move (h:=?_) | refine sy_assign (h:=?_) | refine sy_len (h:=?_) | apply cw_block | fail)
  refine cw_loop (ι:=AllI l) (fun i => ⟨[(3,.slice i.A i.n i.c),(6,s.v),(7,.int .i64 (s.n : Nat)),(8,.int .i64 (i.k : Nat))], [orow 26 11 (.slice i.A i.n i.c) i.n i.xs],fun w => (Chains w s l ∧ Glob w) ∧ Behind w i.P⟩) (fun i => l.length - i.k) ⟨0,Nat.zero_le _, [],rfl,Nat.zero_le _,0,rfl, [],rfl,none,0⟩ (ok_sub ⟨rfl,rfl,rfl,rfl,trivial⟩ (List.Sublist.refl _) fun _ h => ⟨h,Behind.nil⟩) fun i => ?_
  obtain ⟨k,hk,P,hP,hPm,n,hn,xs,hxs,A,cp⟩ := i
  simp only
  repeat' (first | apply sw_nil | apply cw_seq | apply cw_reg | refine sy_move (h:=?_) | refine sy_lss (h:=?_) | apply cw_skip | apply cw_block | apply cw_exit | (refine cw_cond (ht:=?_) (hf:=?_);all_goals (intro hx_;first | have := of_decide_eq_true hx_ | have := of_decide_eq_false hx_)))
  · have hlt : k < l.length := by omega
    have hp' := hp (by omega)
    obtain ⟨c,hc⟩ : ∃ c,l[k]? = some c := ⟨_,List.getElem?_eq_getElem hlt⟩
    have hcm := List.mem_of_getElem? hc
    have hcl := hlen c hcm
    have hof := of_mkS c (hok c hcm) (by omega)
    repeat' (first | apply sw_nil | apply cw_reg | refine sy_move (h:=?_) | refine sy_ldAll (h:=?_) | refine sw_alloc (h:=fun _ => ?_) | refine sw_stAll (h:=?_) | (refine sy_idxX (q:=k * 6) (h:=?_)) | (refine sy_ldXs (cs:=c.cells) (hF:=fun w h => Chains.get h.1.1 hc) (h:=?_)) | fail)
    refine sw_mk (hc:=hof) (hX:=fun w h => ⟨h.1.1.2 c hcm,h.1.2⟩) (h:=fun v1 X1 h1 => ?_)
    obtain ⟨s1,Q,rfl,hQ,hQl,hw⟩ := h1
    refine sw_know (p:=s1.n = Q.length) (fun w h => by simpa using RowsD.len (hw w h.2).1) fun hl1 => ?_
    have hnl : n + s1.n ≤ 1000000 := by omega
    refine sw_append (size:=11) (news:=(Q.map PostD.cells).flatten) (q:=s1.n) rfl rfl rfl rfl (fun _ => At.there _ (At.here _)) (fun w G => src_rows (hw w G.keep.now.2).1 (postCells_ones Q)) (by omega) (by simp only [maxLen];omega) rfl ?_ rfl ?_
    · (with_reducible rfl)
    intro A2 c2
    repeat' (first | apply sw_nil | apply cw_reg | refine sy_move (h:=?_) | refine sy_assign (h:=?_) | refine sy_add (h:=?_) | fail)
    exact ⟨(⟨k + 1,hlt,P ++ Q,by rw [List.map_append,hP,hQ,List.take_add_one,hc,Option.toList_some,List.flatMap_append,List.flatMap_cons,List.flatMap_nil,List.append_nil],by rw [List.length_append];omega,n + s1.n,by rw [List.length_append,hn,hl1],xs ++ (Q.map PostD.cells).flatten,by rw [hxs,List.map_append,List.flatten_append],A2,c2⟩ : AllI l),(by show l.length - (k + 1) < l.length - k;omega),ok_sub ⟨rfl,rfl,rfl,rfl,trivial⟩ (List.Sublist.cons _ (List.Sublist.refl _)) fun w h => ⟨h.1.1,h.1.2.app (hw w h.2).2⟩⟩
  · have hkE : k = l.length := by omega
    subst hn hxs
    have hPb : P.length ≤ 1000000 := by omega
    have hst := sortStable_ct ⟨A,P.length,cp⟩ P rfl hPb
    repeat' (first | apply sw_nil | apply cw_seq | apply cw_reg | refine sy_move (h:=?_) | refine sy_assign (h:=?_) | apply cw_ret | (refine sw_permAt (hc:=hst) (h:=fun Q hQ => ?_)) | fail)
    exact ends_ret (res_tmp rfl rfl) ⟨⟨A,P.length,cp⟩,Q,rfl,by
      have h1 := hQ.map PostD.can
      rw [hP,hkE,List.take_length] at h1
      exact h1,by rw [hQ.length_eq];exact hPb,fun w h => ⟨rows_of_orow (h.2 _ List.mem_cons_self) (by rw [List.length_map];exact hQ.length_eq.symm) (cells11 Q),fun p hp => h.1.2 p (hQ.mem_iff.1 hp)⟩⟩
end Go.Proofs.YtjmpdkmboheknaaGreatDoor

namespace Go.Proofs.YtjmpdkmboheknaaGreatDoor
open Go Go.Proofs Sy
def z0 : SlV := ⟨none,0,0⟩
theorem sign_re {k : KyD} {a : ActD} {s1 s2 : SlV} (h1 : s1.n = a.to.n) (h2 : s2.n = a.wraps.n) (hr : rightB (a.sig SgD.zero) = true) (hk : rightK k = true) : actSignV k (a.re s1 s2) = (actSignV k a).re s1 s2 := by
  have e : rightB ((a.re s1 s2).sig SgD.zero) = rightB (a.sig SgD.zero) := right_re (a:=a.sig SgD.zero) h1 h2
  rw [actSignV,actSignV,e,hr,hk]
  rfl
theorem nk_ru1 : rightB (nkU1.sig SgD.zero) = true := by decide +kernel
theorem nk_ru2 : rightB (nkU2.sig SgD.zero) = true := by decide +kernel
structure TaleC (c : ChainD) (n : Nat) (d : ByteArray) : Prop where
  id : c.id = nkI
  n : c.acts.n = n
  prev : c.prev = d
def a26 : ActD := { ActD.zero with kind := 1 }
def b26 : ActD := { ActD.zero with kind := 14,object := nkD1 }
def one26 : ByteArray := ⟨#[111,110,101]⟩
def two26 : ByteArray := ⟨#[116,119,111]⟩
theorem pub1 {c : ChainD} (h : TaleC c 1 nkD0) (s : SlV) : pubD c a26 one26 s = nkU1.re s z0 := by
  rw [pubD,draftV,h.id,h.n,h.prev];rfl
theorem pub2 {c : ChainD} (h : TaleC c 2 nkD1) (s : SlV) : pubD c b26 two26 s = nkU2.re s z0 := by
  rw [pubD,draftV,h.id,h.n,h.prev];rfl
theorem right1 {s : SlV} (hs : s.n = 0) : rightB (nkU1.re s z0) = true := (right_re (a:=nkU1) hs rfl).trans (by decide +kernel)
theorem right2 {s : SlV} (hs : s.n = 0) : rightB (nkU2.re s z0) = true := (right_re (a:=nkU2) hs rfl).trans (by decide +kernel)
theorem fits1 {c : ChainD} (h : TaleC c 1 nkD0) {s : SlV} (hs : s.n = 0) (o : Option Nat) : fitsV c (nkU1.re s z0) o = true := by
  have e2 : seqB (nkU1.re s z0).author c.id = true := by rw [h.id];exact seqB_self _
  have e3 : decide ((nkU1.re s z0).seq = (c.acts.n : Int)) = true := by rw [h.n];rfl
  have e4 : seqB (nkU1.re s z0).prev c.prev = true := by rw [h.prev];exact seqB_self _
  have e5 : (decide ((nkU1.re s z0).kind = 0) != decide ((c.acts.n : Int) = 0)) = false := by rw [h.n];rfl
  rw [fitsV,right1 hs,e2,e3,e4,e5]
  rfl
theorem fits2 {c : ChainD} (h : TaleC c 2 nkD1) {s : SlV} (hs : s.n = 0) {o : Option Nat} (ha : atK c o postK = true) : fitsV c (nkU2.re s z0) o = true := by
  have e2 : seqB (nkU2.re s z0).author c.id = true := by rw [h.id];exact seqB_self _
  have e3 : decide ((nkU2.re s z0).seq = (c.acts.n : Int)) = true := by rw [h.n];rfl
  have e4 : seqB (nkU2.re s z0).prev c.prev = true := by rw [h.prev];exact seqB_self _
  have e5 : (decide ((nkU2.re s z0).kind = 0) != decide ((c.acts.n : Int) = 0)) = false := by rw [h.n];rfl
  rw [fitsV,right2 hs,e2,e3,e4,e5,ha]
  rfl
theorem nk_rng1 : nkU1.Rng := ⟨by decide +kernel,fun w hw => (List.not_mem_nil hw).elim,rfl,rfl⟩
theorem nk_rng2 : nkU2.Rng := ⟨by decide +kernel,fun w hw => (List.not_mem_nil hw).elim,rfl,rfl⟩
theorem nk_sm1 : nkU1.Sm := ⟨by decide,by decide,by decide⟩
theorem nk_sm2 : nkU2.Sm := ⟨by decide,by decide,by decide⟩
def Posted (b : ActD) (u : Value) (X : World → Prop) : Prop := ∃ s1 s2 : SlV,s1.n = 0 ∧ s2.n = 0 ∧ u = .tuple #[(b.re s1 s2).v,.int .i64 0] ∧ ∀ w,X w → (b.re s1 s2).at_ w
theorem post1_mk {c : ChainD} {kl : List KeyD} (hc : ActsOk c.actsL) (h : TaleC c 1 nkD0) (hown : ownsB nkK c kl = true) :
    Mk Tryz.prog 25 #[nkK.v,c.v,a26.v,.string one26] (fun w => ((c.at_ w ∧ Keyz w c.keys kl) ∧ a26.at_ w) ∧ Glob w) (Posted nkA1) := by
  refine mk_mono (postPub_mk nkK c kl a26 one26 hc rfl rfl rfl rfl hown (fun s hs => by rw [pub1 h];exact right1 hs) (fun s hs => by rw [pub1 h];exact fits1 h hs _) (fun s hs => by rw [pub1 h];exact ⟨rng_reN nk_rng1 hs rfl,sm_reN nk_sm1 hs rfl⟩)) fun u X ⟨s,s1,s2,hs,h1,h2,hu,hw⟩ => ?_
  have e : actSignV nkK (pubD c a26 one26 s) = nkA1.re s z0 := by rw [pub1 h,show actSignV nkK (nkU1.re s z0) = (actSignV nkK nkU1).re s z0 from sign_re (a:=nkU1) hs rfl nk_ru1 nk_right,nks_1]
  rw [e] at h1 h2 hu hw
  exact ⟨s1,s2,h1.trans hs,h2,hu,hw⟩
theorem post2_mk {c : ChainD} {kl : List KeyD} (hc : ActsOk c.actsL) (h : TaleC c 2 nkD1) (ha : atK c (idxV c.actsL nkD1) postK = true) (hown : ownsB nkK c kl = true) :
    Mk Tryz.prog 25 #[nkK.v,c.v,b26.v,.string two26] (fun w => ((c.at_ w ∧ Keyz w c.keys kl) ∧ b26.at_ w) ∧ Glob w) (Posted nkA2) := by
  refine mk_mono (postPub_mk nkK c kl b26 two26 hc rfl rfl rfl rfl hown (fun s hs => by rw [pub2 h];exact right2 hs) (fun s hs => by rw [pub2 h];exact fits2 h hs ha) (fun s hs => by rw [pub2 h];exact ⟨rng_reN nk_rng2 hs rfl,sm_reN nk_sm2 hs rfl⟩)) fun u X ⟨s,s1,s2,hs,h1,h2,hu,hw⟩ => ?_
  have e : actSignV nkK (pubD c b26 two26 s) = nkA2.re s z0 := by rw [pub2 h,show actSignV nkK (nkU2.re s z0) = (actSignV nkK nkU2).re s z0 from sign_re (a:=nkU2) hs rfl nk_ru2 nk_right,nks_2]
  rw [e] at h1 h2 hu hw
  exact ⟨s1,s2,h1.trans hs,h2,hu,hw⟩
def p26 (x1 : ActD) : PostD := { newP nkI 1 x1 with edL := [2] }
theorem dig0 {s1 s2 : SlV} (h1 : s1.n = 0) (h2 : s2.n = 0) : digV (nkA0.re s1 s2) = nkD0 := (dig_re (a:=nkA0) h1 h2).trans nkd_0
theorem dig1 {s1 s2 : SlV} (h1 : s1.n = 0) (h2 : s2.n = 0) : digV (nkA1.re s1 s2) = nkD1 := (dig_re (a:=nkA1) h1 h2).trans nkd_1
theorem idx26 {s1 s2 t1 t2 : SlV} (h1 : s1.n = 0) (h2 : s2.n = 0) (k1 : t1.n = 0) (k2 : t2.n = 0) (l : List ActD) : idxV (nkA0.re s1 s2 :: nkA1.re t1 t2 :: l) nkD1 = some 1 := by
  rw [idxV,List.findIdx?_cons,dig0 h1 h2,nk_ne,List.findIdx?_cons,dig1 k1 k2,seqB_self]
  rfl
theorem posts26 {s1 s2 t1 t2 r1 r2 : SlV} (h1 : s1.n = 0) (h2 : s2.n = 0) (k1 : t1.n = 0) (k2 : t2.n = 0) {c : ChainD} (hid : c.id = nkI) (hl : c.actsL = [nkA0.re s1 s2,nkA1.re t1 t2,nkA2.re r1 r2]) : postsV c = [p26 (nkA1.re t1 t2)] := by
  have e0 : openF c 3 = [newP nkI 1 (nkA1.re t1 t2)] := by
    simp only [openF,hl,hid]
    rfl
  have e3 : ofP c 0 = [newP nkI 1 (nkA1.re t1 t2)] := by rw [ofP,hl];exact e0
  have e4 : ofP c 1 = [newP nkI 1 (nkA1.re t1 t2)] := by rw [ofP,e3,hl];rfl
  have e5 : ofP c 2 = [newP nkI 1 (nkA1.re t1 t2)] := by rw [ofP,e4,hl];rfl
  have er : refV [nkA0.re s1 s2,nkA1.re t1 t2,nkA2.re r1 r2] [newP nkI 1 (nkA1.re t1 t2)] 2 = some 0 := by
    rw [refV,show (([nkA0.re s1 s2,nkA1.re t1 t2,nkA2.re r1 r2] : List ActD).getD 2 ActD.zero).object = nkD1 from rfl,idx26 h1 h2 k1 k2]
    rfl
  have e6 : ofP c 3 = [p26 (nkA1.re t1 t2)] := by
    rw [ofP,e5,hl,stepP,er]
    have eb : editB (nkA2.re r1 r2) (newP nkI 1 (nkA1.re t1 t2)) = true := by
      rw [editB]
      show (!false && decide ((0 : Int) = 0) && seqB ⟨#[]⟩ ⟨#[]⟩ && eqL [] []) = true
      rw [seqB_self,eqL_refl]
      rfl
    show [editP (nkA2.re r1 r2) 2 (newP nkI 1 (nkA1.re t1 t2))] = _
    rw [editP,eb]
    rfl
  rw [postsV,hl]
  exact e6
theorem at26 {s1 s2 t1 t2 : SlV} (h1 : s1.n = 0) (h2 : s2.n = 0) (k1 : t1.n = 0) (k2 : t2.n = 0) {c : ChainD} (hl : c.actsL = [nkA0.re s1 s2,nkA1.re t1 t2]) : atK c (idxV c.actsL nkD1) postK = true := by
  rw [hl,idx26 h1 h2 k1 k2,atK,hl]
  rfl
theorem nkx_ne : seqB nkD1 ⟨#[120]⟩ = false := by decide +kernel
end Go.Proofs.YtjmpdkmboheknaaGreatDoor
