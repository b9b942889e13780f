/- Contract of tally.actors. -/
import Derived.Test.YtlankpiogfhblaaGreatDoorPj
import Derived.Test.YtlankpiogfhblaaGreatDoorMe1
import Derived.Test.YtlankpiogfhblaaGreatDoorRn
import Derived.Test.YtlankpiogfhblaaGreatDoorMf
set_option linter.unusedVariables false
set_option linter.unusedSimpArgs false
namespace Go.Proofs.YtlankpiogfhblaaGreatDoor
open Go Go.Proofs Sy Go.Shelf Go.Maps Go.Sort
theorem keysMS_c : KeysC Tryz.prog 32 47 66 where
  keys := fun mb W => (callsIn_wide (n := 5)).1 (AnyZ.keys_in Tryz.keys_map_string_bool_string_bool Fence.wide 5 trivial rfl mb W)
theorem sortedMS_c : SortedSC Tryz.prog 31 47 9 where
  key := Tryz.underlying9
  sorted := fun w Bm q nn D0 hB hc hown h1 h2 => (callsIn_wide (n := 5)).1 (AnyZ.sorted_in Tryz.sortedS Fence.wide 5 trivial trivial trivial trivial rfl (by omega) (sortsS _) (enters_of Tryz.func46 (by kernel_rfl) rfl) _ _ trivial (enters_of Tryz.func47 (by kernel_rfl) rfl) _ _ h1 h2 _
    (AnyZ.keys_gives (ρ := Tryz.keys_map_string_bool_string_bool_ren) { Tryz.keys_map_string_bool_string_bool with } Fence.wide _ trivial rfl (by omega) Bm q nn D0 w hB hc hown))
instance : TyMap Tryz.prog 66 4 (keyD ByteArray) := ⟨by kernel_rfl⟩
def actB (l : List ChainD) (p : PostD) (kind : Int) (ks : List ByteArray) (c : ChainD) : Bool := bif hasS ks c.id then false else bif hasV c kind p.id then admV l c.id p.author else false
def actF (l : List ChainD) (p : PostD) (kind : Int) : Nat → List ByteArray
  | 0 => []
  | i + 1 => bif actB l p kind (actF l p kind i) (l.getD i ChainD.zero) then sput (actF l p kind i) (l.getD i ChainD.zero).id else actF l p kind i
/-- tally.actors. -/
def actorsV (l : List ChainD) (p : PostD) (kind : Int) : List ByteArray := sortB (actF l p kind l.length)
structure ActI (l : List ChainD) (p : PostD) (kind : Int) where
  k : Nat
  hk : k ≤ l.length
  M : List ByteArray
  hM : M = actF l p kind k
theorem sput_le {k : ByteArray} : ∀ ks : List ByteArray, (sput ks k).length ≤ ks.length + 1
  | [] => Nat.le_refl 1
  | a :: ks => by
    have ih := sput_le (k := k) ks
    rw [sput]
    cases KeyT.eqb k a with
    | true => exact Nat.le_succ _
    | false => rw [cond_false, List.length_cons, List.length_cons]; omega
theorem actF_len (l : List ChainD) (p : PostD) (kind : Int) : ∀ i, (actF l p kind i).length ≤ i
  | 0 => Nat.le_refl 0
  | i + 1 => by
    have ih := actF_len l p kind i
    rw [actF]
    cases actB l p kind (actF l p kind i) (l.getD i ChainD.zero) with
    | true => exact Nat.le_trans (sput_le _) (Nat.succ_le_succ ih)
    | false => exact Nat.le_succ_of_le ih
theorem actF_mem (l : List ChainD) (p : PostD) (kind : Int) : ∀ i, i ≤ l.length → ∀ x ∈ actF l p kind i, ∃ c ∈ l, c.id = x ∧ hasV c kind p.id = true ∧ admV l x p.author = true
  | 0, _, x, h => (List.not_mem_nil h).elim
  | i + 1, hi, x, h => by
    have ih := actF_mem l p kind i (by omega)
    rw [actF] at h
    cases hb : actB l p kind (actF l p kind i) (l.getD i ChainD.zero) with
    | false => rw [hb] at h; exact ih x h
    | true =>
      rw [hb] at h
      rcases mem_sput.1 h with rfl | h
      · rw [actB] at hb
        cases h1 : hasS (actF l p kind i) (l.getD i ChainD.zero).id with
        | true => rw [h1] at hb; cases hb
        | false =>
          rw [h1, cond_false] at hb
          cases h2 : hasV (l.getD i ChainD.zero) kind p.id with
          | false => rw [h2] at hb; cases hb
          | true =>
            rw [h2, cond_true] at hb
            refine ⟨l.getD i ChainD.zero, ?_, rfl, h2, hb⟩
            rw [List.getD_eq_getElem?_getD, List.getElem?_eq_getElem (by omega)]
            exact List.getElem_mem _
      · exact ih x h
theorem actF_nodup (l : List ChainD) (p : PostD) (kind : Int) : ∀ i, (actF l p kind i).Nodup
  | 0 => List.nodup_nil
  | i + 1 => by
    have ih := actF_nodup l p kind i
    rw [actF]
    cases actB l p kind (actF l p kind i) (l.getD i ChainD.zero) with
    | true => exact nodup_sput ih
    | false => exact ih
set_option maxHeartbeats 8000000 in
theorem actors_mk (s : SlV) (l : List ChainD) (p : PostD) (kind : Int) (hok : ∀ c ∈ l, ActsOk c.actsL) (hlen : ∀ c ∈ l, c.actsL.length ≤ 1000000) (hids : ∀ c ∈ l, c.id.size ≤ maxLen) (hll : l.length ≤ 1000000) :
    Mk Tryz.prog 16 #[s.v, p.v, .int .i64 kind] (fun w => Chains w s l ∧ Glob w) fun u X' => ∃ so : SlV, u = so.v ∧ so.n = (actorsV l p kind).length ∧ ∀ w, X' w → Strs w so (actorsV l p kind) := by
  refine mk_of_cw2 (args := [_, _, _]) _ Tryz.func16 rfl Tryz.ntmps16 rfl fun av bor w0 => ?_
  refine cw_know (p := s.n = l.length ∧ s.n ≤ maxLen ∧ (0 < l.length → s.p.isSome = true)) (fun w h => ⟨h.1.len_, h.1.max_, h.1.some_⟩) fun ⟨hl, hm, hp⟩ => ?_
  simp only [maxLen] at hm
  repeat' (first | apply sw_nil | apply cw_seq | apply cw_reg | refine sy_move (h := ?_) | refine sy_assign (h := ?_) | refine sy_fld (h := ?_) | refine sy_ld (h := ?_) | refine sy_ldAll (h := ?_) | refine sy_pick_t (h := ?_) | refine sy_pick_f (h := ?_) | refine sy_not (h := ?_) | refine sy_lss (h := ?_) | refine sy_slen (h := ?_) | refine sy_len (h := ?_) | refine sy_add (h := ?_) | refine sw_skipT (h := ?_) | refine sw_skipF (h := ?_) | refine sw_skipU (h := ?_) | refine sw_alloc (h := fun _ => ?_) | refine sw_box (h := fun _ => ?_) | refine sw_st1 (h := ?_) | refine sw_stAll (h := ?_) | refine cw_cond_t (ht := ?_) | refine cw_cond_f (hf := ?_) | apply cw_skip | apply cw_block | apply cw_ret | apply cw_exit | refine sy_arrA (h := ?_) | refine sy_strI (h := ?_))
  refine sw_makeMap ByteArray (h := fun q => ?_)
  repeat' (first | apply sw_nil | apply cw_seq | apply cw_reg | refine sy_move (h := ?_) | refine sy_assign (h := ?_) | refine sy_fld (h := ?_) | refine sy_ld (h := ?_) | refine sy_ldAll (h := ?_) | refine sy_pick_t (h := ?_) | refine sy_pick_f (h := ?_) | refine sy_not (h := ?_) | refine sy_lss (h := ?_) | refine sy_slen (h := ?_) | refine sy_len (h := ?_) | refine sy_add (h := ?_) | refine sw_skipT (h := ?_) | refine sw_skipF (h := ?_) | refine sw_skipU (h := ?_) | refine sw_alloc (h := fun _ => ?_) | refine sw_box (h := fun _ => ?_) | refine sw_st1 (h := ?_) | refine sw_stAll (h := ?_) | refine cw_cond_t (ht := ?_) | refine cw_cond_f (hf := ?_) | apply cw_skip | apply cw_block | apply cw_ret | apply cw_exit | refine sy_arrA (h := ?_) | refine sy_strI (h := ?_))
  rename_i b
  refine cw_loop (ι := ActI l p kind) (fun i => ⟨[(0, s.v), (2, .int .i64 kind), (4, .pointer (some ⟨b, 0, none⟩)), (7, .map (some q)), (11, s.v), (12, .int .i64 (s.n : Nat)), (13, .int .i64 (i.k : Nat))], [mapr q (setM i.M), cel b 28 p.cells], fun w => Chains w s l ∧ Glob w⟩) (fun i => l.length - i.k) ⟨0, Nat.zero_le _, [], rfl⟩ (ok_sub ⟨rfl, rfl, rfl, rfl, rfl, rfl, rfl, trivial⟩ (List.Sublist.refl _) fun _ h => h) fun i => ?_
  obtain ⟨k, hk, M, hM⟩ := i
  simp only
  repeat' (first | apply sw_nil | apply cw_seq | apply cw_reg | refine sy_move (h := ?_) | refine sy_assign (h := ?_) | refine sy_fld (h := ?_) | refine sy_ld (h := ?_) | refine sy_ldAll (h := ?_) | refine sy_pick_t (h := ?_) | refine sy_pick_f (h := ?_) | refine sy_not (h := ?_) | refine sy_lss (h := ?_) | refine sy_slen (h := ?_) | refine sy_len (h := ?_) | refine sy_add (h := ?_) | refine sw_skipT (h := ?_) | refine sw_skipF (h := ?_) | refine sw_skipU (h := ?_) | refine sw_alloc (h := fun _ => ?_) | refine sw_box (h := fun _ => ?_) | refine sw_st1 (h := ?_) | refine sw_stAll (h := ?_) | refine cw_cond_t (ht := ?_) | refine cw_cond_f (hf := ?_) | apply cw_skip | apply cw_block | apply cw_ret | apply cw_exit | refine sy_arrA (h := ?_) | refine sy_strI (h := ?_) | ((fail_if_success (refine sw_chk (h := ?_))); refine sw_guard (ht := ?_) (hf := ?_); all_goals (intro hx_; first | have := of_decide_eq_true hx_ | have := of_decide_eq_false hx_ | skip)) | (refine cw_cond (ht := ?_) (hf := ?_); all_goals (intro hx_; first | have := of_decide_eq_true hx_ | have := of_decide_eq_false hx_ | skip)))
  · have hlt : k < l.length := by omega
    have hp' := hp (by omega)
    obtain ⟨c, hc⟩ : ∃ c, l[k]? = some c := ⟨_, List.getElem?_eq_getElem hlt⟩
    have hcm := List.mem_of_getElem? hc
    have hcD : l.getD k ChainD.zero = c := by rw [List.getD_eq_getElem?_getD, hc]; rfl
    have hha := has_pu c (hok c hcm) (hlen c hcm) kind p.id
    have had := admitted_pu s l c.id p hok
    have hlk := mget_setS M c.id
    have hS : actF l p kind (k + 1) = bif actB l p kind M c then sput M c.id else M := by rw [actF, hcD, ← hM]
    rw [actB] at hS
    have hmp := mput_set M c.id
    cases h1 : hasS M c.id with
    | true =>
      rw [h1] at hS hlk
      repeat' (first | apply sw_nil | apply cw_seq | apply cw_reg | refine sy_move (h := ?_) | refine sy_assign (h := ?_) | refine sy_fld (h := ?_) | refine sy_ld (h := ?_) | refine sy_ldAll (h := ?_) | refine sy_pick_t (h := ?_) | refine sy_pick_f (h := ?_) | refine sy_not (h := ?_) | refine sy_lss (h := ?_) | refine sy_slen (h := ?_) | refine sy_len (h := ?_) | refine sy_add (h := ?_) | refine sw_skipT (h := ?_) | refine sw_skipF (h := ?_) | refine sw_skipU (h := ?_) | refine sw_alloc (h := fun _ => ?_) | refine sw_box (h := fun _ => ?_) | refine sw_st1 (h := ?_) | refine sw_stAll (h := ?_) | refine cw_cond_t (ht := ?_) | refine cw_cond_f (hf := ?_) | apply cw_skip | apply cw_block | apply cw_ret | apply cw_exit | refine sy_arrA (h := ?_) | refine sy_strI (h := ?_) | (refine sy_idxX (q := k * 6) (h := ?_)) | (refine sy_ldXs (cs := c.cells) (hF := fun w h => Chains.get h.1 hc) (h := ?_)) | (refine sy_lookup1 (κ := ByteArray) (kk := c.id) (hl := map_loc (by (repeat (first | exact List.mem_cons_self | apply List.mem_cons_of_mem)))) (ho := hlk) (h := ?_)) | ((fail_if_success (refine sw_chk (h := ?_))); refine sw_guard (ht := ?_) (hf := ?_); all_goals (intro hx_; first | have := of_decide_eq_true hx_ | have := of_decide_eq_false hx_ | skip)) | (refine cw_cond (ht := ?_) (hf := ?_); all_goals (intro hx_; first | have := of_decide_eq_true hx_ | have := of_decide_eq_false hx_ | skip)))
      exact ⟨(⟨k + 1, hlt, M, hS.symm⟩ : ActI l p kind), (by show l.length - (k + 1) < l.length - k; omega), ok_sub ⟨rfl, rfl, rfl, rfl, rfl, rfl, rfl, trivial⟩ (List.Sublist.cons _ (List.Sublist.refl _)) fun _ h => h⟩
    | false =>
      rw [h1, cond_false] at hS
      rw [h1] at hlk
      cases h2 : hasV c kind p.id with
      | false =>
        rw [h2] at hS hha
        repeat' (first | apply sw_nil | apply cw_seq | apply cw_reg | refine sy_move (h := ?_) | refine sy_assign (h := ?_) | refine sy_fld (h := ?_) | refine sy_ld (h := ?_) | refine sy_ldAll (h := ?_) | refine sy_pick_t (h := ?_) | refine sy_pick_f (h := ?_) | refine sy_not (h := ?_) | refine sy_lss (h := ?_) | refine sy_slen (h := ?_) | refine sy_len (h := ?_) | refine sy_add (h := ?_) | refine sw_skipT (h := ?_) | refine sw_skipF (h := ?_) | refine sw_skipU (h := ?_) | refine sw_alloc (h := fun _ => ?_) | refine sw_box (h := fun _ => ?_) | refine sw_st1 (h := ?_) | refine sw_stAll (h := ?_) | refine cw_cond_t (ht := ?_) | refine cw_cond_f (hf := ?_) | apply cw_skip | apply cw_block | apply cw_ret | apply cw_exit | refine sy_arrA (h := ?_) | refine sy_strI (h := ?_) | (refine sy_idxX (q := k * 6) (h := ?_)) | (refine sy_ldXs (cs := c.cells) (hF := fun w h => Chains.get h.1 hc) (h := ?_)) | (refine sy_lookup1 (κ := ByteArray) (kk := c.id) (hl := map_loc (by (repeat (first | exact List.mem_cons_self | apply List.mem_cons_of_mem)))) (ho := hlk) (h := ?_)) | (refine sw_pu (hc := hha) (hX := fun w h => ⟨h.1.2 c hcm, h.2⟩) (h := ?_)) | ((fail_if_success (refine sw_chk (h := ?_))); refine sw_guard (ht := ?_) (hf := ?_); all_goals (intro hx_; first | have := of_decide_eq_true hx_ | have := of_decide_eq_false hx_ | skip)) | (refine cw_cond (ht := ?_) (hf := ?_); all_goals (intro hx_; first | have := of_decide_eq_true hx_ | have := of_decide_eq_false hx_ | skip)))
        exact ⟨(⟨k + 1, hlt, M, hS.symm⟩ : ActI l p kind), (by show l.length - (k + 1) < l.length - k; omega), ok_sub ⟨rfl, rfl, rfl, rfl, rfl, rfl, rfl, trivial⟩ (List.Sublist.cons _ (List.Sublist.refl _)) fun _ h => h⟩
      | true =>
        rw [h2, cond_true] at hS
        rw [h2] at hha
        cases h3 : admV l c.id p.author with
        | false =>
          rw [h3] at hS had
          repeat' (first | apply sw_nil | apply cw_seq | apply cw_reg | refine sy_move (h := ?_) | refine sy_assign (h := ?_) | refine sy_fld (h := ?_) | refine sy_ld (h := ?_) | refine sy_ldAll (h := ?_) | refine sy_pick_t (h := ?_) | refine sy_pick_f (h := ?_) | refine sy_not (h := ?_) | refine sy_lss (h := ?_) | refine sy_slen (h := ?_) | refine sy_len (h := ?_) | refine sy_add (h := ?_) | refine sw_skipT (h := ?_) | refine sw_skipF (h := ?_) | refine sw_skipU (h := ?_) | refine sw_alloc (h := fun _ => ?_) | refine sw_box (h := fun _ => ?_) | refine sw_st1 (h := ?_) | refine sw_stAll (h := ?_) | refine cw_cond_t (ht := ?_) | refine cw_cond_f (hf := ?_) | apply cw_skip | apply cw_block | apply cw_ret | apply cw_exit | refine sy_arrA (h := ?_) | refine sy_strI (h := ?_) | (refine sy_idxX (q := k * 6) (h := ?_)) | (refine sy_ldXs (cs := c.cells) (hF := fun w h => Chains.get h.1 hc) (h := ?_)) | (refine sy_lookup1 (κ := ByteArray) (kk := c.id) (hl := map_loc (by (repeat (first | exact List.mem_cons_self | apply List.mem_cons_of_mem)))) (ho := hlk) (h := ?_)) | (refine sw_pu (hc := hha) (hX := fun w h => ⟨h.1.2 c hcm, h.2⟩) (h := ?_)) | (refine sw_pu (hc := had) (hX := fun w h => h) (h := ?_)) | ((fail_if_success (refine sw_chk (h := ?_))); refine sw_guard (ht := ?_) (hf := ?_); all_goals (intro hx_; first | have := of_decide_eq_true hx_ | have := of_decide_eq_false hx_ | skip)) | (refine cw_cond (ht := ?_) (hf := ?_); all_goals (intro hx_; first | have := of_decide_eq_true hx_ | have := of_decide_eq_false hx_ | skip)))
          exact ⟨(⟨k + 1, hlt, M, hS.symm⟩ : ActI l p kind), (by show l.length - (k + 1) < l.length - k; omega), ok_sub ⟨rfl, rfl, rfl, rfl, rfl, rfl, rfl, trivial⟩ (List.Sublist.cons _ (List.Sublist.refl _)) fun _ h => h⟩
        | true =>
          rw [h3] at hS had
          repeat' (first | apply sw_nil | apply cw_seq | apply cw_reg | refine sy_move (h := ?_) | refine sy_assign (h := ?_) | refine sy_fld (h := ?_) | refine sy_ld (h := ?_) | refine sy_ldAll (h := ?_) | refine sy_pick_t (h := ?_) | refine sy_pick_f (h := ?_) | refine sy_not (h := ?_) | refine sy_lss (h := ?_) | refine sy_slen (h := ?_) | refine sy_len (h := ?_) | refine sy_add (h := ?_) | refine sw_skipT (h := ?_) | refine sw_skipF (h := ?_) | refine sw_skipU (h := ?_) | refine sw_alloc (h := fun _ => ?_) | refine sw_box (h := fun _ => ?_) | refine sw_st1 (h := ?_) | refine sw_stAll (h := ?_) | refine cw_cond_t (ht := ?_) | refine cw_cond_f (hf := ?_) | apply cw_skip | apply cw_block | apply cw_ret | apply cw_exit | refine sy_arrA (h := ?_) | refine sy_strI (h := ?_) | (refine sy_idxX (q := k * 6) (h := ?_)) | (refine sy_ldXs (cs := c.cells) (hF := fun w h => Chains.get h.1 hc) (h := ?_)) | (refine sy_lookup1 (κ := ByteArray) (kk := c.id) (hl := map_loc (by (repeat (first | exact List.mem_cons_self | apply List.mem_cons_of_mem)))) (ho := hlk) (h := ?_)) | (refine sw_pu (hc := hha) (hX := fun w h => ⟨h.1.2 c hcm, h.2⟩) (h := ?_)) | (refine sw_pu (hc := had) (hX := fun w h => h) (h := ?_)) | (refine sw_update (κ := ByteArray) (kk := c.id) (l := setM M) (hA := At.there _ (At.here _)) (h := ?_); rw [hmp]) | ((fail_if_success (refine sw_chk (h := ?_))); refine sw_guard (ht := ?_) (hf := ?_); all_goals (intro hx_; first | have := of_decide_eq_true hx_ | have := of_decide_eq_false hx_ | skip)) | (refine cw_cond (ht := ?_) (hf := ?_); all_goals (intro hx_; first | have := of_decide_eq_true hx_ | have := of_decide_eq_false hx_ | skip)))
          exact ⟨(⟨k + 1, hlt, sput M c.id, hS.symm⟩ : ActI l p kind), (by show l.length - (k + 1) < l.length - k; omega), ok_sub ⟨rfl, rfl, rfl, rfl, rfl, rfl, rfl, trivial⟩ (List.Sublist.cons _ (List.Sublist.refl _)) fun _ h => h⟩
  · have hkE : k = l.length := by omega
    have hsl : (setM M).length = M.length := by simp [setM]
    have hsm : (setM M).map (·.1) = M := by simp [setM, Function.comp_def]
    have hMl : M.length ≤ 1000000 := by have := actF_len l p kind k; rw [hM]; omega
    have hMi : ∀ x ∈ M, x.size ≤ maxLen := fun x hx => by
      rw [hM] at hx
      obtain ⟨c, hcm, rfl, _⟩ := actF_mem l p kind k hk x hx
      exact hids c hcm
    repeat' (first | apply sw_nil | apply cw_seq | apply cw_reg | refine sy_move (h := ?_) | refine sy_assign (h := ?_) | refine sy_fld (h := ?_) | refine sy_ld (h := ?_) | refine sy_ldAll (h := ?_) | refine sy_pick_t (h := ?_) | refine sy_pick_f (h := ?_) | refine sy_not (h := ?_) | refine sy_lss (h := ?_) | refine sy_slen (h := ?_) | refine sy_len (h := ?_) | refine sy_add (h := ?_) | refine sw_skipT (h := ?_) | refine sw_skipF (h := ?_) | refine sw_skipU (h := ?_) | refine sw_alloc (h := fun _ => ?_) | refine sw_box (h := fun _ => ?_) | refine sw_st1 (h := ?_) | refine sw_stAll (h := ?_) | refine cw_cond_t (ht := ?_) | refine cw_cond_f (hf := ?_) | apply cw_skip | apply cw_block | apply cw_ret | apply cw_exit | refine sy_arrA (h := ?_) | refine sy_strI (h := ?_))
    refine sw_fn (pre := []) (fr := [mapr q (setM M), cel b 28 p.cells]) (hc := keysMS_c.ct (some q)) (hX := fun _ _ => trivial) (h := ?_)
    rintro v R X' ⟨b2, rfl, rfl⟩
    refine sw_fn (pre := [cel b2 66 [.map (some q)], mapr q (setM M)]) (fr := [cel b 28 p.cells]) (hc := (sortedMS_c.ct (M := 66) b2 q (setM M) (fun x hx => by simp only [setM, List.mem_map] at hx; obtain ⟨k, hk, rfl⟩ := hx; exact hMi k hk) (by rw [hsl]; exact hMl))) (hX := fun _ _ => trivial) (h := ?_)
    rintro v R X2 ⟨A, cp, rfl, rfl⟩
    rw [hsl, hsm]
    repeat' (first | apply sw_nil | apply cw_seq | apply cw_reg | refine sy_move (h := ?_) | refine sy_assign (h := ?_) | refine sy_fld (h := ?_) | refine sy_ld (h := ?_) | refine sy_ldAll (h := ?_) | refine sy_pick_t (h := ?_) | refine sy_pick_f (h := ?_) | refine sy_not (h := ?_) | refine sy_lss (h := ?_) | refine sy_slen (h := ?_) | refine sy_len (h := ?_) | refine sy_add (h := ?_) | refine sw_skipT (h := ?_) | refine sw_skipF (h := ?_) | refine sw_skipU (h := ?_) | refine sw_alloc (h := fun _ => ?_) | refine sw_box (h := fun _ => ?_) | refine sw_st1 (h := ?_) | refine sw_stAll (h := ?_) | refine cw_cond_t (ht := ?_) | refine cw_cond_f (hf := ?_) | apply cw_skip | apply cw_block | apply cw_ret | apply cw_exit | refine sy_arrA (h := ?_) | refine sy_strI (h := ?_))
    have e : actorsV l p kind = sortB M := by rw [actorsV, hM, hkE]
    exact ends_ret (res_tmp rfl rfl) ⟨⟨A, M.length, cp⟩, rfl, by rw [e]; simp [sortB], fun w h => by
      rw [e]
      exact strs_given (l := M) (h.2 _ List.mem_cons_self) rfl⟩
end Go.Proofs.YtlankpiogfhblaaGreatDoor
