/- Contracts: sum.Hex (of a digest), ident.Of. -/
import Derived.Test.YtepckpofhegmiaaGreatDoorSj
set_option linter.unusedVariables false
set_option linter.unusedSimpArgs false
namespace Go.Proofs.YtepckpofhegmiaaGreatDoor
open Go Go.Proofs Sy
def hexDg : ByteArray := ⟨#[48, 49, 50, 51, 52, 53, 54, 55, 56, 57, 97, 98, 99, 100, 101, 102]⟩
def hexB (s : ByteArray) (i : Nat) : List Int := [byteAt hexDg (shrV .u8 (byteAt s i) 4).toNat, byteAt hexDg (bitsV .and .u8 (byteAt s i) 15).toNat]
def hexF (s : ByteArray) (n : Nat) : List Int := (List.range n).flatMap (hexB s)
def hexV (s : ByteArray) : ByteArray := ofInts (hexF s s.size)
theorem hexF_succ (s : ByteArray) (n : Nat) : hexF s (n + 1) = hexF s n ++ hexB s n := by
  rw [hexF, List.range_succ, List.flatMap_append]
  simp [hexF]
theorem nib_all : ∀ b : Nat, b < 256 → (0 ≤ shrV .u8 (b : Int) 4 ∧ shrV .u8 (b : Int) 4 < 16) ∧ (0 ≤ bitsV .and .u8 (b : Int) 15 ∧ bitsV .and .u8 (b : Int) 15 < 16) := by decide +kernel
theorem byteAt_lt (s : ByteArray) (i : Nat) : ∃ b : Nat, b < 256 ∧ byteAt s i = (b : Int) := ⟨(s.data.toList.getD i 0).toNat, UInt8.toNat_lt _, rfl⟩
def hexN (d : Nat) : Nat := if d < 10 then 48 + d else 87 + d
def hexL (l : List Nat) : List Nat := l.flatMap fun b => [hexN (b / 16), hexN (b % 16)]
theorem hex_all : ∀ b : Nat, b < 256 → byteAt hexDg (shrV .u8 (b : Int) 4).toNat = (hexN (b / 16) : Nat) ∧ byteAt hexDg (bitsV .and .u8 (b : Int) 15).toNat = (hexN (b % 16) : Nat) := by decide +kernel
structure HexI where
  k : Nat
  hk : k ≤ 32
  A : Option Addr
  c : Nat
set_option maxHeartbeats 1000000 in
theorem hex_pu (s : ByteArray) (hs : s.size = 32) : Pu Tryz.prog 51 #[.string s] (fun _ => True) (.string (hexV s)) := by
  refine pu_of_cw (args := [_]) _ Tryz.func51 rfl Tryz.ntmps51 rfl fun av bor w0 => ?_
  repeat' (first | refine sy_mul (c := 64) (hc := by rw [hs]; rfl) (h := ?_) | apply sw_nil | apply cw_seq | apply cw_reg | refine sy_move (h := ?_) | refine sy_assign (h := ?_) | refine sy_lss (h := ?_) | refine sy_slen (h := ?_) | refine sy_len (h := ?_) | refine sy_add (h := ?_) | refine sw_bsl (h := fun _ => ?_) | refine cw_cond_t (ht := ?_) | refine cw_cond_f (hf := ?_) | apply cw_skip | apply cw_block | apply cw_ret | apply cw_exit | refine sy_and (h := ?_) | refine sy_shr (h := ?_) | refine sy_mul (h := ?_) | refine sy_int (h := ?_) | refine sy_arrA (h := ?_) | refine sy_strI (h := ?_) | (refine sw_mkSl (c := 64) (hm := rfl) (hm2 := rfl) (h := fun q => ?_)) | (refine cw_cond (ht := ?_) (hf := ?_); all_goals (intro hx_; first | have := of_decide_eq_true hx_ | have := of_decide_eq_false hx_ | skip)))
  refine cw_loop (ι := HexI) (fun i => ⟨[(0, .string s), (3, .slice i.A (2 * i.k) i.c), (10, .int .i64 s.size), (11, .int .i64 i.k)], [orow 5 1 (.slice i.A (2 * i.k) i.c) (2 * i.k) (u8s (hexF s i.k))], fun _ => True⟩) (fun i => 32 - i.k) ⟨0, Nat.zero_le _, _, _⟩
    (ok_sub ⟨rfl, rfl, rfl, rfl, trivial⟩ (List.Sublist.refl _) fun _ h => h) fun i => ?_
  have hik := i.hk
  repeat' (first | apply sw_nil | apply cw_seq | apply cw_reg | refine sy_move (h := ?_) | refine sy_assign (h := ?_) | refine sy_lss (h := ?_) | refine sy_slen (h := ?_) | refine sy_len (h := ?_) | refine sy_add (h := ?_) | refine sw_bsl (h := fun _ => ?_) | refine cw_cond_t (ht := ?_) | refine cw_cond_f (hf := ?_) | apply cw_skip | apply cw_block | apply cw_ret | apply cw_exit | refine sy_and (h := ?_) | refine sy_shr (h := ?_) | refine sy_mul (h := ?_) | refine sy_int (h := ?_) | refine sy_arrA (h := ?_) | refine sy_strI (h := ?_) | (refine cw_cond (ht := ?_) (hf := ?_); all_goals (intro hx_; first | have := of_decide_eq_true hx_ | have := of_decide_eq_false hx_ | skip)))
  · have hlt : i.k < 32 := by omega
    obtain ⟨b, hb, hbe⟩ := byteAt_lt s i.k
    obtain ⟨⟨n1, n2⟩, n3, n4⟩ := nib_all b hb
    rw [← hbe] at n1 n2 n3 n4
    (refine cw_draw [] (fun _ => True) (by kernel_rfl) ?_)
    all_goals (refine aw_take 0 (h := ?_))
    all_goals (refine aw_take 1 (h := ?_))
    all_goals (refine aw_take 2 (h := ?_))
    all_goals (first | refine aw_take 3 (h := ?_) | refine aw_take 3 (hy := by (first | (apply y_strI; rfl; rfl; (first | omega | assumption); (first | omega | assumption)))) (h := ?_))
    all_goals (first | refine aw_take 4 (h := ?_) | refine aw_take 4 (hy := by (first | (apply y_strI; rfl; rfl; (first | omega | assumption); (first | omega | assumption)))) (h := ?_))
    all_goals (first | refine aw_take 5 (h := ?_) | refine aw_take 5 (hy := by (first | (apply y_strI; rfl; rfl; (first | omega | assumption); (first | omega | assumption)))) (h := ?_))
    all_goals (refine aw_take 6 (h := ?_))
    all_goals (refine aw_take 7 (h := ?_))
    all_goals (first | refine aw_take 8 (h := ?_) | refine aw_take 8 (hy := by (first | (apply y_strI; rfl; rfl; (first | omega | assumption); (first | omega | assumption)))) (h := ?_))
    all_goals (first | refine aw_take 9 (h := ?_) | refine aw_take 9 (hy := by (first | (apply y_strI; rfl; rfl; (first | omega | assumption); (first | omega | assumption)))) (h := ?_))
    all_goals (first | refine aw_take 10 (h := ?_) | refine aw_take 10 (hy := by (first | (apply y_strI; rfl; rfl; (first | omega | assumption); (first | omega | assumption)))) (h := ?_))
    all_goals (refine aw_step 11 (h := ?_); (first | refine sw_bsl (len := 2) (vs := u8s (hexB s i.k)) (h := fun _ => ?_)); apply sw_nil; refine aw_fin (h := ?_))
    all_goals (refine aw_step 12 (h := ?_); (first | refine sw_append (size := 1) (z := .int .u8 0) (news := u8s (hexB s i.k)) (q := 2) rfl rfl rfl rfl (fun _ => At.there _ (At.here _)) (fun w G => src_cel G List.mem_cons_self rfl rfl 2) (by omega) (by simp only [maxLen]; omega) rfl ?_ rfl ?_; (first | with_reducible rfl | with_reducible assumption | with_reducible exact Bool.not_false | with_reducible exact Bool.not_true); intro A2 c2); apply sw_nil; refine aw_fin (h := ?_))
    all_goals (refine aw_take 13 (h := ?_))
    all_goals (refine aw_done (h := ?_))
    rw [← u8s_append, ← hexF_succ]
    repeat' (first | apply sw_nil | apply cw_seq | apply cw_reg | refine sy_move (h := ?_) | refine sy_assign (h := ?_) | refine sy_lss (h := ?_) | refine sy_slen (h := ?_) | refine sy_len (h := ?_) | refine sy_add (h := ?_) | refine sw_bsl (h := fun _ => ?_) | refine cw_cond_t (ht := ?_) | refine cw_cond_f (hf := ?_) | apply cw_skip | apply cw_block | apply cw_ret | apply cw_exit | refine sy_and (h := ?_) | refine sy_shr (h := ?_) | refine sy_mul (h := ?_) | refine sy_int (h := ?_) | refine sy_arrA (h := ?_) | refine sy_strI (h := ?_) | (refine cw_cond (ht := ?_) (hf := ?_); all_goals (intro hx_; first | have := of_decide_eq_true hx_ | have := of_decide_eq_false hx_ | skip)))
    exact ⟨⟨i.k + 1, hlt, A2, c2⟩, (by show 32 - (i.k + 1) < 32 - i.k; omega), ok_sub ⟨rfl, rfl, rfl, rfl, trivial⟩ (List.sublist_cons_self _ _) fun _ h => h⟩
  · have hk : i.k = s.size := by omega
    repeat' (first | apply sw_nil | apply cw_seq | apply cw_reg | refine sy_move (h := ?_) | refine sy_assign (h := ?_) | refine sy_lss (h := ?_) | refine sy_slen (h := ?_) | refine sy_len (h := ?_) | refine sy_add (h := ?_) | refine sw_bsl (h := fun _ => ?_) | refine cw_cond_t (ht := ?_) | refine cw_cond_f (hf := ?_) | apply cw_skip | apply cw_block | apply cw_ret | apply cw_exit | refine sy_and (h := ?_) | refine sy_shr (h := ?_) | refine sy_mul (h := ?_) | refine sy_int (h := ?_) | refine sy_arrA (h := ?_) | refine sy_strI (h := ?_) | (refine sy_b2s (ns := hexF s i.k) (hm := by (repeat (first | exact List.mem_cons_self | apply List.mem_cons_of_mem))) (h := ?_)) | (refine cw_cond (ht := ?_) (hf := ?_); all_goals (intro hx_; first | have := of_decide_eq_true hx_ | have := of_decide_eq_false hx_ | skip)))
    apply ends_ret; apply res_tmp; rfl; rfl
    rw [hk]
    rfl
theorem hexN_lt (d : Nat) (h : d < 16) : hexN d < 256 := by
  unfold hexN
  split <;> omega
theorem hexL_lt {l : List Nat} (h : ∀ x ∈ l, x < 256) : ∀ x ∈ hexL l, x < 256 := fun x hx => by
  rw [hexL, List.mem_flatMap] at hx
  obtain ⟨b, hb, hx⟩ := hx
  have hb' := h b hb
  rcases List.mem_cons.1 hx with rfl | hx
  · exact hexN_lt _ (by omega)
  · rw [List.mem_singleton] at hx
    subst hx
    exact hexN_lt _ (Nat.mod_lt _ (by decide))
theorem hexF_nl (s : ByteArray) : ∀ n, n ≤ s.size → hexF s n = (hexL ((nl s).take n)).map fun (n : Nat) => (n : Int)
  | 0, _ => rfl
  | n + 1, h => by
    have hn : n < (nl s).length := by rw [nl_len]; omega
    have hb := getD_lt (nl_lt s) n
    have he : (nl s)[n] = (nl s).getD n 0 := by rw [List.getD_eq_getElem?_getD, List.getElem?_eq_getElem hn]; rfl
    rw [hexF_succ, hexF_nl s n (by omega), List.take_succ_eq_append_getElem hn, hexL, hexL, List.flatMap_append, List.map_append]
    congr 1
    obtain ⟨h1, h2⟩ := hex_all _ hb
    rw [hexB, byte_nl s n (by omega), h1, h2, he]
    rfl
theorem hex_nl (s : ByteArray) : nl (hexV s) = hexL (nl s) := by
  rw [hexV, hexF_nl s s.size (Nat.le_refl _), List.take_of_length_le (by rw [nl_len]; exact Nat.le_refl _)]
  exact nl_ofInts _ (hexL_lt (nl_lt s))
theorem hexV_size (s : ByteArray) : (hexV s).size = 2 * s.size := by
  rw [← nl_len, hexV, hexF_nl s s.size (Nat.le_refl _), List.take_of_length_le (by rw [nl_len]; exact Nat.le_refl _), nl_ofInts _ (hexL_lt (nl_lt s)), hexL]
  rw [← nl_len]
  generalize nl s = l
  induction l with
  | nil => rfl
  | cons a l ih => rw [List.flatMap_cons, List.length_append, ih]; simp only [List.length_cons, List.length_nil]; omega
def idText (p : Int) : ByteArray := textV ⟨#[97, 99, 116, 111, 114]⟩ ++ numV p
def idV (p : Int) : ByteArray := (hexV (shaV (idText p))).extract 0 16
theorem idV_size (p : Int) : (idV p).size = 16 := by
  rw [idV, ByteArray.size_extract, hexV_size, shaV_size]
  rfl
theorem identOf_pu (p : Int) (hp : p < 9223372036854775808) : Pu Tryz.prog 32 #[.int .i64 p] Glob (.string (idV p)) := by
  refine pu_of_cw (args := [_]) _ Tryz.func32 rfl Tryz.ntmps32 rfl fun av bor w0 => ?_
  have h1 := textV_size ⟨#[97, 99, 116, 111, 114]⟩
  have h2 := numV_size p
  have h5 : (⟨#[97, 99, 116, 111, 114]⟩ : ByteArray).size = 5 := rfl
  have hsz : (idText p).size ≤ 1099511627776 := by rw [idText, ByteArray.size_append]; omega
  have hhx := hexV_size (shaV (idText p))
  rw [shaV_size] at hhx
  repeat' (first | apply sw_nil | apply cw_seq | apply cw_reg | refine sy_move (h := ?_) | refine sy_assign (h := ?_) | refine sy_add (h := ?_) | refine cw_cond_t (ht := ?_) | refine cw_cond_f (hf := ?_) | apply cw_skip | apply cw_block | apply cw_ret | apply cw_exit | refine sy_arrA (h := ?_) | refine sy_strI (h := ?_) | refine sw_pu (hc := text_pu _ (by first | omega | decide)) (h := ?_) | refine sw_pu (hc := num_pu _ hp) (h := ?_) | (refine sy_cat (h := ?_)) | (refine sw_pu (hc := sha_pu (idText p) hsz) (hX := fun _ h => h) (h := ?_)) | (refine sw_pu (hc := hex_pu (shaV (idText p)) (shaV_size _)) (hX := fun _ _ => trivial) (h := ?_)) | (refine sy_strH (h1 := by omega) (h := ?_)) | (refine cw_cond (ht := ?_) (hf := ?_); all_goals (intro hx_; first | have := of_decide_eq_true hx_ | have := of_decide_eq_false hx_ | skip)))
  apply ends_ret; apply res_tmp; rfl; rfl
  rfl
end Go.Proofs.YtepckpofhegmiaaGreatDoor
