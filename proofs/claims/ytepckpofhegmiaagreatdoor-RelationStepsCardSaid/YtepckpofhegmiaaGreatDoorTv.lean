/- Numbers, texts and activities as lists of naturals: signatures and digests that the kernel can count out. No program in sight. -/
import Derived.Test.YtepckpofhegmiaaGreatDoorTr
import Derived.Test.YtepckpofhegmiaaGreatDoorHc
set_option linter.unusedVariables false
set_option linter.unusedSimpArgs false
namespace Go.Proofs.YtepckpofhegmiaaGreatDoor
open Go Go.Proofs Sy
def numL : Nat → Nat → List Nat
  | 0, _ => []
  | f + 1, n => bif decide (128 ≤ n) then (128 + n % 128) :: numL f (n / 128) else [n]
theorem numD_nl : ∀ (f n : Nat), numD f (n : Int) = (numL f n).map fun (n : Nat) => (n : Int)
  | 0, n => rfl
  | f + 1, n => by
    rw [numD, numL]
    by_cases h : 128 ≤ n
    · have e1 : lowD (n : Int) = ((128 + n % 128 : Nat) : Int) := by
        rw [lowD, show (n : Int).tmod 128 = ((n % 128 : Nat) : Int) from rfl, show (128 : Int) + ((n % 128 : Nat) : Int) = ((128 + n % 128 : Nat) : Int) from by omega, wrap8, Nat.mod_eq_of_lt (by omega)]
      rw [decide_eq_true (show (128 : Int) ≤ (n : Int) by omega), decide_eq_true h, cond_true, cond_true, List.map_cons, e1, show (n : Int).tdiv 128 = ((n / 128 : Nat) : Int) from rfl, numD_nl f]
    · rw [decide_eq_false (show ¬ (128 : Int) ≤ (n : Int) by omega), decide_eq_false h, cond_false, cond_false, wrap8, Nat.mod_eq_of_lt (by omega)]
      rfl
theorem numL_lt : ∀ (f n : Nat), ∀ x ∈ numL f n, x < 256
  | 0, n, x, h => (List.not_mem_nil h).elim
  | f + 1, n, x, h => by
    rw [numL] at h
    by_cases h1 : 128 ≤ n
    · rw [decide_eq_true h1, cond_true] at h
      rcases List.mem_cons.1 h with rfl | h
      · omega
      · exact numL_lt f _ x h
    · rw [decide_eq_false h1, cond_false, List.mem_singleton] at h
      omega
theorem num_nl (n : Nat) : nl (numV (n : Int)) = numL 10 n := by
  rw [numV, decide_eq_false (by omega), cond_false, numD_nl, nl_ofInts _ (numL_lt 10 n)]
theorem numI_nl {n : Int} (h : 0 ≤ n) : nl (numV n) = numL 10 n.toNat := by rw [← num_nl, Int.toNat_of_nonneg h]
def textL (l : List Nat) : List Nat := numL 10 l.length ++ l
theorem text_nl (s : ByteArray) : nl (textV s) = textL (nl s) := by
  rw [textV, nl_append, num_nl, textL, nl_len]
def boxL (b : BoxD) : List Nat := textL (nl b.nonce) ++ textL (nl b.data) ++ textL (nl b.tag)
def coreL (a : ActD) : List Nat :=
  textL [97, 99, 116] ++ (textL (nl a.author) ++ (numL 10 a.seq.toNat ++ (textL (nl a.prev) ++ (numL 10 a.kind.toNat ++ (numL 10 a.time.toNat ++ (textL (nl a.object) ++ (textL (nl a.target) ++ (numL 10 a.scope.toNat ++ (textL (nl a.group) ++ (numL 10 0 ++ (textL (nl a.text) ++ (boxL a.body ++ (numL 10 a.epoch.toNat ++ (numL 10 0 ++ (numL 10 a.n.toNat ++ numL 10 a.m.toNat)))))))))))))))
structure ActD.Pos (a : ActD) : Prop where
  seq : 0 ≤ a.seq
  kind : 0 ≤ a.kind
  time : 0 ≤ a.time
  scope : 0 ≤ a.scope
  epoch : 0 ≤ a.epoch
  n : 0 ≤ a.n
  m : 0 ≤ a.m
  toL : a.toL = []
  wrapsL : a.wrapsL = []
theorem core_nl (a : ActD) (h : a.Pos) : nl (coreV a) = coreL a := by
  have e1 : nl (⟨#[97, 99, 116]⟩ : ByteArray) = [97, 99, 116] := rfl
  have e2 : nl ByteArray.empty = [] := rfl
  simp only [coreV, core5, core4, core3, core2, core1, boxV, listV, h.toL, h.wrapsL, List.map_nil, List.take_nil, cats, List.length_nil, nl_append, text_nl, e1, e2, num_nl, numI_nl h.seq, numI_nl h.kind, numI_nl h.time, numI_nl h.scope, numI_nl h.epoch, numI_nl h.n, numI_nl h.m, List.append_assoc, List.append_nil, coreL, boxL]
def hashL (m : List Nat) : Nat := numN (shaL m)
theorem hash_nl (xs : List ByteArray) (hs : (catB xs).size < 2305843009213693952) : hashN xs = hashL (xs.flatMap nl) := by
  rw [hashN, sha_nl _ hs, nl_cat, hashL]
/-- powers, each value counted out before it is handed on -/
def powF : Nat → Nat → Nat → Nat → Nat
  | 0, _, x, _ => x
  | f + 1, e, x, s => fc (bif decide (e % 2 = 1) then x * s % 2305843009213693951 else x) fun x' => fc (s * s % 2305843009213693951) fun s' => fc (e / 2) fun e' => powF f e' x' s'
theorem powF_eq (a e : Nat) : ∀ (f i : Nat), powF f (e / 2 ^ i) (expF a e i).1 (expF a e i).2 = (expF a e (i + f)).1
  | 0, i => rfl
  | f + 1, i => by
    have ih := powF_eq a e f (i + 1)
    rw [powF, fc_eq, fc_eq, fc_eq, Nat.div_div_eq_div_mul, ← Nat.pow_succ, show i + (f + 1) = i + 1 + f by omega, ← ih]
    rfl
def powL (a e : Nat) : Nat := powF (Lib.bitLen e) e 1 (a % 2305843009213693951)
theorem exp_nl (a e : Nat) : expV a e = powL a e := by
  have h := powF_eq a e (Lib.bitLen e) 0
  rw [Nat.pow_zero, Nat.div_one, Nat.zero_add] at h
  exact h.symm
theorem lt_big {n : Nat} (h : n ≤ 1000000) : n < 2305843009213693952 := by omega
def nonceL (S : Nat) (m : List Nat) : Nat := reduceN (hashL (textL [110, 111, 110, 99, 101] ++ (numL 10 S ++ textL m)))
theorem nonce_nl (S : Nat) (msg : ByteArray) (hl : (nl msg).length ≤ 100000) : nonceN (S : Int) msg = nonceL S (nl msg) := by
  have h1 := textV_size ⟨#[110, 111, 110, 99, 101]⟩
  have h2 := numV_size (S : Int)
  have h3 := textV_size msg
  have h5 : (⟨#[110, 111, 110, 99, 101]⟩ : ByteArray).size = 5 := rfl
  rw [nl_len] at hl
  rw [nonceN, nonceL, nonceP, hash_nl _ (lt_big (by
    rw [catB_size]
    simp only [List.map_cons, List.map_nil, List.sum_cons, List.sum_nil]
    omega))]
  have e : nl (⟨#[110, 111, 110, 99, 101]⟩ : ByteArray) = [110, 111, 110, 99, 101] := rfl
  simp only [List.flatMap_cons, List.flatMap_nil, text_nl, num_nl, List.append_nil, e]
def chalL (r p : Nat) (m : List Nat) : Nat := hashL (textL [115, 105, 103, 110] ++ (numL 10 r ++ (numL 10 p ++ textL m))) % 2305843009213693950
theorem chal_nl (r p : Nat) (msg : ByteArray) (hl : (nl msg).length ≤ 100000) : chalN r p msg = chalL r p (nl msg) := by
  have h1 := textV_size ⟨#[115, 105, 103, 110]⟩
  have h2 := numV_size (r : Int)
  have h4 := numV_size (p : Int)
  have h3 := textV_size msg
  have h5 : (⟨#[115, 105, 103, 110]⟩ : ByteArray).size = 4 := rfl
  rw [nl_len] at hl
  rw [chalN, chalL, chalP, hash_nl _ (lt_big (by
    rw [catB_size]
    simp only [List.map_cons, List.map_nil, List.sum_cons, List.sum_nil]
    omega))]
  have e : nl (⟨#[115, 105, 103, 110]⟩ : ByteArray) = [115, 105, 103, 110] := rfl
  simp only [List.flatMap_cons, List.flatMap_nil, text_nl, num_nl, List.append_nil, e]
theorem key_lit {i S P : Nat} (h1 : reduceN (hashL (textL [107, 101, 121] ++ textL (nl (seedB i)))) = S) (h2 : powL 37 S = P) : keyA i = ⟨(S : Nat), (P : Nat)⟩ := by
  have h3 := textV_size ⟨#[107, 101, 121]⟩
  have h4 := textV_size (seedB i)
  have h5 : (⟨#[107, 101, 121]⟩ : ByteArray).size = 3 := rfl
  have h6 : (seedB i).size = 7 := rfl
  have e : nl (⟨#[107, 101, 121]⟩ : ByteArray) = [107, 101, 121] := rfl
  have hk : keyN (seedB i) = S := by
    rw [← h1, keyN, keyP, hash_nl _ (lt_big (by
      rw [catB_size]
      simp only [List.map_cons, List.map_nil, List.sum_cons, List.sum_nil]
      omega))]
    simp only [List.flatMap_cons, List.flatMap_nil, text_nl, List.append_nil, e]
  rw [keyA, keyOf, hk, exp_nl, h2]
theorem id_lit {i S P : Nat} (hk : keyA i = ⟨(S : Nat), (P : Nat)⟩) {D : ByteArray} (h : (hexL (shaL (textL [97, 99, 116, 111, 114] ++ numL 10 P))).take 16 = nl D) : idA21 i = D := by
  apply nl_inj
  have h3 := textV_size ⟨#[97, 99, 116, 111, 114]⟩
  have h4 := numV_size (P : Int)
  have h5 : (⟨#[97, 99, 116, 111, 114]⟩ : ByteArray).size = 5 := rfl
  have e : nl (⟨#[97, 99, 116, 111, 114]⟩ : ByteArray) = [97, 99, 116, 111, 114] := rfl
  rw [idA21, hk]
  show nl (idV (P : Int)) = nl D
  rw [idV, nl_extract, hex_nl, sha_nl _ (lt_big (by rw [idText, ByteArray.size_append]; omega)), idText, nl_append, text_nl, num_nl, e, ← h]
  rfl
theorem sign_lit {i S P : Nat} (hk : keyA i = ⟨(S : Nat), (P : Nat)⟩) {a : ActD} (hr : rightB (a.sig SgD.zero) = true) {m : List Nat} (hm : nl (coreV (a.sig SgD.zero)) = m) (hl : m.length ≤ 100000) {K R E G : Nat} (h1 : nonceL S m = K) (h2 : powL 37 K = R) (h3 : chalL R P m = E)
    (h4 : (K + E * S % 2305843009213693950) % 2305843009213693950 = G) : actSignV (keyA i) a = a.sig ⟨(E : Nat), (G : Nat)⟩ := by
  have hrk : rightK (keyA i) = true := keyOf_right _
  subst hm
  have e1 : sigE (keyA i) (coreV (a.sig SgD.zero)) = E := by
    rw [sigE, hk]
    show chalN (expV 37 (nonceN (S : Int) _)) ((P : Int)).toNat _ = E
    rw [nonce_nl S _ hl, h1, exp_nl, h2, Int.toNat_natCast, chal_nl _ _ _ hl, h3]
  have e2 : sigS (keyA i) (coreV (a.sig SgD.zero)) = G := by
    rw [sigS, e1, hk]
    show (nonceN (S : Int) _ + E * ((S : Int)).toNat % 2305843009213693950) % 2305843009213693950 = G
    rw [nonce_nl S _ hl, h1, Int.toNat_natCast, h4]
  rw [actSignV, hr, hrk, Bool.and_true, cond_true, signV, hrk, cond_true, e1, e2]
theorem core_sig (a : ActD) (g g' : SgD) : coreV (a.sig g) = coreV (a.sig g') := rfl
theorem dig_lit {a : ActD} (hr : rightB a = true) {m : List Nat} (hm : nl (coreV a) = m) (hm0 : m.length ≠ 0) (hl : m.length ≤ 100000) {E G : Nat} (he : a.e = (E : Nat)) (hs : a.s = (G : Nat)) {D : ByteArray} (h : shaL (0 :: (m ++ (numL 10 E ++ numL 10 G))) = nl D) : digV a = D := by
  subst hm
  have hsz : (coreV a).size = (nl (coreV a)).length := (nl_len _).symm
  have e1 : actCore a = coreV a := by rw [actCore, hr, cond_true]
  have e2 : actBytes a = coreV a ++ numV a.e ++ numV a.s := by rw [actBytes, e1, seqB_empty, decide_eq_false (by omega), cond_false]
  have e3 : bytesV a = numV 0 ++ (coreV a ++ numV a.e ++ numV a.s) := by rw [bytesV, hr, cond_true, e2]
  have e4 : nl (bytesV a) = 0 :: (nl (coreV a) ++ (numL 10 E ++ numL 10 G)) := by
    rw [e3, nl_append, nl_append, nl_append, he, hs, num_nl, num_nl, List.append_assoc]
    rfl
  have e5 : (bytesV a).size = (nl (coreV a)).length + (numL 10 E ++ numL 10 G).length + 1 := by rw [← nl_len, e4, List.length_cons, List.length_append]
  have e6 : ∀ f n, (numL f n).length ≤ f := fun f => by
    induction f with
    | zero => intro n; exact Nat.le_refl 0
    | succ f ih =>
      intro n
      rw [numL]
      cases decide (128 ≤ n) with
      | true => have := ih (n / 128); rw [cond_true, List.length_cons]; omega
      | false => rw [cond_false, List.length_singleton]; omega
  have e7 : (bytesV a).size ≤ 1000000 := by
    have h1 := e6 10 E
    have h2 := e6 10 G
    rw [e5, List.length_append]
    omega
  rw [digV, seqB_empty, decide_eq_false (by omega), cond_false]
  apply nl_inj
  rw [sha_nl _ (lt_big e7), e4, h]
/-! steps of the tale -/
theorem draftW_t {c : ChainD} {w : WishD} {ks : List ByteArray} {j : Nat} {D : ByteArray} (hk : decide (w.do_ = 6) = false) (hp : pickV w.who (4 : Nat) = (j : Int)) (hj : idA21 j = D) : draftW c w ks = { draftV c w.do_ w.time with target := D } := by
  rw [draftW, hk, cond_false, hp, Int.toNat_natCast, hj]
theorem draftW_u {c : ChainD} {w : WishD} {ks : List ByteArray} {j : Nat} {D : ByteArray} (hk : decide (w.do_ = 6) = true) (hp : pickV w.what (ks.length : Nat) = (j : Int)) (hj : ks.getD j .empty = D) : draftW c w ks = { draftV c w.do_ w.time with object := D } := by
  rw [draftW, hk, cond_true, hp, Int.toNat_natCast, hj]
theorem step_lit {cs : List ChainD} {ks : List ByteArray} {w : WishD} {i : Nat} {c : ChainD} {u a : ActD} {d : ByteArray} (hi : pickV w.by_ (4 : Nat) = (i : Int)) (hc : cs.getD i ChainD.zero = c) (hu : draftW c w ks = u) (ha : actSignV (keyA i) u = a) (hf : fitsV c a (idxV c.actsL a.object) = true) (hd : digV a = d) :
    toldS (cs, ks) w = (cs.set i { c with acts := ⟨none, c.acts.n + 1, 0⟩, actsL := c.actsL ++ [a.can], prev := d }, ks ++ [d]) := by
  have hA : toldA cs ks w = a := by rw [toldA, hi, Int.toNat_natCast, hc, hu, ha]
  have hB : toldB cs ks w = true := by rw [toldB, hA, hi, Int.toNat_natCast, hc, hf]
  rw [toldS]
  simp only [hB, cond_true, hA, hi, Int.toNat_natCast, hc, moreV, hd]
end Go.Proofs.YtepckpofhegmiaaGreatDoor
