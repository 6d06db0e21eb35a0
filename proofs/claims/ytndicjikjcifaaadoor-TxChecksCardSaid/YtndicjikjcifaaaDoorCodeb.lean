/- Numbers, texts and lists as bytes: what is written is read; what is read was written so. -/
import Derived.Test.YtndicjikjcifaaaDoorTxenc
import Derived.Test.YtndicjikjcifaaaDoorTxread
namespace Go.Proofs.YtndicjikjcifaaaDoor
open Go.RowKit Go.Shelf Go.Lib Go.Proofs.YtndicjikjcifaaaDoorW.PrintWords Go.Proofs.YtndicjikjcifaaaDoorW.PrintLast
set_option linter.unusedVariables false
set_option linter.unusedSimpArgs false

theorem bn_app (n : Nat) (r : ByteArray) (i : Nat) (v : Int) (h : (vints n)[i]? = some v) : bn (strOfNums (vints n) ++ r) i = v.toNat % 256 := by
  have hi : i < (vints n).length := (List.getElem?_eq_some_iff.1 h).1
  have hs : (strOfNums (vints n)).size = (vints n).length := strOfNums_size _
  have hlt : i < (strOfNums (vints n) ++ r).size := by rw [ByteArray.size_append]; omega
  rw [bn, dif_pos hlt, ByteArray.getElem_append_left (by omega)]
  have e : (strOfNums (vints n))[i]'(by omega) = UInt8.ofNat v.toNat := by
    have h2 := (List.getElem?_eq_some_iff.1 h).2
    rw [← h2]
    simp [strOfNums, ByteArray.getElem_eq_getElem_data]
  rw [e]
  simp
theorem vints_bytes : ∀ n, ∀ v ∈ vints n, 0 ≤ v ∧ v < 256 := by
  intro n
  induction n using Nat.strongRecOn with
  | ind n ih =>
    rw [vints]
    split
    · intro v hv
      simp at hv
      omega
    · intro v hv
      rcases List.mem_cons.1 hv with rfl | hv
      · omega
      · exact ih (n / 128) (by omega) v hv
theorem vints_pos (n : Nat) : 0 < (vints n).length := by
  rw [vints]
  split <;> simp
/-- The bytes of n stand in s from j on. -/
theorem vints_val (s : ByteArray) : ∀ n j, (∀ i v, (vints n)[i]? = some v → bn s (j + i) = v.toNat) →
    (∀ i, j ≤ i → i < j + (vints n).length - 1 → 128 ≤ bn s i) ∧ bn s (j + (vints n).length - 1) < 128 ∧ bval s (j + (vints n).length - 1) (vints n).length j = n ∧ (bn s (j + (vints n).length - 1) = 0 → n = 0) := by
  intro n
  induction n using Nat.strongRecOn with
  | ind n ih =>
    intro j h
    rw [vints] at h ⊢
    by_cases h1 : n < 128
    · rw [dif_pos h1] at h ⊢
      have h2 := h 0 _ rfl
      simp only [Nat.add_zero, Int.toNat_natCast] at h2
      simp only [List.length_singleton, Nat.add_sub_cancel]
      refine ⟨fun i h3 h4 => by omega, by omega, ?_, by omega⟩
      simp only [bval]
      omega
    · rw [dif_neg h1] at h ⊢
      have hp := vints_pos (n / 128)
      have h2 := h 0 _ rfl
      obtain ⟨g1, g2, g3, g4⟩ := ih (n / 128) (by omega) (j + 1) (fun i v hv => by
        have := h (i + 1) v (by simpa using hv)
        rw [show j + 1 + i = j + (i + 1) by omega]
        exact this)
      simp only [Nat.add_zero, Int.toNat_natCast] at h2
      simp only [List.length_cons]
      rw [show j + ((vints (n / 128)).length + 1) - 1 = j + 1 + (vints (n / 128)).length - 1 by omega]
      refine ⟨fun i h3 h4 => ?_, g2, ?_, fun h5 => by have := g4 h5; omega⟩
      · rcases Nat.eq_or_lt_of_le h3 with rfl | h3
        · omega
        · exact g1 i (by omega) (by omega)
      · rw [bval, g3, h2]
        omega
theorem ib_eq {n : Int} (h0 : 0 ≤ n) (h1 : n ≤ 4611686018427387903) : ib n = strOfNums (vints n.toNat) := by
  rw [ib, if_neg (by omega)]
theorem gi_app (n : Int) (r : ByteArray) (h0 : 0 ≤ n) (h1 : n ≤ 4611686018427387903) : gi (ib n ++ r) 9 0 0 = (n, ((ib n).size : Int), 0) := by
  rw [ib_eq h0 h1]
  obtain ⟨m, rfl⟩ : ∃ m : Nat, n = m := ⟨n.toNat, by omega⟩
  rw [Int.toNat_natCast]
  have hl := vints_len 8 m (by omega)
  have hp := vints_pos m
  have hs : (strOfNums (vints m)).size = (vints m).length := strOfNums_size _
  obtain ⟨g1, g2, g3, g4⟩ := vints_val (strOfNums (vints m) ++ r) m 0 (fun i v hv => by
    rw [Nat.zero_add, bn_app m r i v hv]
    have := vints_bytes m v (List.mem_of_getElem? hv)
    omega)
  simp only [Nat.zero_add] at g1 g2 g3 g4
  have := gi_val (strOfNums (vints m) ++ r) ((vints m).length - 1) (by rw [ByteArray.size_append]; omega) g2 ((vints m).length - 1) 0 0 (by omega) (by omega) (fun j h2 h3 => g1 j h2 h3)
  rw [show 9 - 0 = 9 from rfl] at this
  rw [this, show (vints m).length - 1 + 1 = (vints m).length by omega, g3, fin, Nat.mul_zero, Nat.pow_zero, Nat.one_mul, Nat.zero_add, if_neg (by omega), if_neg (by rintro ⟨h2, h3⟩; have := g4 h2; subst this; rw [vints, dif_pos (by omega)] at h3; simp at h3), hs, show (vints m).length - 1 + 1 = (vints m).length by omega]

theorem gi_first (s : ByteArray) : ∀ f i n, (gi s f i n).2.2 = 0 → i ≤ s.size → ∃ k, i ≤ k ∧ k < i + f ∧ k < s.size ∧ bn s k < 128 ∧ ∀ j, i ≤ j → j < k → 128 ≤ bn s j
  | 0, i, n, h, hs => by simp [gi] at h
  | f + 1, i, n, h, hs => by
    rw [gi] at h
    by_cases h1 : i = s.size
    · rw [if_pos h1] at h; simp at h
    rw [if_neg h1] at h
    by_cases h2 : bn s i < 128
    · exact ⟨i, Nat.le_refl _, by omega, by omega, h2, fun j h3 h4 => by omega⟩
    · rw [if_neg h2] at h
      obtain ⟨k, g1, g2, g3, g4, g5⟩ := gi_first s f (i + 1) _ h (by omega)
      refine ⟨k, by omega, by omega, g3, g4, fun j h3 h4 => ?_⟩
      rcases Nat.eq_or_lt_of_le h3 with rfl | h3
      · omega
      · exact g5 j (by omega) h4
theorem bval_pos (s : ByteArray) (k : Nat) (h0 : bn s k ≠ 0) (hl : bn s k < 128) : ∀ d j, j + d = k → 0 < bval s k (d + 1) j
  | 0, j, h => by
    obtain rfl : j = k := by omega
    simp only [bval]
    omega
  | d + 1, j, h => by
    have := bval_pos s k h0 hl d (j + 1) (by omega)
    rw [bval]
    omega
theorem vints_of (s : ByteArray) (k : Nat) (hl : bn s k < 128) (h0 : 0 < k → bn s k ≠ 0) : ∀ d j, j + d = k → (∀ i, j ≤ i → i < k → 128 ≤ bn s i) →
    vints (bval s k (d + 1) j) = (List.range (d + 1)).map (fun i => (bn s (j + i) : Int))
  | 0, j, h, hb => by
    obtain rfl : j = k := by omega
    rw [vints, dif_pos (by simp only [bval]; omega)]
    have e : bval s j (0 + 1) j = bn s j := by simp only [bval]; omega
    rw [e]
    rfl
  | d + 1, j, h, hb => by
    have hp := bval_pos s k (h0 (by omega)) hl d (j + 1) (by omega)
    have hj := hb j (Nat.le_refl _) (by omega)
    have h256 := bn_lt s j
    have ih := vints_of s k hl h0 d (j + 1) (by omega) (fun i h1 h2 => hb i (by omega) h2)
    rw [bval]
    generalize bval s k (d + 1) (j + 1) = V at hp ih ⊢
    rw [vints, dif_neg (by omega), show (bn s j % 128 + 128 * V) / 128 = V by omega, show (bn s j % 128 + 128 * V) % 128 + 128 = bn s j by omega, ih, List.range_succ_eq_map (n := d + 1), List.map_cons, List.map_map]
    congr 1
    refine List.map_congr_left fun i _ => ?_
    show ((bn s (j + 1 + i) : Nat) : Int) = ((bn s (j + (i + 1)) : Nat) : Int)
    rw [show j + 1 + i = j + (i + 1) by omega]
theorem bytes_split (s : ByteArray) (m : Nat) (hm : m ≤ s.size) : s = strOfNums ((List.range m).map (fun i => (bn s (0 + i) : Int))) ++ rest s (m : Int) := by
  apply ByteArray.ext
  apply Array.toList_inj.1
  have e1 : (strOfNums ((List.range m).map (fun i => (bn s (0 + i) : Int))) ++ rest s (m : Int)).data.toList = (strOfNums ((List.range m).map (fun i => (bn s (0 + i) : Int)))).data.toList ++ (rest s (m : Int)).data.toList := by simp
  have e2 : (rest s (m : Int)).data.toList = s.data.toList.drop m := by
    show (s.extract (m : Int).toNat s.size).data.toList = _
    rw [Int.toNat_natCast, ByteArray.data_extract, Array.toList_extract, List.extract_eq_drop_take', List.take_of_length_le (by rw [Array.length_toList]; exact Nat.le_refl _)]
  rw [e1, e2, strOfNums_data, List.map_map]
  conv => lhs; rw [← List.take_append_drop m s.data.toList]
  congr 1
  have hsz : s.data.toList.length = s.size := by rw [Array.length_toList]; rfl
  apply List.ext_getElem
  · rw [List.length_take, List.length_map, List.length_range]; omega
  · intro i h1 h2
    rw [List.length_map, List.length_range] at h2
    simp only [List.getElem_take, List.getElem_map, List.getElem_range, Function.comp, Int.toNat_natCast, Nat.zero_add]
    rw [bn, dif_pos (by omega)]
    simp [ByteArray.getElem_eq_getElem_data]
theorem gi_inv (s : ByteArray) (h : (gi s 9 0 0).2.2 = 0) : s = ib (gi s 9 0 0).1 ++ rest s (gi s 9 0 0).2.1 ∧ (gi s 9 0 0).2.1 = ((ib (gi s 9 0 0).1).size : Int) := by
  obtain ⟨k, g1, g2, g3, g4, g5⟩ := gi_first s 9 0 0 h (Nat.zero_le _)
  have hv := gi_val s k g3 g4 k 0 0 (by omega) (by omega) g5
  rw [show 9 - 0 = 9 from rfl, Nat.mul_zero, Nat.pow_zero, Nat.one_mul, Nat.zero_add] at hv
  rw [hv] at h ⊢
  unfold fin at h ⊢
  by_cases c1 : bval s k (k + 1) 0 > 4611686018427387903
  · rw [if_pos c1] at h; simp at h
  rw [if_neg c1] at h ⊢
  by_cases c2 : bn s k = 0 ∧ 0 < k
  · rw [if_pos c2] at h; simp at h
  rw [if_neg c2]
  have e := vints_of s k g4 (fun hk h0 => c2 ⟨h0, hk⟩) k 0 (by omega) g5
  dsimp only
  rw [ib_eq (by omega) (by omega), Int.toNat_natCast, e]
  refine ⟨bytes_split s (k + 1) (by omega), ?_⟩
  rw [strOfNums_size, List.length_map, List.length_range]

theorem ba_eq {a b : ByteArray} (h : a.data.toList = b.data.toList) : a = b := ByteArray.ext (Array.toList_inj.1 h)
theorem ba_app (a b : ByteArray) : (a ++ b).data.toList = a.data.toList ++ b.data.toList := by simp
theorem ba_len (a : ByteArray) : a.data.toList.length = a.size := by rw [Array.length_toList]; rfl
theorem ba_ext (a : ByteArray) (i j : Nat) : (a.extract i j).data.toList = (a.data.toList.take j).drop i := by
  rw [ByteArray.data_extract, Array.toList_extract, List.extract_eq_drop_take']
theorem ba_assoc (a b c : ByteArray) : a ++ b ++ c = a ++ (b ++ c) := ByteArray.append_assoc
theorem ba_rest (a : ByteArray) (n : Nat) : (rest a (n : Int)).data.toList = a.data.toList.drop n := by
  show (a.extract (n : Int).toNat a.size).data.toList = _
  rw [Int.toNat_natCast, ba_ext, List.take_of_length_le (by rw [ba_len]; exact Nat.le_refl _)]
theorem rest_app (a r : ByteArray) : rest (a ++ r) ((a.size : Nat) : Int) = r := by
  apply ba_eq
  rw [ba_rest, ba_app, List.drop_left' (ba_len a)]
theorem mid_app (a x r : ByteArray) : (a ++ (x ++ r)).extract a.size (a.size + x.size) = x := by
  apply ba_eq
  rw [ba_ext, ba_app, ba_app, List.take_append, List.take_append, ba_len, ba_len, List.take_of_length_le (by rw [ba_len]; omega), List.take_of_length_le (by rw [ba_len]; omega), show a.size + x.size - a.size - x.size = 0 by omega, List.take_zero, List.append_nil, List.drop_left' (ba_len a)]
theorem rest_split (s : ByteArray) (p n : Nat) (h : p + n ≤ s.size) : rest s (p : Int) = s.extract p (p + n) ++ rest s ((p + n : Nat) : Int) := by
  apply ba_eq
  rw [ba_app, ba_rest, ba_rest, ba_ext, List.drop_take, show p + n - p = n by omega, ← List.drop_drop, List.take_append_drop]
theorem size_nat (s : ByteArray) : s.size ≤ 4611686018427387903 → gi (ib (s.size : Int) ++ s) 9 0 0 = ((s.size : Int), ((ib (s.size : Int)).size : Int), 0) := fun h => gi_app _ _ (by omega) (by omega)
theorem gt_app (x r : ByteArray) (hx : x.size ≤ 65536) : gt (tb x ++ r) = (x, ((tb x).size : Int), 0) := by
  have e : tb x ++ r = ib x.size ++ (x ++ r) := ba_assoc _ _ _
  have es : (tb x).size = (ib x.size).size + x.size := ByteArray.size_append
  have hs : (ib x.size ++ (x ++ r)).size = (ib x.size).size + (x.size + r.size) := by rw [ByteArray.size_append, ByteArray.size_append]
  rw [gt, e, gi_app _ _ (by omega) (by omega)]
  dsimp only
  rw [if_pos rfl, if_neg (by omega), if_neg (by omega)]
  rw [show ((((ib x.size).size : Nat) : Int) + ((x.size : Nat) : Int)).toNat = (ib x.size).size + x.size by omega, Int.toNat_natCast, mid_app]
  rw [es]
  push_cast
  rfl
theorem gt_inv (s : ByteArray) (h : (gt s).2.2 = 0) : s = tb (gt s).1 ++ rest s (gt s).2.1 ∧ (gt s).2.1 = ((tb (gt s).1).size : Int) ∧ (gt s).1.size ≤ 65536 := by
  unfold gt at h ⊢
  by_cases h1 : (gi s 9 0 0).2.2 = 0
  · have g := gi_inv s h1
    have k := gi_ok s 9 0 0 (by omega) h1
    rw [if_pos h1] at h ⊢
    generalize hG : gi s 9 0 0 = G at h g k ⊢
    obtain ⟨n, p, x⟩ := G
    dsimp only at h g k ⊢
    by_cases h2 : n > 65536
    · rw [if_pos h2] at h; simp at h
    rw [if_neg h2] at h ⊢
    by_cases h3 : n > (s.size : Int) - p
    · rw [if_pos h3] at h; simp at h
    rw [if_neg h3]
    dsimp only
    obtain ⟨m, rfl⟩ : ∃ m : Nat, n = m := ⟨n.toNat, by omega⟩
    obtain ⟨g1, g2⟩ := g
    subst g2
    rw [show ((((ib (m : Int)).size : Nat) : Int) + (m : Int)).toNat = (ib (m : Int)).size + m by omega, Int.toNat_natCast]
    have hsz : (s.extract (ib (m : Int)).size ((ib (m : Int)).size + m)).size = m := by rw [ByteArray.size_extract]; omega
    have et : tb (s.extract (ib (m : Int)).size ((ib (m : Int)).size + m)) = ib (m : Int) ++ s.extract (ib (m : Int)).size ((ib (m : Int)).size + m) := by rw [tb, hsz]
    refine ⟨?_, ?_, by omega⟩
    · conv => lhs; rw [g1]
      rw [et, ba_assoc, rest_split s (ib (m : Int)).size m (by omega)]
      push_cast
      rfl
    · rw [et, ByteArray.size_append, hsz]
      push_cast
      rfl
  · rw [if_neg h1] at h; exact absurd h h1

def tbsB (xs : List ByteArray) : ByteArray := ⟨(tbs xs).toArray⟩
theorem tbsB_nil : tbsB [] = ⟨#[]⟩ := rfl
theorem tbsB_cons (x : ByteArray) (xs : List ByteArray) : tbsB (x :: xs) = tb x ++ tbsB xs := by
  apply ba_eq
  rw [ba_app]
  rfl
theorem lb_eq (xs : List ByteArray) : lb xs = ib xs.length ++ tbsB xs := by
  apply ba_eq
  rw [ba_app]
  rfl
theorem ba_nil (a : ByteArray) : (⟨#[]⟩ : ByteArray) ++ a = a := by
  apply ba_eq
  rw [ba_app]
  rfl
theorem ba_nil' (a : ByteArray) : a ++ (⟨#[]⟩ : ByteArray) = a := by
  apply ba_eq
  rw [ba_app]
  exact List.append_nil _
theorem glL_app : ∀ (xs : List ByteArray) (pre r : ByteArray) (acc : List ByteArray), (∀ x ∈ xs, x.size ≤ 65536) →
    glL (pre ++ (tbsB xs ++ r)) xs.length pre.size acc = (acc ++ xs, ((pre.size + (tbsB xs).size : Nat) : Int), 0)
  | [], pre, r, acc, h => by
    rw [List.length_nil, glL, List.append_nil]
    rfl
  | x :: xs, pre, r, acc, h => by
    have e : pre ++ (tbsB (x :: xs) ++ r) = (pre ++ tb x) ++ (tbsB xs ++ r) := by rw [tbsB_cons, ba_assoc, ba_assoc]
    have hx : (pre ++ (tbsB (x :: xs) ++ r)).extract pre.size (pre ++ (tbsB (x :: xs) ++ r)).size = tb x ++ (tbsB xs ++ r) := by
      have := rest_app pre (tbsB (x :: xs) ++ r)
      rw [rest, Int.toNat_natCast] at this
      rw [this, tbsB_cons, ba_assoc]
    have ih := glL_app xs (pre ++ tb x) r (acc ++ [x]) (fun y hy => h y (by simp [hy]))
    rw [List.length_cons, glL, hx, gt_app x _ (h x (by simp))]
    dsimp only
    rw [if_pos rfl, Int.toNat_natCast]
    have es : pre.size + (tb x).size = (pre ++ tb x).size := ByteArray.size_append.symm
    rw [e, es, ih, List.append_assoc, List.singleton_append, tbsB_cons, ByteArray.size_append, ByteArray.size_append, Nat.add_assoc]
theorem gl_app (xs : List ByteArray) (r : ByteArray) (m : Int) (hm : (xs.length : Int) ≤ m) (hl : xs.length ≤ 65536) (h : ∀ x ∈ xs, x.size ≤ 65536) : gl (lb xs ++ r) m = (xs, ((lb xs).size : Int), 0) := by
  rw [lb_eq, ba_assoc, gl, gi_app _ _ (by omega) (by omega)]
  dsimp only
  rw [if_pos rfl, if_neg (by omega), Int.toNat_natCast, Int.toNat_natCast, glL_app xs _ r [] h, ByteArray.size_append]
  rfl
theorem glL_inv (a : ByteArray) : ∀ c p acc, p ≤ a.size → (glL a c p acc).2.2 = 0 → ∃ xs q, glL a c p acc = (acc ++ xs, ((q : Nat) : Int), 0) ∧ xs.length = c ∧ rest a (p : Int) = tbsB xs ++ rest a (q : Int) ∧ q = p + (tbsB xs).size ∧ q ≤ a.size ∧ ∀ x ∈ xs, x.size ≤ 65536
  | 0, p, acc, hp, h => ⟨[], p, by rw [List.append_nil]; rfl, rfl, (ba_nil _).symm, rfl, hp, by simp⟩
  | c + 1, p, acc, hp, h => by
    rw [glL] at h ⊢
    by_cases h0 : (gt (a.extract p a.size)).2.2 = 0
    · rw [if_pos h0] at h ⊢
      have e : a.extract p a.size = rest a (p : Int) := by rw [rest, Int.toNat_natCast]
      have g := gt_inv _ h0
      rw [e] at h g ⊢
      generalize hG : gt (rest a (p : Int)) = G at h g ⊢
      obtain ⟨x, k, y⟩ := G
      dsimp only at h g ⊢
      obtain ⟨g1, rfl, g3⟩ := g
      rw [Int.toNat_natCast] at h ⊢
      have hz : (rest a (p : Int)).size = a.size - p := by rw [← ba_len, ba_rest, List.length_drop, ba_len]
      have hz2 : (tb x).size ≤ a.size - p := by rw [← hz]; conv => rhs; rw [g1]
                                                rw [ByteArray.size_append]; omega
      have er : rest (rest a (p : Int)) ((tb x).size : Int) = rest a ((p + (tb x).size : Nat) : Int) := by
        apply ba_eq
        rw [ba_rest, ba_rest, ba_rest, List.drop_drop]
      obtain ⟨xs, q, i1, i2, i3, i4, i5, i6⟩ := glL_inv a c (p + (tb x).size) (acc ++ [x]) (by omega) h
      refine ⟨x :: xs, q, ?_, by rw [List.length_cons, i2], ?_, ?_, i5, ?_⟩
      · rw [i1, List.append_assoc, List.singleton_append]
      · rw [g1, er, i3, tbsB_cons, ba_assoc]
      · rw [tbsB_cons, ByteArray.size_append]; omega
      · intro y hy
        rcases List.mem_cons.1 hy with rfl | hy
        · exact g3
        · exact i6 y hy
    · rw [if_neg h0] at h; exact absurd h h0
theorem gl_inv (s : ByteArray) (m : Int) (h : (gl s m).2.2 = 0) : s = lb (gl s m).1 ++ rest s (gl s m).2.1 ∧ (gl s m).2.1 = ((lb (gl s m).1).size : Int) ∧ ∀ x ∈ (gl s m).1, x.size ≤ 65536 := by
  unfold gl at h ⊢
  by_cases h1 : (gi s 9 0 0).2.2 = 0
  · have g := gi_inv s h1
    have k := gi_ok s 9 0 0 (by omega) h1
    rw [if_pos h1] at h ⊢
    generalize hG : gi s 9 0 0 = G at h g k ⊢
    obtain ⟨n, p, x⟩ := G
    dsimp only at h g k ⊢
    by_cases h2 : n > m
    · rw [if_pos h2] at h; simp at h
    rw [if_neg h2] at h ⊢
    obtain ⟨c, rfl⟩ : ∃ c : Nat, n = c := ⟨n.toNat, by omega⟩
    obtain ⟨g1, rfl⟩ := g
    rw [Int.toNat_natCast, Int.toNat_natCast] at h ⊢
    obtain ⟨xs, q, i1, i2, i3, i4, i5, i6⟩ := glL_inv s c _ [] (by omega) h
    rw [i1]
    dsimp only
    rw [List.nil_append, lb_eq, i2]
    refine ⟨?_, ?_, i6⟩
    · conv => lhs; rw [g1]
      rw [i3, ba_assoc]
    · rw [ByteArray.size_append, i4]
  · rw [if_neg h1] at h; exact absurd h h1
theorem encB_eq (k : Int) (f t : ByteArray) (am nc : Int) (ky' vl : ByteArray) (rs ws : List ByteArray) :
    encB k f t am nc ky' vl rs ws = ib k ++ (tb f ++ (tb t ++ (ib am ++ (ib nc ++ (tb ky' ++ (tb vl ++ (lb rs ++ lb ws))))))) := by
  apply ba_eq
  simp only [ba_app]
  unfold encB
  rw [join_nil]
  simp [encL]
end Go.Proofs.YtndicjikjcifaaaDoor
