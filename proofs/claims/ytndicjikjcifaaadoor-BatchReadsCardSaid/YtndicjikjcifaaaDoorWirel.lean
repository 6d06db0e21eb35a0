/- The plain law of numbers in bytes: the program's reading of a number is the document's. -/
import Derived.Test.YtndicjikjcifaaaDoorPWix1
namespace Go.Proofs.YtndicjikjcifaaaDoor
open Go.RowKit Go.Proofs.YtndicjikjcifaaaDoorW.PrintWords Go.Proofs.YtndicjikjcifaaaDoorW.PrintLast
set_option linter.unusedVariables false
set_option linter.unusedSimpArgs false

theorem gi_ok (s : ByteArray) : ∀ k i n, i ≤ s.size → (gi s k i n).2.2 = 0 → 0 ≤ (gi s k i n).1 ∧ (gi s k i n).1 ≤ 4611686018427387903 ∧ (i : Int) + 1 ≤ (gi s k i n).2.1 ∧ (gi s k i n).2.1 ≤ s.size
  | 0, i, n, hi, h => by simp [gi] at h
  | k + 1, i, n, hi, h => by
    rw [gi] at h ⊢
    by_cases h1 : i = s.size
    · rw [if_pos h1] at h; simp at h
    rw [if_neg h1] at h ⊢
    by_cases h2 : bn s i < 128
    · rw [if_pos h2] at h ⊢
      by_cases h3 : n + bn s i * 2 ^ (7 * i) > 4611686018427387903
      · rw [if_pos h3] at h; simp at h
      rw [if_neg h3] at h ⊢
      by_cases h4 : bn s i = 0 ∧ 0 < i
      · rw [if_pos h4] at h; simp at h
      rw [if_neg h4]
      generalize bn s i * 2 ^ (7 * i) = M at h3 ⊢
      refine ⟨?_, ?_, ?_, ?_⟩ <;> simp <;> omega
    · rw [if_neg h2] at h ⊢
      have := gi_ok s k (i + 1) _ (by omega) h
      omega
theorem gi_err (s : ByteArray) : ∀ k i n, (gi s k i n).2.2 ≠ 0 → (gi s k i n).1 = 0 ∧ (gi s k i n).2.1 = 0
  | 0, i, n, h => by simp [gi]
  | k + 1, i, n, h => by
    rw [gi] at h ⊢
    by_cases h1 : i = s.size
    · rw [if_pos h1]; simp
    rw [if_neg h1] at h ⊢
    by_cases h2 : bn s i < 128
    · rw [if_pos h2] at h ⊢
      by_cases h3 : n + bn s i * 2 ^ (7 * i) > 4611686018427387903
      · rw [if_pos h3]; simp
      rw [if_neg h3] at h ⊢
      by_cases h4 : bn s i = 0 ∧ 0 < i
      · rw [if_pos h4]; simp
      · rw [if_neg h4] at h; simp at h
    · rw [if_neg h2] at h ⊢
      exact gi_err s k (i + 1) _ h

/-- The value of the bytes from j to k. -/
def bval (s : ByteArray) (k : Nat) : Nat → Nat → Nat
  | 0, _ => 0
  | f + 1, j => bn s j % 128 + 128 * bval s k f (j + 1)
theorem bval_lt (s : ByteArray) (k : Nat) : ∀ f j, bval s k f j < 128 ^ f
  | 0, j => by simp [bval]
  | f + 1, j => by
    have := bval_lt s k f (j + 1)
    rw [bval, Nat.pow_succ]
    omega
def fin (s : ByteArray) (k V : Nat) : Int × Int × Int :=
  if V > 4611686018427387903 then (0, 0, 2) else if bn s k = 0 ∧ 0 < k then (0, 0, 3) else ((V : Int), ((k + 1 : Nat) : Int), 0)
theorem gi_val (s : ByteArray) (k : Nat) (hk : k < s.size) (hl : bn s k < 128) : ∀ d i n, i + d = k → k ≤ 8 → (∀ j, i ≤ j → j < k → 128 ≤ bn s j) → gi s (9 - i) i n = fin s k (n + 2 ^ (7 * i) * bval s k (d + 1) i)
  | 0, i, n, hd, h8, hb => by
    obtain rfl : i = k := by omega
    obtain ⟨m, hm⟩ : ∃ m, 9 - i = m + 1 := ⟨8 - i, by omega⟩
    rw [hm, gi, if_neg (by omega), if_pos hl, fin]
    simp only [bval, Nat.mul_zero, Nat.add_zero, Nat.mod_eq_of_lt hl, Nat.mul_comm (bn s i)]
  | d + 1, i, n, hd, h8, hb => by
    obtain ⟨m, hm⟩ : ∃ m, 9 - i = m + 1 := ⟨8 - i, by omega⟩
    have hi := hb i (by omega) (by omega)
    have h256 := bn_lt s i
    rw [hm, gi, if_neg (by omega), if_neg (by omega)]
    have := gi_val s k hk hl d (i + 1) (n + (bn s i - 128) * 2 ^ (7 * i)) (by omega) h8 (fun j h1 h2 => hb j (by omega) h2)
    rw [show 9 - (i + 1) = m by omega] at this
    rw [this]
    congr 1
    show _ = n + 2 ^ (7 * i) * (bn s i % 128 + 128 * bval s k (d + 1) (i + 1))
    rw [show bn s i % 128 = bn s i - 128 by omega]
    have e : 2 ^ (7 * (i + 1)) = 2 ^ (7 * i) * 128 := by rw [show 7 * (i + 1) = 7 * i + 7 by omega, Nat.pow_add]
    rw [e, Nat.mul_add, Nat.mul_comm (bn s i - 128), Nat.mul_assoc]
    omega
theorem gi_go (s : ByteArray) : ∀ i, i ≤ 9 → i ≤ s.size → (∀ j, j < i → 128 ≤ bn s j) → ∃ n, gi s 9 0 0 = gi s (9 - i) i n
  | 0, _, _, _ => ⟨0, by rw [Nat.sub_zero]⟩
  | i + 1, h9, hs, hb => by
    obtain ⟨n, hn⟩ := gi_go s i (by omega) (by omega) (fun j hj => hb j (by omega))
    obtain ⟨m, hm⟩ : ∃ m, 9 - i = m + 1 := ⟨8 - i, by omega⟩
    have := hb i (by omega)
    rw [hn, hm, gi, if_neg (by omega), if_neg (by omega), show 9 - (i + 1) = m by omega]
    exact ⟨_, rfl⟩
theorem bval_up (s : ByteArray) (k : Nat) : ∀ j f, bval s k f j ≤ bval s k (f + j) 0
  | 0, f => by simp
  | j + 1, f => by
    have := bval_up s k j (f + 1)
    rw [show f + 1 + j = f + (j + 1) by omega] at this
    have e : bval s k (f + 1) j = bn s j % 128 + 128 * bval s k f (j + 1) := rfl
    omega
theorem bt_bn (s : ByteArray) (i : Nat) : bt s (i : Int) = (bn s i : Int) := by
  unfold bt bn
  simp only [Int.toNat_natCast]
  split <;> rfl
theorem w64 (x : Int) (h0 : 0 ≤ x) (h1 : x < 9223372036854775808) : wrap64 x = x := by rw [wrap64]; omega
theorem w64i (x : Int) (h0 : -1 ≤ x) (h1 : x < 9223372036854775808) : wrap64 x = x := by rw [wrap64]; omega
open PWi in
theorem ref_l1 (s : ByteArray) (k : Nat) (hk : k < s.size) (h8 : k ≤ 8) : ∀ j K, j ≤ k + 1 → j + 1 ≤ K → bval s k (k + 1 - j) j ≤ 4611686018427387903 →
    tuskref01_GetInt.l1 K s k (bval s k (k + 1 - j) j : Nat) ((j : Int) - 1) = some (fin s k (bval s k (k + 1) 0))
  | 0, K, hj, hK, hv => by
    obtain ⟨K, rfl⟩ : ∃ m, K = m + 1 := ⟨K - 1, by omega⟩
    rw [Nat.sub_zero] at hv ⊢
    have hb := bt_bn s k
    have e : wrap64 ((k : Int) + 1) = ((k + 1 : Nat) : Int) := by rw [w64]; all_goals omega
    have hfin : fin s k (bval s k (k + 1) 0) = if bn s k = 0 ∧ 0 < k then (0, 0, 3) else (((bval s k (k + 1) 0 : Nat) : Int), ((k + 1 : Nat) : Int), 0) := by rw [fin, if_neg (by omega)]
    rw [hfin]
    by_cases h0 : 0 < k
    · by_cases h1 : bn s k = 0
      · rw [if_pos ⟨h1, h0⟩, tuskref01_GetInt.l1, if_neg (by omega), if_pos (by omega), if_pos (by omega), if_pos (by omega), hb, if_pos (by omega)]
      · rw [if_neg (by omega), tuskref01_GetInt.l1, if_neg (by omega), if_pos (by omega), if_pos (by omega), if_pos (by omega), hb, if_neg (by omega), e]
    · rw [if_neg (by omega), tuskref01_GetInt.l1, if_neg (by omega), if_neg (by omega), e]
  | j + 1, K, hj, hK, hv => by
    obtain ⟨K, rfl⟩ : ∃ m, K = m + 1 := ⟨K - 1, by omega⟩
    have hb := bt_bn s j
    have h256 := bn_lt s j
    have hlt := bval_lt s k (k + 1 - (j + 1)) (j + 1)
    have hp : 128 ^ (k + 1 - (j + 1)) ≤ 128 ^ 8 := Nat.pow_le_pow_right (by omega) (by omega)
    have hn : bval s k (k + 1 - j) j = bn s j % 128 + 128 * bval s k (k + 1 - (j + 1)) (j + 1) := by
      rw [show k + 1 - j = (k + 1 - (j + 1)) + 1 by omega]; rfl
    have hup := bval_up s k j (k + 1 - j)
    rw [show k + 1 - j + j = k + 1 by omega] at hup
    have hw : wrap64 (wrap64 (128 * ((bval s k (k + 1 - (j + 1)) (j + 1) : Nat) : Int)) + wrap64 (Int.tmod (bn s j : Int) 128)) = ((bval s k (k + 1 - j) j : Nat) : Int) := by
      rw [hn]
      have e1 : Int.tmod (bn s j : Int) 128 = ((bn s j % 128 : Nat) : Int) := by rw [Int.tmod_eq_emod_of_nonneg (by omega)]; omega
      rw [e1]
      have hX : bval s k (k + 1 - (j + 1)) (j + 1) < 72057594037927936 := Nat.lt_of_lt_of_le hlt hp
      generalize bval s k (k + 1 - (j + 1)) (j + 1) = X at hX ⊢
      clear hlt hp hn hup hv
      rw [w64 (128 * (X : Int)) (by omega) (by omega), w64 ((bn s j % 128 : Nat) : Int) (by omega) (by omega), w64 _ (by omega) (by omega)]
      omega
    clear hlt hp hn
    rw [show ((j + 1 : Nat) : Int) - 1 = (j : Int) by omega, tuskref01_GetInt.l1, if_pos (by omega), if_pos (by omega), if_pos (by omega), hb, hw]
    by_cases hbig : bval s k (k + 1 - j) j > 4611686018427387903
    · rw [if_pos (by omega), fin, if_pos (by omega)]
    · rw [if_neg (by omega), w64i ((j : Int) - 1) (by omega) (by omega)]
      exact ref_l1 s k hk h8 j K (by omega) (by omega) (by omega)
open PWi in
theorem ref_l0 (s : ByteArray) : ∀ d i K, i + d = 9 → i ≤ s.size → (∀ j, j < i → 128 ≤ bn s j) → d + 20 ≤ K → tuskref01_GetInt.l0 K s i = some (gi s 9 0 0)
  | d, i, K, hd, hs, hb, hK => by
    obtain ⟨K, rfl⟩ : ∃ m, K = m + 1 := ⟨K - 1, by omega⟩
    obtain ⟨K', rfl⟩ : ∃ m, K = m + 1 := ⟨K - 1, by omega⟩
    obtain ⟨n, hn⟩ := gi_go s i (by omega) hs hb
    rw [tuskref01_GetInt.l0]
    by_cases h1 : i < s.size
    · rw [if_pos (by omega)]
      by_cases h2 : i < 9
      · rw [if_pos (by omega), if_pos (by omega), bt_bn]
        by_cases h3 : 128 ≤ bn s i
        · rw [if_pos (by omega), show wrap64 ((i : Int) + 1) = ((i + 1 : Nat) : Int) by rw [w64]; all_goals omega]
          cases d with
          | zero => omega
          | succ d => exact ref_l0 s d (i + 1) _ (by omega) (by omega) (fun j hj => by rcases Nat.lt_or_ge j i with h | h; exact hb j h; rwa [show j = i by omega]) (by omega)
        · rw [if_neg (by omega), tuskref01_GetInt.j1, if_neg (by omega), if_neg (by omega)]
          have h := ref_l1 s i h1 (by omega) (i + 1) K' (by omega) (by omega) (by simp [bval])
          rw [show i + 1 - (i + 1) = 0 by omega, show ((i + 1 : Nat) : Int) - 1 = (i : Int) by omega] at h
          have g := gi_val s i h1 (by omega) i 0 0 (by omega) (by omega) (fun j _ hj => hb j hj)
          simp only [Nat.sub_zero, Nat.mul_zero, Nat.pow_zero, Nat.one_mul, Nat.zero_add] at g
          rw [g]
          exact h
      · obtain rfl : i = 9 := by omega
        rw [if_neg (by omega), tuskref01_GetInt.j1, if_pos (by omega), hn, Nat.sub_self, gi]
    · obtain rfl : i = s.size := by omega
      rw [if_neg (by omega), tuskref01_GetInt.j1]
      by_cases h9 : s.size = 9
      · rw [if_pos (by omega), hn, h9, Nat.sub_self, gi]
      · rw [if_neg (by omega), if_pos rfl, hn]
        obtain ⟨m, hm⟩ : ∃ m, 9 - s.size = m + 1 := ⟨8 - s.size, by omega⟩
        rw [hm, gi, if_pos rfl]
open PWi in
theorem ref_GetInt (s : ByteArray) (K : Nat) (hK : 29 ≤ K) : tuskref01_GetInt.f K s = some (gi s 9 0 0) :=
  ref_l0 s 9 0 K (by omega) (by omega) (fun j hj => by omega) (by omega)
end Go.Proofs.YtndicjikjcifaaaDoor

/- The plain law of texts and lists in bytes: the program's reading is the document's. -/
namespace Go.Proofs.YtndicjikjcifaaaDoor
open Go.RowKit Go.Proofs.YtndicjikjcifaaaDoorW.PrintWords Go.Proofs.YtndicjikjcifaaaDoorW.PrintLast
set_option linter.unusedVariables false
set_option linter.unusedSimpArgs false

def gt (a : ByteArray) : ByteArray × Int × Int :=
  if (gi a 9 0 0).2.2 = 0 then
    if (gi a 9 0 0).1 > 65536 then (⟨#[]⟩, 0, 8)
    else if (gi a 9 0 0).1 > (a.size : Int) - (gi a 9 0 0).2.1 then (⟨#[]⟩, 0, 1)
    else (a.extract (gi a 9 0 0).2.1.toNat ((gi a 9 0 0).2.1 + (gi a 9 0 0).1).toNat, (gi a 9 0 0).2.1 + (gi a 9 0 0).1, 0)
  else (⟨#[]⟩, 0, (gi a 9 0 0).2.2)
theorem gt_ok (a : ByteArray) (h : (gt a).2.2 = 0) : 1 ≤ (gt a).2.1 ∧ (gt a).2.1 ≤ a.size := by
  have g := gi_ok a 9 0 0 (by omega)
  unfold gt at h ⊢
  generalize gi a 9 0 0 = G at h g ⊢
  by_cases h0 : G.2.2 = 0
  · rw [if_pos h0] at h ⊢
    have g := g h0
    by_cases h1 : G.1 > 65536
    · rw [if_pos h1] at h; simp at h
    rw [if_neg h1] at h ⊢
    by_cases h2 : G.1 > (a.size : Int) - G.2.1
    · rw [if_pos h2] at h; simp at h
    rw [if_neg h2]
    constructor <;> simp <;> omega
  · rw [if_neg h0] at h; exact absurd h h0
theorem gt_err (a : ByteArray) (h : (gt a).2.2 ≠ 0) : gt a = (⟨#[]⟩, 0, (gt a).2.2) := by
  unfold gt at h ⊢
  generalize gi a 9 0 0 = G at h ⊢
  by_cases h0 : G.2.2 = 0
  · rw [if_pos h0] at h ⊢
    by_cases h1 : G.1 > 65536
    · rw [if_pos h1]
    rw [if_neg h1] at h ⊢
    by_cases h2 : G.1 > (a.size : Int) - G.2.1
    · rw [if_pos h2]
    · rw [if_neg h2] at h; simp at h
  · rw [if_neg h0]

open PWi in
theorem wire_text (a : ByteArray) (ha : a.size < 4611686018427387904) : wire_GetText.f a = some (gt a) := by
  have g := gi_ok a 9 0 0 (by omega)
  unfold wire_GetText.f wire_GetInt.f gt
  rw [Option.bind_some]
  generalize gi a 9 0 0 = G at g ⊢
  by_cases h0 : G.2.2 = 0
  · have g := g h0
    rw [if_pos h0, if_pos h0]
    by_cases h1 : G.1 > 65536
    · rw [if_pos h1, if_pos h1]
    rw [if_neg h1, if_neg h1, w64 ((a.size : Int) - G.2.1) (by omega) (by omega)]
    by_cases h2 : G.1 > (a.size : Int) - G.2.1
    · rw [if_pos h2, if_pos h2]
    rw [if_neg h2, if_neg h2, w64 (G.2.1 + G.1) (by omega) (by omega), if_pos (by omega), if_pos (by omega), if_pos (by omega)]
  · rw [if_neg h0, if_neg h0]
open PWi in
theorem ref_text (a : ByteArray) (ha : a.size < 4611686018427387904) (K : Nat) (hK : 29 ≤ K) : tuskref01_GetText.f K a = some (gt a) := by
  have g := gi_ok a 9 0 0 (by omega)
  unfold tuskref01_GetText.f gt
  rw [ref_GetInt a K hK, Option.bind_some]
  generalize gi a 9 0 0 = G at g ⊢
  by_cases h0 : G.2.2 = 0
  · have g := g h0
    rw [if_pos h0, if_pos h0]
    by_cases h1 : G.1 > 65536
    · rw [if_pos h1, if_pos h1]
    rw [if_neg h1, if_neg h1, w64 ((a.size : Int) - G.2.1) (by omega) (by omega)]
    by_cases h2 : G.1 > (a.size : Int) - G.2.1
    · rw [if_pos h2, if_pos h2]
    rw [if_neg h2, if_neg h2, w64 (G.2.1 + G.1) (by omega) (by omega), if_pos (by omega), if_pos (by omega), if_pos (by omega)]
  · rw [if_neg h0, if_neg h0]

def glL (a : ByteArray) : Nat → Nat → List ByteArray → List ByteArray × Int × Int
  | 0, p, acc => (acc, p, 0)
  | c + 1, p, acc => if (gt (a.extract p a.size)).2.2 = 0 then glL a c (p + (gt (a.extract p a.size)).2.1.toNat) (acc ++ [(gt (a.extract p a.size)).1]) else ([], 0, (gt (a.extract p a.size)).2.2)
def gl (a : ByteArray) (m : Int) : List ByteArray × Int × Int :=
  if (gi a 9 0 0).2.2 = 0 then if (gi a 9 0 0).1 > m then ([], 0, 8) else glL a (gi a 9 0 0).1.toNat (gi a 9 0 0).2.1.toNat []
  else ([], 0, (gi a 9 0 0).2.2)
theorem glL_ok (a : ByteArray) : ∀ c p acc, p ≤ a.size → (glL a c p acc).2.2 = 0 → (p : Int) ≤ (glL a c p acc).2.1 ∧ (glL a c p acc).2.1 ≤ a.size ∧ (glL a c p acc).1.length = acc.length + c
  | 0, p, acc, hp, h => by simp [glL]; omega
  | c + 1, p, acc, hp, h => by
    rw [glL] at h ⊢
    by_cases h0 : (gt (a.extract p a.size)).2.2 = 0
    · rw [if_pos h0] at h ⊢
      have g := gt_ok _ h0
      rw [ByteArray.size_extract] at g
      have := glL_ok a c _ _ (by omega) h
      simp only [List.length_append, List.length_singleton] at this
      omega
    · rw [if_neg h0] at h; exact absurd h h0
theorem gl_ok (a : ByteArray) (m : Int) (h : (gl a m).2.2 = 0) : 0 ≤ (gl a m).2.1 ∧ (gl a m).2.1 ≤ a.size ∧ ((gl a m).1.length : Int) ≤ m := by
  have g := gi_ok a 9 0 0 (by omega)
  unfold gl at h ⊢
  generalize gi a 9 0 0 = G at h g ⊢
  by_cases h0 : G.2.2 = 0
  · have g := g h0
    rw [if_pos h0] at h ⊢
    by_cases h1 : G.1 > m
    · rw [if_pos h1] at h; simp at h
    · rw [if_neg h1] at h ⊢
      have := glL_ok a G.1.toNat G.2.1.toNat [] (by omega) h
      simp only [List.length_nil] at this
      omega
  · rw [if_neg h0] at h; exact absurd h h0
open PWi in
theorem wire_l0 (a : ByteArray) (ha : a.size < 4611686018427387904) (n : Nat) (hn : n < 1000) : ∀ c i p acc K, i + c = n → p ≤ a.size → acc.length = i → c + 1 ≤ K →
    wire_GetList.l0 K a p acc n i = some (glL a c p acc)
  | 0, i, p, acc, K, hi, hp, hl, hK => by
    obtain ⟨K, rfl⟩ : ∃ m, K = m + 1 := ⟨K - 1, by omega⟩
    rw [wire_GetList.l0, if_neg (by omega)]; rfl
  | c + 1, i, p, acc, K, hi, hp, hl, hK => by
    obtain ⟨K, rfl⟩ : ∃ m, K = m + 1 := ⟨K - 1, by omega⟩
    have hs : (a.extract p a.size).size ≤ a.size := by rw [ByteArray.size_extract]; omega
    rw [wire_GetList.l0, if_pos (by omega), if_pos (by omega), if_pos (by omega), Int.toNat_natCast, wire_text _ (by omega), Option.bind_some, glL]
    by_cases h0 : (gt (a.extract p a.size)).2.2 = 0
    · have g := gt_ok _ h0
      rw [ByteArray.size_extract] at g
      rw [if_pos h0, if_pos h0, if_pos (by omega), w64 _ (by omega) (by omega), w64 ((i : Int) + 1) (by omega) (by omega)]
      have := wire_l0 a ha n hn c (i + 1) (p + (gt (a.extract p a.size)).2.1.toNat) (acc ++ [(gt (a.extract p a.size)).1]) K (by omega) (by omega) (by simp; omega) (by omega)
      rw [← this]
      congr 1
      omega
    · rw [if_neg h0, if_neg h0]
open PWi in
theorem wire_list (a : ByteArray) (ha : a.size < 4611686018427387904) (m : Nat) (hm : m < 1000) (K : Nat) (hK : m + 1 ≤ K) : wire_GetList.f K a m = some (gl a m) := by
  have g := gi_ok a 9 0 0 (by omega)
  unfold wire_GetList.f wire_GetInt.f gl
  rw [Option.bind_some]
  generalize gi a 9 0 0 = G at g ⊢
  by_cases h0 : G.2.2 = 0
  · have g := g h0
    rw [if_pos h0, if_pos h0]
    by_cases h1 : G.1 > m
    · rw [if_pos h1, if_pos h1]
    · rw [if_neg h1, if_neg h1]
      have := wire_l0 a ha G.1.toNat (by omega) G.1.toNat 0 G.2.1.toNat [] K (by omega) (by omega) rfl (by omega)
      rw [Int.toNat_of_nonneg (by omega), Int.toNat_of_nonneg (by omega)] at this
      exact this
  · rw [if_neg h0, if_neg h0]
open PWi in
theorem ref_ll0 (a : ByteArray) (ha : a.size < 4611686018427387904) (n : Nat) (hn : n < 1000) : ∀ c i p acc K, i + c = n → p ≤ a.size → acc.length = i → c + 40 ≤ K →
    tuskref01_GetList.l0 K a n p acc i = some (glL a c p acc)
  | 0, i, p, acc, K, hi, hp, hl, hK => by
    obtain ⟨K, rfl⟩ : ∃ m, K = m + 1 := ⟨K - 1, by omega⟩
    rw [tuskref01_GetList.l0, if_neg (by omega)]; rfl
  | c + 1, i, p, acc, K, hi, hp, hl, hK => by
    obtain ⟨K, rfl⟩ : ∃ m, K = m + 1 := ⟨K - 1, by omega⟩
    have hs : (a.extract p a.size).size ≤ a.size := by rw [ByteArray.size_extract]; omega
    rw [tuskref01_GetList.l0, if_pos (by omega), if_pos (by omega), if_pos (by omega), Int.toNat_natCast, ref_text _ (by omega) K (by omega), Option.bind_some, glL]
    by_cases h0 : (gt (a.extract p a.size)).2.2 = 0
    · have g := gt_ok _ h0
      rw [ByteArray.size_extract] at g
      rw [if_pos h0, if_pos h0, if_pos (by omega), w64 _ (by omega) (by omega), w64 ((i : Int) + 1) (by omega) (by omega)]
      have := ref_ll0 a ha n hn c (i + 1) (p + (gt (a.extract p a.size)).2.1.toNat) (acc ++ [(gt (a.extract p a.size)).1]) K (by omega) (by omega) (by simp; omega) (by omega)
      rw [← this]
      congr 1
      omega
    · rw [if_neg h0, if_neg h0]
open PWi in
theorem ref_list (a : ByteArray) (ha : a.size < 4611686018427387904) (m : Nat) (hm : m < 1000) (K : Nat) (hK : m + 41 ≤ K) : tuskref01_GetList.f K a m = some (gl a m) := by
  have g := gi_ok a 9 0 0 (by omega)
  unfold tuskref01_GetList.f gl
  rw [ref_GetInt a K (by omega), Option.bind_some]
  generalize gi a 9 0 0 = G at g ⊢
  by_cases h0 : G.2.2 = 0
  · have g := g h0
    rw [if_pos h0, if_pos h0]
    by_cases h1 : G.1 > m
    · rw [if_pos h1, if_pos h1]
    · rw [if_neg h1, if_neg h1]
      have := ref_ll0 a ha G.1.toNat (by omega) G.1.toNat 0 G.2.1.toNat [] K (by omega) (by omega) rfl (by omega)
      rw [Int.toNat_of_nonneg (by omega), Int.toNat_of_nonneg (by omega)] at this
      exact this
  · rw [if_neg h0, if_neg h0]
end Go.Proofs.YtndicjikjcifaaaDoor
