/- The plain law of texts and lists in bytes: the program's reading is the document's. -/
import Derived.Test.YtndicjikjcifaaaDoorWirep
namespace Go.Proofs.YtndicjikjcifaaaDoor
open Go.RowKit Go.Proofs.YtndicjikjcifaaaDoorW.PrintWords Go.Proofs.YtndicjikjcifaaaDoorW.PrintLast
set_option linter.unusedVariables false
set_option linter.unusedSimpArgs false

def gt (a : ByteArray) : ByteArray × Int × Int :=
  if (gi a 9 0 0).2.2 = 0 then
    if (gi a 9 0 0).1 > 65536 then (⟨#[]⟩, 0, 8)
    else if (gi a 9 0 0).1 > (a.size : Int) - (gi a 9 0 0).2.1 then (⟨#[]⟩, 0, 1)
    else (a.extract (gi a 9 0 0).2.1.toNat ((gi a 9 0 0).2.1 + (gi a 9 0 0).1).toNat, (gi a 9 0 0).2.1 + (gi a 9 0 0).1, 0)
  else (⟨#[]⟩, 0, (gi a 9 0 0).2.2)
theorem gt_ok (a : ByteArray) (h : (gt a).2.2 = 0) : 1 ≤ (gt a).2.1 ∧ (gt a).2.1 ≤ a.size := by
  have g := gi_ok a 9 0 0 (by omega)
  unfold gt at h ⊢
  generalize gi a 9 0 0 = G at h g ⊢
  by_cases h0 : G.2.2 = 0
  · rw [if_pos h0] at h ⊢
    have g := g h0
    by_cases h1 : G.1 > 65536
    · rw [if_pos h1] at h; simp at h
    rw [if_neg h1] at h ⊢
    by_cases h2 : G.1 > (a.size : Int) - G.2.1
    · rw [if_pos h2] at h; simp at h
    rw [if_neg h2]
    constructor <;> simp <;> omega
  · rw [if_neg h0] at h; exact absurd h h0
theorem gt_err (a : ByteArray) (h : (gt a).2.2 ≠ 0) : gt a = (⟨#[]⟩, 0, (gt a).2.2) := by
  unfold gt at h ⊢
  generalize gi a 9 0 0 = G at h ⊢
  by_cases h0 : G.2.2 = 0
  · rw [if_pos h0] at h ⊢
    by_cases h1 : G.1 > 65536
    · rw [if_pos h1]
    rw [if_neg h1] at h ⊢
    by_cases h2 : G.1 > (a.size : Int) - G.2.1
    · rw [if_pos h2]
    · rw [if_neg h2] at h; simp at h
  · rw [if_neg h0]

open PWi in
theorem wire_text (a : ByteArray) (ha : a.size < 4611686018427387904) : wire_GetText.f a = some (gt a) := by
  have g := gi_ok a 9 0 0 (by omega)
  unfold wire_GetText.f wire_GetInt.f gt
  rw [Option.bind_some]
  generalize gi a 9 0 0 = G at g ⊢
  by_cases h0 : G.2.2 = 0
  · have g := g h0
    rw [if_pos h0, if_pos h0]
    by_cases h1 : G.1 > 65536
    · rw [if_pos h1, if_pos h1]
    rw [if_neg h1, if_neg h1, w64 ((a.size : Int) - G.2.1) (by omega) (by omega)]
    by_cases h2 : G.1 > (a.size : Int) - G.2.1
    · rw [if_pos h2, if_pos h2]
    rw [if_neg h2, if_neg h2, w64 (G.2.1 + G.1) (by omega) (by omega), if_pos (by omega), if_pos (by omega), if_pos (by omega)]
  · rw [if_neg h0, if_neg h0]
open PWi in
theorem ref_text (a : ByteArray) (ha : a.size < 4611686018427387904) (K : Nat) (hK : 29 ≤ K) : tuskref01_GetText.f K a = some (gt a) := by
  have g := gi_ok a 9 0 0 (by omega)
  unfold tuskref01_GetText.f gt
  rw [ref_GetInt a K hK, Option.bind_some]
  generalize gi a 9 0 0 = G at g ⊢
  by_cases h0 : G.2.2 = 0
  · have g := g h0
    rw [if_pos h0, if_pos h0]
    by_cases h1 : G.1 > 65536
    · rw [if_pos h1, if_pos h1]
    rw [if_neg h1, if_neg h1, w64 ((a.size : Int) - G.2.1) (by omega) (by omega)]
    by_cases h2 : G.1 > (a.size : Int) - G.2.1
    · rw [if_pos h2, if_pos h2]
    rw [if_neg h2, if_neg h2, w64 (G.2.1 + G.1) (by omega) (by omega), if_pos (by omega), if_pos (by omega), if_pos (by omega)]
  · rw [if_neg h0, if_neg h0]

def glL (a : ByteArray) : Nat → Nat → List ByteArray → List ByteArray × Int × Int
  | 0, p, acc => (acc, p, 0)
  | c + 1, p, acc => if (gt (a.extract p a.size)).2.2 = 0 then glL a c (p + (gt (a.extract p a.size)).2.1.toNat) (acc ++ [(gt (a.extract p a.size)).1]) else ([], 0, (gt (a.extract p a.size)).2.2)
def gl (a : ByteArray) (m : Int) : List ByteArray × Int × Int :=
  if (gi a 9 0 0).2.2 = 0 then if (gi a 9 0 0).1 > m then ([], 0, 8) else glL a (gi a 9 0 0).1.toNat (gi a 9 0 0).2.1.toNat []
  else ([], 0, (gi a 9 0 0).2.2)
theorem glL_ok (a : ByteArray) : ∀ c p acc, p ≤ a.size → (glL a c p acc).2.2 = 0 → (p : Int) ≤ (glL a c p acc).2.1 ∧ (glL a c p acc).2.1 ≤ a.size ∧ (glL a c p acc).1.length = acc.length + c
  | 0, p, acc, hp, h => by simp [glL]; omega
  | c + 1, p, acc, hp, h => by
    rw [glL] at h ⊢
    by_cases h0 : (gt (a.extract p a.size)).2.2 = 0
    · rw [if_pos h0] at h ⊢
      have g := gt_ok _ h0
      rw [ByteArray.size_extract] at g
      have := glL_ok a c _ _ (by omega) h
      simp only [List.length_append, List.length_singleton] at this
      omega
    · rw [if_neg h0] at h; exact absurd h h0
theorem gl_ok (a : ByteArray) (m : Int) (h : (gl a m).2.2 = 0) : 0 ≤ (gl a m).2.1 ∧ (gl a m).2.1 ≤ a.size ∧ ((gl a m).1.length : Int) ≤ m := by
  have g := gi_ok a 9 0 0 (by omega)
  unfold gl at h ⊢
  generalize gi a 9 0 0 = G at h g ⊢
  by_cases h0 : G.2.2 = 0
  · have g := g h0
    rw [if_pos h0] at h ⊢
    by_cases h1 : G.1 > m
    · rw [if_pos h1] at h; simp at h
    · rw [if_neg h1] at h ⊢
      have := glL_ok a G.1.toNat G.2.1.toNat [] (by omega) h
      simp only [List.length_nil] at this
      omega
  · rw [if_neg h0] at h; exact absurd h h0
open PWi in
theorem wire_l0 (a : ByteArray) (ha : a.size < 4611686018427387904) (n : Nat) (hn : n < 1000) : ∀ c i p acc K, i + c = n → p ≤ a.size → acc.length = i → c + 1 ≤ K →
    wire_GetList.l0 K a p acc n i = some (glL a c p acc)
  | 0, i, p, acc, K, hi, hp, hl, hK => by
    obtain ⟨K, rfl⟩ : ∃ m, K = m + 1 := ⟨K - 1, by omega⟩
    rw [wire_GetList.l0, if_neg (by omega)]; rfl
  | c + 1, i, p, acc, K, hi, hp, hl, hK => by
    obtain ⟨K, rfl⟩ : ∃ m, K = m + 1 := ⟨K - 1, by omega⟩
    have hs : (a.extract p a.size).size ≤ a.size := by rw [ByteArray.size_extract]; omega
    rw [wire_GetList.l0, if_pos (by omega), if_pos (by omega), if_pos (by omega), Int.toNat_natCast, wire_text _ (by omega), Option.bind_some, glL]
    by_cases h0 : (gt (a.extract p a.size)).2.2 = 0
    · have g := gt_ok _ h0
      rw [ByteArray.size_extract] at g
      rw [if_pos h0, if_pos h0, if_pos (by omega), w64 _ (by omega) (by omega), w64 ((i : Int) + 1) (by omega) (by omega)]
      have := wire_l0 a ha n hn c (i + 1) (p + (gt (a.extract p a.size)).2.1.toNat) (acc ++ [(gt (a.extract p a.size)).1]) K (by omega) (by omega) (by simp; omega) (by omega)
      rw [← this]
      congr 1
      omega
    · rw [if_neg h0, if_neg h0]
open PWi in
theorem wire_list (a : ByteArray) (ha : a.size < 4611686018427387904) (m : Nat) (hm : m < 1000) (K : Nat) (hK : m + 1 ≤ K) : wire_GetList.f K a m = some (gl a m) := by
  have g := gi_ok a 9 0 0 (by omega)
  unfold wire_GetList.f wire_GetInt.f gl
  rw [Option.bind_some]
  generalize gi a 9 0 0 = G at g ⊢
  by_cases h0 : G.2.2 = 0
  · have g := g h0
    rw [if_pos h0, if_pos h0]
    by_cases h1 : G.1 > m
    · rw [if_pos h1, if_pos h1]
    · rw [if_neg h1, if_neg h1]
      have := wire_l0 a ha G.1.toNat (by omega) G.1.toNat 0 G.2.1.toNat [] K (by omega) (by omega) rfl (by omega)
      rw [Int.toNat_of_nonneg (by omega), Int.toNat_of_nonneg (by omega)] at this
      exact this
  · rw [if_neg h0, if_neg h0]
open PWi in
theorem ref_ll0 (a : ByteArray) (ha : a.size < 4611686018427387904) (n : Nat) (hn : n < 1000) : ∀ c i p acc K, i + c = n → p ≤ a.size → acc.length = i → c + 40 ≤ K →
    tuskref01_GetList.l0 K a n p acc i = some (glL a c p acc)
  | 0, i, p, acc, K, hi, hp, hl, hK => by
    obtain ⟨K, rfl⟩ : ∃ m, K = m + 1 := ⟨K - 1, by omega⟩
    rw [tuskref01_GetList.l0, if_neg (by omega)]; rfl
  | c + 1, i, p, acc, K, hi, hp, hl, hK => by
    obtain ⟨K, rfl⟩ : ∃ m, K = m + 1 := ⟨K - 1, by omega⟩
    have hs : (a.extract p a.size).size ≤ a.size := by rw [ByteArray.size_extract]; omega
    rw [tuskref01_GetList.l0, if_pos (by omega), if_pos (by omega), if_pos (by omega), Int.toNat_natCast, ref_text _ (by omega) K (by omega), Option.bind_some, glL]
    by_cases h0 : (gt (a.extract p a.size)).2.2 = 0
    · have g := gt_ok _ h0
      rw [ByteArray.size_extract] at g
      rw [if_pos h0, if_pos h0, if_pos (by omega), w64 _ (by omega) (by omega), w64 ((i : Int) + 1) (by omega) (by omega)]
      have := ref_ll0 a ha n hn c (i + 1) (p + (gt (a.extract p a.size)).2.1.toNat) (acc ++ [(gt (a.extract p a.size)).1]) K (by omega) (by omega) (by simp; omega) (by omega)
      rw [← this]
      congr 1
      omega
    · rw [if_neg h0, if_neg h0]
open PWi in
theorem ref_list (a : ByteArray) (ha : a.size < 4611686018427387904) (m : Nat) (hm : m < 1000) (K : Nat) (hK : m + 41 ≤ K) : tuskref01_GetList.f K a m = some (gl a m) := by
  have g := gi_ok a 9 0 0 (by omega)
  unfold tuskref01_GetList.f gl
  rw [ref_GetInt a K (by omega), Option.bind_some]
  generalize gi a 9 0 0 = G at g ⊢
  by_cases h0 : G.2.2 = 0
  · have g := g h0
    rw [if_pos h0, if_pos h0]
    by_cases h1 : G.1 > m
    · rw [if_pos h1, if_pos h1]
    · rw [if_neg h1, if_neg h1]
      have := ref_ll0 a ha G.1.toNat (by omega) G.1.toNat 0 G.2.1.toNat [] K (by omega) (by omega) rfl (by omega)
      rw [Int.toNat_of_nonneg (by omega), Int.toNat_of_nonneg (by omega)] at this
      exact this
  · rw [if_neg h0, if_neg h0]
end Go.Proofs.YtndicjikjcifaaaDoor
