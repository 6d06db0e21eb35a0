/- What is wrong with a batch: both answers in one plain form. -/
import Derived.Test.YtndicjikjcifaaaDoorBatl
import Derived.Test.YtndicjikjcifaaaDoorPBx1
import Derived.Test.YtndicjikjcifaaaDoorPBx2
import Derived.Test.YtndicjikjcifaaaDoorPBx3
import Derived.Test.YtndicjikjcifaaaDoorPBx4
namespace Go.Proofs.YtndicjikjcifaaaDoor
open Go.RowKit Go.Proofs.YtndicjikjcifaaaDoorW.PrintWords Go.Proofs.YtndicjikjcifaaaDoorW.PrintLast
open PB (S33 k33)
set_option linter.unusedVariables false
set_option linter.unusedSimpArgs false

def chT (t : S33) : Int := ch t.f0 t.f1 t.f2 t.f3 t.f4 t.f5 t.f6 t.f7 t.f8
def bchL : List S33 → Int
  | [] => 0
  | t :: r => if chT t = 0 then bchL r else chT t
def bchk (a n : Int) (l : List S33) : Int :=
  if a < 0 ∨ 6 < a ∨ n < 1 ∨ 4611686018427387903 < n then 2 else if l.length = 0 then 12 else if 16 < l.length then 8 else bchL l
def LimT (t : S33) : Prop := Lim t.f1 t.f2 t.f5 t.f7 t.f8
theorem drop_rd (l : List S33) (j : Nat) (hj : j < l.length) : l.drop j = PB.rd_T33 l (j : Int) :: l.drop (j + 1) := by
  rw [List.drop_eq_getElem_cons hj]
  congr 1
  simp [PB.rd_T33, hj]
theorem rd_mem (l : List S33) (j : Nat) (hj : j < l.length) : PB.rd_T33 l (j : Int) ∈ l := by
  have : PB.rd_T33 l (j : Int) = l[j] := by simp [PB.rd_T33, hj]
  rw [this]
  exact List.getElem_mem hj
theorem bchk_l (l : List S33) (hl : l.length < 4611686018427387904) : ∀ d i K, i + d = l.length → d + 1 ≤ K → PB.batch_Check.l0 K l (l.length : Int) (i : Int) = some (bchL (l.drop i))
  | 0, i, K, hi, hK => by
    obtain ⟨K, rfl⟩ : ∃ k, K = k + 1 := ⟨K - 1, by omega⟩
    rw [PB.batch_Check.l0, if_neg (by omega), List.drop_eq_nil_of_le (by omega), bchL]
  | d + 1, i, K, hi, hK => by
    obtain ⟨K, rfl⟩ : ∃ k, K = k + 1 := ⟨K - 1, by omega⟩
    have ih := bchk_l l hl d (i + 1) K (by omega) (by omega)
    rw [PB.batch_Check.l0, if_pos (by omega), if_pos (by omega), if_pos (by omega), drop_rd l i (by omega), bchL]
    have e : wrap64 ((i : Int) + 1) = ((i + 1 : Nat) : Int) := by rw [wrap64]; omega
    rw [show tx_Check.f _ _ _ _ _ _ _ _ _ = some (chT (PB.rd_T33 l i)) from rfl, Option.bind_some, e, ih]
    split <;> rfl
theorem rbchk_l (a n : Int) (l : List S33) (hl : l.length < 4611686018427387904) (hL : ∀ t ∈ l, LimT t) : ∀ d i K, i + d = l.length → d + 1 ≤ K → PB.tuskref05_Check.l0 K (i : Int) a n l = some (bchL (l.drop i))
  | 0, i, K, hi, hK => by
    obtain ⟨K, rfl⟩ : ∃ k, K = k + 1 := ⟨K - 1, by omega⟩
    rw [PB.tuskref05_Check.l0, if_neg (by omega), List.drop_eq_nil_of_le (by omega), bchL]
  | d + 1, i, K, hi, hK => by
    obtain ⟨K, rfl⟩ : ∃ k, K = k + 1 := ⟨K - 1, by omega⟩
    have ih := rbchk_l a n l hl hL d (i + 1) K (by omega) (by omega)
    rw [PB.tuskref05_Check.l0, if_pos (by omega), if_pos (by omega), drop_rd l i (by omega), bchL]
    have e : wrap64 ((i : Int) + 1) = ((i + 1 : Nat) : Int) := by rw [wrap64]; omega
    rw [show tuskref04_Check.f _ _ _ _ _ _ _ _ _ = some (chT (PB.rd_T33 l i)) from if_pos (hL _ (rd_mem l i (by omega))), Option.bind_some, e, ih]
    split <;> rfl
theorem bchk_eq (a n : Int) (l : List S33) (hl : l.length < 4611686018427387904) : PB.batch_Check.f (l.length + 2) a n l = some (bchk a n l) := by
  have h0 := bchk_l l hl l.length 0 (l.length + 1) (by omega) (by omega)
  have hj : ∀ b, PB.batch_Check.j0 (l.length + 2) (l.length : Int) b a n l = some (if b = true then 2 else if l.length = 0 then 12 else if 16 < l.length then 8 else bchL l) := by
    intro b
    rw [PB.batch_Check.j0]
    rw [show ((0 : Nat) : Int) = 0 from rfl, List.drop_zero] at h0
    rw [h0]
    by_cases hb : b = true
    · simp [hb]
    · by_cases h1 : l.length = 0
      · simp [hb, h1]
      · by_cases h2 : 16 < l.length
        · rw [if_neg hb, if_neg (by omega), if_pos (by omega), if_neg hb, if_neg h1, if_pos h2]
        · rw [if_neg hb, if_neg (by omega), if_neg (by omega), if_neg hb, if_neg h1, if_neg h2]
  rw [PB.batch_Check.f]
  simp only [hj, bchk]
  repeat' split
  all_goals first | rfl | omega | (simp_all; done) | (simp_all; omega)
theorem rbchk_eq (a n : Int) (l : List S33) (hl : l.length < 4611686018427387904) (hL : ∀ t ∈ l, LimT t) : PB.tuskref05_Check.f (l.length + 2) a n l = some (bchk a n l) := by
  have h0 := rbchk_l a n l hl hL l.length 0 (l.length + 1) (by omega) (by omega)
  have hj : ∀ b, PB.tuskref05_Check.j0 (l.length + 2) b a n l = some (if b = true then 2 else if l.length = 0 then 12 else if 16 < l.length then 8 else bchL l) := by
    intro b
    rw [PB.tuskref05_Check.j0]
    rw [show ((0 : Nat) : Int) = 0 from rfl, List.drop_zero] at h0
    rw [h0]
    by_cases hb : b = true
    · simp [hb]
    · by_cases h1 : l.length = 0
      · simp [hb, h1]
      · by_cases h2 : 16 < l.length
        · rw [if_neg hb, if_neg (by omega), if_pos (by omega), if_neg hb, if_neg h1, if_pos h2]
        · rw [if_neg hb, if_neg (by omega), if_neg (by omega), if_neg hb, if_neg h1, if_neg h2]
  rw [PB.tuskref05_Check.f]
  simp only [hj, bchk]
  repeat' split
  all_goals first | rfl | omega | (simp_all; done) | (simp_all; omega)
theorem bchk_calls (a n : Int) (A : Option Addr) (c : Nat) (l : List S33) (w : World) (hl : l.length < 4611686018427387904) (hr : k33.C w A l.length l) (hc : l.length ≤ c) :
    Calls Tryd.prog 33 #[.agg #[.int .i64 a, .int .i64 n, .slice A l.length c]] w fun e w' => e = .returned (.int .i64 (bchk a n l)) ∧ Below w.heap.size w w' :=
  PB.batch_Check.calls (l.length + 2) a n A c l (bchk a n l) w hr hc (bchk_eq a n l hl)
theorem rbchk_calls (a n : Int) (A : Option Addr) (c : Nat) (l : List S33) (w : World) (hl : l.length < 4611686018427387904) (hL : ∀ t ∈ l, LimT t) (hr : k33.C w A l.length l) (hc : l.length ≤ c) :
    Calls Tryd.prog 34 #[.agg #[.int .i64 a, .int .i64 n, .slice A l.length c]] w fun e w' => e = .returned (.int .i64 (bchk a n l)) ∧ Below w.heap.size w w' :=
  PB.tuskref05_Check.calls (l.length + 2) a n A c l (bchk a n l) w hr hc (rbchk_eq a n l hl hL)
end Go.Proofs.YtndicjikjcifaaaDoor
