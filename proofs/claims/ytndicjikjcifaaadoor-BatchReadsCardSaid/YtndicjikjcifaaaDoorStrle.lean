/- '<=' on strings, told by '<'. -/
import Derived.Laws.Cover1
import Derived.Lib.Hide
namespace Go.Proofs.YtndicjikjcifaaaDoor
open Go
theorem u8_tri (a b : UInt8) : a < b ∨ a = b ∨ b < a := by
  rcases Nat.lt_trichotomy a.toNat b.toNat with h | h | h
  · exact .inl h
  · exact .inr (.inl (UInt8.toNat_inj.1 h))
  · exact .inr (.inr h)
theorem leq_not : ∀ a b : List UInt8, (Op.bytesLess a b || a == b) = !Op.bytesLess b a
  | [], [] => rfl
  | [], b :: y => rfl
  | a :: x, [] => rfl
  | a :: x, b :: y => by
    have ih := leq_not x y
    have hbl : ∀ (a b : UInt8) (x y : List UInt8), Op.bytesLess (a :: x) (b :: y) = (decide (a < b) || (a == b && Op.bytesLess x y)) := fun _ _ _ _ => rfl
    have hcons : ((a :: x) == (b :: y)) = (a == b && x == y) := rfl
    rw [hbl, hbl, hcons]
    rcases u8_tri a b with h | h | h
    · have h1 : ¬ b < a := fun h2 => by have : a.toNat < b.toNat := h; have : b.toNat < a.toNat := h2; omega
      have h2 : (b == a) = false := by
        rw [beq_eq_false_iff_ne]
        rintro rfl
        exact h1 h
      simp [h, h1, h2]
    · subst h
      have h1 : ¬ a < a := fun h2 => by have : a.toNat < a.toNat := h2; omega
      simp [h1, ih]
    · have h1 : ¬ a < b := fun h2 => by have : b.toNat < a.toNat := h; have : a.toNat < b.toNat := h2; omega
      have h2 : (a == b) = false := by
        rw [beq_eq_false_iff_ne]
        rintro rfl
        exact h1 h
      simp [h, h1, h2]
end Go.Proofs.YtndicjikjcifaaaDoor
