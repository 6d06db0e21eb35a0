/- The plain law of TxReads: both readers answer the same. -/
import Derived.Test.YtndicjikjcifaaaDoorPTrx1
import Derived.Test.YtndicjikjcifaaaDoorTxdecc
namespace Go.Proofs.YtndicjikjcifaaaDoor
open Go.RowKit Go.Proofs.YtndicjikjcifaaaDoor.PTr Go.Proofs.YtndicjikjcifaaaDoorW.PrintWords Go.Proofs.YtndicjikjcifaaaDoorW.PrintLast
theorem same_l0 (xs : List ByteArray) (hx : xs.length < 4611686018427387904) : ∀ d i K, i + d = xs.length → d + 1 ≤ K → tuskref01_Same.l0 K xs xs i = some true
  | 0, i, 0, hi, hK => by omega
  | 0, i, K + 1, hi, hK => by rw [tuskref01_Same.l0, if_neg (by omega)]
  | d + 1, i, 0, hi, hK => by omega
  | d + 1, i, K + 1, hi, hK => by
    have hw : wrap64 ((i : Int) + 1) = ((i + 1 : Nat) : Int) := by rw [w64 _ (by omega) (by omega)]; push_cast; rfl
    rw [tuskref01_Same.l0, if_pos (by omega), if_pos (by omega), if_pos (by omega), if_pos rfl, hw]
    exact same_l0 xs hx d (i + 1) K (by omega) (by omega)
theorem same_refl (xs : List ByteArray) (hx : xs.length < 4611686018427387904) (K : Nat) (hK : xs.length + 1 ≤ K) : tuskref01_Same.f K xs xs = some true := by
  rw [tuskref01_Same.f, if_pos rfl]
  exact same_l0 xs hx xs.length 0 K (by omega) hK
def Lens (r : Dec) : Prop := r.2.2.2.2.2.2.2.1.length ≤ 8 ∧ r.2.2.2.2.2.2.2.2.1.length ≤ 8
theorem Lens_derr (e : Int) : Lens (derr e) := ⟨Nat.zero_le _, Nat.zero_le _⟩
theorem Lens_bindE {α : Type} (x : α × Int × Int) (s : ByteArray) (k : α → ByteArray → Dec) (h : x.2.2 = 0 → ∀ s', Lens (k x.1 s')) : Lens (bindE x s k) := by
  unfold bindE
  split
  · exact h (by assumption) _
  · exact Lens_derr _
theorem dec_len (s : ByteArray) : Lens (dec s) := by
  unfold dec
  refine Lens_bindE _ _ _ fun _ s1 => Lens_bindE _ _ _ fun _ s2 => Lens_bindE _ _ _ fun _ s3 => Lens_bindE _ _ _ fun _ s4 => Lens_bindE _ _ _ fun _ s5 => Lens_bindE _ _ _ fun _ s6 => Lens_bindE _ _ _ fun _ s7 => Lens_bindE _ _ _ fun h8 s8 => Lens_bindE _ _ _ fun h9 s9 => ?_
  have l8 := (gl_ok _ _ h8).2.2
  have l9 := (gl_ok _ _ h9).2.2
  split
  · split
    · unfold fin9
      split
      · exact ⟨by dsimp only; omega, by dsimp only; omega⟩
      · exact Lens_derr _
    · exact Lens_derr _
  · exact Lens_derr _
theorem Pure.TxReads : tusklaw04_TxReads.Pure := by
  intro a0 h0
  by_cases h : (a0.size : Int) > 5000
  · exact ⟨0, by rw [tusklaw04_TxReads.f, if_pos h]⟩
  · refine ⟨9, ?_⟩
    have e1 : tx_Decode.f a0 = some (dec a0) := if_pos (by omega)
    have e2 : tuskref04_Decode.f a0 = some (dec a0) := if_pos (by omega)
    have l := dec_len a0
    rw [tusklaw04_TxReads.f, if_neg h, e1, e2, Option.bind_some, Option.bind_some, tuskref04_Same.f]
    have s8 := same_refl (dec a0).2.2.2.2.2.2.2.1 (by have := l.1; omega) 9 (by have := l.1; omega)
    have s9 := same_refl (dec a0).2.2.2.2.2.2.2.2.1 (by have := l.2; omega) 9 (by have := l.2; omega)
    simp [s8, s9]
end Go.Proofs.YtndicjikjcifaaaDoor
