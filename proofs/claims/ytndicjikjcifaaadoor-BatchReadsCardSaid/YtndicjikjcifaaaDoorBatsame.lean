/- tuskref05.Same of the same batch; what batch.Decode's lists are like. -/
import Derived.Test.YtndicjikjcifaaaDoorPBx3
import Derived.Test.YtndicjikjcifaaaDoorBatpre
namespace Go.Proofs.YtndicjikjcifaaaDoor
open Go.RowKit Go.Proofs.YtndicjikjcifaaaDoorW.PrintWords Go.Proofs.YtndicjikjcifaaaDoorW.PrintLast
open PB (S33 k33)
set_option linter.unusedVariables false
set_option linter.unusedSimpArgs false
theorem bsame1_l (xs : List ByteArray) (hx : xs.length < 4611686018427387904) : ∀ d i K, i + d = xs.length → d + 1 ≤ K → PB.tuskref01_Same.l0 K xs xs i = some true
  | 0, i, 0, hi, hK => by omega
  | 0, i, K + 1, hi, hK => by rw [PB.tuskref01_Same.l0, if_neg (by omega)]
  | d + 1, i, 0, hi, hK => by omega
  | d + 1, i, K + 1, hi, hK => by
    have hw : wrap64 ((i : Int) + 1) = ((i + 1 : Nat) : Int) := by rw [w64 _ (by omega) (by omega)]; push_cast; rfl
    rw [PB.tuskref01_Same.l0, if_pos (by omega), if_pos (by omega), if_pos (by omega), if_pos rfl, hw]
    exact bsame1_l xs hx d (i + 1) K (by omega) (by omega)
theorem bsame1 (xs : List ByteArray) (hx : xs.length < 4611686018427387904) (K : Nat) (hK : xs.length + 1 ≤ K) : PB.tuskref01_Same.f K xs xs = some true := by
  rw [PB.tuskref01_Same.f, if_pos rfl]
  exact bsame1_l xs hx xs.length 0 K (by omega) hK
def LenT (t : S33) : Prop := t.f7.length < 4611686018427387904 ∧ t.f8.length < 4611686018427387904
theorem bsame4 (t : S33) (h : LenT t) (K : Nat) (hK : 4611686018427387904 ≤ K) : PB.tuskref04_Same.f K t.f0 t.f1 t.f2 t.f3 t.f4 t.f5 t.f6 t.f7 t.f8 t.f0 t.f1 t.f2 t.f3 t.f4 t.f5 t.f6 t.f7 t.f8 = some true := by
  rw [PB.tuskref04_Same.f]
  have h7 := h.1
  have h8 := h.2
  simp [bsame1 t.f7 h.1 K (by omega), bsame1 t.f8 h.2 K (by omega)]
theorem bsame_l (a n : Int) (l : List S33) (hl : l.length < 4611686018427387904) (hL : ∀ t ∈ l, LenT t) : ∀ d i K, i + d = l.length → d + 4611686018427387905 ≤ K → PB.tuskref05_Same.l0 K (i : Int) a n l a n l = some true
  | 0, i, 0, hi, hK => by omega
  | 0, i, K + 1, hi, hK => by rw [PB.tuskref05_Same.l0, if_neg (by omega)]
  | d + 1, i, 0, hi, hK => by omega
  | d + 1, i, K + 1, hi, hK => by
    have hw : wrap64 ((i : Int) + 1) = ((i + 1 : Nat) : Int) := by rw [w64 _ (by omega) (by omega)]; push_cast; rfl
    have ht : LenT (PB.rd_T33 l (i : Int)) := by
      have e := drop_rd l i (by omega)
      exact hL _ (List.mem_of_mem_drop (i := i) (by rw [e]; exact List.mem_cons_self))
    rw [PB.tuskref05_Same.l0, if_pos (by omega), if_pos (by omega), if_pos (by omega), bsame4 _ ht K (by omega), Option.bind_some, if_pos rfl, hw]
    exact bsame_l a n l hl hL d (i + 1) K (by omega) (by omega)
theorem bsame_calls (a n : Int) (A A' : Option Addr) (c c' : Nat) (l : List S33) (w : World) (hl : l.length < 4611686018427387904) (hL : ∀ t ∈ l, LenT t) (hr : k33.C w A l.length l) (hc : l.length ≤ c) (hr' : k33.C w A' l.length l) (hc' : l.length ≤ c') :
    Calls Tryd.prog 23 #[.agg #[.int .i64 a, .int .i64 n, .slice A l.length c], .agg #[.int .i64 a, .int .i64 n, .slice A' l.length c']] w fun e w' => e = .returned (.bool true) ∧ Below w.heap.size w w' := by
  refine PB.tuskref05_Same.calls (l.length + 4611686018427387906) a n A c l a n A' c' l true w hr hc hr' hc' ?_
  rw [PB.tuskref05_Same.f, if_pos rfl, if_pos rfl, show l.length + 4611686018427387906 = (l.length + 4611686018427387905) + 1 from rfl, PB.tuskref05_Same.j0, if_neg (by simp)]
  exact bsame_l a n l hl hL l.length 0 _ (by omega) (by omega)
def Lens (r : Dec) : Prop := r.2.2.2.2.2.2.2.1.length ≤ 8 ∧ r.2.2.2.2.2.2.2.2.1.length ≤ 8
theorem Lens_derr (e : Int) : Lens (derr e) := ⟨Nat.zero_le _, Nat.zero_le _⟩
theorem Lens_bindE {α : Type} (x : α × Int × Int) (s : ByteArray) (k : α → ByteArray → Dec) (h : x.2.2 = 0 → ∀ s', Lens (k x.1 s')) : Lens (bindE x s k) := by
  unfold bindE
  split
  · exact h (by assumption) _
  · exact Lens_derr _
theorem dec_len (s : ByteArray) : Lens (dec s) := by
  unfold dec
  refine Lens_bindE _ _ _ fun _ s1 => Lens_bindE _ _ _ fun _ s2 => Lens_bindE _ _ _ fun _ s3 => Lens_bindE _ _ _ fun _ s4 => Lens_bindE _ _ _ fun _ s5 => Lens_bindE _ _ _ fun _ s6 => Lens_bindE _ _ _ fun _ s7 => Lens_bindE _ _ _ fun h8 s8 => Lens_bindE _ _ _ fun h9 s9 => ?_
  have l8 := (gl_ok _ _ h8).2.2
  have l9 := (gl_ok _ _ h9).2.2
  split
  · split
    · unfold fin9
      split
      · exact ⟨by dsimp only; omega, by dsimp only; omega⟩
      · exact Lens_derr _
    · exact Lens_derr _
  · exact Lens_derr _
theorem dall_lens : ∀ l : List ByteArray, (∀ t ∈ (dall l).1, LenT t) ∧ (dall l).1.length ≤ l.length
  | [] => ⟨by simp [dall], Nat.le_refl _⟩
  | x :: r => by
    have ih := dall_lens r
    unfold dall
    split
    · refine ⟨fun t ht => ?_, by simpa using ih.2⟩
      rcases List.mem_cons.1 ht with rfl | ht
      · have := dec_len x
        exact ⟨Nat.lt_of_le_of_lt this.1 (by decide), Nat.lt_of_le_of_lt this.2 (by decide)⟩
      · exact ih.1 t ht
    · exact ⟨by simp, Nat.zero_le _⟩
theorem bnil_lens (e : Int) : (∀ t ∈ (bnil e).2.2.1, LenT t) ∧ (bnil e).2.2.1.length ≤ 16 := ⟨by simp [bnil], Nat.zero_le _⟩
theorem bfin_lens (a n : Int) (s : ByteArray) (k : Int) (D : List S33 × Int) (h : (∀ t ∈ D.1, LenT t) ∧ D.1.length ≤ 16) : (∀ t ∈ (bfin a n s k D).2.2.1, LenT t) ∧ (bfin a n s k D).2.2.1.length ≤ 16 := by
  unfold bfin
  by_cases h1 : D.2 = 0
  · rw [if_pos h1]
    by_cases h2 : k < (s.size : Int)
    · rw [if_pos h2]; exact bnil_lens 6
    · rw [if_neg h2]
      by_cases h3 : 6 < a
      · rw [if_pos h3]; exact bnil_lens 2
      · rw [if_neg h3]
        by_cases h4 : bchk a n D.1 = 0
        · rw [if_pos h4]; exact h
        · rw [if_neg h4]; exact bnil_lens _
  · rw [if_neg h1]; exact bnil_lens _
theorem bdec_lens (s : ByteArray) : (∀ t ∈ (bdec s).2.2.1, LenT t) ∧ (bdec s).2.2.1.length ≤ 16 := by
  unfold bdec
  split
  · unfold bdec1
    split
    · unfold bdec2
      split
      · rename_i h
        have g := gl_ok _ _ h
        have hd := dall_lens (gl (rest (rest s (gi s 9 0 0).2.1) (gi (rest s (gi s 9 0 0).2.1) 9 0 0).2.1) 16).1
        exact bfin_lens _ _ _ _ _ ⟨hd.1, by omega⟩
      · exact bnil_lens _
    · exact bnil_lens _
  · exact bnil_lens _
end Go.Proofs.YtndicjikjcifaaaDoor
