/- tuskref04.In: its four methods, in total form. -/
import Derived.Test.YtndicjikjcifaaaDoorTxread
import Derived.Test.YtndicjikjcifaaaDoorBase
namespace Go.Proofs.YtndicjikjcifaaaDoor
open Go.RowKit Go.Shelf Go.Lib Go.Proofs.YtndicjikjcifaaaDoorW.PrintWords Go.Proofs.YtndicjikjcifaaaDoorW.PrintLast
set_option linter.unusedVariables false
set_option linter.unusedSimpArgs false

/-- The step of a reader that remembers its first error. -/
def inG {α : Type} (z : α) (g : ByteArray → α × Int × Int) (S : ByteArray) (E : Int) : α × ByteArray × Int := if E = 0 then ((g S).1, rest S (g S).2.1, (g S).2.2) else (z, S, E)
def inI : ByteArray → Int → Int × ByteArray × Int := inG 0 (fun s => gi s 9 0 0)
def inT : ByteArray → Int → ByteArray × ByteArray × Int := inG ⟨#[]⟩ gt
def inL : ByteArray → Int → List ByteArray × ByteArray × Int := inG [] (fun s => gl s 8)
/-- The reader's block, after what was read. -/
structure Ri (p : Nat) (S : ByteArray) (E : Int) (w w' : World) : Prop where
  box : w'.heap[p]? = some (.cells #[.string S, .int .i64 E] 84 (0, 0))
  only : Only (fun k => k = p) w w'
theorem Ri.of_below {p : Nat} {S S' : ByteArray} {E E' : Int} {w w1 : World} (h : w1.heap[p]? = some (.cells #[.string S, .int .i64 E] 84 (0, 0))) (hd : Below w.heap.size w w1) :
    Ri p S' E' w ((w1.setCell ⟨p, 1, none⟩ (.int .i64 E')).setCell ⟨p, 0, none⟩ (.string S')) :=
  ⟨by simpa using blk_set (blk_set h 1 (.int .i64 E')) 0 (.string S'), ((Only.of_below (S := fun k => k = p) hd).set (p := ⟨p, 1, none⟩) (.inl rfl) _).set (p := ⟨p, 0, none⟩) (.inl rfl) _⟩
theorem Ri.same {p : Nat} {S : ByteArray} {E : Int} {w : World} (h : w.heap[p]? = some (.cells #[.string S, .int .i64 E] 84 (0, 0))) : Ri p S E w w := ⟨h, Only.refl _ _⟩
theorem glL_err (a : ByteArray) : ∀ c p acc, (glL a c p acc).2.2 ≠ 0 → glL a c p acc = ([], 0, (glL a c p acc).2.2)
  | 0, p, acc, h => absurd rfl h
  | c + 1, p, acc, h => by
    rw [glL] at h ⊢
    by_cases h0 : (gt (a.extract p a.size)).2.2 = 0
    · rw [if_pos h0] at h ⊢
      exact glL_err a c _ _ h
    · rw [if_neg h0]
theorem gl_err (a : ByteArray) (m : Int) (h : (gl a m).2.2 ≠ 0) : gl a m = ([], 0, (gl a m).2.2) := by
  unfold gl at h ⊢
  generalize gi a 9 0 0 = G at h ⊢
  by_cases h0 : G.2.2 = 0
  · rw [if_pos h0] at h ⊢
    by_cases h1 : G.1 > m
    · rw [if_pos h1]
    · rw [if_neg h1] at h ⊢
      exact glL_err _ _ _ _ h
  · rw [if_neg h0]

theorem In_Int (p : Nat) (S : ByteArray) (E : Int) (w : World) (h : w.heap[p]? = some (.cells #[.string S, .int .i64 E] 84 (0, 0))) :
    Calls Tryd.prog 56 #[.pointer (some ⟨p, 0, none⟩)] w fun e w' => e = .returned (.int .i64 (inI S E).1) ∧ Ri p (inI S E).2.1 (inI S E).2.2 w w' := by
  have c0 : w.cell? ⟨p, 0, none⟩ = some (.string S) := blk_cell h 0
  have c1 : w.cell? ⟨p, 1, none⟩ = some (.int .i64 E) := blk_cell h 1
  have hp := blk_lt h
  have HB := Lib.hid h
  clear h
  by_cases hE : E = 0
  · subst hE
    rw [inI, inG, if_pos rfl]
    have g : 0 ≤ (gi S 9 0 0).2.1 ∧ (gi S 9 0 0).2.1 ≤ S.size := by
      by_cases h0 : (gi S 9 0 0).2.2 = 0
      · have := gi_ok S 9 0 0 (by omega) h0
        omega
      · have := gi_err S 9 0 0 h0
        omega
    have HF := ref_GetInt S 29 (by omega)
    dsimp only
    generalize gi S 9 0 0 = G at g HF ⊢
    obtain ⟨n, k, x⟩ := G
    dsimp only at g ⊢
    obtain ⟨g0, g1⟩ := g
    have HF := Lib.hid HF
    have hr : rest S k = S.extract k.toNat S.size := rfl
    go_enter Tryd.func56, Tryd.ntmps56
    go_wp2_with (first
    | (go_at_call 81; go_must (refine (PWi.tuskref01_GetInt.calls 29 S n k x _ HF.out).mono ?_)
       rintro e w1 ⟨rfl, hd⟩
       have HD := Lib.hid (drawn_below hd)
       have HB1 := Lib.hid ((HD.out.block p hp).trans HB.out)
       have d0 := blk_cell HB1.out 0
       have d1 := blk_cell HB1.out 1
       have f0 := blk_frozen HB1.out 0
       have f1 := blk_frozen HB1.out 1
       simp only [List.getElem?_toArray, List.getElem?_cons_zero, List.getElem?_cons_succ] at d0 d1
       clear hd))
    go_ret
    exact ⟨rfl, Ri.of_below HB1.out HD.out⟩
  · rw [inI, inG, if_neg hE]
    have hx : (E == 0) = false := by simpa using hE
    go_enter Tryd.func56, Tryd.ntmps56
    go_wp2
    go_ret
    exact ⟨rfl, Ri.same HB.out⟩
theorem In_Text (p : Nat) (S : ByteArray) (E : Int) (w : World) (hs : S.size < 4611686018427387904) (h : w.heap[p]? = some (.cells #[.string S, .int .i64 E] 84 (0, 0))) :
    Calls Tryd.prog 57 #[.pointer (some ⟨p, 0, none⟩)] w fun e w' => e = .returned (.string (inT S E).1) ∧ Ri p (inT S E).2.1 (inT S E).2.2 w w' := by
  have c0 : w.cell? ⟨p, 0, none⟩ = some (.string S) := blk_cell h 0
  have c1 : w.cell? ⟨p, 1, none⟩ = some (.int .i64 E) := blk_cell h 1
  have hp := blk_lt h
  have HB := Lib.hid h
  clear h
  by_cases hE : E = 0
  · subst hE
    rw [inT, inG, if_pos rfl]
    have g : 0 ≤ (gt S).2.1 ∧ (gt S).2.1 ≤ S.size := by
      by_cases h0 : (gt S).2.2 = 0
      · have := gt_ok S h0
        omega
      · have := gt_err S h0
        rw [this]
        simp
    have HF := ref_text S hs 29 (by omega)
    dsimp only
    generalize gt S = G at g HF ⊢
    obtain ⟨n, k, x⟩ := G
    dsimp only at g ⊢
    obtain ⟨g0, g1⟩ := g
    have HF := Lib.hid HF
    have hr : rest S k = S.extract k.toNat S.size := rfl
    clear hs
    go_enter Tryd.func57, Tryd.ntmps57
    go_wp2_with (first
    | (go_at_call 82; go_must (refine (PWi.tuskref01_GetText.calls 29 S n k x _ HF.out).mono ?_)
       rintro e w1 ⟨rfl, hd⟩
       have HD := Lib.hid (drawn_below hd)
       have HB1 := Lib.hid ((HD.out.block p hp).trans HB.out)
       have d0 := blk_cell HB1.out 0
       have d1 := blk_cell HB1.out 1
       have f0 := blk_frozen HB1.out 0
       have f1 := blk_frozen HB1.out 1
       simp only [List.getElem?_toArray, List.getElem?_cons_zero, List.getElem?_cons_succ] at d0 d1
       clear hd))
    go_ret
    exact ⟨rfl, Ri.of_below HB1.out HD.out⟩
  · rw [inT, inG, if_neg hE]
    have hx : (E == 0) = false := by simpa using hE
    go_enter Tryd.func57, Tryd.ntmps57
    go_wp2
    go_ret
    exact ⟨rfl, Ri.same HB.out⟩
theorem In_List (p : Nat) (S : ByteArray) (E : Int) (w : World) (hs : S.size < 4611686018427387904) (h : w.heap[p]? = some (.cells #[.string S, .int .i64 E] 84 (0, 0))) :
    Calls Tryd.prog 58 #[.pointer (some ⟨p, 0, none⟩), .int .i64 8] w fun e w' => ∃ v, e = .returned v ∧ Kd.R Kd.string 9 w' w.heap.size (fun _ => True) v (inL S E).1 ∧ Ri p (inL S E).2.1 (inL S E).2.2 w w' := by
  have c0 : w.cell? ⟨p, 0, none⟩ = some (.string S) := blk_cell h 0
  have c1 : w.cell? ⟨p, 1, none⟩ = some (.int .i64 E) := blk_cell h 1
  have hp := blk_lt h
  have HB := Lib.hid h
  clear h
  by_cases hE : E = 0
  · subst hE
    rw [inL, inG, if_pos rfl]
    have g : 0 ≤ (gl S 8).2.1 ∧ (gl S 8).2.1 ≤ S.size := by
      by_cases h0 : (gl S 8).2.2 = 0
      · have := gl_ok S 8 h0
        omega
      · have := gl_err S 8 h0
        rw [this]
        simp
    have HF := ref_list S hs 8 (by omega) 49 (by omega)
    change _ = some (gl S 8) at HF
    dsimp only
    generalize gl S 8 = G at g HF ⊢
    obtain ⟨n, k, x⟩ := G
    dsimp only at g ⊢
    obtain ⟨g0, g1⟩ := g
    have HF := Lib.hid HF
    have hr : rest S k = S.extract k.toNat S.size := rfl
    clear hs
    go_enter Tryd.func58, Tryd.ntmps58
    go_wp2_with (first
    | (go_at_call 83; go_must (refine (PWi.tuskref01_GetList.calls 49 S 8 n k x _ HF.out).mono ?_)
       rintro e w1 ⟨v, rfl, hR, hd⟩
       have HD := Lib.hid hd
       have HR := Lib.hid hR
       have HB1 := Lib.hid ((HD.out.block p hp).trans HB.out)
       have d0 := blk_cell HB1.out 0
       have d1 := blk_cell HB1.out 1
       have f0 := blk_frozen HB1.out 0
       have f1 := blk_frozen HB1.out 1
       simp only [List.getElem?_toArray, List.getElem?_cons_zero, List.getElem?_cons_succ] at d0 d1
       clear hd hR))
    go_ret
    refine ⟨_, rfl, ?_, Ri.of_below HB1.out HD.out⟩
    have ht : ∀ q, q ∈ 9 :: Kd.string.E → q ≠ 84 := by intro q hq; simp [Kd.string, Kd.scalar] at hq; subst hq; decide
    exact Kd.R_set (Kd.R_set HR.out HB1.out ht 1 _) (blk_set HB1.out 1 _) ht 0 _
  · rw [inL, inG, if_neg hE]
    have hx : (E == 0) = false := by simpa using hE
    go_enter Tryd.func58, Tryd.ntmps58
    go_wp2
    go_ret
    exact ⟨_, rfl, Kd.R_nil _ _ _ _ _, Ri.same HB.out⟩
def inE (S : ByteArray) (E : Int) : Int := if E = 0 ∧ S.toList.isEmpty = false then 6 else E
theorem In_End (p : Nat) (S : ByteArray) (E : Int) (w : World) (h : w.heap[p]? = some (.cells #[.string S, .int .i64 E] 84 (0, 0))) :
    Calls Tryd.prog 59 #[.pointer (some ⟨p, 0, none⟩)] w fun e w' => e = .returned (.tuple #[]) ∧ Ri p S (inE S E) w w' := by
  have c0 : w.cell? ⟨p, 0, none⟩ = some (.string S) := blk_cell h 0
  have c1 : w.cell? ⟨p, 1, none⟩ = some (.int .i64 E) := blk_cell h 1
  have f0 := blk_frozen h 0
  have f1 := blk_frozen h 1
  have HB := Lib.hid h
  clear h
  by_cases hE : E = 0
  · subst hE
    cases hm : S.toList.isEmpty with
    | false =>
      rw [inE, if_pos ⟨rfl, hm⟩]
      go_enter Tryd.func59, Tryd.ntmps59
      go_wp2
      go_end0
      exact ⟨rfl, by simpa using blk_set HB.out 1 (.int .i64 6), (Only.refl (fun k => k = p) _).set (p := ⟨p, 1, none⟩) (.inl rfl) _⟩
    | true =>
      rw [inE, if_neg (by simp [hm])]
      go_enter Tryd.func59, Tryd.ntmps59
      go_wp2
      go_end0
      exact ⟨rfl, Ri.same HB.out⟩
  · rw [inE, if_neg (fun h => hE h.1)]
    have hx : (E == 0) = false := by simpa using hE
    go_enter Tryd.func59, Tryd.ntmps59
    go_wp2
    go_end0
    exact ⟨rfl, Ri.same HB.out⟩
end Go.Proofs.YtndicjikjcifaaaDoor
