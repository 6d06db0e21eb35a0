/- tx's reader: what it takes away, or what it throws. -/
import Derived.Test.YtndicjikjcifaaaDoorWirel
import Derived.Test.YtndicjikjcifaaaDoorTxchk
namespace Go.Proofs.YtndicjikjcifaaaDoor
open Go.RowKit Go.Shelf Go.Lib Go.Proofs.YtndicjikjcifaaaDoorW.PrintWords Go.Proofs.YtndicjikjcifaaaDoorW.PrintLast
set_option linter.unusedVariables false
set_option linter.unusedSimpArgs false

def rest (s : ByteArray) (n : Int) : ByteArray := s.extract n.toNat s.size
theorem skip_ok (p : Nat) (s : ByteArray) (n : Int) (w : World) (h : w.heap[p]? = some (.cells #[.string s] 77 (0, 0))) (h0 : 0 ≤ n) (h1 : n ≤ s.size) :
    Calls Tryd.prog 79 #[.pointer (some ⟨p, 0, none⟩), .int .i64 n, .int .i64 0] w fun e w' =>
      e = .returned (.tuple #[]) ∧ w' = w.setCell ⟨p, 0, none⟩ (.string (rest s n)) := by
  have c0 : w.cell? ⟨p, 0, none⟩ = some (.string s) := blk_cell h 0
  have f0 := blk_frozen h 0
  have HB := Lib.hid h
  clear h
  have E : rest s n = s.extract n.toNat s.size := rfl
  go_enter Tryd.func79, Tryd.ntmps79
  go_wp2_with (first | (go_at_call 55; go_must (refine (check_ok _ _).mono ?_); rintro e w' ⟨rfl, hw⟩; have hw := hw.symm; subst hw))
  go_end0
  exact ⟨rfl, rfl⟩
theorem skip_no (p : Nat) (n x : Int) (hx : x ≠ 0) (w : World) :
    Calls Tryd.prog 79 #[.pointer (some ⟨p, 0, none⟩), .int .i64 n, .int .i64 x] w fun e w' =>
      e = .panicked [{ v := .iface 24 (.int .i64 x), recovered := false }] ∧ w' = w := by
  have hx : (x == 0) = false := by simpa using hx
  go_enter Tryd.func79, Tryd.ntmps79
  go_wp2_with (first | (go_at_call 55; go_must (refine (check_no _ _).mono ?_); rintro e w' ⟨rfl, hw⟩; have hw := hw.symm; subst hw))
  exact ⟨rfl, rfl, rfl⟩

/-- The reader's block, after what was read: new blocks, then its one cell. -/
def Rd (p : Nat) (s : ByteArray) (w w' : World) : Prop :=
  ∃ w1 s0, Below w.heap.size w w1 ∧ w1.heap[p]? = some (.cells #[.string s0] 77 (0, 0)) ∧ w' = w1.setCell ⟨p, 0, none⟩ (.string s)
theorem Rd.of_drawn {p : Nat} {s s' : ByteArray} {w w1 : World} (h : w.heap[p]? = some (.cells #[.string s] 77 (0, 0))) (hd : Below w.heap.size w w1) :
    Rd p s' w (w1.setCell ⟨p, 0, none⟩ (.string s')) := by
  have hp : p < w.heap.size := by
    rcases Nat.lt_or_ge p w.heap.size with h' | h'
    · exact h'
    · rw [Array.getElem?_eq_none h'] at h; cases h
  exact ⟨w1, s, hd, (hd.block p hp).trans h, rfl⟩
theorem Rd.box {p : Nat} {s : ByteArray} {w w' : World} (h : Rd p s w w') : w'.heap[p]? = some (.cells #[.string s] 77 (0, 0)) := by
  obtain ⟨w1, s0, _, hb, rfl⟩ := h
  simpa using blk_set hb 0 (.string s)
theorem Rd.blk {p : Nat} {s : ByteArray} {w w' : World} (h : Rd p s w w') {g : Nat} (hg : g ≠ p) (hl : g < w.heap.size) : w'.heap[g]? = w.heap[g]? := by
  obtain ⟨w1, s0, hd, hb, rfl⟩ := h
  exact (Below.heap_setCell _ _ _ _ hg).trans (hd.block g hl)
theorem Rd.below {p : Nat} {s : ByteArray} {w0 w w' : World} (h : Rd p s w w') (hl : Below w0.heap.size w0 w) (hp : w0.heap.size ≤ p) : Below w0.heap.size w0 w' := by
  obtain ⟨w1, s0, hd, hb, rfl⟩ := h
  exact (below_then hl hl.size hd).setCell hp _
theorem Rd.row {p : Nat} {s : ByteArray} {w w' : World} (h : Rd p s w w') {base : Nat} {ok : Nat → Prop} {v : Value} {xs : List ByteArray} (hR : Kd.R Kd.string 9 w base ok v xs) : Kd.R Kd.string 9 w' base ok v xs := by
  obtain ⟨w1, s0, hd, hb, rfl⟩ := h
  exact Kd.R_set (Kd.R_below hR hd) hb (by intro q hq; simp [Kd.string, Kd.scalar] at hq; subst hq; decide) 0 _
theorem drawn_below {w w' : World} (h : Drawn0 w w') : Below w.heap.size w w' := by
  obtain ⟨n, rfl⟩ := h
  exact ⟨rfl, rfl, rfl, Nat.le_refl _, fun _ _ => rfl⟩

theorem int_ok (p : Nat) (s : ByteArray) (w : World) (h : w.heap[p]? = some (.cells #[.string s] 77 (0, 0))) (h0 : (gi s 9 0 0).2.2 = 0) :
    Calls Tryd.prog 52 #[.pointer (some ⟨p, 0, none⟩)] w fun e w' =>
      e = .returned (.int .u64 (gi s 9 0 0).1) ∧ Rd p (rest s (gi s 9 0 0).2.1) w w' := by
  have c0 : w.cell? ⟨p, 0, none⟩ = some (.string s) := blk_cell h 0
  have g := gi_ok s 9 0 0 (by omega) h0
  have HF : wire_GetInt.f s = some (gi s 9 0 0) := rfl
  generalize hG : gi s 9 0 0 = G at h0 g HF ⊢
  obtain ⟨n, k, x⟩ := G
  simp only at h0 g ⊢
  subst h0
  have e1 : IntKind.u64.wrap n = n := wraps_u64 _ (by omega) (by omega)
  have HB := Lib.hid h
  have HF := Lib.hid HF
  have g0 : 0 ≤ k := by omega
  have g1 : k ≤ s.size := by omega
  clear h g hG
  go_enter Tryd.func52, Tryd.ntmps52
  go_wp2_with (first
    | (go_at_call 60; go_must (refine (wire_GetInt.calls s n k 0 _ HF.out).mono ?_); rintro e w1 ⟨rfl, hd⟩
       have HD := Lib.hid (drawn_below hd)
       have HB1 := Lib.hid ((HD.out.block p (by rcases Nat.lt_or_ge p w.heap.size with h' | h'; exact h'; have := HB.out; rw [Array.getElem?_eq_none h'] at this; cases this)).trans HB.out)
       clear hd)
    | (go_at_call 79; go_must (refine (skip_ok p s k _ HB1.out g0 g1).mono ?_); rintro e w2 ⟨rfl, hw⟩
       have HW := Lib.hid hw
       clear hw))
  go_ret
  refine ⟨rfl, ?_⟩
  rw [HW.out]
  exact Rd.of_drawn HB.out HD.out
theorem int_no (p : Nat) (s : ByteArray) (w : World) (h : w.heap[p]? = some (.cells #[.string s] 77 (0, 0))) (h0 : (gi s 9 0 0).2.2 ≠ 0) :
    Calls Tryd.prog 52 #[.pointer (some ⟨p, 0, none⟩)] w fun e w' =>
      e = .panicked [{ v := .iface 24 (.int .i64 (gi s 9 0 0).2.2), recovered := false }] ∧ Below w.heap.size w w' := by
  have c0 : w.cell? ⟨p, 0, none⟩ = some (.string s) := blk_cell h 0
  have HF : wire_GetInt.f s = some (gi s 9 0 0) := rfl
  generalize hG : gi s 9 0 0 = G at h0 HF ⊢
  obtain ⟨n, k, x⟩ := G
  simp only at h0 ⊢
  have HF := Lib.hid HF
  have H0 := Lib.hid h0
  clear h hG h0
  go_enter Tryd.func52, Tryd.ntmps52
  go_wp2_with (first
    | (go_at_call 60; go_must (refine (wire_GetInt.calls s n k x _ HF.out).mono ?_); rintro e w1 ⟨rfl, hd⟩
       have HD := Lib.hid (drawn_below hd)
       clear hd)
    | (go_at_call 79; go_must (refine (skip_no p k x H0.out _).mono ?_); rintro e w2 ⟨rfl, hw⟩; have hw := hw.symm; subst hw))
  exact ⟨rfl, rfl, HD.out⟩

theorem text_ok (p : Nat) (s : ByteArray) (w : World) (hs : s.size < 4611686018427387904) (h : w.heap[p]? = some (.cells #[.string s] 77 (0, 0))) (h0 : (gt s).2.2 = 0) :
    Calls Tryd.prog 53 #[.pointer (some ⟨p, 0, none⟩)] w fun e w' =>
      e = .returned (.string (gt s).1) ∧ Rd p (rest s (gt s).2.1) w w' := by
  have c0 : w.cell? ⟨p, 0, none⟩ = some (.string s) := blk_cell h 0
  have g := gt_ok s h0
  have HF := wire_text s hs
  generalize hG : gt s = G at h0 g HF ⊢
  obtain ⟨n, k, x⟩ := G
  simp only at h0 g ⊢
  subst h0
  have HB := Lib.hid h
  have HF := Lib.hid HF
  have g0 : 0 ≤ k := by omega
  have g1 : k ≤ s.size := by omega
  clear h g hG hs
  go_enter Tryd.func53, Tryd.ntmps53
  go_wp2_with (first
    | (go_at_call 80; go_must (refine (PWi.wire_GetText.calls s n k 0 _ HF.out).mono ?_); rintro e w1 ⟨rfl, hd⟩
       have HD := Lib.hid (drawn_below hd)
       have HB1 := Lib.hid ((HD.out.block p (by rcases Nat.lt_or_ge p w.heap.size with h' | h'; exact h'; have := HB.out; rw [Array.getElem?_eq_none h'] at this; cases this)).trans HB.out)
       clear hd)
    | (go_at_call 79; go_must (refine (skip_ok p s k _ HB1.out g0 g1).mono ?_); rintro e w2 ⟨rfl, hw⟩
       have HW := Lib.hid hw
       clear hw))
  go_ret
  refine ⟨rfl, ?_⟩
  rw [HW.out]
  exact Rd.of_drawn HB.out HD.out
theorem text_no (p : Nat) (s : ByteArray) (w : World) (hs : s.size < 4611686018427387904) (h : w.heap[p]? = some (.cells #[.string s] 77 (0, 0))) (h0 : (gt s).2.2 ≠ 0) :
    Calls Tryd.prog 53 #[.pointer (some ⟨p, 0, none⟩)] w fun e w' =>
      e = .panicked [{ v := .iface 24 (.int .i64 (gt s).2.2), recovered := false }] ∧ Below w.heap.size w w' := by
  have c0 : w.cell? ⟨p, 0, none⟩ = some (.string s) := blk_cell h 0
  have HF := wire_text s hs
  generalize hG : gt s = G at h0 HF ⊢
  obtain ⟨n, k, x⟩ := G
  simp only at h0 ⊢
  have HF := Lib.hid HF
  have H0 := Lib.hid h0
  clear h hG h0 hs
  go_enter Tryd.func53, Tryd.ntmps53
  go_wp2_with (first
    | (go_at_call 80; go_must (refine (PWi.wire_GetText.calls s n k x _ HF.out).mono ?_); rintro e w1 ⟨rfl, hd⟩
       have HD := Lib.hid (drawn_below hd)
       clear hd)
    | (go_at_call 79; go_must (refine (skip_no p k x H0.out _).mono ?_); rintro e w2 ⟨rfl, hw⟩; have hw := hw.symm; subst hw))
  exact ⟨rfl, rfl, HD.out⟩
theorem list_ok (p : Nat) (s : ByteArray) (w : World) (hs : s.size < 4611686018427387904) (h : w.heap[p]? = some (.cells #[.string s] 77 (0, 0))) (h0 : (gl s 8).2.2 = 0) :
    Calls Tryd.prog 54 #[.pointer (some ⟨p, 0, none⟩)] w fun e w' =>
      ∃ v, e = .returned v ∧ Kd.R Kd.string 9 w' w.heap.size (fun _ => True) v (gl s 8).1 ∧ Rd p (rest s (gl s 8).2.1) w w' := by
  have c0 : w.cell? ⟨p, 0, none⟩ = some (.string s) := blk_cell h 0
  have g := gl_ok s 8 h0
  have HF := wire_list s hs 8 (by omega) 9 (by omega)
  change _ = some (gl s 8) at HF
  generalize hG : gl s 8 = G at h0 g HF ⊢
  obtain ⟨n, k, x⟩ := G
  simp only at h0 g ⊢
  subst h0
  have HB := Lib.hid h
  have HF := Lib.hid HF
  have g0 : 0 ≤ k := by omega
  have g1 : k ≤ s.size := by omega
  have hp : p < w.heap.size := by
    rcases Nat.lt_or_ge p w.heap.size with h' | h'
    · exact h'
    · rw [Array.getElem?_eq_none h'] at h; cases h
  clear h g hG hs
  go_enter Tryd.func54, Tryd.ntmps54
  go_wp2_with (first
    | (go_at_call 61; go_must (refine (PWi.wire_GetList.calls 9 s 8 n k 0 _ HF.out).mono ?_); rintro e w1 ⟨v, rfl, hR, hd⟩
       have HD := Lib.hid hd
       have HR := Lib.hid hR
       have HB1 := Lib.hid ((HD.out.block p hp).trans HB.out)
       clear hd hR)
    | (go_at_call 79; go_must (refine (skip_ok p s k _ HB1.out g0 g1).mono ?_); rintro e w2 ⟨rfl, hw⟩
       have HW := Lib.hid hw
       clear hw))
  go_ret
  refine ⟨_, rfl, ?_, ?_⟩
  · rw [HW.out]
    exact Kd.R_set HR.out HB1.out (by intro q hq; simp [Kd.string, Kd.scalar] at hq; subst hq; decide) 0 _
  · rw [HW.out]
    exact Rd.of_drawn HB.out HD.out
theorem list_no (p : Nat) (s : ByteArray) (w : World) (hs : s.size < 4611686018427387904) (h : w.heap[p]? = some (.cells #[.string s] 77 (0, 0))) (h0 : (gl s 8).2.2 ≠ 0) :
    Calls Tryd.prog 54 #[.pointer (some ⟨p, 0, none⟩)] w fun e w' =>
      e = .panicked [{ v := .iface 24 (.int .i64 (gl s 8).2.2), recovered := false }] ∧ Below w.heap.size w w' := by
  have c0 : w.cell? ⟨p, 0, none⟩ = some (.string s) := blk_cell h 0
  have HF := wire_list s hs 8 (by omega) 9 (by omega)
  change _ = some (gl s 8) at HF
  generalize hG : gl s 8 = G at h0 HF ⊢
  obtain ⟨n, k, x⟩ := G
  simp only at h0 ⊢
  have HF := Lib.hid HF
  have H0 := Lib.hid h0
  clear h hG h0 hs
  go_enter Tryd.func54, Tryd.ntmps54
  go_wp2_with (first
    | (go_at_call 61; go_must (refine (PWi.wire_GetList.calls 9 s 8 n k x _ HF.out).mono ?_); rintro e w1 ⟨v, rfl, hR, hd⟩
       have HD := Lib.hid hd
       clear hd hR)
    | (go_at_call 79; go_must (refine (skip_no p k x H0.out _).mono ?_); rintro e w2 ⟨rfl, hw⟩; have hw := hw.symm; subst hw))
  exact ⟨rfl, rfl, HD.out⟩
end Go.Proofs.YtndicjikjcifaaaDoor
