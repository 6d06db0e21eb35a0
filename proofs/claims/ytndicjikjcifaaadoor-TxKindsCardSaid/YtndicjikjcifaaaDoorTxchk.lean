/- tx.Check: what is wrong with a transaction. -/
import Derived.Test.YtndicjikjcifaaaDoorTxkey
namespace Go.Proofs.YtndicjikjcifaaaDoor
open Go.RowKit Go.Shelf Go.Lib Go.Proofs.YtndicjikjcifaaaDoorW.PrintWords Go.Proofs.YtndicjikjcifaaaDoorW.PrintLast
set_option linter.unusedVariables false
set_option linter.unusedSimpArgs false

/-- What is wrong with a transaction (0: nothing). -/
def chF (k : Int) (f t ky' vl : ByteArray) (am : Int) : Int :=
  if k = 1 then (if (nm f && nm t && ky'.toList.isEmpty && vl.toList.isEmpty) = true then 0 else 3)
  else if k = 2 then (if (nm f && nm ky' && decide (vl.size ≤ 64) && t.toList.isEmpty && decide (am = 0)) = true then 0 else 3)
  else 5
def chR (am nc : Int) (rs ws : List ByteArray) : Int :=
  if am ≤ 4611686018427387903 ∧ nc ≤ 4611686018427387903 then (if ke rs = 0 then ke ws else ke rs) else 2
def ch (k : Int) (f t : ByteArray) (am nc : Int) (ky' vl : ByteArray) (rs ws : List ByteArray) : Int :=
  if chF k f t ky' vl am = 0 then chR am nc rs ws else chF k f t ky' vl am

theorem keys_ok (A : Option Addr) (c : Nat) (xs : List ByteArray) (w : World) (h0 : ke xs = 0) (hr : Kd.C Kd.string w A xs.length xs) (hc : xs.length ≤ c) :
    Calls Tryd.prog 72 #[.slice A xs.length c] w fun e w' => e = .returned (.tuple #[]) ∧ Below w.heap.size w w' := by
  have := keys_calls A c xs w hr hc
  rw [okOr, if_pos h0] at this
  exact this
theorem keys_no (A : Option Addr) (c : Nat) (xs : List ByteArray) (w : World) (h0 : ke xs ≠ 0) (hr : Kd.C Kd.string w A xs.length xs) (hc : xs.length ≤ c) :
    Calls Tryd.prog 72 #[.slice A xs.length c] w fun e w' => e = .panicked [{ v := .iface 24 (.int .i64 (ke xs)), recovered := false }] ∧ Below w.heap.size w w' := by
  have := keys_calls A c xs w hr hc
  rw [okOr, if_neg h0] at this
  exact this
/-- The two boxes at a world. -/
structure Bx (w : World) (bs : Array Value) (W : World) : Prop where
  low : Below w.heap.size w W
  box : W.heap[w.heap.size]? = some (.cells bs 33 (0, 0))
  res : W.heap[w.heap.size + 1]? = some (.cells #[.int .i64 0] 24 (0, 0))
theorem Bx.size {w W : World} {bs : Array Value} (h : Bx w bs W) : w.heap.size + 1 < W.heap.size := by
  have := h.res
  rcases Nat.lt_or_ge (w.heap.size + 1) W.heap.size with h | h
  · exact h
  · rw [Array.getElem?_eq_none h] at this; cases this
theorem Bx.step {w W W' : World} {bs : Array Value} (h : Bx w bs W) (hb : Below W.heap.size W W') : Bx w bs W' :=
  ⟨below_then h.low h.low.size hb, (hb.block _ (by have := h.size; omega)).trans h.box, (hb.block _ h.size).trans h.res⟩
theorem Bx.first (w : World) (bs : Array Value) : Bx w bs ((w.alloc (.cells bs 33)).alloc (.cells #[.int .i64 0] 24)) :=
  ⟨((Below.refl _ w).alloc (Nat.le_refl _) _).alloc (by simp) _, blk_alloc (blk_new _ _) _, blk_newAt _ _ (by simp)⟩
theorem Bx.resr {w W : World} {bs : Array Value} (h : Bx w bs W) (v : Value) : (W.setCell ⟨w.heap.size + 1, 0, none⟩ v).cell? ⟨w.heap.size + 1, 0, none⟩ = some v := by
  have := blk_cell (blk_set h.res 0 v) 0
  simpa using this
theorem Bx.setr {w W : World} {bs : Array Value} (h : Bx w bs W) (v : Value) : Below w.heap.size w (W.setCell ⟨w.heap.size + 1, 0, none⟩ v) :=
  h.low.setCell (by simp) v

set_option maxHeartbeats 8000000 in
set_option maxRecDepth 100000 in
theorem chk_calls (k : Int) (f t : ByteArray) (am nc : Int) (ky' vl : ByteArray) (A B : Option Addr) (c d : Nat) (rs ws : List ByteArray) (w : World)
    (hr : Kd.C Kd.string w A rs.length rs) (hc : rs.length ≤ c) (hs : Kd.C Kd.string w B ws.length ws) (hd : ws.length ≤ d) :
    Calls Tryd.prog 41 #[.agg #[.int .i64 k, .string f, .string t, .int .u64 am, .int .u64 nc, .string ky', .string vl, .slice A rs.length c, .slice B ws.length d]] w
      fun e w' => e = .returned (.int .i64 (ch k f t am nc ky' vl rs ws)) ∧ Below w.heap.size w w' := by
  have HR := Lib.hid hr
  have HC := Lib.hid hc
  have HS := Lib.hid hs
  have HD := Lib.hid hd
  clear hr hc hs hd
  go_enter_defers Tryd.func41, Tryd.ntmps41
  by_cases h5 : chF k f t ky' vl am = 5
  · have hE : ch k f t am nc ky' vl rs ws = 5 := by rw [ch, h5]; rfl
    have e1 : (k == 1) = false := by
      cases h : (k == 1)
      · rfl
      · simp at h; subst h; simp [chF] at h5; split at h5 <;> cases h5
    have e2 : (k == 2) = false := by
      cases h : (k == 2)
      · rfl
      · simp at h; subst h; simp [chF] at h5; split at h5 <;> cases h5
    rw [hE]
    clear hE h5
    go_wp2
    refine leaves_cons (f := 51) (args := #[.pointer (some ⟨w.heap.size + 1, 0, none⟩)]) (by simp) (by simp [go_sem]) ?_
    refine (caught_idle ⟨w.heap.size + 1, 0, none⟩ _).mono ?_
    rintro e u' w'' ⟨rfl, rfl, rfl⟩
    simp [Leaves, settle, results, Tryd.results41, go_sem]
    exact ((Below.refl _ w).alloc (Nat.le_refl _) _).alloc (by simp) _
  have HX := Lib.hid (Bx.first w #[.int .i64 k, .string f, .string t, .int .u64 am, .int .u64 nc, .string ky', .string vl, .slice A rs.length c, .slice B ws.length d])
  have hnil : ∀ s : ByteArray, s.toList.isEmpty = true ∨ s.toList.isEmpty = false := fun s => by cases s.toList.isEmpty <;> simp
  rcases (show k = 1 ∨ k = 2 by
    by_cases h1 : k = 1
    · exact .inl h1
    · by_cases h2 : k = 2
      · exact .inr h2
      · exact absurd (by simp [chF, h1, h2]) h5) with rfl | rfl
  · clear h5
    cases h1 : nm f with
    | false =>
      have hE : ch 1 f t am nc ky' vl rs ws = 3 := by simp [ch, chF, h1]
      rw [hE]
      clear hE hnil
      go_wp2_with (first
        | (go_at_call 71
           go_must (refine (name_calls _ _).mono ?_)
           rintro e w2 ⟨rfl, hB⟩
           have HX := Lib.hid (HX.out.step hB)
           clear hB
           have c1 : w2.cell? ⟨w.heap.size, 1, none⟩ = some (.string f) := blk_cell HX.out.box 1
           have c2 : w2.cell? ⟨w.heap.size, 2, none⟩ = some (.string t) := blk_cell HX.out.box 2
           have c3 : w2.cell? ⟨w.heap.size, 3, none⟩ = some (.int .u64 am) := blk_cell HX.out.box 3
           have c4 : w2.cell? ⟨w.heap.size, 4, none⟩ = some (.int .u64 nc) := blk_cell HX.out.box 4
           have c5 : w2.cell? ⟨w.heap.size, 5, none⟩ = some (.string ky') := blk_cell HX.out.box 5
           have c6 : w2.cell? ⟨w.heap.size, 6, none⟩ = some (.string vl) := blk_cell HX.out.box 6
           have c7 : w2.cell? ⟨w.heap.size, 7, none⟩ = some (.slice A rs.length c) := blk_cell HX.out.box 7
           have c8 : w2.cell? ⟨w.heap.size, 8, none⟩ = some (.slice B ws.length d) := blk_cell HX.out.box 8
           have r0 : w2.cell? ⟨w.heap.size + 1, 0, none⟩ = some (.int .i64 0) := blk_cell HX.out.res 0
           have z0 := blk_frozen HX.out.res 0
           skip)
        | (go_at_call 55; first | (with_reducible refine (check_ok _ _).mono ?_; rintro e w'' ⟨rfl, hw⟩; have hw := hw.symm; subst hw) | (with_reducible refine (check_no _ _).mono ?_; rintro e w'' ⟨rfl, hw⟩; have hw := hw.symm; subst hw))
        | (go_at_call 72
           first
             | (with_reducible refine (keys_ok A c rs _ k1.out (Kd.C_below HR.out HX.out.low) HC.out).mono ?_)
             | (with_reducible refine (keys_no A c rs _ k1.out (Kd.C_below HR.out HX.out.low) HC.out).mono ?_)
             | (with_reducible refine (keys_ok B d ws _ k2.out (Kd.C_below HS.out HX.out.low) HD.out).mono ?_)
             | (with_reducible refine (keys_no B d ws _ k2.out (Kd.C_below HS.out HX.out.low) HD.out).mono ?_)
           rintro e w2 ⟨rfl, hB⟩
           have HX := Lib.hid (HX.out.step hB)
           clear hB
           have c1 : w2.cell? ⟨w.heap.size, 1, none⟩ = some (.string f) := blk_cell HX.out.box 1
           have c2 : w2.cell? ⟨w.heap.size, 2, none⟩ = some (.string t) := blk_cell HX.out.box 2
           have c3 : w2.cell? ⟨w.heap.size, 3, none⟩ = some (.int .u64 am) := blk_cell HX.out.box 3
           have c4 : w2.cell? ⟨w.heap.size, 4, none⟩ = some (.int .u64 nc) := blk_cell HX.out.box 4
           have c5 : w2.cell? ⟨w.heap.size, 5, none⟩ = some (.string ky') := blk_cell HX.out.box 5
           have c6 : w2.cell? ⟨w.heap.size, 6, none⟩ = some (.string vl) := blk_cell HX.out.box 6
           have c7 : w2.cell? ⟨w.heap.size, 7, none⟩ = some (.slice A rs.length c) := blk_cell HX.out.box 7
           have c8 : w2.cell? ⟨w.heap.size, 8, none⟩ = some (.slice B ws.length d) := blk_cell HX.out.box 8
           have r0 : w2.cell? ⟨w.heap.size + 1, 0, none⟩ = some (.int .i64 0) := blk_cell HX.out.res 0
           have z0 := blk_frozen HX.out.res 0
           skip))
      refine leaves_cons (f := 51) (args := #[.pointer (some ⟨w.heap.size + 1, 0, none⟩)]) (by simp) (by simp [go_sem]) ?_
      refine (caught_panicking ⟨w.heap.size + 1, 0, none⟩ 0 3 [] _ (blk_cell HX.out.res 0) (blk_frozen HX.out.res 0)).mono ?_
      rintro e u' w'' ⟨rfl, rfl, rfl⟩
      have hq := HX.out.resr (.int .i64 3)
      simp [Leaves, settle, results, Tryd.results41, go_sem, hq]
      exact HX.out.setr _
    | true =>
      cases h2 : nm t with
      | false =>
        have hE : ch 1 f t am nc ky' vl rs ws = 3 := by simp [ch, chF, h1, h2]
        rw [hE]
        clear hE hnil
        go_wp2_with (first
          | (go_at_call 71
             go_must (refine (name_calls _ _).mono ?_)
             rintro e w2 ⟨rfl, hB⟩
             have HX := Lib.hid (HX.out.step hB)
             clear hB
             have c1 : w2.cell? ⟨w.heap.size, 1, none⟩ = some (.string f) := blk_cell HX.out.box 1
             have c2 : w2.cell? ⟨w.heap.size, 2, none⟩ = some (.string t) := blk_cell HX.out.box 2
             have c3 : w2.cell? ⟨w.heap.size, 3, none⟩ = some (.int .u64 am) := blk_cell HX.out.box 3
             have c4 : w2.cell? ⟨w.heap.size, 4, none⟩ = some (.int .u64 nc) := blk_cell HX.out.box 4
             have c5 : w2.cell? ⟨w.heap.size, 5, none⟩ = some (.string ky') := blk_cell HX.out.box 5
             have c6 : w2.cell? ⟨w.heap.size, 6, none⟩ = some (.string vl) := blk_cell HX.out.box 6
             have c7 : w2.cell? ⟨w.heap.size, 7, none⟩ = some (.slice A rs.length c) := blk_cell HX.out.box 7
             have c8 : w2.cell? ⟨w.heap.size, 8, none⟩ = some (.slice B ws.length d) := blk_cell HX.out.box 8
             have r0 : w2.cell? ⟨w.heap.size + 1, 0, none⟩ = some (.int .i64 0) := blk_cell HX.out.res 0
             have z0 := blk_frozen HX.out.res 0
             skip)
          | (go_at_call 55; first | (with_reducible refine (check_ok _ _).mono ?_; rintro e w'' ⟨rfl, hw⟩; have hw := hw.symm; subst hw) | (with_reducible refine (check_no _ _).mono ?_; rintro e w'' ⟨rfl, hw⟩; have hw := hw.symm; subst hw))
          | (go_at_call 72
             first
               | (with_reducible refine (keys_ok A c rs _ k1.out (Kd.C_below HR.out HX.out.low) HC.out).mono ?_)
               | (with_reducible refine (keys_no A c rs _ k1.out (Kd.C_below HR.out HX.out.low) HC.out).mono ?_)
               | (with_reducible refine (keys_ok B d ws _ k2.out (Kd.C_below HS.out HX.out.low) HD.out).mono ?_)
               | (with_reducible refine (keys_no B d ws _ k2.out (Kd.C_below HS.out HX.out.low) HD.out).mono ?_)
             rintro e w2 ⟨rfl, hB⟩
             have HX := Lib.hid (HX.out.step hB)
             clear hB
             have c1 : w2.cell? ⟨w.heap.size, 1, none⟩ = some (.string f) := blk_cell HX.out.box 1
             have c2 : w2.cell? ⟨w.heap.size, 2, none⟩ = some (.string t) := blk_cell HX.out.box 2
             have c3 : w2.cell? ⟨w.heap.size, 3, none⟩ = some (.int .u64 am) := blk_cell HX.out.box 3
             have c4 : w2.cell? ⟨w.heap.size, 4, none⟩ = some (.int .u64 nc) := blk_cell HX.out.box 4
             have c5 : w2.cell? ⟨w.heap.size, 5, none⟩ = some (.string ky') := blk_cell HX.out.box 5
             have c6 : w2.cell? ⟨w.heap.size, 6, none⟩ = some (.string vl) := blk_cell HX.out.box 6
             have c7 : w2.cell? ⟨w.heap.size, 7, none⟩ = some (.slice A rs.length c) := blk_cell HX.out.box 7
             have c8 : w2.cell? ⟨w.heap.size, 8, none⟩ = some (.slice B ws.length d) := blk_cell HX.out.box 8
             have r0 : w2.cell? ⟨w.heap.size + 1, 0, none⟩ = some (.int .i64 0) := blk_cell HX.out.res 0
             have z0 := blk_frozen HX.out.res 0
             skip))
        refine leaves_cons (f := 51) (args := #[.pointer (some ⟨w.heap.size + 1, 0, none⟩)]) (by simp) (by simp [go_sem]) ?_
        refine (caught_panicking ⟨w.heap.size + 1, 0, none⟩ 0 3 [] _ (blk_cell HX.out.res 0) (blk_frozen HX.out.res 0)).mono ?_
        rintro e u' w'' ⟨rfl, rfl, rfl⟩
        have hq := HX.out.resr (.int .i64 3)
        simp [Leaves, settle, results, Tryd.results41, go_sem, hq]
        exact HX.out.setr _
      | true =>
        rcases hnil ky' with h3 | h3
        · rcases hnil vl with h4 | h4
          ·
            by_cases a1 : am ≤ 4611686018427387903
            · have d1 : decide (am ≤ 4611686018427387903) = true := by simp; omega
              by_cases a2 : nc ≤ 4611686018427387903
              · have d2 : decide (nc ≤ 4611686018427387903) = true := by simp; omega
                by_cases k1 : ke rs = 0
                · by_cases k2 : ke ws = 0
                  · have hE : ch 1 f t am nc ky' vl rs ws = 0 := by simp [ch, chF, chR, h1, h2, h3, h4, a1, a2, k1, k2]
                    rw [hE]
                    have k1 := Lib.hid k1
                    have k2 := Lib.hid k2
                    clear hE hnil a1 a2
                    go_wp2_with (first
                      | (go_at_call 71
                         go_must (refine (name_calls _ _).mono ?_)
                         rintro e w2 ⟨rfl, hB⟩
                         have HX := Lib.hid (HX.out.step hB)
                         clear hB
                         have c1 : w2.cell? ⟨w.heap.size, 1, none⟩ = some (.string f) := blk_cell HX.out.box 1
                         have c2 : w2.cell? ⟨w.heap.size, 2, none⟩ = some (.string t) := blk_cell HX.out.box 2
                         have c3 : w2.cell? ⟨w.heap.size, 3, none⟩ = some (.int .u64 am) := blk_cell HX.out.box 3
                         have c4 : w2.cell? ⟨w.heap.size, 4, none⟩ = some (.int .u64 nc) := blk_cell HX.out.box 4
                         have c5 : w2.cell? ⟨w.heap.size, 5, none⟩ = some (.string ky') := blk_cell HX.out.box 5
                         have c6 : w2.cell? ⟨w.heap.size, 6, none⟩ = some (.string vl) := blk_cell HX.out.box 6
                         have c7 : w2.cell? ⟨w.heap.size, 7, none⟩ = some (.slice A rs.length c) := blk_cell HX.out.box 7
                         have c8 : w2.cell? ⟨w.heap.size, 8, none⟩ = some (.slice B ws.length d) := blk_cell HX.out.box 8
                         have r0 : w2.cell? ⟨w.heap.size + 1, 0, none⟩ = some (.int .i64 0) := blk_cell HX.out.res 0
                         have z0 := blk_frozen HX.out.res 0
                         skip)
                      | (go_at_call 55; first | (with_reducible refine (check_ok _ _).mono ?_; rintro e w'' ⟨rfl, hw⟩; have hw := hw.symm; subst hw) | (with_reducible refine (check_no _ _).mono ?_; rintro e w'' ⟨rfl, hw⟩; have hw := hw.symm; subst hw))
                      | (go_at_call 72
                         first
                           | (with_reducible refine (keys_ok A c rs _ k1.out (Kd.C_below HR.out HX.out.low) HC.out).mono ?_)
                           | (with_reducible refine (keys_no A c rs _ k1.out (Kd.C_below HR.out HX.out.low) HC.out).mono ?_)
                           | (with_reducible refine (keys_ok B d ws _ k2.out (Kd.C_below HS.out HX.out.low) HD.out).mono ?_)
                           | (with_reducible refine (keys_no B d ws _ k2.out (Kd.C_below HS.out HX.out.low) HD.out).mono ?_)
                         rintro e w2 ⟨rfl, hB⟩
                         have HX := Lib.hid (HX.out.step hB)
                         clear hB
                         have c1 : w2.cell? ⟨w.heap.size, 1, none⟩ = some (.string f) := blk_cell HX.out.box 1
                         have c2 : w2.cell? ⟨w.heap.size, 2, none⟩ = some (.string t) := blk_cell HX.out.box 2
                         have c3 : w2.cell? ⟨w.heap.size, 3, none⟩ = some (.int .u64 am) := blk_cell HX.out.box 3
                         have c4 : w2.cell? ⟨w.heap.size, 4, none⟩ = some (.int .u64 nc) := blk_cell HX.out.box 4
                         have c5 : w2.cell? ⟨w.heap.size, 5, none⟩ = some (.string ky') := blk_cell HX.out.box 5
                         have c6 : w2.cell? ⟨w.heap.size, 6, none⟩ = some (.string vl) := blk_cell HX.out.box 6
                         have c7 : w2.cell? ⟨w.heap.size, 7, none⟩ = some (.slice A rs.length c) := blk_cell HX.out.box 7
                         have c8 : w2.cell? ⟨w.heap.size, 8, none⟩ = some (.slice B ws.length d) := blk_cell HX.out.box 8
                         have r0 : w2.cell? ⟨w.heap.size + 1, 0, none⟩ = some (.int .i64 0) := blk_cell HX.out.res 0
                         have z0 := blk_frozen HX.out.res 0
                         skip))
                    refine leaves_cons (f := 51) (args := #[.pointer (some ⟨w.heap.size + 1, 0, none⟩)]) (by simp) (by simp [go_sem]) ?_
                    refine (caught_idle ⟨w.heap.size + 1, 0, none⟩ _).mono ?_
                    rintro e u' w'' ⟨rfl, rfl, rfl⟩
                    have hq := HX.out.resr (.int .i64 0)
                    simp [Leaves, settle, results, Tryd.results41, go_sem, hq]
                    exact HX.out.setr _
                  · have hE : ch 1 f t am nc ky' vl rs ws = ke ws := by simp [ch, chF, chR, h1, h2, h3, h4, a1, a2, k1]
                    rw [hE]
                    have k1 := Lib.hid k1
                    have k2 := Lib.hid k2
                    clear hE hnil a1 a2
                    go_wp2_with (first
                      | (go_at_call 71
                         go_must (refine (name_calls _ _).mono ?_)
                         rintro e w2 ⟨rfl, hB⟩
                         have HX := Lib.hid (HX.out.step hB)
                         clear hB
                         have c1 : w2.cell? ⟨w.heap.size, 1, none⟩ = some (.string f) := blk_cell HX.out.box 1
                         have c2 : w2.cell? ⟨w.heap.size, 2, none⟩ = some (.string t) := blk_cell HX.out.box 2
                         have c3 : w2.cell? ⟨w.heap.size, 3, none⟩ = some (.int .u64 am) := blk_cell HX.out.box 3
                         have c4 : w2.cell? ⟨w.heap.size, 4, none⟩ = some (.int .u64 nc) := blk_cell HX.out.box 4
                         have c5 : w2.cell? ⟨w.heap.size, 5, none⟩ = some (.string ky') := blk_cell HX.out.box 5
                         have c6 : w2.cell? ⟨w.heap.size, 6, none⟩ = some (.string vl) := blk_cell HX.out.box 6
                         have c7 : w2.cell? ⟨w.heap.size, 7, none⟩ = some (.slice A rs.length c) := blk_cell HX.out.box 7
                         have c8 : w2.cell? ⟨w.heap.size, 8, none⟩ = some (.slice B ws.length d) := blk_cell HX.out.box 8
                         have r0 : w2.cell? ⟨w.heap.size + 1, 0, none⟩ = some (.int .i64 0) := blk_cell HX.out.res 0
                         have z0 := blk_frozen HX.out.res 0
                         skip)
                      | (go_at_call 55; first | (with_reducible refine (check_ok _ _).mono ?_; rintro e w'' ⟨rfl, hw⟩; have hw := hw.symm; subst hw) | (with_reducible refine (check_no _ _).mono ?_; rintro e w'' ⟨rfl, hw⟩; have hw := hw.symm; subst hw))
                      | (go_at_call 72
                         first
                           | (with_reducible refine (keys_ok A c rs _ k1.out (Kd.C_below HR.out HX.out.low) HC.out).mono ?_)
                           | (with_reducible refine (keys_no A c rs _ k1.out (Kd.C_below HR.out HX.out.low) HC.out).mono ?_)
                           | (with_reducible refine (keys_ok B d ws _ k2.out (Kd.C_below HS.out HX.out.low) HD.out).mono ?_)
                           | (with_reducible refine (keys_no B d ws _ k2.out (Kd.C_below HS.out HX.out.low) HD.out).mono ?_)
                         rintro e w2 ⟨rfl, hB⟩
                         have HX := Lib.hid (HX.out.step hB)
                         clear hB
                         have c1 : w2.cell? ⟨w.heap.size, 1, none⟩ = some (.string f) := blk_cell HX.out.box 1
                         have c2 : w2.cell? ⟨w.heap.size, 2, none⟩ = some (.string t) := blk_cell HX.out.box 2
                         have c3 : w2.cell? ⟨w.heap.size, 3, none⟩ = some (.int .u64 am) := blk_cell HX.out.box 3
                         have c4 : w2.cell? ⟨w.heap.size, 4, none⟩ = some (.int .u64 nc) := blk_cell HX.out.box 4
                         have c5 : w2.cell? ⟨w.heap.size, 5, none⟩ = some (.string ky') := blk_cell HX.out.box 5
                         have c6 : w2.cell? ⟨w.heap.size, 6, none⟩ = some (.string vl) := blk_cell HX.out.box 6
                         have c7 : w2.cell? ⟨w.heap.size, 7, none⟩ = some (.slice A rs.length c) := blk_cell HX.out.box 7
                         have c8 : w2.cell? ⟨w.heap.size, 8, none⟩ = some (.slice B ws.length d) := blk_cell HX.out.box 8
                         have r0 : w2.cell? ⟨w.heap.size + 1, 0, none⟩ = some (.int .i64 0) := blk_cell HX.out.res 0
                         have z0 := blk_frozen HX.out.res 0
                         skip))
                    refine leaves_cons (f := 51) (args := #[.pointer (some ⟨w.heap.size + 1, 0, none⟩)]) (by simp) (by simp [go_sem]) ?_
                    refine (caught_panicking ⟨w.heap.size + 1, 0, none⟩ 0 (ke ws) [] _ (blk_cell HX.out.res 0) (blk_frozen HX.out.res 0)).mono ?_
                    rintro e u' w'' ⟨rfl, rfl, rfl⟩
                    have hq := HX.out.resr (.int .i64 (ke ws))
                    simp [Leaves, settle, results, Tryd.results41, go_sem, hq]
                    exact HX.out.setr _
                · have hE : ch 1 f t am nc ky' vl rs ws = ke rs := by simp [ch, chF, chR, h1, h2, h3, h4, a1, a2, k1]
                  rw [hE]
                  have k1 := Lib.hid k1
                  clear hE hnil a1 a2
                  go_wp2_with (first
                    | (go_at_call 71
                       go_must (refine (name_calls _ _).mono ?_)
                       rintro e w2 ⟨rfl, hB⟩
                       have HX := Lib.hid (HX.out.step hB)
                       clear hB
                       have c1 : w2.cell? ⟨w.heap.size, 1, none⟩ = some (.string f) := blk_cell HX.out.box 1
                       have c2 : w2.cell? ⟨w.heap.size, 2, none⟩ = some (.string t) := blk_cell HX.out.box 2
                       have c3 : w2.cell? ⟨w.heap.size, 3, none⟩ = some (.int .u64 am) := blk_cell HX.out.box 3
                       have c4 : w2.cell? ⟨w.heap.size, 4, none⟩ = some (.int .u64 nc) := blk_cell HX.out.box 4
                       have c5 : w2.cell? ⟨w.heap.size, 5, none⟩ = some (.string ky') := blk_cell HX.out.box 5
                       have c6 : w2.cell? ⟨w.heap.size, 6, none⟩ = some (.string vl) := blk_cell HX.out.box 6
                       have c7 : w2.cell? ⟨w.heap.size, 7, none⟩ = some (.slice A rs.length c) := blk_cell HX.out.box 7
                       have c8 : w2.cell? ⟨w.heap.size, 8, none⟩ = some (.slice B ws.length d) := blk_cell HX.out.box 8
                       have r0 : w2.cell? ⟨w.heap.size + 1, 0, none⟩ = some (.int .i64 0) := blk_cell HX.out.res 0
                       have z0 := blk_frozen HX.out.res 0
                       skip)
                    | (go_at_call 55; first | (with_reducible refine (check_ok _ _).mono ?_; rintro e w'' ⟨rfl, hw⟩; have hw := hw.symm; subst hw) | (with_reducible refine (check_no _ _).mono ?_; rintro e w'' ⟨rfl, hw⟩; have hw := hw.symm; subst hw))
                    | (go_at_call 72
                       first
                         | (with_reducible refine (keys_ok A c rs _ k1.out (Kd.C_below HR.out HX.out.low) HC.out).mono ?_)
                         | (with_reducible refine (keys_no A c rs _ k1.out (Kd.C_below HR.out HX.out.low) HC.out).mono ?_)
                         | (with_reducible refine (keys_ok B d ws _ k2.out (Kd.C_below HS.out HX.out.low) HD.out).mono ?_)
                         | (with_reducible refine (keys_no B d ws _ k2.out (Kd.C_below HS.out HX.out.low) HD.out).mono ?_)
                       rintro e w2 ⟨rfl, hB⟩
                       have HX := Lib.hid (HX.out.step hB)
                       clear hB
                       have c1 : w2.cell? ⟨w.heap.size, 1, none⟩ = some (.string f) := blk_cell HX.out.box 1
                       have c2 : w2.cell? ⟨w.heap.size, 2, none⟩ = some (.string t) := blk_cell HX.out.box 2
                       have c3 : w2.cell? ⟨w.heap.size, 3, none⟩ = some (.int .u64 am) := blk_cell HX.out.box 3
                       have c4 : w2.cell? ⟨w.heap.size, 4, none⟩ = some (.int .u64 nc) := blk_cell HX.out.box 4
                       have c5 : w2.cell? ⟨w.heap.size, 5, none⟩ = some (.string ky') := blk_cell HX.out.box 5
                       have c6 : w2.cell? ⟨w.heap.size, 6, none⟩ = some (.string vl) := blk_cell HX.out.box 6
                       have c7 : w2.cell? ⟨w.heap.size, 7, none⟩ = some (.slice A rs.length c) := blk_cell HX.out.box 7
                       have c8 : w2.cell? ⟨w.heap.size, 8, none⟩ = some (.slice B ws.length d) := blk_cell HX.out.box 8
                       have r0 : w2.cell? ⟨w.heap.size + 1, 0, none⟩ = some (.int .i64 0) := blk_cell HX.out.res 0
                       have z0 := blk_frozen HX.out.res 0
                       skip))
                  refine leaves_cons (f := 51) (args := #[.pointer (some ⟨w.heap.size + 1, 0, none⟩)]) (by simp) (by simp [go_sem]) ?_
                  refine (caught_panicking ⟨w.heap.size + 1, 0, none⟩ 0 (ke rs) [] _ (blk_cell HX.out.res 0) (blk_frozen HX.out.res 0)).mono ?_
                  rintro e u' w'' ⟨rfl, rfl, rfl⟩
                  have hq := HX.out.resr (.int .i64 (ke rs))
                  simp [Leaves, settle, results, Tryd.results41, go_sem, hq]
                  exact HX.out.setr _
              · have d2 : decide (nc ≤ 4611686018427387903) = false := by simp; omega
                have hE : ch 1 f t am nc ky' vl rs ws = 2 := by simp [ch, chF, chR, h1, h2, h3, h4, a2]
                rw [hE]
                clear hE hnil a1 a2
                go_wp2_with (first
                  | (go_at_call 71
                     go_must (refine (name_calls _ _).mono ?_)
                     rintro e w2 ⟨rfl, hB⟩
                     have HX := Lib.hid (HX.out.step hB)
                     clear hB
                     have c1 : w2.cell? ⟨w.heap.size, 1, none⟩ = some (.string f) := blk_cell HX.out.box 1
                     have c2 : w2.cell? ⟨w.heap.size, 2, none⟩ = some (.string t) := blk_cell HX.out.box 2
                     have c3 : w2.cell? ⟨w.heap.size, 3, none⟩ = some (.int .u64 am) := blk_cell HX.out.box 3
                     have c4 : w2.cell? ⟨w.heap.size, 4, none⟩ = some (.int .u64 nc) := blk_cell HX.out.box 4
                     have c5 : w2.cell? ⟨w.heap.size, 5, none⟩ = some (.string ky') := blk_cell HX.out.box 5
                     have c6 : w2.cell? ⟨w.heap.size, 6, none⟩ = some (.string vl) := blk_cell HX.out.box 6
                     have c7 : w2.cell? ⟨w.heap.size, 7, none⟩ = some (.slice A rs.length c) := blk_cell HX.out.box 7
                     have c8 : w2.cell? ⟨w.heap.size, 8, none⟩ = some (.slice B ws.length d) := blk_cell HX.out.box 8
                     have r0 : w2.cell? ⟨w.heap.size + 1, 0, none⟩ = some (.int .i64 0) := blk_cell HX.out.res 0
                     have z0 := blk_frozen HX.out.res 0
                     skip)
                  | (go_at_call 55; first | (with_reducible refine (check_ok _ _).mono ?_; rintro e w'' ⟨rfl, hw⟩; have hw := hw.symm; subst hw) | (with_reducible refine (check_no _ _).mono ?_; rintro e w'' ⟨rfl, hw⟩; have hw := hw.symm; subst hw))
                  | (go_at_call 72
                     first
                       | (with_reducible refine (keys_ok A c rs _ k1.out (Kd.C_below HR.out HX.out.low) HC.out).mono ?_)
                       | (with_reducible refine (keys_no A c rs _ k1.out (Kd.C_below HR.out HX.out.low) HC.out).mono ?_)
                       | (with_reducible refine (keys_ok B d ws _ k2.out (Kd.C_below HS.out HX.out.low) HD.out).mono ?_)
                       | (with_reducible refine (keys_no B d ws _ k2.out (Kd.C_below HS.out HX.out.low) HD.out).mono ?_)
                     rintro e w2 ⟨rfl, hB⟩
                     have HX := Lib.hid (HX.out.step hB)
                     clear hB
                     have c1 : w2.cell? ⟨w.heap.size, 1, none⟩ = some (.string f) := blk_cell HX.out.box 1
                     have c2 : w2.cell? ⟨w.heap.size, 2, none⟩ = some (.string t) := blk_cell HX.out.box 2
                     have c3 : w2.cell? ⟨w.heap.size, 3, none⟩ = some (.int .u64 am) := blk_cell HX.out.box 3
                     have c4 : w2.cell? ⟨w.heap.size, 4, none⟩ = some (.int .u64 nc) := blk_cell HX.out.box 4
                     have c5 : w2.cell? ⟨w.heap.size, 5, none⟩ = some (.string ky') := blk_cell HX.out.box 5
                     have c6 : w2.cell? ⟨w.heap.size, 6, none⟩ = some (.string vl) := blk_cell HX.out.box 6
                     have c7 : w2.cell? ⟨w.heap.size, 7, none⟩ = some (.slice A rs.length c) := blk_cell HX.out.box 7
                     have c8 : w2.cell? ⟨w.heap.size, 8, none⟩ = some (.slice B ws.length d) := blk_cell HX.out.box 8
                     have r0 : w2.cell? ⟨w.heap.size + 1, 0, none⟩ = some (.int .i64 0) := blk_cell HX.out.res 0
                     have z0 := blk_frozen HX.out.res 0
                     skip))
                refine leaves_cons (f := 51) (args := #[.pointer (some ⟨w.heap.size + 1, 0, none⟩)]) (by simp) (by simp [go_sem]) ?_
                refine (caught_panicking ⟨w.heap.size + 1, 0, none⟩ 0 2 [] _ (blk_cell HX.out.res 0) (blk_frozen HX.out.res 0)).mono ?_
                rintro e u' w'' ⟨rfl, rfl, rfl⟩
                have hq := HX.out.resr (.int .i64 2)
                simp [Leaves, settle, results, Tryd.results41, go_sem, hq]
                exact HX.out.setr _
            · have d1 : decide (am ≤ 4611686018427387903) = false := by simp; omega
              have hE : ch 1 f t am nc ky' vl rs ws = 2 := by simp [ch, chF, chR, h1, h2, h3, h4, a1]
              rw [hE]
              clear hE hnil a1
              go_wp2_with (first
                | (go_at_call 71
                   go_must (refine (name_calls _ _).mono ?_)
                   rintro e w2 ⟨rfl, hB⟩
                   have HX := Lib.hid (HX.out.step hB)
                   clear hB
                   have c1 : w2.cell? ⟨w.heap.size, 1, none⟩ = some (.string f) := blk_cell HX.out.box 1
                   have c2 : w2.cell? ⟨w.heap.size, 2, none⟩ = some (.string t) := blk_cell HX.out.box 2
                   have c3 : w2.cell? ⟨w.heap.size, 3, none⟩ = some (.int .u64 am) := blk_cell HX.out.box 3
                   have c4 : w2.cell? ⟨w.heap.size, 4, none⟩ = some (.int .u64 nc) := blk_cell HX.out.box 4
                   have c5 : w2.cell? ⟨w.heap.size, 5, none⟩ = some (.string ky') := blk_cell HX.out.box 5
                   have c6 : w2.cell? ⟨w.heap.size, 6, none⟩ = some (.string vl) := blk_cell HX.out.box 6
                   have c7 : w2.cell? ⟨w.heap.size, 7, none⟩ = some (.slice A rs.length c) := blk_cell HX.out.box 7
                   have c8 : w2.cell? ⟨w.heap.size, 8, none⟩ = some (.slice B ws.length d) := blk_cell HX.out.box 8
                   have r0 : w2.cell? ⟨w.heap.size + 1, 0, none⟩ = some (.int .i64 0) := blk_cell HX.out.res 0
                   have z0 := blk_frozen HX.out.res 0
                   skip)
                | (go_at_call 55; first | (with_reducible refine (check_ok _ _).mono ?_; rintro e w'' ⟨rfl, hw⟩; have hw := hw.symm; subst hw) | (with_reducible refine (check_no _ _).mono ?_; rintro e w'' ⟨rfl, hw⟩; have hw := hw.symm; subst hw))
                | (go_at_call 72
                   first
                     | (with_reducible refine (keys_ok A c rs _ k1.out (Kd.C_below HR.out HX.out.low) HC.out).mono ?_)
                     | (with_reducible refine (keys_no A c rs _ k1.out (Kd.C_below HR.out HX.out.low) HC.out).mono ?_)
                     | (with_reducible refine (keys_ok B d ws _ k2.out (Kd.C_below HS.out HX.out.low) HD.out).mono ?_)
                     | (with_reducible refine (keys_no B d ws _ k2.out (Kd.C_below HS.out HX.out.low) HD.out).mono ?_)
                   rintro e w2 ⟨rfl, hB⟩
                   have HX := Lib.hid (HX.out.step hB)
                   clear hB
                   have c1 : w2.cell? ⟨w.heap.size, 1, none⟩ = some (.string f) := blk_cell HX.out.box 1
                   have c2 : w2.cell? ⟨w.heap.size, 2, none⟩ = some (.string t) := blk_cell HX.out.box 2
                   have c3 : w2.cell? ⟨w.heap.size, 3, none⟩ = some (.int .u64 am) := blk_cell HX.out.box 3
                   have c4 : w2.cell? ⟨w.heap.size, 4, none⟩ = some (.int .u64 nc) := blk_cell HX.out.box 4
                   have c5 : w2.cell? ⟨w.heap.size, 5, none⟩ = some (.string ky') := blk_cell HX.out.box 5
                   have c6 : w2.cell? ⟨w.heap.size, 6, none⟩ = some (.string vl) := blk_cell HX.out.box 6
                   have c7 : w2.cell? ⟨w.heap.size, 7, none⟩ = some (.slice A rs.length c) := blk_cell HX.out.box 7
                   have c8 : w2.cell? ⟨w.heap.size, 8, none⟩ = some (.slice B ws.length d) := blk_cell HX.out.box 8
                   have r0 : w2.cell? ⟨w.heap.size + 1, 0, none⟩ = some (.int .i64 0) := blk_cell HX.out.res 0
                   have z0 := blk_frozen HX.out.res 0
                   skip))
              refine leaves_cons (f := 51) (args := #[.pointer (some ⟨w.heap.size + 1, 0, none⟩)]) (by simp) (by simp [go_sem]) ?_
              refine (caught_panicking ⟨w.heap.size + 1, 0, none⟩ 0 2 [] _ (blk_cell HX.out.res 0) (blk_frozen HX.out.res 0)).mono ?_
              rintro e u' w'' ⟨rfl, rfl, rfl⟩
              have hq := HX.out.resr (.int .i64 2)
              simp [Leaves, settle, results, Tryd.results41, go_sem, hq]
              exact HX.out.setr _
          ·
            have hE : ch 1 f t am nc ky' vl rs ws = 3 := by simp [ch, chF, h1, h2, h3, h4]
            rw [hE]
            clear hE hnil
            go_wp2_with (first
              | (go_at_call 71
                 go_must (refine (name_calls _ _).mono ?_)
                 rintro e w2 ⟨rfl, hB⟩
                 have HX := Lib.hid (HX.out.step hB)
                 clear hB
                 have c1 : w2.cell? ⟨w.heap.size, 1, none⟩ = some (.string f) := blk_cell HX.out.box 1
                 have c2 : w2.cell? ⟨w.heap.size, 2, none⟩ = some (.string t) := blk_cell HX.out.box 2
                 have c3 : w2.cell? ⟨w.heap.size, 3, none⟩ = some (.int .u64 am) := blk_cell HX.out.box 3
                 have c4 : w2.cell? ⟨w.heap.size, 4, none⟩ = some (.int .u64 nc) := blk_cell HX.out.box 4
                 have c5 : w2.cell? ⟨w.heap.size, 5, none⟩ = some (.string ky') := blk_cell HX.out.box 5
                 have c6 : w2.cell? ⟨w.heap.size, 6, none⟩ = some (.string vl) := blk_cell HX.out.box 6
                 have c7 : w2.cell? ⟨w.heap.size, 7, none⟩ = some (.slice A rs.length c) := blk_cell HX.out.box 7
                 have c8 : w2.cell? ⟨w.heap.size, 8, none⟩ = some (.slice B ws.length d) := blk_cell HX.out.box 8
                 have r0 : w2.cell? ⟨w.heap.size + 1, 0, none⟩ = some (.int .i64 0) := blk_cell HX.out.res 0
                 have z0 := blk_frozen HX.out.res 0
                 skip)
              | (go_at_call 55; first | (with_reducible refine (check_ok _ _).mono ?_; rintro e w'' ⟨rfl, hw⟩; have hw := hw.symm; subst hw) | (with_reducible refine (check_no _ _).mono ?_; rintro e w'' ⟨rfl, hw⟩; have hw := hw.symm; subst hw))
              | (go_at_call 72
                 first
                   | (with_reducible refine (keys_ok A c rs _ k1.out (Kd.C_below HR.out HX.out.low) HC.out).mono ?_)
                   | (with_reducible refine (keys_no A c rs _ k1.out (Kd.C_below HR.out HX.out.low) HC.out).mono ?_)
                   | (with_reducible refine (keys_ok B d ws _ k2.out (Kd.C_below HS.out HX.out.low) HD.out).mono ?_)
                   | (with_reducible refine (keys_no B d ws _ k2.out (Kd.C_below HS.out HX.out.low) HD.out).mono ?_)
                 rintro e w2 ⟨rfl, hB⟩
                 have HX := Lib.hid (HX.out.step hB)
                 clear hB
                 have c1 : w2.cell? ⟨w.heap.size, 1, none⟩ = some (.string f) := blk_cell HX.out.box 1
                 have c2 : w2.cell? ⟨w.heap.size, 2, none⟩ = some (.string t) := blk_cell HX.out.box 2
                 have c3 : w2.cell? ⟨w.heap.size, 3, none⟩ = some (.int .u64 am) := blk_cell HX.out.box 3
                 have c4 : w2.cell? ⟨w.heap.size, 4, none⟩ = some (.int .u64 nc) := blk_cell HX.out.box 4
                 have c5 : w2.cell? ⟨w.heap.size, 5, none⟩ = some (.string ky') := blk_cell HX.out.box 5
                 have c6 : w2.cell? ⟨w.heap.size, 6, none⟩ = some (.string vl) := blk_cell HX.out.box 6
                 have c7 : w2.cell? ⟨w.heap.size, 7, none⟩ = some (.slice A rs.length c) := blk_cell HX.out.box 7
                 have c8 : w2.cell? ⟨w.heap.size, 8, none⟩ = some (.slice B ws.length d) := blk_cell HX.out.box 8
                 have r0 : w2.cell? ⟨w.heap.size + 1, 0, none⟩ = some (.int .i64 0) := blk_cell HX.out.res 0
                 have z0 := blk_frozen HX.out.res 0
                 skip))
            refine leaves_cons (f := 51) (args := #[.pointer (some ⟨w.heap.size + 1, 0, none⟩)]) (by simp) (by simp [go_sem]) ?_
            refine (caught_panicking ⟨w.heap.size + 1, 0, none⟩ 0 3 [] _ (blk_cell HX.out.res 0) (blk_frozen HX.out.res 0)).mono ?_
            rintro e u' w'' ⟨rfl, rfl, rfl⟩
            have hq := HX.out.resr (.int .i64 3)
            simp [Leaves, settle, results, Tryd.results41, go_sem, hq]
            exact HX.out.setr _
        ·
          have hE : ch 1 f t am nc ky' vl rs ws = 3 := by simp [ch, chF, h1, h2, h3]
          rw [hE]
          clear hE hnil
          go_wp2_with (first
            | (go_at_call 71
               go_must (refine (name_calls _ _).mono ?_)
               rintro e w2 ⟨rfl, hB⟩
               have HX := Lib.hid (HX.out.step hB)
               clear hB
               have c1 : w2.cell? ⟨w.heap.size, 1, none⟩ = some (.string f) := blk_cell HX.out.box 1
               have c2 : w2.cell? ⟨w.heap.size, 2, none⟩ = some (.string t) := blk_cell HX.out.box 2
               have c3 : w2.cell? ⟨w.heap.size, 3, none⟩ = some (.int .u64 am) := blk_cell HX.out.box 3
               have c4 : w2.cell? ⟨w.heap.size, 4, none⟩ = some (.int .u64 nc) := blk_cell HX.out.box 4
               have c5 : w2.cell? ⟨w.heap.size, 5, none⟩ = some (.string ky') := blk_cell HX.out.box 5
               have c6 : w2.cell? ⟨w.heap.size, 6, none⟩ = some (.string vl) := blk_cell HX.out.box 6
               have c7 : w2.cell? ⟨w.heap.size, 7, none⟩ = some (.slice A rs.length c) := blk_cell HX.out.box 7
               have c8 : w2.cell? ⟨w.heap.size, 8, none⟩ = some (.slice B ws.length d) := blk_cell HX.out.box 8
               have r0 : w2.cell? ⟨w.heap.size + 1, 0, none⟩ = some (.int .i64 0) := blk_cell HX.out.res 0
               have z0 := blk_frozen HX.out.res 0
               skip)
            | (go_at_call 55; first | (with_reducible refine (check_ok _ _).mono ?_; rintro e w'' ⟨rfl, hw⟩; have hw := hw.symm; subst hw) | (with_reducible refine (check_no _ _).mono ?_; rintro e w'' ⟨rfl, hw⟩; have hw := hw.symm; subst hw))
            | (go_at_call 72
               first
                 | (with_reducible refine (keys_ok A c rs _ k1.out (Kd.C_below HR.out HX.out.low) HC.out).mono ?_)
                 | (with_reducible refine (keys_no A c rs _ k1.out (Kd.C_below HR.out HX.out.low) HC.out).mono ?_)
                 | (with_reducible refine (keys_ok B d ws _ k2.out (Kd.C_below HS.out HX.out.low) HD.out).mono ?_)
                 | (with_reducible refine (keys_no B d ws _ k2.out (Kd.C_below HS.out HX.out.low) HD.out).mono ?_)
               rintro e w2 ⟨rfl, hB⟩
               have HX := Lib.hid (HX.out.step hB)
               clear hB
               have c1 : w2.cell? ⟨w.heap.size, 1, none⟩ = some (.string f) := blk_cell HX.out.box 1
               have c2 : w2.cell? ⟨w.heap.size, 2, none⟩ = some (.string t) := blk_cell HX.out.box 2
               have c3 : w2.cell? ⟨w.heap.size, 3, none⟩ = some (.int .u64 am) := blk_cell HX.out.box 3
               have c4 : w2.cell? ⟨w.heap.size, 4, none⟩ = some (.int .u64 nc) := blk_cell HX.out.box 4
               have c5 : w2.cell? ⟨w.heap.size, 5, none⟩ = some (.string ky') := blk_cell HX.out.box 5
               have c6 : w2.cell? ⟨w.heap.size, 6, none⟩ = some (.string vl) := blk_cell HX.out.box 6
               have c7 : w2.cell? ⟨w.heap.size, 7, none⟩ = some (.slice A rs.length c) := blk_cell HX.out.box 7
               have c8 : w2.cell? ⟨w.heap.size, 8, none⟩ = some (.slice B ws.length d) := blk_cell HX.out.box 8
               have r0 : w2.cell? ⟨w.heap.size + 1, 0, none⟩ = some (.int .i64 0) := blk_cell HX.out.res 0
               have z0 := blk_frozen HX.out.res 0
               skip))
          refine leaves_cons (f := 51) (args := #[.pointer (some ⟨w.heap.size + 1, 0, none⟩)]) (by simp) (by simp [go_sem]) ?_
          refine (caught_panicking ⟨w.heap.size + 1, 0, none⟩ 0 3 [] _ (blk_cell HX.out.res 0) (blk_frozen HX.out.res 0)).mono ?_
          rintro e u' w'' ⟨rfl, rfl, rfl⟩
          have hq := HX.out.resr (.int .i64 3)
          simp [Leaves, settle, results, Tryd.results41, go_sem, hq]
          exact HX.out.setr _
  · clear h5
    cases h1 : nm f with
    | false =>
      have hE : ch 2 f t am nc ky' vl rs ws = 3 := by simp [ch, chF, h1]
      rw [hE]
      clear hE hnil
      go_wp2_with (first
        | (go_at_call 71
           go_must (refine (name_calls _ _).mono ?_)
           rintro e w2 ⟨rfl, hB⟩
           have HX := Lib.hid (HX.out.step hB)
           clear hB
           have c1 : w2.cell? ⟨w.heap.size, 1, none⟩ = some (.string f) := blk_cell HX.out.box 1
           have c2 : w2.cell? ⟨w.heap.size, 2, none⟩ = some (.string t) := blk_cell HX.out.box 2
           have c3 : w2.cell? ⟨w.heap.size, 3, none⟩ = some (.int .u64 am) := blk_cell HX.out.box 3
           have c4 : w2.cell? ⟨w.heap.size, 4, none⟩ = some (.int .u64 nc) := blk_cell HX.out.box 4
           have c5 : w2.cell? ⟨w.heap.size, 5, none⟩ = some (.string ky') := blk_cell HX.out.box 5
           have c6 : w2.cell? ⟨w.heap.size, 6, none⟩ = some (.string vl) := blk_cell HX.out.box 6
           have c7 : w2.cell? ⟨w.heap.size, 7, none⟩ = some (.slice A rs.length c) := blk_cell HX.out.box 7
           have c8 : w2.cell? ⟨w.heap.size, 8, none⟩ = some (.slice B ws.length d) := blk_cell HX.out.box 8
           have r0 : w2.cell? ⟨w.heap.size + 1, 0, none⟩ = some (.int .i64 0) := blk_cell HX.out.res 0
           have z0 := blk_frozen HX.out.res 0
           skip)
        | (go_at_call 55; first | (with_reducible refine (check_ok _ _).mono ?_; rintro e w'' ⟨rfl, hw⟩; have hw := hw.symm; subst hw) | (with_reducible refine (check_no _ _).mono ?_; rintro e w'' ⟨rfl, hw⟩; have hw := hw.symm; subst hw))
        | (go_at_call 72
           first
             | (with_reducible refine (keys_ok A c rs _ k1.out (Kd.C_below HR.out HX.out.low) HC.out).mono ?_)
             | (with_reducible refine (keys_no A c rs _ k1.out (Kd.C_below HR.out HX.out.low) HC.out).mono ?_)
             | (with_reducible refine (keys_ok B d ws _ k2.out (Kd.C_below HS.out HX.out.low) HD.out).mono ?_)
             | (with_reducible refine (keys_no B d ws _ k2.out (Kd.C_below HS.out HX.out.low) HD.out).mono ?_)
           rintro e w2 ⟨rfl, hB⟩
           have HX := Lib.hid (HX.out.step hB)
           clear hB
           have c1 : w2.cell? ⟨w.heap.size, 1, none⟩ = some (.string f) := blk_cell HX.out.box 1
           have c2 : w2.cell? ⟨w.heap.size, 2, none⟩ = some (.string t) := blk_cell HX.out.box 2
           have c3 : w2.cell? ⟨w.heap.size, 3, none⟩ = some (.int .u64 am) := blk_cell HX.out.box 3
           have c4 : w2.cell? ⟨w.heap.size, 4, none⟩ = some (.int .u64 nc) := blk_cell HX.out.box 4
           have c5 : w2.cell? ⟨w.heap.size, 5, none⟩ = some (.string ky') := blk_cell HX.out.box 5
           have c6 : w2.cell? ⟨w.heap.size, 6, none⟩ = some (.string vl) := blk_cell HX.out.box 6
           have c7 : w2.cell? ⟨w.heap.size, 7, none⟩ = some (.slice A rs.length c) := blk_cell HX.out.box 7
           have c8 : w2.cell? ⟨w.heap.size, 8, none⟩ = some (.slice B ws.length d) := blk_cell HX.out.box 8
           have r0 : w2.cell? ⟨w.heap.size + 1, 0, none⟩ = some (.int .i64 0) := blk_cell HX.out.res 0
           have z0 := blk_frozen HX.out.res 0
           skip))
      refine leaves_cons (f := 51) (args := #[.pointer (some ⟨w.heap.size + 1, 0, none⟩)]) (by simp) (by simp [go_sem]) ?_
      refine (caught_panicking ⟨w.heap.size + 1, 0, none⟩ 0 3 [] _ (blk_cell HX.out.res 0) (blk_frozen HX.out.res 0)).mono ?_
      rintro e u' w'' ⟨rfl, rfl, rfl⟩
      have hq := HX.out.resr (.int .i64 3)
      simp [Leaves, settle, results, Tryd.results41, go_sem, hq]
      exact HX.out.setr _
    | true =>
      cases h2 : nm ky' with
      | false =>
        have hE : ch 2 f t am nc ky' vl rs ws = 3 := by simp [ch, chF, h1, h2]
        rw [hE]
        clear hE hnil
        go_wp2_with (first
          | (go_at_call 71
             go_must (refine (name_calls _ _).mono ?_)
             rintro e w2 ⟨rfl, hB⟩
             have HX := Lib.hid (HX.out.step hB)
             clear hB
             have c1 : w2.cell? ⟨w.heap.size, 1, none⟩ = some (.string f) := blk_cell HX.out.box 1
             have c2 : w2.cell? ⟨w.heap.size, 2, none⟩ = some (.string t) := blk_cell HX.out.box 2
             have c3 : w2.cell? ⟨w.heap.size, 3, none⟩ = some (.int .u64 am) := blk_cell HX.out.box 3
             have c4 : w2.cell? ⟨w.heap.size, 4, none⟩ = some (.int .u64 nc) := blk_cell HX.out.box 4
             have c5 : w2.cell? ⟨w.heap.size, 5, none⟩ = some (.string ky') := blk_cell HX.out.box 5
             have c6 : w2.cell? ⟨w.heap.size, 6, none⟩ = some (.string vl) := blk_cell HX.out.box 6
             have c7 : w2.cell? ⟨w.heap.size, 7, none⟩ = some (.slice A rs.length c) := blk_cell HX.out.box 7
             have c8 : w2.cell? ⟨w.heap.size, 8, none⟩ = some (.slice B ws.length d) := blk_cell HX.out.box 8
             have r0 : w2.cell? ⟨w.heap.size + 1, 0, none⟩ = some (.int .i64 0) := blk_cell HX.out.res 0
             have z0 := blk_frozen HX.out.res 0
             skip)
          | (go_at_call 55; first | (with_reducible refine (check_ok _ _).mono ?_; rintro e w'' ⟨rfl, hw⟩; have hw := hw.symm; subst hw) | (with_reducible refine (check_no _ _).mono ?_; rintro e w'' ⟨rfl, hw⟩; have hw := hw.symm; subst hw))
          | (go_at_call 72
             first
               | (with_reducible refine (keys_ok A c rs _ k1.out (Kd.C_below HR.out HX.out.low) HC.out).mono ?_)
               | (with_reducible refine (keys_no A c rs _ k1.out (Kd.C_below HR.out HX.out.low) HC.out).mono ?_)
               | (with_reducible refine (keys_ok B d ws _ k2.out (Kd.C_below HS.out HX.out.low) HD.out).mono ?_)
               | (with_reducible refine (keys_no B d ws _ k2.out (Kd.C_below HS.out HX.out.low) HD.out).mono ?_)
             rintro e w2 ⟨rfl, hB⟩
             have HX := Lib.hid (HX.out.step hB)
             clear hB
             have c1 : w2.cell? ⟨w.heap.size, 1, none⟩ = some (.string f) := blk_cell HX.out.box 1
             have c2 : w2.cell? ⟨w.heap.size, 2, none⟩ = some (.string t) := blk_cell HX.out.box 2
             have c3 : w2.cell? ⟨w.heap.size, 3, none⟩ = some (.int .u64 am) := blk_cell HX.out.box 3
             have c4 : w2.cell? ⟨w.heap.size, 4, none⟩ = some (.int .u64 nc) := blk_cell HX.out.box 4
             have c5 : w2.cell? ⟨w.heap.size, 5, none⟩ = some (.string ky') := blk_cell HX.out.box 5
             have c6 : w2.cell? ⟨w.heap.size, 6, none⟩ = some (.string vl) := blk_cell HX.out.box 6
             have c7 : w2.cell? ⟨w.heap.size, 7, none⟩ = some (.slice A rs.length c) := blk_cell HX.out.box 7
             have c8 : w2.cell? ⟨w.heap.size, 8, none⟩ = some (.slice B ws.length d) := blk_cell HX.out.box 8
             have r0 : w2.cell? ⟨w.heap.size + 1, 0, none⟩ = some (.int .i64 0) := blk_cell HX.out.res 0
             have z0 := blk_frozen HX.out.res 0
             skip))
        refine leaves_cons (f := 51) (args := #[.pointer (some ⟨w.heap.size + 1, 0, none⟩)]) (by simp) (by simp [go_sem]) ?_
        refine (caught_panicking ⟨w.heap.size + 1, 0, none⟩ 0 3 [] _ (blk_cell HX.out.res 0) (blk_frozen HX.out.res 0)).mono ?_
        rintro e u' w'' ⟨rfl, rfl, rfl⟩
        have hq := HX.out.resr (.int .i64 3)
        simp [Leaves, settle, results, Tryd.results41, go_sem, hq]
        exact HX.out.setr _
      | true =>
        by_cases h3 : vl.size ≤ 64
        · have b3 : decide ((vl.size : Int) ≤ 64) = true := by simp; omega
          rcases hnil t with h4 | h4
          · by_cases h5 : am = 0
            · have b5 : (am == 0) = true := by simp [h5]
              have d1 : decide (am ≤ 4611686018427387903) = true := by simp; omega
              have hk : ∀ x, chR am nc rs ws = x → ch 2 f t am nc ky' vl rs ws = x := fun x h => by simp [ch, chF, h1, h2, h3, h4, h5]; rw [← h5]; exact h
              have a1 : am ≤ 4611686018427387903 := by omega
              clear h5
              clear h3
              by_cases a2 : nc ≤ 4611686018427387903
              · have d2 : decide (nc ≤ 4611686018427387903) = true := by simp; omega
                by_cases k1 : ke rs = 0
                · by_cases k2 : ke ws = 0
                  · rw [hk 0 (by simp [chR, a1, a2, k1, k2])]
                    have k1 := Lib.hid k1
                    have k2 := Lib.hid k2
                    clear hk hnil a1 a2
                    go_wp2_with (first
                      | (go_at_call 71
                         go_must (refine (name_calls _ _).mono ?_)
                         rintro e w2 ⟨rfl, hB⟩
                         have HX := Lib.hid (HX.out.step hB)
                         clear hB
                         have c1 : w2.cell? ⟨w.heap.size, 1, none⟩ = some (.string f) := blk_cell HX.out.box 1
                         have c2 : w2.cell? ⟨w.heap.size, 2, none⟩ = some (.string t) := blk_cell HX.out.box 2
                         have c3 : w2.cell? ⟨w.heap.size, 3, none⟩ = some (.int .u64 am) := blk_cell HX.out.box 3
                         have c4 : w2.cell? ⟨w.heap.size, 4, none⟩ = some (.int .u64 nc) := blk_cell HX.out.box 4
                         have c5 : w2.cell? ⟨w.heap.size, 5, none⟩ = some (.string ky') := blk_cell HX.out.box 5
                         have c6 : w2.cell? ⟨w.heap.size, 6, none⟩ = some (.string vl) := blk_cell HX.out.box 6
                         have c7 : w2.cell? ⟨w.heap.size, 7, none⟩ = some (.slice A rs.length c) := blk_cell HX.out.box 7
                         have c8 : w2.cell? ⟨w.heap.size, 8, none⟩ = some (.slice B ws.length d) := blk_cell HX.out.box 8
                         have r0 : w2.cell? ⟨w.heap.size + 1, 0, none⟩ = some (.int .i64 0) := blk_cell HX.out.res 0
                         have z0 := blk_frozen HX.out.res 0
                         skip)
                      | (go_at_call 55; first | (with_reducible refine (check_ok _ _).mono ?_; rintro e w'' ⟨rfl, hw⟩; have hw := hw.symm; subst hw) | (with_reducible refine (check_no _ _).mono ?_; rintro e w'' ⟨rfl, hw⟩; have hw := hw.symm; subst hw))
                      | (go_at_call 72
                         first
                           | (with_reducible refine (keys_ok A c rs _ k1.out (Kd.C_below HR.out HX.out.low) HC.out).mono ?_)
                           | (with_reducible refine (keys_no A c rs _ k1.out (Kd.C_below HR.out HX.out.low) HC.out).mono ?_)
                           | (with_reducible refine (keys_ok B d ws _ k2.out (Kd.C_below HS.out HX.out.low) HD.out).mono ?_)
                           | (with_reducible refine (keys_no B d ws _ k2.out (Kd.C_below HS.out HX.out.low) HD.out).mono ?_)
                         rintro e w2 ⟨rfl, hB⟩
                         have HX := Lib.hid (HX.out.step hB)
                         clear hB
                         have c1 : w2.cell? ⟨w.heap.size, 1, none⟩ = some (.string f) := blk_cell HX.out.box 1
                         have c2 : w2.cell? ⟨w.heap.size, 2, none⟩ = some (.string t) := blk_cell HX.out.box 2
                         have c3 : w2.cell? ⟨w.heap.size, 3, none⟩ = some (.int .u64 am) := blk_cell HX.out.box 3
                         have c4 : w2.cell? ⟨w.heap.size, 4, none⟩ = some (.int .u64 nc) := blk_cell HX.out.box 4
                         have c5 : w2.cell? ⟨w.heap.size, 5, none⟩ = some (.string ky') := blk_cell HX.out.box 5
                         have c6 : w2.cell? ⟨w.heap.size, 6, none⟩ = some (.string vl) := blk_cell HX.out.box 6
                         have c7 : w2.cell? ⟨w.heap.size, 7, none⟩ = some (.slice A rs.length c) := blk_cell HX.out.box 7
                         have c8 : w2.cell? ⟨w.heap.size, 8, none⟩ = some (.slice B ws.length d) := blk_cell HX.out.box 8
                         have r0 : w2.cell? ⟨w.heap.size + 1, 0, none⟩ = some (.int .i64 0) := blk_cell HX.out.res 0
                         have z0 := blk_frozen HX.out.res 0
                         skip))
                    refine leaves_cons (f := 51) (args := #[.pointer (some ⟨w.heap.size + 1, 0, none⟩)]) (by simp) (by simp [go_sem]) ?_
                    refine (caught_idle ⟨w.heap.size + 1, 0, none⟩ _).mono ?_
                    rintro e u' w'' ⟨rfl, rfl, rfl⟩
                    have hq := HX.out.resr (.int .i64 0)
                    simp [Leaves, settle, results, Tryd.results41, go_sem, hq]
                    exact HX.out.setr _
                  · rw [hk (ke ws) (by simp [chR, a1, a2, k1])]
                    have k1 := Lib.hid k1
                    have k2 := Lib.hid k2
                    clear hk hnil a1 a2
                    go_wp2_with (first
                      | (go_at_call 71
                         go_must (refine (name_calls _ _).mono ?_)
                         rintro e w2 ⟨rfl, hB⟩
                         have HX := Lib.hid (HX.out.step hB)
                         clear hB
                         have c1 : w2.cell? ⟨w.heap.size, 1, none⟩ = some (.string f) := blk_cell HX.out.box 1
                         have c2 : w2.cell? ⟨w.heap.size, 2, none⟩ = some (.string t) := blk_cell HX.out.box 2
                         have c3 : w2.cell? ⟨w.heap.size, 3, none⟩ = some (.int .u64 am) := blk_cell HX.out.box 3
                         have c4 : w2.cell? ⟨w.heap.size, 4, none⟩ = some (.int .u64 nc) := blk_cell HX.out.box 4
                         have c5 : w2.cell? ⟨w.heap.size, 5, none⟩ = some (.string ky') := blk_cell HX.out.box 5
                         have c6 : w2.cell? ⟨w.heap.size, 6, none⟩ = some (.string vl) := blk_cell HX.out.box 6
                         have c7 : w2.cell? ⟨w.heap.size, 7, none⟩ = some (.slice A rs.length c) := blk_cell HX.out.box 7
                         have c8 : w2.cell? ⟨w.heap.size, 8, none⟩ = some (.slice B ws.length d) := blk_cell HX.out.box 8
                         have r0 : w2.cell? ⟨w.heap.size + 1, 0, none⟩ = some (.int .i64 0) := blk_cell HX.out.res 0
                         have z0 := blk_frozen HX.out.res 0
                         skip)
                      | (go_at_call 55; first | (with_reducible refine (check_ok _ _).mono ?_; rintro e w'' ⟨rfl, hw⟩; have hw := hw.symm; subst hw) | (with_reducible refine (check_no _ _).mono ?_; rintro e w'' ⟨rfl, hw⟩; have hw := hw.symm; subst hw))
                      | (go_at_call 72
                         first
                           | (with_reducible refine (keys_ok A c rs _ k1.out (Kd.C_below HR.out HX.out.low) HC.out).mono ?_)
                           | (with_reducible refine (keys_no A c rs _ k1.out (Kd.C_below HR.out HX.out.low) HC.out).mono ?_)
                           | (with_reducible refine (keys_ok B d ws _ k2.out (Kd.C_below HS.out HX.out.low) HD.out).mono ?_)
                           | (with_reducible refine (keys_no B d ws _ k2.out (Kd.C_below HS.out HX.out.low) HD.out).mono ?_)
                         rintro e w2 ⟨rfl, hB⟩
                         have HX := Lib.hid (HX.out.step hB)
                         clear hB
                         have c1 : w2.cell? ⟨w.heap.size, 1, none⟩ = some (.string f) := blk_cell HX.out.box 1
                         have c2 : w2.cell? ⟨w.heap.size, 2, none⟩ = some (.string t) := blk_cell HX.out.box 2
                         have c3 : w2.cell? ⟨w.heap.size, 3, none⟩ = some (.int .u64 am) := blk_cell HX.out.box 3
                         have c4 : w2.cell? ⟨w.heap.size, 4, none⟩ = some (.int .u64 nc) := blk_cell HX.out.box 4
                         have c5 : w2.cell? ⟨w.heap.size, 5, none⟩ = some (.string ky') := blk_cell HX.out.box 5
                         have c6 : w2.cell? ⟨w.heap.size, 6, none⟩ = some (.string vl) := blk_cell HX.out.box 6
                         have c7 : w2.cell? ⟨w.heap.size, 7, none⟩ = some (.slice A rs.length c) := blk_cell HX.out.box 7
                         have c8 : w2.cell? ⟨w.heap.size, 8, none⟩ = some (.slice B ws.length d) := blk_cell HX.out.box 8
                         have r0 : w2.cell? ⟨w.heap.size + 1, 0, none⟩ = some (.int .i64 0) := blk_cell HX.out.res 0
                         have z0 := blk_frozen HX.out.res 0
                         skip))
                    refine leaves_cons (f := 51) (args := #[.pointer (some ⟨w.heap.size + 1, 0, none⟩)]) (by simp) (by simp [go_sem]) ?_
                    refine (caught_panicking ⟨w.heap.size + 1, 0, none⟩ 0 (ke ws) [] _ (blk_cell HX.out.res 0) (blk_frozen HX.out.res 0)).mono ?_
                    rintro e u' w'' ⟨rfl, rfl, rfl⟩
                    have hq := HX.out.resr (.int .i64 (ke ws))
                    simp [Leaves, settle, results, Tryd.results41, go_sem, hq]
                    exact HX.out.setr _
                · rw [hk (ke rs) (by simp [chR, a1, a2, k1])]
                  have k1 := Lib.hid k1
                  clear hk hnil a1 a2
                  go_wp2_with (first
                    | (go_at_call 71
                       go_must (refine (name_calls _ _).mono ?_)
                       rintro e w2 ⟨rfl, hB⟩
                       have HX := Lib.hid (HX.out.step hB)
                       clear hB
                       have c1 : w2.cell? ⟨w.heap.size, 1, none⟩ = some (.string f) := blk_cell HX.out.box 1
                       have c2 : w2.cell? ⟨w.heap.size, 2, none⟩ = some (.string t) := blk_cell HX.out.box 2
                       have c3 : w2.cell? ⟨w.heap.size, 3, none⟩ = some (.int .u64 am) := blk_cell HX.out.box 3
                       have c4 : w2.cell? ⟨w.heap.size, 4, none⟩ = some (.int .u64 nc) := blk_cell HX.out.box 4
                       have c5 : w2.cell? ⟨w.heap.size, 5, none⟩ = some (.string ky') := blk_cell HX.out.box 5
                       have c6 : w2.cell? ⟨w.heap.size, 6, none⟩ = some (.string vl) := blk_cell HX.out.box 6
                       have c7 : w2.cell? ⟨w.heap.size, 7, none⟩ = some (.slice A rs.length c) := blk_cell HX.out.box 7
                       have c8 : w2.cell? ⟨w.heap.size, 8, none⟩ = some (.slice B ws.length d) := blk_cell HX.out.box 8
                       have r0 : w2.cell? ⟨w.heap.size + 1, 0, none⟩ = some (.int .i64 0) := blk_cell HX.out.res 0
                       have z0 := blk_frozen HX.out.res 0
                       skip)
                    | (go_at_call 55; first | (with_reducible refine (check_ok _ _).mono ?_; rintro e w'' ⟨rfl, hw⟩; have hw := hw.symm; subst hw) | (with_reducible refine (check_no _ _).mono ?_; rintro e w'' ⟨rfl, hw⟩; have hw := hw.symm; subst hw))
                    | (go_at_call 72
                       first
                         | (with_reducible refine (keys_ok A c rs _ k1.out (Kd.C_below HR.out HX.out.low) HC.out).mono ?_)
                         | (with_reducible refine (keys_no A c rs _ k1.out (Kd.C_below HR.out HX.out.low) HC.out).mono ?_)
                         | (with_reducible refine (keys_ok B d ws _ k2.out (Kd.C_below HS.out HX.out.low) HD.out).mono ?_)
                         | (with_reducible refine (keys_no B d ws _ k2.out (Kd.C_below HS.out HX.out.low) HD.out).mono ?_)
                       rintro e w2 ⟨rfl, hB⟩
                       have HX := Lib.hid (HX.out.step hB)
                       clear hB
                       have c1 : w2.cell? ⟨w.heap.size, 1, none⟩ = some (.string f) := blk_cell HX.out.box 1
                       have c2 : w2.cell? ⟨w.heap.size, 2, none⟩ = some (.string t) := blk_cell HX.out.box 2
                       have c3 : w2.cell? ⟨w.heap.size, 3, none⟩ = some (.int .u64 am) := blk_cell HX.out.box 3
                       have c4 : w2.cell? ⟨w.heap.size, 4, none⟩ = some (.int .u64 nc) := blk_cell HX.out.box 4
                       have c5 : w2.cell? ⟨w.heap.size, 5, none⟩ = some (.string ky') := blk_cell HX.out.box 5
                       have c6 : w2.cell? ⟨w.heap.size, 6, none⟩ = some (.string vl) := blk_cell HX.out.box 6
                       have c7 : w2.cell? ⟨w.heap.size, 7, none⟩ = some (.slice A rs.length c) := blk_cell HX.out.box 7
                       have c8 : w2.cell? ⟨w.heap.size, 8, none⟩ = some (.slice B ws.length d) := blk_cell HX.out.box 8
                       have r0 : w2.cell? ⟨w.heap.size + 1, 0, none⟩ = some (.int .i64 0) := blk_cell HX.out.res 0
                       have z0 := blk_frozen HX.out.res 0
                       skip))
                  refine leaves_cons (f := 51) (args := #[.pointer (some ⟨w.heap.size + 1, 0, none⟩)]) (by simp) (by simp [go_sem]) ?_
                  refine (caught_panicking ⟨w.heap.size + 1, 0, none⟩ 0 (ke rs) [] _ (blk_cell HX.out.res 0) (blk_frozen HX.out.res 0)).mono ?_
                  rintro e u' w'' ⟨rfl, rfl, rfl⟩
                  have hq := HX.out.resr (.int .i64 (ke rs))
                  simp [Leaves, settle, results, Tryd.results41, go_sem, hq]
                  exact HX.out.setr _
              · have d2 : decide (nc ≤ 4611686018427387903) = false := by simp; omega
                rw [hk 2 (by simp [chR, a2])]
                clear hk hnil a1 a2
                go_wp2_with (first
                  | (go_at_call 71
                     go_must (refine (name_calls _ _).mono ?_)
                     rintro e w2 ⟨rfl, hB⟩
                     have HX := Lib.hid (HX.out.step hB)
                     clear hB
                     have c1 : w2.cell? ⟨w.heap.size, 1, none⟩ = some (.string f) := blk_cell HX.out.box 1
                     have c2 : w2.cell? ⟨w.heap.size, 2, none⟩ = some (.string t) := blk_cell HX.out.box 2
                     have c3 : w2.cell? ⟨w.heap.size, 3, none⟩ = some (.int .u64 am) := blk_cell HX.out.box 3
                     have c4 : w2.cell? ⟨w.heap.size, 4, none⟩ = some (.int .u64 nc) := blk_cell HX.out.box 4
                     have c5 : w2.cell? ⟨w.heap.size, 5, none⟩ = some (.string ky') := blk_cell HX.out.box 5
                     have c6 : w2.cell? ⟨w.heap.size, 6, none⟩ = some (.string vl) := blk_cell HX.out.box 6
                     have c7 : w2.cell? ⟨w.heap.size, 7, none⟩ = some (.slice A rs.length c) := blk_cell HX.out.box 7
                     have c8 : w2.cell? ⟨w.heap.size, 8, none⟩ = some (.slice B ws.length d) := blk_cell HX.out.box 8
                     have r0 : w2.cell? ⟨w.heap.size + 1, 0, none⟩ = some (.int .i64 0) := blk_cell HX.out.res 0
                     have z0 := blk_frozen HX.out.res 0
                     skip)
                  | (go_at_call 55; first | (with_reducible refine (check_ok _ _).mono ?_; rintro e w'' ⟨rfl, hw⟩; have hw := hw.symm; subst hw) | (with_reducible refine (check_no _ _).mono ?_; rintro e w'' ⟨rfl, hw⟩; have hw := hw.symm; subst hw))
                  | (go_at_call 72
                     first
                       | (with_reducible refine (keys_ok A c rs _ k1.out (Kd.C_below HR.out HX.out.low) HC.out).mono ?_)
                       | (with_reducible refine (keys_no A c rs _ k1.out (Kd.C_below HR.out HX.out.low) HC.out).mono ?_)
                       | (with_reducible refine (keys_ok B d ws _ k2.out (Kd.C_below HS.out HX.out.low) HD.out).mono ?_)
                       | (with_reducible refine (keys_no B d ws _ k2.out (Kd.C_below HS.out HX.out.low) HD.out).mono ?_)
                     rintro e w2 ⟨rfl, hB⟩
                     have HX := Lib.hid (HX.out.step hB)
                     clear hB
                     have c1 : w2.cell? ⟨w.heap.size, 1, none⟩ = some (.string f) := blk_cell HX.out.box 1
                     have c2 : w2.cell? ⟨w.heap.size, 2, none⟩ = some (.string t) := blk_cell HX.out.box 2
                     have c3 : w2.cell? ⟨w.heap.size, 3, none⟩ = some (.int .u64 am) := blk_cell HX.out.box 3
                     have c4 : w2.cell? ⟨w.heap.size, 4, none⟩ = some (.int .u64 nc) := blk_cell HX.out.box 4
                     have c5 : w2.cell? ⟨w.heap.size, 5, none⟩ = some (.string ky') := blk_cell HX.out.box 5
                     have c6 : w2.cell? ⟨w.heap.size, 6, none⟩ = some (.string vl) := blk_cell HX.out.box 6
                     have c7 : w2.cell? ⟨w.heap.size, 7, none⟩ = some (.slice A rs.length c) := blk_cell HX.out.box 7
                     have c8 : w2.cell? ⟨w.heap.size, 8, none⟩ = some (.slice B ws.length d) := blk_cell HX.out.box 8
                     have r0 : w2.cell? ⟨w.heap.size + 1, 0, none⟩ = some (.int .i64 0) := blk_cell HX.out.res 0
                     have z0 := blk_frozen HX.out.res 0
                     skip))
                refine leaves_cons (f := 51) (args := #[.pointer (some ⟨w.heap.size + 1, 0, none⟩)]) (by simp) (by simp [go_sem]) ?_
                refine (caught_panicking ⟨w.heap.size + 1, 0, none⟩ 0 2 [] _ (blk_cell HX.out.res 0) (blk_frozen HX.out.res 0)).mono ?_
                rintro e u' w'' ⟨rfl, rfl, rfl⟩
                have hq := HX.out.resr (.int .i64 2)
                simp [Leaves, settle, results, Tryd.results41, go_sem, hq]
                exact HX.out.setr _
            · have b5 : (am == 0) = false := by simp [h5]
              have hE : ch 2 f t am nc ky' vl rs ws = 3 := by simp [ch, chF, h1, h2, h3, h4, h5]
              rw [hE]
              clear hE hnil
              try clear h3
              try clear h5
              go_wp2_with (first
                | (go_at_call 71
                   go_must (refine (name_calls _ _).mono ?_)
                   rintro e w2 ⟨rfl, hB⟩
                   have HX := Lib.hid (HX.out.step hB)
                   clear hB
                   have c1 : w2.cell? ⟨w.heap.size, 1, none⟩ = some (.string f) := blk_cell HX.out.box 1
                   have c2 : w2.cell? ⟨w.heap.size, 2, none⟩ = some (.string t) := blk_cell HX.out.box 2
                   have c3 : w2.cell? ⟨w.heap.size, 3, none⟩ = some (.int .u64 am) := blk_cell HX.out.box 3
                   have c4 : w2.cell? ⟨w.heap.size, 4, none⟩ = some (.int .u64 nc) := blk_cell HX.out.box 4
                   have c5 : w2.cell? ⟨w.heap.size, 5, none⟩ = some (.string ky') := blk_cell HX.out.box 5
                   have c6 : w2.cell? ⟨w.heap.size, 6, none⟩ = some (.string vl) := blk_cell HX.out.box 6
                   have c7 : w2.cell? ⟨w.heap.size, 7, none⟩ = some (.slice A rs.length c) := blk_cell HX.out.box 7
                   have c8 : w2.cell? ⟨w.heap.size, 8, none⟩ = some (.slice B ws.length d) := blk_cell HX.out.box 8
                   have r0 : w2.cell? ⟨w.heap.size + 1, 0, none⟩ = some (.int .i64 0) := blk_cell HX.out.res 0
                   have z0 := blk_frozen HX.out.res 0
                   skip)
                | (go_at_call 55; first | (with_reducible refine (check_ok _ _).mono ?_; rintro e w'' ⟨rfl, hw⟩; have hw := hw.symm; subst hw) | (with_reducible refine (check_no _ _).mono ?_; rintro e w'' ⟨rfl, hw⟩; have hw := hw.symm; subst hw))
                | (go_at_call 72
                   first
                     | (with_reducible refine (keys_ok A c rs _ k1.out (Kd.C_below HR.out HX.out.low) HC.out).mono ?_)
                     | (with_reducible refine (keys_no A c rs _ k1.out (Kd.C_below HR.out HX.out.low) HC.out).mono ?_)
                     | (with_reducible refine (keys_ok B d ws _ k2.out (Kd.C_below HS.out HX.out.low) HD.out).mono ?_)
                     | (with_reducible refine (keys_no B d ws _ k2.out (Kd.C_below HS.out HX.out.low) HD.out).mono ?_)
                   rintro e w2 ⟨rfl, hB⟩
                   have HX := Lib.hid (HX.out.step hB)
                   clear hB
                   have c1 : w2.cell? ⟨w.heap.size, 1, none⟩ = some (.string f) := blk_cell HX.out.box 1
                   have c2 : w2.cell? ⟨w.heap.size, 2, none⟩ = some (.string t) := blk_cell HX.out.box 2
                   have c3 : w2.cell? ⟨w.heap.size, 3, none⟩ = some (.int .u64 am) := blk_cell HX.out.box 3
                   have c4 : w2.cell? ⟨w.heap.size, 4, none⟩ = some (.int .u64 nc) := blk_cell HX.out.box 4
                   have c5 : w2.cell? ⟨w.heap.size, 5, none⟩ = some (.string ky') := blk_cell HX.out.box 5
                   have c6 : w2.cell? ⟨w.heap.size, 6, none⟩ = some (.string vl) := blk_cell HX.out.box 6
                   have c7 : w2.cell? ⟨w.heap.size, 7, none⟩ = some (.slice A rs.length c) := blk_cell HX.out.box 7
                   have c8 : w2.cell? ⟨w.heap.size, 8, none⟩ = some (.slice B ws.length d) := blk_cell HX.out.box 8
                   have r0 : w2.cell? ⟨w.heap.size + 1, 0, none⟩ = some (.int .i64 0) := blk_cell HX.out.res 0
                   have z0 := blk_frozen HX.out.res 0
                   skip))
              refine leaves_cons (f := 51) (args := #[.pointer (some ⟨w.heap.size + 1, 0, none⟩)]) (by simp) (by simp [go_sem]) ?_
              refine (caught_panicking ⟨w.heap.size + 1, 0, none⟩ 0 3 [] _ (blk_cell HX.out.res 0) (blk_frozen HX.out.res 0)).mono ?_
              rintro e u' w'' ⟨rfl, rfl, rfl⟩
              have hq := HX.out.resr (.int .i64 3)
              simp [Leaves, settle, results, Tryd.results41, go_sem, hq]
              exact HX.out.setr _
          ·
            have hE : ch 2 f t am nc ky' vl rs ws = 3 := by simp [ch, chF, h1, h2, h3, h4]
            rw [hE]
            clear hE hnil
            try clear h3
            try clear h5
            go_wp2_with (first
              | (go_at_call 71
                 go_must (refine (name_calls _ _).mono ?_)
                 rintro e w2 ⟨rfl, hB⟩
                 have HX := Lib.hid (HX.out.step hB)
                 clear hB
                 have c1 : w2.cell? ⟨w.heap.size, 1, none⟩ = some (.string f) := blk_cell HX.out.box 1
                 have c2 : w2.cell? ⟨w.heap.size, 2, none⟩ = some (.string t) := blk_cell HX.out.box 2
                 have c3 : w2.cell? ⟨w.heap.size, 3, none⟩ = some (.int .u64 am) := blk_cell HX.out.box 3
                 have c4 : w2.cell? ⟨w.heap.size, 4, none⟩ = some (.int .u64 nc) := blk_cell HX.out.box 4
                 have c5 : w2.cell? ⟨w.heap.size, 5, none⟩ = some (.string ky') := blk_cell HX.out.box 5
                 have c6 : w2.cell? ⟨w.heap.size, 6, none⟩ = some (.string vl) := blk_cell HX.out.box 6
                 have c7 : w2.cell? ⟨w.heap.size, 7, none⟩ = some (.slice A rs.length c) := blk_cell HX.out.box 7
                 have c8 : w2.cell? ⟨w.heap.size, 8, none⟩ = some (.slice B ws.length d) := blk_cell HX.out.box 8
                 have r0 : w2.cell? ⟨w.heap.size + 1, 0, none⟩ = some (.int .i64 0) := blk_cell HX.out.res 0
                 have z0 := blk_frozen HX.out.res 0
                 skip)
              | (go_at_call 55; first | (with_reducible refine (check_ok _ _).mono ?_; rintro e w'' ⟨rfl, hw⟩; have hw := hw.symm; subst hw) | (with_reducible refine (check_no _ _).mono ?_; rintro e w'' ⟨rfl, hw⟩; have hw := hw.symm; subst hw))
              | (go_at_call 72
                 first
                   | (with_reducible refine (keys_ok A c rs _ k1.out (Kd.C_below HR.out HX.out.low) HC.out).mono ?_)
                   | (with_reducible refine (keys_no A c rs _ k1.out (Kd.C_below HR.out HX.out.low) HC.out).mono ?_)
                   | (with_reducible refine (keys_ok B d ws _ k2.out (Kd.C_below HS.out HX.out.low) HD.out).mono ?_)
                   | (with_reducible refine (keys_no B d ws _ k2.out (Kd.C_below HS.out HX.out.low) HD.out).mono ?_)
                 rintro e w2 ⟨rfl, hB⟩
                 have HX := Lib.hid (HX.out.step hB)
                 clear hB
                 have c1 : w2.cell? ⟨w.heap.size, 1, none⟩ = some (.string f) := blk_cell HX.out.box 1
                 have c2 : w2.cell? ⟨w.heap.size, 2, none⟩ = some (.string t) := blk_cell HX.out.box 2
                 have c3 : w2.cell? ⟨w.heap.size, 3, none⟩ = some (.int .u64 am) := blk_cell HX.out.box 3
                 have c4 : w2.cell? ⟨w.heap.size, 4, none⟩ = some (.int .u64 nc) := blk_cell HX.out.box 4
                 have c5 : w2.cell? ⟨w.heap.size, 5, none⟩ = some (.string ky') := blk_cell HX.out.box 5
                 have c6 : w2.cell? ⟨w.heap.size, 6, none⟩ = some (.string vl) := blk_cell HX.out.box 6
                 have c7 : w2.cell? ⟨w.heap.size, 7, none⟩ = some (.slice A rs.length c) := blk_cell HX.out.box 7
                 have c8 : w2.cell? ⟨w.heap.size, 8, none⟩ = some (.slice B ws.length d) := blk_cell HX.out.box 8
                 have r0 : w2.cell? ⟨w.heap.size + 1, 0, none⟩ = some (.int .i64 0) := blk_cell HX.out.res 0
                 have z0 := blk_frozen HX.out.res 0
                 skip))
            refine leaves_cons (f := 51) (args := #[.pointer (some ⟨w.heap.size + 1, 0, none⟩)]) (by simp) (by simp [go_sem]) ?_
            refine (caught_panicking ⟨w.heap.size + 1, 0, none⟩ 0 3 [] _ (blk_cell HX.out.res 0) (blk_frozen HX.out.res 0)).mono ?_
            rintro e u' w'' ⟨rfl, rfl, rfl⟩
            have hq := HX.out.resr (.int .i64 3)
            simp [Leaves, settle, results, Tryd.results41, go_sem, hq]
            exact HX.out.setr _
        · have b3 : decide ((vl.size : Int) ≤ 64) = false := by simp; omega
          have hE : ch 2 f t am nc ky' vl rs ws = 3 := by simp [ch, chF, h1, h2, h3]
          rw [hE]
          clear hE hnil
          try clear h3
          try clear h5
          go_wp2_with (first
            | (go_at_call 71
               go_must (refine (name_calls _ _).mono ?_)
               rintro e w2 ⟨rfl, hB⟩
               have HX := Lib.hid (HX.out.step hB)
               clear hB
               have c1 : w2.cell? ⟨w.heap.size, 1, none⟩ = some (.string f) := blk_cell HX.out.box 1
               have c2 : w2.cell? ⟨w.heap.size, 2, none⟩ = some (.string t) := blk_cell HX.out.box 2
               have c3 : w2.cell? ⟨w.heap.size, 3, none⟩ = some (.int .u64 am) := blk_cell HX.out.box 3
               have c4 : w2.cell? ⟨w.heap.size, 4, none⟩ = some (.int .u64 nc) := blk_cell HX.out.box 4
               have c5 : w2.cell? ⟨w.heap.size, 5, none⟩ = some (.string ky') := blk_cell HX.out.box 5
               have c6 : w2.cell? ⟨w.heap.size, 6, none⟩ = some (.string vl) := blk_cell HX.out.box 6
               have c7 : w2.cell? ⟨w.heap.size, 7, none⟩ = some (.slice A rs.length c) := blk_cell HX.out.box 7
               have c8 : w2.cell? ⟨w.heap.size, 8, none⟩ = some (.slice B ws.length d) := blk_cell HX.out.box 8
               have r0 : w2.cell? ⟨w.heap.size + 1, 0, none⟩ = some (.int .i64 0) := blk_cell HX.out.res 0
               have z0 := blk_frozen HX.out.res 0
               skip)
            | (go_at_call 55; first | (with_reducible refine (check_ok _ _).mono ?_; rintro e w'' ⟨rfl, hw⟩; have hw := hw.symm; subst hw) | (with_reducible refine (check_no _ _).mono ?_; rintro e w'' ⟨rfl, hw⟩; have hw := hw.symm; subst hw))
            | (go_at_call 72
               first
                 | (with_reducible refine (keys_ok A c rs _ k1.out (Kd.C_below HR.out HX.out.low) HC.out).mono ?_)
                 | (with_reducible refine (keys_no A c rs _ k1.out (Kd.C_below HR.out HX.out.low) HC.out).mono ?_)
                 | (with_reducible refine (keys_ok B d ws _ k2.out (Kd.C_below HS.out HX.out.low) HD.out).mono ?_)
                 | (with_reducible refine (keys_no B d ws _ k2.out (Kd.C_below HS.out HX.out.low) HD.out).mono ?_)
               rintro e w2 ⟨rfl, hB⟩
               have HX := Lib.hid (HX.out.step hB)
               clear hB
               have c1 : w2.cell? ⟨w.heap.size, 1, none⟩ = some (.string f) := blk_cell HX.out.box 1
               have c2 : w2.cell? ⟨w.heap.size, 2, none⟩ = some (.string t) := blk_cell HX.out.box 2
               have c3 : w2.cell? ⟨w.heap.size, 3, none⟩ = some (.int .u64 am) := blk_cell HX.out.box 3
               have c4 : w2.cell? ⟨w.heap.size, 4, none⟩ = some (.int .u64 nc) := blk_cell HX.out.box 4
               have c5 : w2.cell? ⟨w.heap.size, 5, none⟩ = some (.string ky') := blk_cell HX.out.box 5
               have c6 : w2.cell? ⟨w.heap.size, 6, none⟩ = some (.string vl) := blk_cell HX.out.box 6
               have c7 : w2.cell? ⟨w.heap.size, 7, none⟩ = some (.slice A rs.length c) := blk_cell HX.out.box 7
               have c8 : w2.cell? ⟨w.heap.size, 8, none⟩ = some (.slice B ws.length d) := blk_cell HX.out.box 8
               have r0 : w2.cell? ⟨w.heap.size + 1, 0, none⟩ = some (.int .i64 0) := blk_cell HX.out.res 0
               have z0 := blk_frozen HX.out.res 0
               skip))
          refine leaves_cons (f := 51) (args := #[.pointer (some ⟨w.heap.size + 1, 0, none⟩)]) (by simp) (by simp [go_sem]) ?_
          refine (caught_panicking ⟨w.heap.size + 1, 0, none⟩ 0 3 [] _ (blk_cell HX.out.res 0) (blk_frozen HX.out.res 0)).mono ?_
          rintro e u' w'' ⟨rfl, rfl, rfl⟩
          have hq := HX.out.resr (.int .i64 3)
          simp [Leaves, settle, results, Tryd.results41, go_sem, hq]
          exact HX.out.setr _
def tx_Check.f (a0_0 : Int) (a0_1 a0_2 : ByteArray) (a0_3 a0_4 : Int) (a0_5 a0_6 : ByteArray) (l0_7 l0_8 : List ByteArray) : Option Int := some (ch a0_0 a0_1 a0_2 a0_3 a0_4 a0_5 a0_6 l0_7 l0_8)
theorem tx_Check.calls (a0_0 : Int) (a0_1 a0_2 : ByteArray) (a0_3 a0_4 : Int) (a0_5 a0_6 : ByteArray) (A0_7 : Option Addr) (c0_7 : Nat) (l0_7 : List ByteArray) (A0_8 : Option Addr) (c0_8 : Nat) (l0_8 : List ByteArray) (r : Int) (w : World) (hr0_7 : Kd.C Kd.string w A0_7 l0_7.length l0_7) (hc0_7 : l0_7.length ≤ c0_7) (hr0_8 : Kd.C Kd.string w A0_8 l0_8.length l0_8) (hc0_8 : l0_8.length ≤ c0_8) (h : tx_Check.f a0_0 a0_1 a0_2 a0_3 a0_4 a0_5 a0_6 l0_7 l0_8 = some r) :
    Calls Tryd.prog 41 #[.agg #[.int .i64 a0_0, .string a0_1, .string a0_2, .int .u64 a0_3, .int .u64 a0_4, .string a0_5, .string a0_6, .slice A0_7 l0_7.length c0_7, .slice A0_8 l0_8.length c0_8]] w fun e w' => e = .returned (.int .i64 r) ∧ Below w.heap.size w w' := by
  obtain rfl := Option.some.inj h
  exact chk_calls a0_0 a0_1 a0_2 a0_3 a0_4 a0_5 a0_6 A0_7 A0_8 c0_7 c0_8 l0_7 l0_8 w hr0_7 hc0_7 hr0_8 hc0_8
end Go.Proofs.YtndicjikjcifaaaDoor
