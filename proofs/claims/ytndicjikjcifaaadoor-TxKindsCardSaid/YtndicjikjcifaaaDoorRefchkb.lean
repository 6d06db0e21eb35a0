/- tuskref04.Check: what is wrong with a transaction. -/
import Derived.Test.YtndicjikjcifaaaDoorRefchk
import Derived.Test.YtndicjikjcifaaaDoorTxread
namespace Go.Proofs.YtndicjikjcifaaaDoor
open Go.RowKit Go.Shelf Go.Lib Go.Proofs.YtndicjikjcifaaaDoorW.PrintWords Go.Proofs.YtndicjikjcifaaaDoorW.PrintLast
open Go.Proofs.YtndicjikjcifaaaDoor.PCk
set_option linter.unusedVariables false
set_option linter.unusedSimpArgs false

theorem name2_calls (s : ByteArray) (w : World) (hs : s.size < 4611686018427387904) :
    Calls Tryd.prog 49 #[.string s] w fun e w' => e = .returned (.bool (nm s)) ∧ Below w.heap.size w w' :=
  (tuskref04_Name.calls (s.size + 1) s (nm s) w (ref_name s hs _ (Nat.le_refl _))).mono fun e w' h => ⟨h.1, drawn_below h.2⟩
/-- Texts of a bounded size. -/
def Small (M : Nat) (xs : List ByteArray) : Prop := ∀ x ∈ xs, x.size + 1 ≤ M ∧ x.size < 4611686018427387904
theorem keys2_calls (A : Option Addr) (c : Nat) (xs : List ByteArray) (w : World) (hr : Kd.C Kd.string w A xs.length xs) (hc : xs.length ≤ c) (M : Nat) (hs : Small M xs) :
    Calls Tryd.prog 73 #[.slice A xs.length c] w fun e w' => e = .returned (.int .i64 (ke xs)) ∧ Below w.heap.size w w' :=
  (tuskref04_keys.calls (M + 9) A c xs (ke xs) w hr hc (ref_keys xs M hs _ (Nat.le_refl _))).mono fun e w' h => ⟨h.1, drawn_below h.2⟩
structure Bq (w : World) (bs : Array Value) (W : World) : Prop where
  low : Below w.heap.size w W
  box : W.heap[w.heap.size]? = some (.cells bs 33 (0, 0))
theorem Bq.step {w W W' : World} {bs : Array Value} (h : Bq w bs W) (hb : Below W.heap.size W W') : Bq w bs W' :=
  ⟨below_then h.low h.low.size hb, (hb.block _ (blk_lt h.box)).trans h.box⟩
theorem Bq.first (w : World) (bs : Array Value) : Bq w bs (w.alloc (.cells bs 33)) :=
  ⟨(Below.refl _ w).alloc (Nat.le_refl _) _, blk_new _ _⟩
set_option maxHeartbeats 8000000 in
set_option maxRecDepth 100000 in
theorem chk2_calls (k : Int) (f t : ByteArray) (am nc : Int) (ky' vl : ByteArray) (A B : Option Addr) (c d : Nat) (rs ws : List ByteArray) (w : World) (M : Nat)
    (hr : Kd.C Kd.string w A rs.length rs) (hc : rs.length ≤ c) (hs : Kd.C Kd.string w B ws.length ws) (hd : ws.length ≤ d)
    (hf : f.size < 4611686018427387904) (ht : t.size < 4611686018427387904) (hkk : ky'.size < 4611686018427387904) (hm : Small M rs) (hn : Small M ws) :
    Calls Tryd.prog 42 #[.agg #[.int .i64 k, .string f, .string t, .int .u64 am, .int .u64 nc, .string ky', .string vl, .slice A rs.length c, .slice B ws.length d]] w
      fun e w' => e = .returned (.int .i64 (ch k f t am nc ky' vl rs ws)) ∧ Below w.heap.size w w' := by
  have HR := Lib.hid hr
  have HC := Lib.hid hc
  have HS := Lib.hid hs
  have HD := Lib.hid hd
  have HF := Lib.hid hf
  have HT := Lib.hid ht
  have HK := Lib.hid hkk
  have HM := Lib.hid hm
  have HN := Lib.hid hn
  clear hr hc hs hd hf ht hkk hm hn
  go_enter Tryd.func42, Tryd.ntmps42
  have HX := Lib.hid (Bq.first w #[.int .i64 k, .string f, .string t, .int .u64 am, .int .u64 nc, .string ky', .string vl, .slice A rs.length c, .slice B ws.length d])
  by_cases h5 : chF k f t ky' vl am = 5
  · have hE : ch k f t am nc ky' vl rs ws = 5 := by rw [ch, h5]; rfl
    have e1 : (k == 1) = false := by
      cases h : (k == 1)
      · rfl
      · simp at h; subst h; simp [chF] at h5; split at h5 <;> cases h5
    have e2 : (k == 2) = false := by
      cases h : (k == 2)
      · rfl
      · simp at h; subst h; simp [chF] at h5; split at h5 <;> cases h5
    have n1 : (k != 1) = true := by simp [bne, e1]
    have n2 : (k != 2) = true := by simp [bne, e2]
    have n3 : (k != 1 && k != 2) = true := by rw [n1, n2]; rfl
    rw [hE]
    clear hE h5 e1 e2
    go_wp2
    go_ret
    exact ⟨rfl, HX.out.low⟩
  have hnil : ∀ s : ByteArray, s.toList.isEmpty = true ∨ s.toList.isEmpty = false := fun s => by cases s.toList.isEmpty <;> simp
  rcases (show k = 1 ∨ k = 2 by
    by_cases h1 : k = 1
    · exact .inl h1
    · by_cases h2 : k = 2
      · exact .inr h2
      · exact absurd (by simp [chF, h1, h2]) h5) with rfl | rfl
  · clear h5
    cases h1 : nm f with
    | false =>
      have hE : ch 1 f t am nc ky' vl rs ws = 3 := by simp [ch, chF, h1]
      rw [hE]
      clear hE hnil
      go_wp2_with (first
        | (go_at_call 49
           first
             | (with_reducible refine (name2_calls f _ HF.out).mono ?_)
             | (with_reducible refine (name2_calls t _ HT.out).mono ?_)
             | (with_reducible refine (name2_calls ky' _ HK.out).mono ?_)
           rintro e w2 ⟨rfl, hB⟩
           have HX := Lib.hid (HX.out.step hB)
           clear hB
           have c1 : w2.cell? ⟨w.heap.size, 1, none⟩ = some (.string f) := blk_cell HX.out.box 1
           have c2 : w2.cell? ⟨w.heap.size, 2, none⟩ = some (.string t) := blk_cell HX.out.box 2
           have c3 : w2.cell? ⟨w.heap.size, 3, none⟩ = some (.int .u64 am) := blk_cell HX.out.box 3
           have c4 : w2.cell? ⟨w.heap.size, 4, none⟩ = some (.int .u64 nc) := blk_cell HX.out.box 4
           have c5 : w2.cell? ⟨w.heap.size, 5, none⟩ = some (.string ky') := blk_cell HX.out.box 5
           have c6 : w2.cell? ⟨w.heap.size, 6, none⟩ = some (.string vl) := blk_cell HX.out.box 6
           have c7 : w2.cell? ⟨w.heap.size, 7, none⟩ = some (.slice A rs.length c) := blk_cell HX.out.box 7
           have c8 : w2.cell? ⟨w.heap.size, 8, none⟩ = some (.slice B ws.length d) := blk_cell HX.out.box 8
           skip)
        | (go_at_call 73
           first
             | (with_reducible refine (keys2_calls A c rs _ (Kd.C_below HR.out HX.out.low) HC.out M HM.out).mono ?_)
             | (with_reducible refine (keys2_calls B d ws _ (Kd.C_below HS.out HX.out.low) HD.out M HN.out).mono ?_)
           rintro e w2 ⟨rfl, hB⟩
           have HX := Lib.hid (HX.out.step hB)
           clear hB
           have c1 : w2.cell? ⟨w.heap.size, 1, none⟩ = some (.string f) := blk_cell HX.out.box 1
           have c2 : w2.cell? ⟨w.heap.size, 2, none⟩ = some (.string t) := blk_cell HX.out.box 2
           have c3 : w2.cell? ⟨w.heap.size, 3, none⟩ = some (.int .u64 am) := blk_cell HX.out.box 3
           have c4 : w2.cell? ⟨w.heap.size, 4, none⟩ = some (.int .u64 nc) := blk_cell HX.out.box 4
           have c5 : w2.cell? ⟨w.heap.size, 5, none⟩ = some (.string ky') := blk_cell HX.out.box 5
           have c6 : w2.cell? ⟨w.heap.size, 6, none⟩ = some (.string vl) := blk_cell HX.out.box 6
           have c7 : w2.cell? ⟨w.heap.size, 7, none⟩ = some (.slice A rs.length c) := blk_cell HX.out.box 7
           have c8 : w2.cell? ⟨w.heap.size, 8, none⟩ = some (.slice B ws.length d) := blk_cell HX.out.box 8
           skip))
      go_ret
      exact ⟨rfl, HX.out.low⟩
    | true =>
      cases h2 : nm t with
      | false =>
        have hE : ch 1 f t am nc ky' vl rs ws = 3 := by simp [ch, chF, h1, h2]
        rw [hE]
        clear hE hnil
        go_wp2_with (first
          | (go_at_call 49
             first
               | (with_reducible refine (name2_calls f _ HF.out).mono ?_)
               | (with_reducible refine (name2_calls t _ HT.out).mono ?_)
               | (with_reducible refine (name2_calls ky' _ HK.out).mono ?_)
             rintro e w2 ⟨rfl, hB⟩
             have HX := Lib.hid (HX.out.step hB)
             clear hB
             have c1 : w2.cell? ⟨w.heap.size, 1, none⟩ = some (.string f) := blk_cell HX.out.box 1
             have c2 : w2.cell? ⟨w.heap.size, 2, none⟩ = some (.string t) := blk_cell HX.out.box 2
             have c3 : w2.cell? ⟨w.heap.size, 3, none⟩ = some (.int .u64 am) := blk_cell HX.out.box 3
             have c4 : w2.cell? ⟨w.heap.size, 4, none⟩ = some (.int .u64 nc) := blk_cell HX.out.box 4
             have c5 : w2.cell? ⟨w.heap.size, 5, none⟩ = some (.string ky') := blk_cell HX.out.box 5
             have c6 : w2.cell? ⟨w.heap.size, 6, none⟩ = some (.string vl) := blk_cell HX.out.box 6
             have c7 : w2.cell? ⟨w.heap.size, 7, none⟩ = some (.slice A rs.length c) := blk_cell HX.out.box 7
             have c8 : w2.cell? ⟨w.heap.size, 8, none⟩ = some (.slice B ws.length d) := blk_cell HX.out.box 8
             skip)
          | (go_at_call 73
             first
               | (with_reducible refine (keys2_calls A c rs _ (Kd.C_below HR.out HX.out.low) HC.out M HM.out).mono ?_)
               | (with_reducible refine (keys2_calls B d ws _ (Kd.C_below HS.out HX.out.low) HD.out M HN.out).mono ?_)
             rintro e w2 ⟨rfl, hB⟩
             have HX := Lib.hid (HX.out.step hB)
             clear hB
             have c1 : w2.cell? ⟨w.heap.size, 1, none⟩ = some (.string f) := blk_cell HX.out.box 1
             have c2 : w2.cell? ⟨w.heap.size, 2, none⟩ = some (.string t) := blk_cell HX.out.box 2
             have c3 : w2.cell? ⟨w.heap.size, 3, none⟩ = some (.int .u64 am) := blk_cell HX.out.box 3
             have c4 : w2.cell? ⟨w.heap.size, 4, none⟩ = some (.int .u64 nc) := blk_cell HX.out.box 4
             have c5 : w2.cell? ⟨w.heap.size, 5, none⟩ = some (.string ky') := blk_cell HX.out.box 5
             have c6 : w2.cell? ⟨w.heap.size, 6, none⟩ = some (.string vl) := blk_cell HX.out.box 6
             have c7 : w2.cell? ⟨w.heap.size, 7, none⟩ = some (.slice A rs.length c) := blk_cell HX.out.box 7
             have c8 : w2.cell? ⟨w.heap.size, 8, none⟩ = some (.slice B ws.length d) := blk_cell HX.out.box 8
             skip))
        go_ret
        exact ⟨rfl, HX.out.low⟩
      | true =>
        rcases hnil ky' with h3 | h3
        · rcases hnil vl with h4 | h4
          · have hk : ∀ x, chR am nc rs ws = x → ch 1 f t am nc ky' vl rs ws = x := fun x h => by simp [ch, chF, h1, h2, h3, h4]; exact h
            by_cases a1 : am ≤ 4611686018427387903
            · have d1 : decide ((4611686018427387903 : Int) < am) = false := by simp; omega
              by_cases a2 : nc ≤ 4611686018427387903
              · have d2 : decide ((4611686018427387903 : Int) < nc) = false := by simp; omega
                by_cases k1 : ke rs = 0
                · rw [hk (ke ws) (by simp [chR, a1, a2, k1])]
                  have j1 : (ke rs == 0) = true := by simp [k1]
                  clear hk hnil a1 a2 k1
                  go_wp2_with (first
                    | (go_at_call 49
                       first
                         | (with_reducible refine (name2_calls f _ HF.out).mono ?_)
                         | (with_reducible refine (name2_calls t _ HT.out).mono ?_)
                         | (with_reducible refine (name2_calls ky' _ HK.out).mono ?_)
                       rintro e w2 ⟨rfl, hB⟩
                       have HX := Lib.hid (HX.out.step hB)
                       clear hB
                       have c1 : w2.cell? ⟨w.heap.size, 1, none⟩ = some (.string f) := blk_cell HX.out.box 1
                       have c2 : w2.cell? ⟨w.heap.size, 2, none⟩ = some (.string t) := blk_cell HX.out.box 2
                       have c3 : w2.cell? ⟨w.heap.size, 3, none⟩ = some (.int .u64 am) := blk_cell HX.out.box 3
                       have c4 : w2.cell? ⟨w.heap.size, 4, none⟩ = some (.int .u64 nc) := blk_cell HX.out.box 4
                       have c5 : w2.cell? ⟨w.heap.size, 5, none⟩ = some (.string ky') := blk_cell HX.out.box 5
                       have c6 : w2.cell? ⟨w.heap.size, 6, none⟩ = some (.string vl) := blk_cell HX.out.box 6
                       have c7 : w2.cell? ⟨w.heap.size, 7, none⟩ = some (.slice A rs.length c) := blk_cell HX.out.box 7
                       have c8 : w2.cell? ⟨w.heap.size, 8, none⟩ = some (.slice B ws.length d) := blk_cell HX.out.box 8
                       skip)
                    | (go_at_call 73
                       first
                         | (with_reducible refine (keys2_calls A c rs _ (Kd.C_below HR.out HX.out.low) HC.out M HM.out).mono ?_)
                         | (with_reducible refine (keys2_calls B d ws _ (Kd.C_below HS.out HX.out.low) HD.out M HN.out).mono ?_)
                       rintro e w2 ⟨rfl, hB⟩
                       have HX := Lib.hid (HX.out.step hB)
                       clear hB
                       have c1 : w2.cell? ⟨w.heap.size, 1, none⟩ = some (.string f) := blk_cell HX.out.box 1
                       have c2 : w2.cell? ⟨w.heap.size, 2, none⟩ = some (.string t) := blk_cell HX.out.box 2
                       have c3 : w2.cell? ⟨w.heap.size, 3, none⟩ = some (.int .u64 am) := blk_cell HX.out.box 3
                       have c4 : w2.cell? ⟨w.heap.size, 4, none⟩ = some (.int .u64 nc) := blk_cell HX.out.box 4
                       have c5 : w2.cell? ⟨w.heap.size, 5, none⟩ = some (.string ky') := blk_cell HX.out.box 5
                       have c6 : w2.cell? ⟨w.heap.size, 6, none⟩ = some (.string vl) := blk_cell HX.out.box 6
                       have c7 : w2.cell? ⟨w.heap.size, 7, none⟩ = some (.slice A rs.length c) := blk_cell HX.out.box 7
                       have c8 : w2.cell? ⟨w.heap.size, 8, none⟩ = some (.slice B ws.length d) := blk_cell HX.out.box 8
                       skip))
                  go_ret
                  exact ⟨rfl, HX.out.low⟩
                · rw [hk (ke rs) (by simp [chR, a1, a2, k1])]
                  have j1 : (ke rs == 0) = false := by simpa using k1
                  clear hk hnil a1 a2 k1
                  go_wp2_with (first
                    | (go_at_call 49
                       first
                         | (with_reducible refine (name2_calls f _ HF.out).mono ?_)
                         | (with_reducible refine (name2_calls t _ HT.out).mono ?_)
                         | (with_reducible refine (name2_calls ky' _ HK.out).mono ?_)
                       rintro e w2 ⟨rfl, hB⟩
                       have HX := Lib.hid (HX.out.step hB)
                       clear hB
                       have c1 : w2.cell? ⟨w.heap.size, 1, none⟩ = some (.string f) := blk_cell HX.out.box 1
                       have c2 : w2.cell? ⟨w.heap.size, 2, none⟩ = some (.string t) := blk_cell HX.out.box 2
                       have c3 : w2.cell? ⟨w.heap.size, 3, none⟩ = some (.int .u64 am) := blk_cell HX.out.box 3
                       have c4 : w2.cell? ⟨w.heap.size, 4, none⟩ = some (.int .u64 nc) := blk_cell HX.out.box 4
                       have c5 : w2.cell? ⟨w.heap.size, 5, none⟩ = some (.string ky') := blk_cell HX.out.box 5
                       have c6 : w2.cell? ⟨w.heap.size, 6, none⟩ = some (.string vl) := blk_cell HX.out.box 6
                       have c7 : w2.cell? ⟨w.heap.size, 7, none⟩ = some (.slice A rs.length c) := blk_cell HX.out.box 7
                       have c8 : w2.cell? ⟨w.heap.size, 8, none⟩ = some (.slice B ws.length d) := blk_cell HX.out.box 8
                       skip)
                    | (go_at_call 73
                       first
                         | (with_reducible refine (keys2_calls A c rs _ (Kd.C_below HR.out HX.out.low) HC.out M HM.out).mono ?_)
                         | (with_reducible refine (keys2_calls B d ws _ (Kd.C_below HS.out HX.out.low) HD.out M HN.out).mono ?_)
                       rintro e w2 ⟨rfl, hB⟩
                       have HX := Lib.hid (HX.out.step hB)
                       clear hB
                       have c1 : w2.cell? ⟨w.heap.size, 1, none⟩ = some (.string f) := blk_cell HX.out.box 1
                       have c2 : w2.cell? ⟨w.heap.size, 2, none⟩ = some (.string t) := blk_cell HX.out.box 2
                       have c3 : w2.cell? ⟨w.heap.size, 3, none⟩ = some (.int .u64 am) := blk_cell HX.out.box 3
                       have c4 : w2.cell? ⟨w.heap.size, 4, none⟩ = some (.int .u64 nc) := blk_cell HX.out.box 4
                       have c5 : w2.cell? ⟨w.heap.size, 5, none⟩ = some (.string ky') := blk_cell HX.out.box 5
                       have c6 : w2.cell? ⟨w.heap.size, 6, none⟩ = some (.string vl) := blk_cell HX.out.box 6
                       have c7 : w2.cell? ⟨w.heap.size, 7, none⟩ = some (.slice A rs.length c) := blk_cell HX.out.box 7
                       have c8 : w2.cell? ⟨w.heap.size, 8, none⟩ = some (.slice B ws.length d) := blk_cell HX.out.box 8
                       skip))
                  go_ret
                  exact ⟨rfl, HX.out.low⟩
              · have d2 : decide ((4611686018427387903 : Int) < nc) = true := by simp; omega
                rw [hk 2 (by simp [chR, a2])]
                clear hk hnil a1 a2
                go_wp2_with (first
                  | (go_at_call 49
                     first
                       | (with_reducible refine (name2_calls f _ HF.out).mono ?_)
                       | (with_reducible refine (name2_calls t _ HT.out).mono ?_)
                       | (with_reducible refine (name2_calls ky' _ HK.out).mono ?_)
                     rintro e w2 ⟨rfl, hB⟩
                     have HX := Lib.hid (HX.out.step hB)
                     clear hB
                     have c1 : w2.cell? ⟨w.heap.size, 1, none⟩ = some (.string f) := blk_cell HX.out.box 1
                     have c2 : w2.cell? ⟨w.heap.size, 2, none⟩ = some (.string t) := blk_cell HX.out.box 2
                     have c3 : w2.cell? ⟨w.heap.size, 3, none⟩ = some (.int .u64 am) := blk_cell HX.out.box 3
                     have c4 : w2.cell? ⟨w.heap.size, 4, none⟩ = some (.int .u64 nc) := blk_cell HX.out.box 4
                     have c5 : w2.cell? ⟨w.heap.size, 5, none⟩ = some (.string ky') := blk_cell HX.out.box 5
                     have c6 : w2.cell? ⟨w.heap.size, 6, none⟩ = some (.string vl) := blk_cell HX.out.box 6
                     have c7 : w2.cell? ⟨w.heap.size, 7, none⟩ = some (.slice A rs.length c) := blk_cell HX.out.box 7
                     have c8 : w2.cell? ⟨w.heap.size, 8, none⟩ = some (.slice B ws.length d) := blk_cell HX.out.box 8
                     skip)
                  | (go_at_call 73
                     first
                       | (with_reducible refine (keys2_calls A c rs _ (Kd.C_below HR.out HX.out.low) HC.out M HM.out).mono ?_)
                       | (with_reducible refine (keys2_calls B d ws _ (Kd.C_below HS.out HX.out.low) HD.out M HN.out).mono ?_)
                     rintro e w2 ⟨rfl, hB⟩
                     have HX := Lib.hid (HX.out.step hB)
                     clear hB
                     have c1 : w2.cell? ⟨w.heap.size, 1, none⟩ = some (.string f) := blk_cell HX.out.box 1
                     have c2 : w2.cell? ⟨w.heap.size, 2, none⟩ = some (.string t) := blk_cell HX.out.box 2
                     have c3 : w2.cell? ⟨w.heap.size, 3, none⟩ = some (.int .u64 am) := blk_cell HX.out.box 3
                     have c4 : w2.cell? ⟨w.heap.size, 4, none⟩ = some (.int .u64 nc) := blk_cell HX.out.box 4
                     have c5 : w2.cell? ⟨w.heap.size, 5, none⟩ = some (.string ky') := blk_cell HX.out.box 5
                     have c6 : w2.cell? ⟨w.heap.size, 6, none⟩ = some (.string vl) := blk_cell HX.out.box 6
                     have c7 : w2.cell? ⟨w.heap.size, 7, none⟩ = some (.slice A rs.length c) := blk_cell HX.out.box 7
                     have c8 : w2.cell? ⟨w.heap.size, 8, none⟩ = some (.slice B ws.length d) := blk_cell HX.out.box 8
                     skip))
                go_ret
                exact ⟨rfl, HX.out.low⟩
            · have d1 : decide ((4611686018427387903 : Int) < am) = true := by simp; omega
              rw [hk 2 (by simp [chR, a1])]
              clear hk hnil a1
              go_wp2_with (first
                | (go_at_call 49
                   first
                     | (with_reducible refine (name2_calls f _ HF.out).mono ?_)
                     | (with_reducible refine (name2_calls t _ HT.out).mono ?_)
                     | (with_reducible refine (name2_calls ky' _ HK.out).mono ?_)
                   rintro e w2 ⟨rfl, hB⟩
                   have HX := Lib.hid (HX.out.step hB)
                   clear hB
                   have c1 : w2.cell? ⟨w.heap.size, 1, none⟩ = some (.string f) := blk_cell HX.out.box 1
                   have c2 : w2.cell? ⟨w.heap.size, 2, none⟩ = some (.string t) := blk_cell HX.out.box 2
                   have c3 : w2.cell? ⟨w.heap.size, 3, none⟩ = some (.int .u64 am) := blk_cell HX.out.box 3
                   have c4 : w2.cell? ⟨w.heap.size, 4, none⟩ = some (.int .u64 nc) := blk_cell HX.out.box 4
                   have c5 : w2.cell? ⟨w.heap.size, 5, none⟩ = some (.string ky') := blk_cell HX.out.box 5
                   have c6 : w2.cell? ⟨w.heap.size, 6, none⟩ = some (.string vl) := blk_cell HX.out.box 6
                   have c7 : w2.cell? ⟨w.heap.size, 7, none⟩ = some (.slice A rs.length c) := blk_cell HX.out.box 7
                   have c8 : w2.cell? ⟨w.heap.size, 8, none⟩ = some (.slice B ws.length d) := blk_cell HX.out.box 8
                   skip)
                | (go_at_call 73
                   first
                     | (with_reducible refine (keys2_calls A c rs _ (Kd.C_below HR.out HX.out.low) HC.out M HM.out).mono ?_)
                     | (with_reducible refine (keys2_calls B d ws _ (Kd.C_below HS.out HX.out.low) HD.out M HN.out).mono ?_)
                   rintro e w2 ⟨rfl, hB⟩
                   have HX := Lib.hid (HX.out.step hB)
                   clear hB
                   have c1 : w2.cell? ⟨w.heap.size, 1, none⟩ = some (.string f) := blk_cell HX.out.box 1
                   have c2 : w2.cell? ⟨w.heap.size, 2, none⟩ = some (.string t) := blk_cell HX.out.box 2
                   have c3 : w2.cell? ⟨w.heap.size, 3, none⟩ = some (.int .u64 am) := blk_cell HX.out.box 3
                   have c4 : w2.cell? ⟨w.heap.size, 4, none⟩ = some (.int .u64 nc) := blk_cell HX.out.box 4
                   have c5 : w2.cell? ⟨w.heap.size, 5, none⟩ = some (.string ky') := blk_cell HX.out.box 5
                   have c6 : w2.cell? ⟨w.heap.size, 6, none⟩ = some (.string vl) := blk_cell HX.out.box 6
                   have c7 : w2.cell? ⟨w.heap.size, 7, none⟩ = some (.slice A rs.length c) := blk_cell HX.out.box 7
                   have c8 : w2.cell? ⟨w.heap.size, 8, none⟩ = some (.slice B ws.length d) := blk_cell HX.out.box 8
                   skip))
              go_ret
              exact ⟨rfl, HX.out.low⟩
          ·
            have hE : ch 1 f t am nc ky' vl rs ws = 3 := by simp [ch, chF, h1, h2, h3, h4]
            rw [hE]
            clear hE hnil
            go_wp2_with (first
              | (go_at_call 49
                 first
                   | (with_reducible refine (name2_calls f _ HF.out).mono ?_)
                   | (with_reducible refine (name2_calls t _ HT.out).mono ?_)
                   | (with_reducible refine (name2_calls ky' _ HK.out).mono ?_)
                 rintro e w2 ⟨rfl, hB⟩
                 have HX := Lib.hid (HX.out.step hB)
                 clear hB
                 have c1 : w2.cell? ⟨w.heap.size, 1, none⟩ = some (.string f) := blk_cell HX.out.box 1
                 have c2 : w2.cell? ⟨w.heap.size, 2, none⟩ = some (.string t) := blk_cell HX.out.box 2
                 have c3 : w2.cell? ⟨w.heap.size, 3, none⟩ = some (.int .u64 am) := blk_cell HX.out.box 3
                 have c4 : w2.cell? ⟨w.heap.size, 4, none⟩ = some (.int .u64 nc) := blk_cell HX.out.box 4
                 have c5 : w2.cell? ⟨w.heap.size, 5, none⟩ = some (.string ky') := blk_cell HX.out.box 5
                 have c6 : w2.cell? ⟨w.heap.size, 6, none⟩ = some (.string vl) := blk_cell HX.out.box 6
                 have c7 : w2.cell? ⟨w.heap.size, 7, none⟩ = some (.slice A rs.length c) := blk_cell HX.out.box 7
                 have c8 : w2.cell? ⟨w.heap.size, 8, none⟩ = some (.slice B ws.length d) := blk_cell HX.out.box 8
                 skip)
              | (go_at_call 73
                 first
                   | (with_reducible refine (keys2_calls A c rs _ (Kd.C_below HR.out HX.out.low) HC.out M HM.out).mono ?_)
                   | (with_reducible refine (keys2_calls B d ws _ (Kd.C_below HS.out HX.out.low) HD.out M HN.out).mono ?_)
                 rintro e w2 ⟨rfl, hB⟩
                 have HX := Lib.hid (HX.out.step hB)
                 clear hB
                 have c1 : w2.cell? ⟨w.heap.size, 1, none⟩ = some (.string f) := blk_cell HX.out.box 1
                 have c2 : w2.cell? ⟨w.heap.size, 2, none⟩ = some (.string t) := blk_cell HX.out.box 2
                 have c3 : w2.cell? ⟨w.heap.size, 3, none⟩ = some (.int .u64 am) := blk_cell HX.out.box 3
                 have c4 : w2.cell? ⟨w.heap.size, 4, none⟩ = some (.int .u64 nc) := blk_cell HX.out.box 4
                 have c5 : w2.cell? ⟨w.heap.size, 5, none⟩ = some (.string ky') := blk_cell HX.out.box 5
                 have c6 : w2.cell? ⟨w.heap.size, 6, none⟩ = some (.string vl) := blk_cell HX.out.box 6
                 have c7 : w2.cell? ⟨w.heap.size, 7, none⟩ = some (.slice A rs.length c) := blk_cell HX.out.box 7
                 have c8 : w2.cell? ⟨w.heap.size, 8, none⟩ = some (.slice B ws.length d) := blk_cell HX.out.box 8
                 skip))
            go_ret
            exact ⟨rfl, HX.out.low⟩
        ·
          have hE : ch 1 f t am nc ky' vl rs ws = 3 := by simp [ch, chF, h1, h2, h3]
          rw [hE]
          clear hE hnil
          go_wp2_with (first
            | (go_at_call 49
               first
                 | (with_reducible refine (name2_calls f _ HF.out).mono ?_)
                 | (with_reducible refine (name2_calls t _ HT.out).mono ?_)
                 | (with_reducible refine (name2_calls ky' _ HK.out).mono ?_)
               rintro e w2 ⟨rfl, hB⟩
               have HX := Lib.hid (HX.out.step hB)
               clear hB
               have c1 : w2.cell? ⟨w.heap.size, 1, none⟩ = some (.string f) := blk_cell HX.out.box 1
               have c2 : w2.cell? ⟨w.heap.size, 2, none⟩ = some (.string t) := blk_cell HX.out.box 2
               have c3 : w2.cell? ⟨w.heap.size, 3, none⟩ = some (.int .u64 am) := blk_cell HX.out.box 3
               have c4 : w2.cell? ⟨w.heap.size, 4, none⟩ = some (.int .u64 nc) := blk_cell HX.out.box 4
               have c5 : w2.cell? ⟨w.heap.size, 5, none⟩ = some (.string ky') := blk_cell HX.out.box 5
               have c6 : w2.cell? ⟨w.heap.size, 6, none⟩ = some (.string vl) := blk_cell HX.out.box 6
               have c7 : w2.cell? ⟨w.heap.size, 7, none⟩ = some (.slice A rs.length c) := blk_cell HX.out.box 7
               have c8 : w2.cell? ⟨w.heap.size, 8, none⟩ = some (.slice B ws.length d) := blk_cell HX.out.box 8
               skip)
            | (go_at_call 73
               first
                 | (with_reducible refine (keys2_calls A c rs _ (Kd.C_below HR.out HX.out.low) HC.out M HM.out).mono ?_)
                 | (with_reducible refine (keys2_calls B d ws _ (Kd.C_below HS.out HX.out.low) HD.out M HN.out).mono ?_)
               rintro e w2 ⟨rfl, hB⟩
               have HX := Lib.hid (HX.out.step hB)
               clear hB
               have c1 : w2.cell? ⟨w.heap.size, 1, none⟩ = some (.string f) := blk_cell HX.out.box 1
               have c2 : w2.cell? ⟨w.heap.size, 2, none⟩ = some (.string t) := blk_cell HX.out.box 2
               have c3 : w2.cell? ⟨w.heap.size, 3, none⟩ = some (.int .u64 am) := blk_cell HX.out.box 3
               have c4 : w2.cell? ⟨w.heap.size, 4, none⟩ = some (.int .u64 nc) := blk_cell HX.out.box 4
               have c5 : w2.cell? ⟨w.heap.size, 5, none⟩ = some (.string ky') := blk_cell HX.out.box 5
               have c6 : w2.cell? ⟨w.heap.size, 6, none⟩ = some (.string vl) := blk_cell HX.out.box 6
               have c7 : w2.cell? ⟨w.heap.size, 7, none⟩ = some (.slice A rs.length c) := blk_cell HX.out.box 7
               have c8 : w2.cell? ⟨w.heap.size, 8, none⟩ = some (.slice B ws.length d) := blk_cell HX.out.box 8
               skip))
          go_ret
          exact ⟨rfl, HX.out.low⟩
  · clear h5
    cases h1 : nm f with
    | false =>
      have hE : ch 2 f t am nc ky' vl rs ws = 3 := by simp [ch, chF, h1]
      rw [hE]
      clear hE hnil
      go_wp2_with (first
        | (go_at_call 49
           first
             | (with_reducible refine (name2_calls f _ HF.out).mono ?_)
             | (with_reducible refine (name2_calls t _ HT.out).mono ?_)
             | (with_reducible refine (name2_calls ky' _ HK.out).mono ?_)
           rintro e w2 ⟨rfl, hB⟩
           have HX := Lib.hid (HX.out.step hB)
           clear hB
           have c1 : w2.cell? ⟨w.heap.size, 1, none⟩ = some (.string f) := blk_cell HX.out.box 1
           have c2 : w2.cell? ⟨w.heap.size, 2, none⟩ = some (.string t) := blk_cell HX.out.box 2
           have c3 : w2.cell? ⟨w.heap.size, 3, none⟩ = some (.int .u64 am) := blk_cell HX.out.box 3
           have c4 : w2.cell? ⟨w.heap.size, 4, none⟩ = some (.int .u64 nc) := blk_cell HX.out.box 4
           have c5 : w2.cell? ⟨w.heap.size, 5, none⟩ = some (.string ky') := blk_cell HX.out.box 5
           have c6 : w2.cell? ⟨w.heap.size, 6, none⟩ = some (.string vl) := blk_cell HX.out.box 6
           have c7 : w2.cell? ⟨w.heap.size, 7, none⟩ = some (.slice A rs.length c) := blk_cell HX.out.box 7
           have c8 : w2.cell? ⟨w.heap.size, 8, none⟩ = some (.slice B ws.length d) := blk_cell HX.out.box 8
           skip)
        | (go_at_call 73
           first
             | (with_reducible refine (keys2_calls A c rs _ (Kd.C_below HR.out HX.out.low) HC.out M HM.out).mono ?_)
             | (with_reducible refine (keys2_calls B d ws _ (Kd.C_below HS.out HX.out.low) HD.out M HN.out).mono ?_)
           rintro e w2 ⟨rfl, hB⟩
           have HX := Lib.hid (HX.out.step hB)
           clear hB
           have c1 : w2.cell? ⟨w.heap.size, 1, none⟩ = some (.string f) := blk_cell HX.out.box 1
           have c2 : w2.cell? ⟨w.heap.size, 2, none⟩ = some (.string t) := blk_cell HX.out.box 2
           have c3 : w2.cell? ⟨w.heap.size, 3, none⟩ = some (.int .u64 am) := blk_cell HX.out.box 3
           have c4 : w2.cell? ⟨w.heap.size, 4, none⟩ = some (.int .u64 nc) := blk_cell HX.out.box 4
           have c5 : w2.cell? ⟨w.heap.size, 5, none⟩ = some (.string ky') := blk_cell HX.out.box 5
           have c6 : w2.cell? ⟨w.heap.size, 6, none⟩ = some (.string vl) := blk_cell HX.out.box 6
           have c7 : w2.cell? ⟨w.heap.size, 7, none⟩ = some (.slice A rs.length c) := blk_cell HX.out.box 7
           have c8 : w2.cell? ⟨w.heap.size, 8, none⟩ = some (.slice B ws.length d) := blk_cell HX.out.box 8
           skip))
      go_ret
      exact ⟨rfl, HX.out.low⟩
    | true =>
      cases h2 : nm ky' with
      | false =>
        have hE : ch 2 f t am nc ky' vl rs ws = 3 := by simp [ch, chF, h1, h2]
        rw [hE]
        clear hE hnil
        go_wp2_with (first
          | (go_at_call 49
             first
               | (with_reducible refine (name2_calls f _ HF.out).mono ?_)
               | (with_reducible refine (name2_calls t _ HT.out).mono ?_)
               | (with_reducible refine (name2_calls ky' _ HK.out).mono ?_)
             rintro e w2 ⟨rfl, hB⟩
             have HX := Lib.hid (HX.out.step hB)
             clear hB
             have c1 : w2.cell? ⟨w.heap.size, 1, none⟩ = some (.string f) := blk_cell HX.out.box 1
             have c2 : w2.cell? ⟨w.heap.size, 2, none⟩ = some (.string t) := blk_cell HX.out.box 2
             have c3 : w2.cell? ⟨w.heap.size, 3, none⟩ = some (.int .u64 am) := blk_cell HX.out.box 3
             have c4 : w2.cell? ⟨w.heap.size, 4, none⟩ = some (.int .u64 nc) := blk_cell HX.out.box 4
             have c5 : w2.cell? ⟨w.heap.size, 5, none⟩ = some (.string ky') := blk_cell HX.out.box 5
             have c6 : w2.cell? ⟨w.heap.size, 6, none⟩ = some (.string vl) := blk_cell HX.out.box 6
             have c7 : w2.cell? ⟨w.heap.size, 7, none⟩ = some (.slice A rs.length c) := blk_cell HX.out.box 7
             have c8 : w2.cell? ⟨w.heap.size, 8, none⟩ = some (.slice B ws.length d) := blk_cell HX.out.box 8
             skip)
          | (go_at_call 73
             first
               | (with_reducible refine (keys2_calls A c rs _ (Kd.C_below HR.out HX.out.low) HC.out M HM.out).mono ?_)
               | (with_reducible refine (keys2_calls B d ws _ (Kd.C_below HS.out HX.out.low) HD.out M HN.out).mono ?_)
             rintro e w2 ⟨rfl, hB⟩
             have HX := Lib.hid (HX.out.step hB)
             clear hB
             have c1 : w2.cell? ⟨w.heap.size, 1, none⟩ = some (.string f) := blk_cell HX.out.box 1
             have c2 : w2.cell? ⟨w.heap.size, 2, none⟩ = some (.string t) := blk_cell HX.out.box 2
             have c3 : w2.cell? ⟨w.heap.size, 3, none⟩ = some (.int .u64 am) := blk_cell HX.out.box 3
             have c4 : w2.cell? ⟨w.heap.size, 4, none⟩ = some (.int .u64 nc) := blk_cell HX.out.box 4
             have c5 : w2.cell? ⟨w.heap.size, 5, none⟩ = some (.string ky') := blk_cell HX.out.box 5
             have c6 : w2.cell? ⟨w.heap.size, 6, none⟩ = some (.string vl) := blk_cell HX.out.box 6
             have c7 : w2.cell? ⟨w.heap.size, 7, none⟩ = some (.slice A rs.length c) := blk_cell HX.out.box 7
             have c8 : w2.cell? ⟨w.heap.size, 8, none⟩ = some (.slice B ws.length d) := blk_cell HX.out.box 8
             skip))
        go_ret
        exact ⟨rfl, HX.out.low⟩
      | true =>
        by_cases h3 : vl.size ≤ 64
        · have b3 : decide ((64 : Int) < (vl.size : Int)) = false := by simp; omega
          rcases hnil t with h4 | h4
          · by_cases h5 : am = 0
            · have b5 : (am == 0) = true := by simp [h5]
              have hk : ∀ x, chR am nc rs ws = x → ch 2 f t am nc ky' vl rs ws = x := fun x h => by simp [ch, chF, h1, h2, h3, h4, h5]; rw [← h5]; exact h
              clear h5
              by_cases a1 : am ≤ 4611686018427387903
              · have d1 : decide ((4611686018427387903 : Int) < am) = false := by simp; omega
                by_cases a2 : nc ≤ 4611686018427387903
                · have d2 : decide ((4611686018427387903 : Int) < nc) = false := by simp; omega
                  by_cases k1 : ke rs = 0
                  · rw [hk (ke ws) (by simp [chR, a1, a2, k1])]
                    have j1 : (ke rs == 0) = true := by simp [k1]
                    clear hk hnil a1 a2 k1
                    go_wp2_with (first
                      | (go_at_call 49
                         first
                           | (with_reducible refine (name2_calls f _ HF.out).mono ?_)
                           | (with_reducible refine (name2_calls t _ HT.out).mono ?_)
                           | (with_reducible refine (name2_calls ky' _ HK.out).mono ?_)
                         rintro e w2 ⟨rfl, hB⟩
                         have HX := Lib.hid (HX.out.step hB)
                         clear hB
                         have c1 : w2.cell? ⟨w.heap.size, 1, none⟩ = some (.string f) := blk_cell HX.out.box 1
                         have c2 : w2.cell? ⟨w.heap.size, 2, none⟩ = some (.string t) := blk_cell HX.out.box 2
                         have c3 : w2.cell? ⟨w.heap.size, 3, none⟩ = some (.int .u64 am) := blk_cell HX.out.box 3
                         have c4 : w2.cell? ⟨w.heap.size, 4, none⟩ = some (.int .u64 nc) := blk_cell HX.out.box 4
                         have c5 : w2.cell? ⟨w.heap.size, 5, none⟩ = some (.string ky') := blk_cell HX.out.box 5
                         have c6 : w2.cell? ⟨w.heap.size, 6, none⟩ = some (.string vl) := blk_cell HX.out.box 6
                         have c7 : w2.cell? ⟨w.heap.size, 7, none⟩ = some (.slice A rs.length c) := blk_cell HX.out.box 7
                         have c8 : w2.cell? ⟨w.heap.size, 8, none⟩ = some (.slice B ws.length d) := blk_cell HX.out.box 8
                         skip)
                      | (go_at_call 73
                         first
                           | (with_reducible refine (keys2_calls A c rs _ (Kd.C_below HR.out HX.out.low) HC.out M HM.out).mono ?_)
                           | (with_reducible refine (keys2_calls B d ws _ (Kd.C_below HS.out HX.out.low) HD.out M HN.out).mono ?_)
                         rintro e w2 ⟨rfl, hB⟩
                         have HX := Lib.hid (HX.out.step hB)
                         clear hB
                         have c1 : w2.cell? ⟨w.heap.size, 1, none⟩ = some (.string f) := blk_cell HX.out.box 1
                         have c2 : w2.cell? ⟨w.heap.size, 2, none⟩ = some (.string t) := blk_cell HX.out.box 2
                         have c3 : w2.cell? ⟨w.heap.size, 3, none⟩ = some (.int .u64 am) := blk_cell HX.out.box 3
                         have c4 : w2.cell? ⟨w.heap.size, 4, none⟩ = some (.int .u64 nc) := blk_cell HX.out.box 4
                         have c5 : w2.cell? ⟨w.heap.size, 5, none⟩ = some (.string ky') := blk_cell HX.out.box 5
                         have c6 : w2.cell? ⟨w.heap.size, 6, none⟩ = some (.string vl) := blk_cell HX.out.box 6
                         have c7 : w2.cell? ⟨w.heap.size, 7, none⟩ = some (.slice A rs.length c) := blk_cell HX.out.box 7
                         have c8 : w2.cell? ⟨w.heap.size, 8, none⟩ = some (.slice B ws.length d) := blk_cell HX.out.box 8
                         skip))
                    go_ret
                    exact ⟨rfl, HX.out.low⟩
                  · rw [hk (ke rs) (by simp [chR, a1, a2, k1])]
                    have j1 : (ke rs == 0) = false := by simpa using k1
                    clear hk hnil a1 a2 k1
                    go_wp2_with (first
                      | (go_at_call 49
                         first
                           | (with_reducible refine (name2_calls f _ HF.out).mono ?_)
                           | (with_reducible refine (name2_calls t _ HT.out).mono ?_)
                           | (with_reducible refine (name2_calls ky' _ HK.out).mono ?_)
                         rintro e w2 ⟨rfl, hB⟩
                         have HX := Lib.hid (HX.out.step hB)
                         clear hB
                         have c1 : w2.cell? ⟨w.heap.size, 1, none⟩ = some (.string f) := blk_cell HX.out.box 1
                         have c2 : w2.cell? ⟨w.heap.size, 2, none⟩ = some (.string t) := blk_cell HX.out.box 2
                         have c3 : w2.cell? ⟨w.heap.size, 3, none⟩ = some (.int .u64 am) := blk_cell HX.out.box 3
                         have c4 : w2.cell? ⟨w.heap.size, 4, none⟩ = some (.int .u64 nc) := blk_cell HX.out.box 4
                         have c5 : w2.cell? ⟨w.heap.size, 5, none⟩ = some (.string ky') := blk_cell HX.out.box 5
                         have c6 : w2.cell? ⟨w.heap.size, 6, none⟩ = some (.string vl) := blk_cell HX.out.box 6
                         have c7 : w2.cell? ⟨w.heap.size, 7, none⟩ = some (.slice A rs.length c) := blk_cell HX.out.box 7
                         have c8 : w2.cell? ⟨w.heap.size, 8, none⟩ = some (.slice B ws.length d) := blk_cell HX.out.box 8
                         skip)
                      | (go_at_call 73
                         first
                           | (with_reducible refine (keys2_calls A c rs _ (Kd.C_below HR.out HX.out.low) HC.out M HM.out).mono ?_)
                           | (with_reducible refine (keys2_calls B d ws _ (Kd.C_below HS.out HX.out.low) HD.out M HN.out).mono ?_)
                         rintro e w2 ⟨rfl, hB⟩
                         have HX := Lib.hid (HX.out.step hB)
                         clear hB
                         have c1 : w2.cell? ⟨w.heap.size, 1, none⟩ = some (.string f) := blk_cell HX.out.box 1
                         have c2 : w2.cell? ⟨w.heap.size, 2, none⟩ = some (.string t) := blk_cell HX.out.box 2
                         have c3 : w2.cell? ⟨w.heap.size, 3, none⟩ = some (.int .u64 am) := blk_cell HX.out.box 3
                         have c4 : w2.cell? ⟨w.heap.size, 4, none⟩ = some (.int .u64 nc) := blk_cell HX.out.box 4
                         have c5 : w2.cell? ⟨w.heap.size, 5, none⟩ = some (.string ky') := blk_cell HX.out.box 5
                         have c6 : w2.cell? ⟨w.heap.size, 6, none⟩ = some (.string vl) := blk_cell HX.out.box 6
                         have c7 : w2.cell? ⟨w.heap.size, 7, none⟩ = some (.slice A rs.length c) := blk_cell HX.out.box 7
                         have c8 : w2.cell? ⟨w.heap.size, 8, none⟩ = some (.slice B ws.length d) := blk_cell HX.out.box 8
                         skip))
                    go_ret
                    exact ⟨rfl, HX.out.low⟩
                · have d2 : decide ((4611686018427387903 : Int) < nc) = true := by simp; omega
                  rw [hk 2 (by simp [chR, a2])]
                  clear hk hnil a1 a2
                  go_wp2_with (first
                    | (go_at_call 49
                       first
                         | (with_reducible refine (name2_calls f _ HF.out).mono ?_)
                         | (with_reducible refine (name2_calls t _ HT.out).mono ?_)
                         | (with_reducible refine (name2_calls ky' _ HK.out).mono ?_)
                       rintro e w2 ⟨rfl, hB⟩
                       have HX := Lib.hid (HX.out.step hB)
                       clear hB
                       have c1 : w2.cell? ⟨w.heap.size, 1, none⟩ = some (.string f) := blk_cell HX.out.box 1
                       have c2 : w2.cell? ⟨w.heap.size, 2, none⟩ = some (.string t) := blk_cell HX.out.box 2
                       have c3 : w2.cell? ⟨w.heap.size, 3, none⟩ = some (.int .u64 am) := blk_cell HX.out.box 3
                       have c4 : w2.cell? ⟨w.heap.size, 4, none⟩ = some (.int .u64 nc) := blk_cell HX.out.box 4
                       have c5 : w2.cell? ⟨w.heap.size, 5, none⟩ = some (.string ky') := blk_cell HX.out.box 5
                       have c6 : w2.cell? ⟨w.heap.size, 6, none⟩ = some (.string vl) := blk_cell HX.out.box 6
                       have c7 : w2.cell? ⟨w.heap.size, 7, none⟩ = some (.slice A rs.length c) := blk_cell HX.out.box 7
                       have c8 : w2.cell? ⟨w.heap.size, 8, none⟩ = some (.slice B ws.length d) := blk_cell HX.out.box 8
                       skip)
                    | (go_at_call 73
                       first
                         | (with_reducible refine (keys2_calls A c rs _ (Kd.C_below HR.out HX.out.low) HC.out M HM.out).mono ?_)
                         | (with_reducible refine (keys2_calls B d ws _ (Kd.C_below HS.out HX.out.low) HD.out M HN.out).mono ?_)
                       rintro e w2 ⟨rfl, hB⟩
                       have HX := Lib.hid (HX.out.step hB)
                       clear hB
                       have c1 : w2.cell? ⟨w.heap.size, 1, none⟩ = some (.string f) := blk_cell HX.out.box 1
                       have c2 : w2.cell? ⟨w.heap.size, 2, none⟩ = some (.string t) := blk_cell HX.out.box 2
                       have c3 : w2.cell? ⟨w.heap.size, 3, none⟩ = some (.int .u64 am) := blk_cell HX.out.box 3
                       have c4 : w2.cell? ⟨w.heap.size, 4, none⟩ = some (.int .u64 nc) := blk_cell HX.out.box 4
                       have c5 : w2.cell? ⟨w.heap.size, 5, none⟩ = some (.string ky') := blk_cell HX.out.box 5
                       have c6 : w2.cell? ⟨w.heap.size, 6, none⟩ = some (.string vl) := blk_cell HX.out.box 6
                       have c7 : w2.cell? ⟨w.heap.size, 7, none⟩ = some (.slice A rs.length c) := blk_cell HX.out.box 7
                       have c8 : w2.cell? ⟨w.heap.size, 8, none⟩ = some (.slice B ws.length d) := blk_cell HX.out.box 8
                       skip))
                  go_ret
                  exact ⟨rfl, HX.out.low⟩
              · have d1 : decide ((4611686018427387903 : Int) < am) = true := by simp; omega
                rw [hk 2 (by simp [chR, a1])]
                clear hk hnil a1
                go_wp2_with (first
                  | (go_at_call 49
                     first
                       | (with_reducible refine (name2_calls f _ HF.out).mono ?_)
                       | (with_reducible refine (name2_calls t _ HT.out).mono ?_)
                       | (with_reducible refine (name2_calls ky' _ HK.out).mono ?_)
                     rintro e w2 ⟨rfl, hB⟩
                     have HX := Lib.hid (HX.out.step hB)
                     clear hB
                     have c1 : w2.cell? ⟨w.heap.size, 1, none⟩ = some (.string f) := blk_cell HX.out.box 1
                     have c2 : w2.cell? ⟨w.heap.size, 2, none⟩ = some (.string t) := blk_cell HX.out.box 2
                     have c3 : w2.cell? ⟨w.heap.size, 3, none⟩ = some (.int .u64 am) := blk_cell HX.out.box 3
                     have c4 : w2.cell? ⟨w.heap.size, 4, none⟩ = some (.int .u64 nc) := blk_cell HX.out.box 4
                     have c5 : w2.cell? ⟨w.heap.size, 5, none⟩ = some (.string ky') := blk_cell HX.out.box 5
                     have c6 : w2.cell? ⟨w.heap.size, 6, none⟩ = some (.string vl) := blk_cell HX.out.box 6
                     have c7 : w2.cell? ⟨w.heap.size, 7, none⟩ = some (.slice A rs.length c) := blk_cell HX.out.box 7
                     have c8 : w2.cell? ⟨w.heap.size, 8, none⟩ = some (.slice B ws.length d) := blk_cell HX.out.box 8
                     skip)
                  | (go_at_call 73
                     first
                       | (with_reducible refine (keys2_calls A c rs _ (Kd.C_below HR.out HX.out.low) HC.out M HM.out).mono ?_)
                       | (with_reducible refine (keys2_calls B d ws _ (Kd.C_below HS.out HX.out.low) HD.out M HN.out).mono ?_)
                     rintro e w2 ⟨rfl, hB⟩
                     have HX := Lib.hid (HX.out.step hB)
                     clear hB
                     have c1 : w2.cell? ⟨w.heap.size, 1, none⟩ = some (.string f) := blk_cell HX.out.box 1
                     have c2 : w2.cell? ⟨w.heap.size, 2, none⟩ = some (.string t) := blk_cell HX.out.box 2
                     have c3 : w2.cell? ⟨w.heap.size, 3, none⟩ = some (.int .u64 am) := blk_cell HX.out.box 3
                     have c4 : w2.cell? ⟨w.heap.size, 4, none⟩ = some (.int .u64 nc) := blk_cell HX.out.box 4
                     have c5 : w2.cell? ⟨w.heap.size, 5, none⟩ = some (.string ky') := blk_cell HX.out.box 5
                     have c6 : w2.cell? ⟨w.heap.size, 6, none⟩ = some (.string vl) := blk_cell HX.out.box 6
                     have c7 : w2.cell? ⟨w.heap.size, 7, none⟩ = some (.slice A rs.length c) := blk_cell HX.out.box 7
                     have c8 : w2.cell? ⟨w.heap.size, 8, none⟩ = some (.slice B ws.length d) := blk_cell HX.out.box 8
                     skip))
                go_ret
                exact ⟨rfl, HX.out.low⟩
            · have b5 : (am == 0) = false := by simp [h5]
              have hE : ch 2 f t am nc ky' vl rs ws = 3 := by simp [ch, chF, h1, h2, h3, h4, h5]
              rw [hE]
              clear hE hnil h3 h5
              go_wp2_with (first
                | (go_at_call 49
                   first
                     | (with_reducible refine (name2_calls f _ HF.out).mono ?_)
                     | (with_reducible refine (name2_calls t _ HT.out).mono ?_)
                     | (with_reducible refine (name2_calls ky' _ HK.out).mono ?_)
                   rintro e w2 ⟨rfl, hB⟩
                   have HX := Lib.hid (HX.out.step hB)
                   clear hB
                   have c1 : w2.cell? ⟨w.heap.size, 1, none⟩ = some (.string f) := blk_cell HX.out.box 1
                   have c2 : w2.cell? ⟨w.heap.size, 2, none⟩ = some (.string t) := blk_cell HX.out.box 2
                   have c3 : w2.cell? ⟨w.heap.size, 3, none⟩ = some (.int .u64 am) := blk_cell HX.out.box 3
                   have c4 : w2.cell? ⟨w.heap.size, 4, none⟩ = some (.int .u64 nc) := blk_cell HX.out.box 4
                   have c5 : w2.cell? ⟨w.heap.size, 5, none⟩ = some (.string ky') := blk_cell HX.out.box 5
                   have c6 : w2.cell? ⟨w.heap.size, 6, none⟩ = some (.string vl) := blk_cell HX.out.box 6
                   have c7 : w2.cell? ⟨w.heap.size, 7, none⟩ = some (.slice A rs.length c) := blk_cell HX.out.box 7
                   have c8 : w2.cell? ⟨w.heap.size, 8, none⟩ = some (.slice B ws.length d) := blk_cell HX.out.box 8
                   skip)
                | (go_at_call 73
                   first
                     | (with_reducible refine (keys2_calls A c rs _ (Kd.C_below HR.out HX.out.low) HC.out M HM.out).mono ?_)
                     | (with_reducible refine (keys2_calls B d ws _ (Kd.C_below HS.out HX.out.low) HD.out M HN.out).mono ?_)
                   rintro e w2 ⟨rfl, hB⟩
                   have HX := Lib.hid (HX.out.step hB)
                   clear hB
                   have c1 : w2.cell? ⟨w.heap.size, 1, none⟩ = some (.string f) := blk_cell HX.out.box 1
                   have c2 : w2.cell? ⟨w.heap.size, 2, none⟩ = some (.string t) := blk_cell HX.out.box 2
                   have c3 : w2.cell? ⟨w.heap.size, 3, none⟩ = some (.int .u64 am) := blk_cell HX.out.box 3
                   have c4 : w2.cell? ⟨w.heap.size, 4, none⟩ = some (.int .u64 nc) := blk_cell HX.out.box 4
                   have c5 : w2.cell? ⟨w.heap.size, 5, none⟩ = some (.string ky') := blk_cell HX.out.box 5
                   have c6 : w2.cell? ⟨w.heap.size, 6, none⟩ = some (.string vl) := blk_cell HX.out.box 6
                   have c7 : w2.cell? ⟨w.heap.size, 7, none⟩ = some (.slice A rs.length c) := blk_cell HX.out.box 7
                   have c8 : w2.cell? ⟨w.heap.size, 8, none⟩ = some (.slice B ws.length d) := blk_cell HX.out.box 8
                   skip))
              go_ret
              exact ⟨rfl, HX.out.low⟩
          · have hE : ch 2 f t am nc ky' vl rs ws = 3 := by simp [ch, chF, h1, h2, h3, h4]
            rw [hE]
            clear hE hnil h3
            go_wp2_with (first
              | (go_at_call 49
                 first
                   | (with_reducible refine (name2_calls f _ HF.out).mono ?_)
                   | (with_reducible refine (name2_calls t _ HT.out).mono ?_)
                   | (with_reducible refine (name2_calls ky' _ HK.out).mono ?_)
                 rintro e w2 ⟨rfl, hB⟩
                 have HX := Lib.hid (HX.out.step hB)
                 clear hB
                 have c1 : w2.cell? ⟨w.heap.size, 1, none⟩ = some (.string f) := blk_cell HX.out.box 1
                 have c2 : w2.cell? ⟨w.heap.size, 2, none⟩ = some (.string t) := blk_cell HX.out.box 2
                 have c3 : w2.cell? ⟨w.heap.size, 3, none⟩ = some (.int .u64 am) := blk_cell HX.out.box 3
                 have c4 : w2.cell? ⟨w.heap.size, 4, none⟩ = some (.int .u64 nc) := blk_cell HX.out.box 4
                 have c5 : w2.cell? ⟨w.heap.size, 5, none⟩ = some (.string ky') := blk_cell HX.out.box 5
                 have c6 : w2.cell? ⟨w.heap.size, 6, none⟩ = some (.string vl) := blk_cell HX.out.box 6
                 have c7 : w2.cell? ⟨w.heap.size, 7, none⟩ = some (.slice A rs.length c) := blk_cell HX.out.box 7
                 have c8 : w2.cell? ⟨w.heap.size, 8, none⟩ = some (.slice B ws.length d) := blk_cell HX.out.box 8
                 skip)
              | (go_at_call 73
                 first
                   | (with_reducible refine (keys2_calls A c rs _ (Kd.C_below HR.out HX.out.low) HC.out M HM.out).mono ?_)
                   | (with_reducible refine (keys2_calls B d ws _ (Kd.C_below HS.out HX.out.low) HD.out M HN.out).mono ?_)
                 rintro e w2 ⟨rfl, hB⟩
                 have HX := Lib.hid (HX.out.step hB)
                 clear hB
                 have c1 : w2.cell? ⟨w.heap.size, 1, none⟩ = some (.string f) := blk_cell HX.out.box 1
                 have c2 : w2.cell? ⟨w.heap.size, 2, none⟩ = some (.string t) := blk_cell HX.out.box 2
                 have c3 : w2.cell? ⟨w.heap.size, 3, none⟩ = some (.int .u64 am) := blk_cell HX.out.box 3
                 have c4 : w2.cell? ⟨w.heap.size, 4, none⟩ = some (.int .u64 nc) := blk_cell HX.out.box 4
                 have c5 : w2.cell? ⟨w.heap.size, 5, none⟩ = some (.string ky') := blk_cell HX.out.box 5
                 have c6 : w2.cell? ⟨w.heap.size, 6, none⟩ = some (.string vl) := blk_cell HX.out.box 6
                 have c7 : w2.cell? ⟨w.heap.size, 7, none⟩ = some (.slice A rs.length c) := blk_cell HX.out.box 7
                 have c8 : w2.cell? ⟨w.heap.size, 8, none⟩ = some (.slice B ws.length d) := blk_cell HX.out.box 8
                 skip))
            go_ret
            exact ⟨rfl, HX.out.low⟩
        · have b3 : decide ((64 : Int) < (vl.size : Int)) = true := by simp; omega
          have hE : ch 2 f t am nc ky' vl rs ws = 3 := by simp [ch, chF, h1, h2, h3]
          rw [hE]
          clear hE hnil h3
          go_wp2_with (first
            | (go_at_call 49
               first
                 | (with_reducible refine (name2_calls f _ HF.out).mono ?_)
                 | (with_reducible refine (name2_calls t _ HT.out).mono ?_)
                 | (with_reducible refine (name2_calls ky' _ HK.out).mono ?_)
               rintro e w2 ⟨rfl, hB⟩
               have HX := Lib.hid (HX.out.step hB)
               clear hB
               have c1 : w2.cell? ⟨w.heap.size, 1, none⟩ = some (.string f) := blk_cell HX.out.box 1
               have c2 : w2.cell? ⟨w.heap.size, 2, none⟩ = some (.string t) := blk_cell HX.out.box 2
               have c3 : w2.cell? ⟨w.heap.size, 3, none⟩ = some (.int .u64 am) := blk_cell HX.out.box 3
               have c4 : w2.cell? ⟨w.heap.size, 4, none⟩ = some (.int .u64 nc) := blk_cell HX.out.box 4
               have c5 : w2.cell? ⟨w.heap.size, 5, none⟩ = some (.string ky') := blk_cell HX.out.box 5
               have c6 : w2.cell? ⟨w.heap.size, 6, none⟩ = some (.string vl) := blk_cell HX.out.box 6
               have c7 : w2.cell? ⟨w.heap.size, 7, none⟩ = some (.slice A rs.length c) := blk_cell HX.out.box 7
               have c8 : w2.cell? ⟨w.heap.size, 8, none⟩ = some (.slice B ws.length d) := blk_cell HX.out.box 8
               skip)
            | (go_at_call 73
               first
                 | (with_reducible refine (keys2_calls A c rs _ (Kd.C_below HR.out HX.out.low) HC.out M HM.out).mono ?_)
                 | (with_reducible refine (keys2_calls B d ws _ (Kd.C_below HS.out HX.out.low) HD.out M HN.out).mono ?_)
               rintro e w2 ⟨rfl, hB⟩
               have HX := Lib.hid (HX.out.step hB)
               clear hB
               have c1 : w2.cell? ⟨w.heap.size, 1, none⟩ = some (.string f) := blk_cell HX.out.box 1
               have c2 : w2.cell? ⟨w.heap.size, 2, none⟩ = some (.string t) := blk_cell HX.out.box 2
               have c3 : w2.cell? ⟨w.heap.size, 3, none⟩ = some (.int .u64 am) := blk_cell HX.out.box 3
               have c4 : w2.cell? ⟨w.heap.size, 4, none⟩ = some (.int .u64 nc) := blk_cell HX.out.box 4
               have c5 : w2.cell? ⟨w.heap.size, 5, none⟩ = some (.string ky') := blk_cell HX.out.box 5
               have c6 : w2.cell? ⟨w.heap.size, 6, none⟩ = some (.string vl) := blk_cell HX.out.box 6
               have c7 : w2.cell? ⟨w.heap.size, 7, none⟩ = some (.slice A rs.length c) := blk_cell HX.out.box 7
               have c8 : w2.cell? ⟨w.heap.size, 8, none⟩ = some (.slice B ws.length d) := blk_cell HX.out.box 8
               skip))
          go_ret
          exact ⟨rfl, HX.out.low⟩
end Go.Proofs.YtndicjikjcifaaaDoor
