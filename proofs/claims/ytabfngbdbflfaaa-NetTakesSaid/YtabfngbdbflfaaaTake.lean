/- The bags' Take. -/
import Derived.Test.YtabfngbdbflfaaaBag
namespace Go.Proofs.Ytabfngbdbflfaaa
open Go.RowKit Go.Proofs.YtabfngbdbflfaaaW.PrintWords Go.Proofs.YtabfngbdbflfaaaW.PrintLast Go.Proofs.Ytabfngbdbflfaaa.PNetKeeps
set_option linter.unusedVariables false
set_option maxHeartbeats 400000 in
theorem take_in (w : World) (base g : Nat) (ok : Nat → Prop) (xs : List Env) (lost : Int) (i : Nat) (hI : IsBag 46 base w ok g xs lost) (hmax : xs.length ≤ 256)
    (hi : i < xs.length) :
    Calls Try.prog 9 #[.pointer (some ⟨g, 0, none⟩), .int .i64 i] w fun e w' =>
      e = .returned (.tuple #[v28 (xs.getD i z28), .bool true]) ∧ IsBag 46 base w' ok g (xs.eraseIdx i) lost ∧ Only ok w w' := by
  have HI := Lib.hid hI
  obtain ⟨hg, hlt, hokg, v, hb, hR, hv⟩ := hI
  obtain ⟨b, c, cur, rfl, hbb, hbh, hc, hcm, hcs, hcur⟩ := hR.some (by omega)
  have hbg := hv b rfl
  have hblt := blk_lt hbh
  obtain ⟨s1, s2, s3, s4, s5⟩ := shift_facts xs cur.toList c i hi hc (by simpa using hcs) hcur
  obtain ⟨cs, hcse⟩ : ∃ cs, (xs.drop (i + 1)).flatMap c28 = cs := ⟨_, rfl⟩
  have s6 : ∀ u ∈ cs, u.oneCell' = true := hcse ▸ flat_one _
  rw [hcse] at s1 s2 s3 s4 s5
  obtain ⟨new, hnew⟩ : ∃ new, splice cur.toList (i * 3) cs = new := ⟨_, rfl⟩
  rw [hnew] at s4 s5
  have S1 := Lib.hid s1
  have S2 := Lib.hid s2
  have S3 := Lib.hid s3
  have S4 := Lib.hid s4
  have S5 := Lib.hid s5
  have S6 := Lib.hid s6
  have HNEW := Lib.hid hnew
  clear s1 s2 s3 s4 s5 s6 hnew hcse
  have HB := Lib.hid hb
  have HBH := Lib.hid hbh
  have HCUR := Lib.hid hcur
  have HCS := Lib.hid hcs
  clear hR hb hv hbh hcur hcs
  unfold maxLen at hcm
  obtain ⟨x, hx⟩ : ∃ x, xs.getD i z28 = x := ⟨_, rfl⟩
  rw [hx]
  have HX := Lib.hid hx
  clear hx
  by_cases hci : c = i + 1
  · have hci' := Lib.hid hci
    have hn1 : xs.length ≤ i + 1 := by omega
    go_enter Try.func9, Try.ntmps9
    go_wp2_with (
      go_at_call 15
      refine (at_in _ base g ok xs lost i x HX.out (HI.out.only (S := fun _ => False) ((Only.refl _ w).alloc _) (fun _ _ h => h)) hmax hi).mono ?_
      rintro e w1 ⟨rfl, hbel⟩
      have HB1 := Lib.hid (blk_below (blk_alloc HB.out _) hbel)
      have HBH1 := Lib.hid (blk_below (blk_alloc HBH.out _) hbel)
      have c0 : w1.cell? ⟨g, 0, none⟩ = some (.slice (some ⟨b, 0, none⟩) xs.length c) := blk_cell HB1.out 0
      have f0 := blk_frozen HB1.out 0
      have HBEL := Lib.hid hbel
      have hsz := hbel.size
      simp at hsz
      have hg1 : g < w1.heap.size := by omega
      have hb1 : b < w1.heap.size := by omega
      clear hbel)
    have hw1 : IntKind.i64.wrap ((i : Int) + 1) = (i : Int) + 1 := IntWalk.i64_in _ (by omega)
    have hw2 : (0 : Int) ≤ (i : Int) + 1 := by omega
    have hw3 : ((i : Int) + 1).toNat = i + 1 := by omega
    have hw4 : i ≤ xs.length := by omega
    have hw5 : i + 1 ≤ xs.length := by omega
    have hw6 : (i : Int) ≤ xs.length := by omega
    have hw7 : (i : Int) + 1 ≤ xs.length := by omega
    have hw8 : ¬ c = i := by omega
    go_region_law (
      refine fr_copy_step rfl (.tmp 20) (.tmp 27) 22 22 28 3 rfl Try.underlying22 size28 (some ⟨b, i * 3, none⟩) (some ⟨b, 0, none⟩) (xs.length - i) 1 0 0 (by simp [Act.eval, Act.put]) (by simp [Act.eval, Act.put]) b (i * 3) cur.toList 28 (blk_drew (blk_alloc HBH1.out _)) cs (by have h := S1.out; rw [show xs.length - (i + 1) = 0 by omega] at h; exact h) (fun hpos => ⟨rfl, _, rfl, fun j u hu => ?_⟩) (fun h => ?_) S3.out S6.out ?_
      · exact absurd hpos (by have h := S1.out; rw [show xs.length - (i + 1) = 0 by omega] at h; simp [Nat.min] at h; simp [h])
      · first | (have := S1.out; omega) | exact Nat.zero_min _
      intro w2 hbh2 hO2
      rw [HNEW.out] at hbh2
      have HB2 := Lib.hid (blk_only (blk_drew (blk_alloc HB1.out _)) hO2 (fun e => hbg.2 e.symm))
      have HBH2 := Lib.hid hbh2
      have c2 : w2.cell? ⟨g, 0, none⟩ = some (.slice (some ⟨b, 0, none⟩) xs.length c) := blk_cell HB2.out 0
      have f2 := blk_frozen HB2.out 0
      have hz2 := hO2.size
      simp at hz2
      have hbx := blk_only (blk_drew (blk_new w1 (.cells #[.int .i64 x.f0, .int .i64 x.f1, .string x.f2] 28))) hO2 (by omega)
      have hbz := blk_only (blk_drew (blk_alloc (blk_below (blk_new w (.cells #[.int .i64 0, .int .i64 0, .string ⟨#[]⟩] 28)) HBEL.out) (.cells #[.int .i64 x.f0, .int .i64 x.f1, .string x.f2] 28))) hO2 (by omega)
      have x0 : w2.cell? ⟨w1.heap.size, 0, none⟩ = some (.int .i64 x.f0) := blk_cell hbx 0
      have x1 : w2.cell? ⟨w1.heap.size, 1, none⟩ = some (.int .i64 x.f1) := blk_cell hbx 1
      have x2 : w2.cell? ⟨w1.heap.size, 2, none⟩ = some (.string x.f2) := blk_cell hbx 2
      have z0 : w2.cell? ⟨w.heap.size, 0, none⟩ = some (.int .i64 0) := blk_cell hbz 0
      have z1 : w2.cell? ⟨w.heap.size, 1, none⟩ = some (.int .i64 0) := blk_cell hbz 1
      have z2 : w2.cell? ⟨w.heap.size, 2, none⟩ = some (.string ⟨#[]⟩) := blk_cell hbz 2
      have y0 := blk_frozen hbz 0
      have y1 := blk_frozen hbz 1
      have y2 := blk_frozen hbz 2
      have HBZ := Lib.hid hbz
      clear hbx hbz
      have HO2 := Lib.hid hO2
      clear hbh2 hO2)
    all_goals
      have hx1 : IntKind.i64.wrap ((xs.length : Int) - 1) = (xs.length : Int) - 1 := IntWalk.i64_in _ (by omega)
      have hx2 : (0 : Int) ≤ (xs.length : Int) - 1 := by omega
      have hx3 : ((xs.length : Int) - 1).toNat = xs.length - 1 := by omega
      have hx4 : xs.length - 1 ≤ c := by omega
      have hx5 : (xs.length : Int) - 1 ≤ c := by omega
      go_wp2
      go_region
      go_wp2
      have n1 : g ≠ w.heap.size := by omega
      have n2 : b ≠ w.heap.size := by omega
      refine bodyPost_ret (v := .tuple #[v28 x, .bool true]) (by simp [results, Try.results9, go_sem, z0, z1, z2]) rfl ⟨rfl, ⟨hg, ?_, hokg, _, blk_drew (blk_far (blk_far (blk_far (blk_set HB2.out 0 _) n1 _) n1 _) n1 _), ?_, ?_⟩, ?_⟩
      · simp; omega
      · have hl : (xs.eraseIdx i).length = xs.length - 1 := by rw [List.length_eraseIdx, if_pos hi]
        refine ⟨by rw [flat_len], .inr ⟨b, c, new.toArray, by rw [hl, hci], hbb, blk_drew (blk_far (blk_far (blk_far (blk_far HBH2.out (p := ⟨g, 0, none⟩) hbg.2 _) n2 _) n2 _) n2 _), by omega, by unfold maxLen; omega, by simpa using S4.out, by rw [hl]; simpa using S5.out⟩⟩
      · rintro k hk
        cases hk
        exact hbg
      · have o1 := ((Only.refl ok w).alloc (.cells #[.int .i64 0, .int .i64 0, .string ⟨#[]⟩] 28)).trans (Only.of_below (S := fun _ => False) HBEL.out) (fun _ _ h => h.elim)
        have o2 := ((o1.alloc (.cells #[.int .i64 x.f0, .int .i64 x.f1, .string x.f2] 28)).drew).trans HO2.out (fun k _ hk => hk ▸ hbg.1)
        exact ((((o2.set (p := ⟨g, 0, none⟩) (.inl hokg) _).set (p := ⟨w.heap.size, 0, none⟩) (.inr (Nat.le_refl _)) _).set (p := ⟨w.heap.size, 1, none⟩) (.inr (Nat.le_refl _)) _).set (p := ⟨w.heap.size, 2, none⟩) (.inr (Nat.le_refl _)) _).drew
  · go_enter Try.func9, Try.ntmps9
    go_wp2_with (
      go_at_call 15
      refine (at_in _ base g ok xs lost i x HX.out (HI.out.only (S := fun _ => False) ((Only.refl _ w).alloc _) (fun _ _ h => h)) hmax hi).mono ?_
      rintro e w1 ⟨rfl, hbel⟩
      have HB1 := Lib.hid (blk_below (blk_alloc HB.out _) hbel)
      have HBH1 := Lib.hid (blk_below (blk_alloc HBH.out _) hbel)
      have c0 : w1.cell? ⟨g, 0, none⟩ = some (.slice (some ⟨b, 0, none⟩) xs.length c) := blk_cell HB1.out 0
      have f0 := blk_frozen HB1.out 0
      have HBEL := Lib.hid hbel
      have hsz := hbel.size
      simp at hsz
      have hg1 : g < w1.heap.size := by omega
      have hb1 : b < w1.heap.size := by omega
      clear hbel)
    have hw1 : IntKind.i64.wrap ((i : Int) + 1) = (i : Int) + 1 := IntWalk.i64_in _ (by omega)
    have hw2 : (0 : Int) ≤ (i : Int) + 1 := by omega
    have hw3 : ((i : Int) + 1).toNat = i + 1 := by omega
    have hw4 : i ≤ xs.length := by omega
    have hw5 : i + 1 ≤ xs.length := by omega
    have hw6 : (i : Int) ≤ xs.length := by omega
    have hw7 : (i : Int) + 1 ≤ xs.length := by omega
    have hw8 : ¬ c = i := by omega
    go_region_law (
      refine fr_copy_step rfl (.tmp 20) (.tmp 27) 22 22 28 3 rfl Try.underlying22 size28 (some ⟨b, i * 3, none⟩) (some ⟨b, (i + 1) * 3, none⟩) (xs.length - i) (c - i) (xs.length - (i + 1)) (c - (i + 1)) (by simp [Act.eval, Act.put]) (by simp [Act.eval, Act.put]) b (i * 3) cur.toList 28 (blk_drew (blk_alloc HBH1.out _)) cs S1.out (fun hpos => ⟨rfl, _, rfl, fun j u hu => ?_⟩) (fun h => ?_) S3.out S6.out ?_
      · (rw [addo]; refine (cell_of_row _ b _ cur 28 (0, 0) (blk_drew (blk_alloc HBH1.out _))).trans ?_; simpa using S2.out j u hu)
      · first | (have := S1.out; omega) | exact Nat.zero_min _
      intro w2 hbh2 hO2
      rw [HNEW.out] at hbh2
      have HB2 := Lib.hid (blk_only (blk_drew (blk_alloc HB1.out _)) hO2 (fun e => hbg.2 e.symm))
      have HBH2 := Lib.hid hbh2
      have c2 : w2.cell? ⟨g, 0, none⟩ = some (.slice (some ⟨b, 0, none⟩) xs.length c) := blk_cell HB2.out 0
      have f2 := blk_frozen HB2.out 0
      have hz2 := hO2.size
      simp at hz2
      have hbx := blk_only (blk_drew (blk_new w1 (.cells #[.int .i64 x.f0, .int .i64 x.f1, .string x.f2] 28))) hO2 (by omega)
      have hbz := blk_only (blk_drew (blk_alloc (blk_below (blk_new w (.cells #[.int .i64 0, .int .i64 0, .string ⟨#[]⟩] 28)) HBEL.out) (.cells #[.int .i64 x.f0, .int .i64 x.f1, .string x.f2] 28))) hO2 (by omega)
      have x0 : w2.cell? ⟨w1.heap.size, 0, none⟩ = some (.int .i64 x.f0) := blk_cell hbx 0
      have x1 : w2.cell? ⟨w1.heap.size, 1, none⟩ = some (.int .i64 x.f1) := blk_cell hbx 1
      have x2 : w2.cell? ⟨w1.heap.size, 2, none⟩ = some (.string x.f2) := blk_cell hbx 2
      have z0 : w2.cell? ⟨w.heap.size, 0, none⟩ = some (.int .i64 0) := blk_cell hbz 0
      have z1 : w2.cell? ⟨w.heap.size, 1, none⟩ = some (.int .i64 0) := blk_cell hbz 1
      have z2 : w2.cell? ⟨w.heap.size, 2, none⟩ = some (.string ⟨#[]⟩) := blk_cell hbz 2
      have y0 := blk_frozen hbz 0
      have y1 := blk_frozen hbz 1
      have y2 := blk_frozen hbz 2
      have HBZ := Lib.hid hbz
      clear hbx hbz
      have HO2 := Lib.hid hO2
      clear hbh2 hO2)
    all_goals
      have hx1 : IntKind.i64.wrap ((xs.length : Int) - 1) = (xs.length : Int) - 1 := IntWalk.i64_in _ (by omega)
      have hx2 : (0 : Int) ≤ (xs.length : Int) - 1 := by omega
      have hx3 : ((xs.length : Int) - 1).toNat = xs.length - 1 := by omega
      have hx4 : xs.length - 1 ≤ c := by omega
      have hx5 : (xs.length : Int) - 1 ≤ c := by omega
      go_wp2
      go_region
      go_wp2
      have n1 : g ≠ w.heap.size := by omega
      have n2 : b ≠ w.heap.size := by omega
      refine bodyPost_ret (v := .tuple #[v28 x, .bool true]) (by simp [results, Try.results9, go_sem, z0, z1, z2]) rfl ⟨rfl, ⟨hg, ?_, hokg, _, blk_drew (blk_far (blk_far (blk_far (blk_set HB2.out 0 _) n1 _) n1 _) n1 _), ?_, ?_⟩, ?_⟩
      · simp; omega
      · have hl : (xs.eraseIdx i).length = xs.length - 1 := by rw [List.length_eraseIdx, if_pos hi]
        refine ⟨by rw [flat_len], .inr ⟨b, c, new.toArray, by rw [hl], hbb, blk_drew (blk_far (blk_far (blk_far (blk_far HBH2.out (p := ⟨g, 0, none⟩) hbg.2 _) n2 _) n2 _) n2 _), by omega, by unfold maxLen; omega, by simpa using S4.out, by rw [hl]; simpa using S5.out⟩⟩
      · rintro k hk
        cases hk
        exact hbg
      · have o1 := ((Only.refl ok w).alloc (.cells #[.int .i64 0, .int .i64 0, .string ⟨#[]⟩] 28)).trans (Only.of_below (S := fun _ => False) HBEL.out) (fun _ _ h => h.elim)
        have o2 := ((o1.alloc (.cells #[.int .i64 x.f0, .int .i64 x.f1, .string x.f2] 28)).drew).trans HO2.out (fun k _ hk => hk ▸ hbg.1)
        exact ((((o2.set (p := ⟨g, 0, none⟩) (.inl hokg) _).set (p := ⟨w.heap.size, 0, none⟩) (.inr (Nat.le_refl _)) _).set (p := ⟨w.heap.size, 1, none⟩) (.inr (Nat.le_refl _)) _).set (p := ⟨w.heap.size, 2, none⟩) (.inr (Nat.le_refl _)) _).drew
end Go.Proofs.Ytabfngbdbflfaaa
