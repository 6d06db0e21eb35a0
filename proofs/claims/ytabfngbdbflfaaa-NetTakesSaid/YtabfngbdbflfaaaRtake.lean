/- The reference's Take. -/
import Derived.Test.YtabfngbdbflfaaaBag
namespace Go.Proofs.Ytabfngbdbflfaaa
open Go.RowKit Go.Proofs.YtabfngbdbflfaaaW.PrintWords Go.Proofs.YtabfngbdbflfaaaW.PrintLast Go.Proofs.Ytabfngbdbflfaaa.PNetKeeps
set_option linter.unusedVariables false
set_option linter.unusedSimpArgs false

set_option maxHeartbeats 400000 in
theorem take_out (w : World) (base g : Nat) (ok : Nat → Prop) (xs : List Env) (lost : Int) (i : Int) (hI : IsBag 46 base w ok g xs lost) (hmax : xs.length ≤ 256)
    (hi : inb xs i = false) :
    Calls Try.prog 9 #[.pointer (some ⟨g, 0, none⟩), .int .i64 i] w fun e w' =>
      e = .returned (.tuple #[v28 z28, .bool false]) ∧ Below w.heap.size w w' := by
  have HI := Lib.hid hI
  have HN := Lib.hid hi
  obtain ⟨hg, hlt, hokg, hrest⟩ := hI
  clear hrest hi
  go_enter Try.func9, Try.ntmps9
  go_wp2_with (
    go_at_call 15
    refine (at_out _ base g ok xs lost i (HI.out.only (S := fun _ => False) ((Only.refl _ w).alloc _) (fun _ _ h => h)) hmax HN.out).mono ?_
    rintro e w1 ⟨rfl, hbel⟩
    have hsz := hbel.size
    simp at hsz
    have hz := blk_below (blk_new w (.cells #[.int .i64 0, .int .i64 0, .string ⟨#[]⟩] 28)) hbel
    have z0 : w1.cell? ⟨w.heap.size, 0, none⟩ = some (.int .i64 0) := blk_cell hz 0
    have z1 : w1.cell? ⟨w.heap.size, 1, none⟩ = some (.int .i64 0) := blk_cell hz 1
    have z2 : w1.cell? ⟨w.heap.size, 2, none⟩ = some (.string ⟨#[]⟩) := blk_cell hz 2
    have y0 := blk_frozen hz 0
    have y1 := blk_frozen hz 1
    have y2 := blk_frozen hz 2
    have hzz : w.heap.size < w1.heap.size := by omega
    have HBEL := Lib.hid hbel
    have HZ := Lib.hid hz
    clear hbel hz)
  refine bodyPost_ret (v := .tuple #[v28 z28, .bool false]) (results_list (rs := [.cell 4 28, .tmp 5]) rfl (by simp) (.cell w.heap.size 28 _ (0, 0) _ rfl (blk_alloc (blk_set (blk_set (blk_set HZ.out 0 (.int .i64 0)) 1 (.int .i64 0)) 2 (.string ⟨#[]⟩)) _) Try.underlying28 rfl (by kernel_rfl) (.tmp .nil))) rfl ⟨rfl, ?_⟩
  refine Below.alloc ?_ (by simp; omega) _
  exact (((((Below.refl w.heap.size w).alloc (Nat.le_refl _) _).trans (HBEL.out.mono (by simp))).setCell (p := ⟨w.heap.size, 0, none⟩) (Nat.le_refl _) _).setCell (p := ⟨w.heap.size, 1, none⟩) (Nat.le_refl _) _).setCell (p := ⟨w.heap.size, 2, none⟩) (Nat.le_refl _) _
set_option maxHeartbeats 400000 in
theorem rtake_out (w : World) (base g : Nat) (ok : Nat → Prop) (xs : List Env) (lost : Int) (i : Int) (hI : IsBag 40 base w ok g xs lost) (hmax : xs.length ≤ 256)
    (hi : inb xs i = false) :
    Calls Try.prog 12 #[.pointer (some ⟨g, 0, none⟩), .int .i64 i] w fun e w' =>
      e = .returned (.tuple #[v28 z28, .bool false]) ∧ Below w.heap.size w w' := by
  have HI := Lib.hid hI
  have HN := Lib.hid hi
  obtain ⟨hg, hlt, hokg, hrest⟩ := hI
  clear hrest hi
  go_enter Try.func12, Try.ntmps12
  go_wp2_with (
    go_at_call 16
    refine (rat_out _ base g ok xs lost i (HI.out.only (S := fun _ => False) ((Only.refl _ w).alloc _) (fun _ _ h => h)) hmax HN.out).mono ?_
    rintro e w1 ⟨rfl, hbel⟩
    have hsz := hbel.size
    simp at hsz
    have hz := blk_below (blk_new w (.cells #[.int .i64 0, .int .i64 0, .string ⟨#[]⟩] 28)) hbel
    have z0 : w1.cell? ⟨w.heap.size, 0, none⟩ = some (.int .i64 0) := blk_cell hz 0
    have z1 : w1.cell? ⟨w.heap.size, 1, none⟩ = some (.int .i64 0) := blk_cell hz 1
    have z2 : w1.cell? ⟨w.heap.size, 2, none⟩ = some (.string ⟨#[]⟩) := blk_cell hz 2
    have y0 := blk_frozen hz 0
    have y1 := blk_frozen hz 1
    have y2 := blk_frozen hz 2
    have hzz : w.heap.size < w1.heap.size := by omega
    have HBEL := Lib.hid hbel
    have HZ := Lib.hid hz
    clear hbel hz)
  refine bodyPost_ret (v := .tuple #[v28 z28, .bool false]) (results_list (rs := [.cell 4 28, .tmp 5]) rfl (by simp) (.cell w.heap.size 28 _ (0, 0) _ rfl (blk_alloc (blk_set (blk_set (blk_set HZ.out 0 (.int .i64 0)) 1 (.int .i64 0)) 2 (.string ⟨#[]⟩)) _) Try.underlying28 rfl (by kernel_rfl) (.tmp .nil))) rfl ⟨rfl, ?_⟩
  refine Below.alloc ?_ (by simp; omega) _
  exact (((((Below.refl w.heap.size w).alloc (Nat.le_refl _) _).trans (HBEL.out.mono (by simp))).setCell (p := ⟨w.heap.size, 0, none⟩) (Nat.le_refl _) _).setCell (p := ⟨w.heap.size, 1, none⟩) (Nat.le_refl _) _).setCell (p := ⟨w.heap.size, 2, none⟩) (Nat.le_refl _) _

set_option maxHeartbeats 1000000 in
theorem rtake_in (w : World) (base g : Nat) (ok : Nat → Prop) (xs : List Env) (lost : Int) (i : Nat) (hI : IsBag 40 base w ok g xs lost) (hmax : xs.length ≤ 256)
    (hi : i < xs.length) :
    Calls Try.prog 12 #[.pointer (some ⟨g, 0, none⟩), .int .i64 i] w fun e w' =>
      e = .returned (.tuple #[v28 (xs.getD i z28), .bool true]) ∧ IsBag 40 base w' (fun k => ok k ∨ w.heap.size ≤ k) g (xs.eraseIdx i) lost ∧ Only ok w w' := by
  have HI := Lib.hid hI
  obtain ⟨hg, hlt, hokg, v, hb, hR, hv⟩ := hI
  obtain ⟨b, c, cur, rfl, hbb, hbh, hc, hcm, hcs, hcur⟩ := hR.some (by omega)
  have hbg := hv b rfl
  have hblt := blk_lt hbh
  have hbase : base ≤ w.heap.size := by omega
  obtain ⟨s1, s2, s3, s4, s5⟩ := shift_facts xs cur.toList c i hi hc (by simpa using hcs) hcur
  have s6 : ∀ (j : Nat) (u : Value), ((xs.take i).flatMap c28)[j]? = some u → cur.toList[j]? = some u := by
    intro j u hu
    rw [← flat_take xs i (by omega), ← hcur, List.take_take, List.getElem?_take] at hu
    split at hu
    · exact hu
    · cases hu
  obtain ⟨y1, hy1⟩ : ∃ y1, xs.take i = y1 := ⟨_, rfl⟩
  obtain ⟨y2, hy2⟩ : ∃ y2, xs.drop (i + 1) = y2 := ⟨_, rfl⟩
  have L1 := Lib.hid (show y1.length = i by rw [← hy1, List.length_take]; omega)
  have L2 := Lib.hid (show y2.length = xs.length - (i + 1) by rw [← hy2, List.length_drop])
  have HE := Lib.hid (show xs.eraseIdx i = y1 ++ y2 by rw [List.eraseIdx_eq_take_drop_succ, hy1, hy2])
  rw [hy2] at s2
  rw [hy1] at s6
  have S2 := Lib.hid s2
  have S6 := Lib.hid s6
  have HB := Lib.hid hb
  have HBH := Lib.hid hbh
  clear hR hb hv hbh hcur hcs s1 s2 s3 s4 s5 s6 hy1 hy2
  unfold maxLen at hcm
  obtain ⟨x, hx⟩ : ∃ x, xs.getD i z28 = x := ⟨_, rfl⟩
  rw [hx]
  have HX := Lib.hid hx
  clear hx
  go_enter Try.func12, Try.ntmps12
  go_wp2_with (
    go_at_call 16
    refine (rat_in _ base g ok xs lost i x HX.out (HI.out.only (S := fun _ => False) ((Only.refl _ w).alloc _) (fun _ _ h => h)) hmax hi).mono ?_
    rintro e w1 ⟨rfl, hbel⟩
    have HB1 := Lib.hid (blk_below (blk_alloc HB.out _) hbel)
    have HBH1 := Lib.hid (blk_below (blk_alloc HBH.out _) hbel)
    have c0 : w1.cell? ⟨g, 0, none⟩ = some (.slice (some ⟨b, 0, none⟩) xs.length c) := blk_cell HB1.out 0
    have f0 := blk_frozen HB1.out 0
    have HBEL := Lib.hid hbel
    have hsz := hbel.size
    simp at hsz
    have hg1 : g < w1.heap.size := by omega
    have hb1 : b < w1.heap.size := by omega
    clear hbel)
  have hw1 : IntKind.i64.wrap ((i : Int) + 1) = (i : Int) + 1 := IntWalk.i64_in _ (by omega)
  have hw2 : (0 : Int) ≤ (i : Int) + 1 := by omega
  have hw3 : ((i : Int) + 1).toNat = i + 1 := by omega
  have hw4 : i ≤ c := by omega
  have hw5 : i + 1 ≤ xs.length := by omega
  have hw6 : (i : Int) ≤ c := by omega
  have hw7 : (i : Int) + 1 ≤ xs.length := by omega
  by_cases hci : c = i + 1
  · have hn1 : xs.length ≤ i + 1 := by omega
    have hw9 : (i : Int) ≤ (i : Int) + 1 := by omega
    have hw10 : i ≤ i + 1 := by omega
    go_region_law (first
      | (refine fr_rows_step (c := c28) (xs := []) (ys := y1) rfl base (.tmp 16) (.tmp 22) 22 28 (.agg #[.int .i64 0, .int .i64 0, .string ByteArray.empty]) 3 32 rfl Try.underlying22 info28 rfl (by decide) (.slice (some ⟨w1.heap.size + 1, 0, none⟩) 0 0) (by simp [Act.eval, Act.put]) (some ⟨b, 0, none⟩) (i + 1) (by simp [Act.eval, Act.put, L1.out]) c28_len c28_one (fun _ => ⟨_, rfl, fun j u hu => ?_⟩) ?_ (by simp; omega) (by unfold maxLen; have := L1.out; simp; omega) (by have := L1.out; simp; omega) ?_
         · rw [addo]
           refine (cell_of_row _ b _ cur 28 (0, 0) (blk_drew (blk_alloc (blk_alloc HBH1.out _) _))).trans ?_
           simpa using S6.out j u hu
         · exact ⟨rfl, .inr ⟨_, 0, #[], rfl, by omega, blk_drew (blk_newAt _ _ (by simp)), by simp, by simp, by simp, by simp⟩⟩
         intro A1 cap1 w2 hF1 hO1 hat1
         rw [show ([] : List Env).length + y1.length = i from by rw [List.length_nil, Nat.zero_add]; exact L1.out] at hF1 hat1 ⊢
         have HB2 := Lib.hid (blk_only (blk_drew (blk_alloc (blk_alloc HB1.out _) _)) hO1 (fun e => by simp [Value.ownBlock] at e; omega))
         have HBH2 := Lib.hid (blk_only (blk_drew (blk_alloc (blk_alloc HBH1.out _) _)) hO1 (fun e => by simp [Value.ownBlock] at e; omega))
         have hbx := blk_only (blk_drew (blk_alloc (blk_new w1 (.cells #[.int .i64 x.f0, .int .i64 x.f1, .string x.f2] 28)) _)) hO1 (fun e => by simp [Value.ownBlock] at e)
         have hbz := blk_only (blk_drew (blk_alloc (blk_alloc (blk_below (blk_new w (.cells #[.int .i64 0, .int .i64 0, .string ⟨#[]⟩] 28)) HBEL.out) (.cells #[.int .i64 x.f0, .int .i64 x.f1, .string x.f2] 28)) _)) hO1 (fun e => by simp [Value.ownBlock] at e; omega)
         have c2 : w2.cell? ⟨g, 0, none⟩ = some (.slice (some ⟨b, 0, none⟩) xs.length c) := blk_cell HB2.out 0
         have f2 := blk_frozen HB2.out 0
         have HBX := Lib.hid hbx
         have HBZ := Lib.hid hbz
         have HF1 := Lib.hid hF1
         have HO1 := Lib.hid hO1
         have HAT1 := Lib.hid hat1
         have hsz2 := HO1.out.size
         simp at hsz2
         clear hbx hbz hF1 hO1 hat1)
      | (refine fr_rows_step (c := c28) (xs := y1) (ys := y2) rfl base (.tmp 23) (.tmp 30) 22 28 (.agg #[.int .i64 0, .int .i64 0, .string ByteArray.empty]) 3 32 rfl Try.underlying22 info28 rfl (by decide) (.slice A1 i cap1) (by simp [Act.eval, Act.put]) (some ⟨b, 0, none⟩) 0 (by simp [Act.eval, Act.put, L2.out]; omega) c28_len c28_one (fun hpos => ⟨_, rfl, fun j u hu => ?_⟩) (HF1.out.move (fun _ _ => rfl)) (by omega) (by unfold maxLen; have := L1.out; have := L2.out; omega) (by have := L1.out; have := L2.out; omega) ?_
         · exact absurd hpos (by have := L2.out; omega)
         intro A2 cap2 w3 hF2 hO2 hat2
         rw [show y1.length + y2.length = xs.length - 1 from by rw [L1.out, L2.out]; omega] at hF2 hat2 ⊢
         have hd2 : ∀ k, k ≤ w1.heap.size → ¬ (Value.slice A1 i cap1).ownBlock = some k := by
           intro k hk e
           rcases HAT1.out k e with h | h
           · have h' : w1.heap.size + 1 = k := by simpa [Value.ownBlock] using h
             omega
           · have h' : k = w1.heap.size + 1 + 1 := by simpa using h
             omega
         have HAT2 : Hid (∀ k, (Value.slice A2 (xs.length - 1) cap2).ownBlock = some k → w.heap.size ≤ k ∧ k ≠ w.heap.size) := by
           intro k e
           rcases hat2 k e with h | h
           · have : ¬ k ≤ w1.heap.size := fun hk => hd2 k hk h
             omega
           · omega
         have HB3 := Lib.hid (blk_only HB2.out hO2 (hd2 g (by omega)))
         have hbx := blk_only HBX.out hO2 (hd2 _ (by omega))
         have hbz := blk_only HBZ.out hO2 (hd2 _ (by omega))
         have c3 : w3.cell? ⟨g, 0, none⟩ = some (.slice (some ⟨b, 0, none⟩) xs.length c) := blk_cell HB3.out 0
         have f3 := blk_frozen HB3.out 0
         have x0 : w3.cell? ⟨w1.heap.size, 0, none⟩ = some (.int .i64 x.f0) := blk_cell hbx 0
         have x1 : w3.cell? ⟨w1.heap.size, 1, none⟩ = some (.int .i64 x.f1) := blk_cell hbx 1
         have x2 : w3.cell? ⟨w1.heap.size, 2, none⟩ = some (.string x.f2) := blk_cell hbx 2
         have z0 : w3.cell? ⟨w.heap.size, 0, none⟩ = some (.int .i64 0) := blk_cell hbz 0
         have z1 : w3.cell? ⟨w.heap.size, 1, none⟩ = some (.int .i64 0) := blk_cell hbz 1
         have z2 : w3.cell? ⟨w.heap.size, 2, none⟩ = some (.string ⟨#[]⟩) := blk_cell hbz 2
         have y0 := blk_frozen hbz 0
         have y1' := blk_frozen hbz 1
         have y2' := blk_frozen hbz 2
         have hz3 := hO2.size
         have HBZ3 := Lib.hid hbz
         have HF2 := Lib.hid hF2
         have HO2 := Lib.hid (hO2.mono (S' := fun k => w.heap.size ≤ k) (fun k hk => by
           have : ¬ k ≤ w1.heap.size := fun h => hd2 k h hk
           omega))
         clear hd2 hat2 hbx hbz hF2 hO2)
      )
    all_goals
      go_wp2
      have n1 : g ≠ w.heap.size := by omega
      refine bodyPost_ret (v := .tuple #[v28 x, .bool true]) (by simp [results, Try.results12, go_sem, z0, z1, z2]) rfl ⟨rfl, ⟨hg, ?_, .inl hokg, _, (blk_far (blk_far (blk_far (blk_set HB3.out 0 _) n1 _) n1 _) n1 _), ?_, ?_⟩, ?_⟩
      · simp; omega
      · rw [HE.out]
        have hl : (y1 ++ y2).length = xs.length - 1 := by rw [List.length_append, L1.out, L2.out]; omega
        have hne : ∀ k, (Value.slice A2 (xs.length - 1) cap2).ownBlock = some k → k ≠ g ∧ k ≠ w.heap.size := fun k hk => by
          have := HAT2.out k hk
          omega
        exact HF2.out.move (fun k hk => by
          rw [Below.heap_setCell _ _ _ _ (hne k hk).2, Below.heap_setCell _ _ _ _ (hne k hk).2, Below.heap_setCell _ _ _ _ (hne k hk).2, Below.heap_setCell _ _ _ _ (hne k hk).1])
      · intro k hk
        have := HAT2.out k hk
        exact ⟨.inr this.1, by omega⟩
      · have o1 := ((Only.refl ok w).alloc (.cells #[.int .i64 0, .int .i64 0, .string ⟨#[]⟩] 28)).trans (Only.of_below (S := fun _ => False) HBEL.out) (fun _ _ h => h.elim)
        have o2 := (((o1.alloc (.cells #[.int .i64 x.f0, .int .i64 x.f1, .string x.f2] 28)).alloc (.cells #[] 28)).drew).trans HO1.out (fun k hk e => by
          have : w1.heap.size + 1 = k := by simpa [Value.ownBlock] using e
          omega)
        have o3 := o2.trans HO2.out (fun k hk e => by omega)
        exact ((((o3.set (p := ⟨g, 0, none⟩) (.inl hokg) _).set (p := ⟨w.heap.size, 0, none⟩) (.inr (Nat.le_refl _)) _).set (p := ⟨w.heap.size, 1, none⟩) (.inr (Nat.le_refl _)) _).set (p := ⟨w.heap.size, 2, none⟩) (.inr (Nat.le_refl _)) _)
  · skip
    go_region_law (first
      | (refine fr_rows_step (c := c28) (xs := []) (ys := y1) rfl base (.tmp 16) (.tmp 22) 22 28 (.agg #[.int .i64 0, .int .i64 0, .string ByteArray.empty]) 3 32 rfl Try.underlying22 info28 rfl (by decide) (.slice (some ⟨w1.heap.size + 1, 0, none⟩) 0 0) (by simp [Act.eval, Act.put]) (some ⟨b, 0, none⟩) c (by simp [Act.eval, Act.put, L1.out]) c28_len c28_one (fun _ => ⟨_, rfl, fun j u hu => ?_⟩) ?_ (by simp; omega) (by unfold maxLen; have := L1.out; simp; omega) (by have := L1.out; simp; omega) ?_
         · rw [addo]
           refine (cell_of_row _ b _ cur 28 (0, 0) (blk_drew (blk_alloc (blk_alloc HBH1.out _) _))).trans ?_
           simpa using S6.out j u hu
         · exact ⟨rfl, .inr ⟨_, 0, #[], rfl, by omega, blk_drew (blk_newAt _ _ (by simp)), by simp, by simp, by simp, by simp⟩⟩
         intro A1 cap1 w2 hF1 hO1 hat1
         rw [show ([] : List Env).length + y1.length = i from by rw [List.length_nil, Nat.zero_add]; exact L1.out] at hF1 hat1 ⊢
         have HB2 := Lib.hid (blk_only (blk_drew (blk_alloc (blk_alloc HB1.out _) _)) hO1 (fun e => by simp [Value.ownBlock] at e; omega))
         have HBH2 := Lib.hid (blk_only (blk_drew (blk_alloc (blk_alloc HBH1.out _) _)) hO1 (fun e => by simp [Value.ownBlock] at e; omega))
         have hbx := blk_only (blk_drew (blk_alloc (blk_new w1 (.cells #[.int .i64 x.f0, .int .i64 x.f1, .string x.f2] 28)) _)) hO1 (fun e => by simp [Value.ownBlock] at e)
         have hbz := blk_only (blk_drew (blk_alloc (blk_alloc (blk_below (blk_new w (.cells #[.int .i64 0, .int .i64 0, .string ⟨#[]⟩] 28)) HBEL.out) (.cells #[.int .i64 x.f0, .int .i64 x.f1, .string x.f2] 28)) _)) hO1 (fun e => by simp [Value.ownBlock] at e; omega)
         have c2 : w2.cell? ⟨g, 0, none⟩ = some (.slice (some ⟨b, 0, none⟩) xs.length c) := blk_cell HB2.out 0
         have f2 := blk_frozen HB2.out 0
         have HBX := Lib.hid hbx
         have HBZ := Lib.hid hbz
         have HF1 := Lib.hid hF1
         have HO1 := Lib.hid hO1
         have HAT1 := Lib.hid hat1
         have hsz2 := HO1.out.size
         simp at hsz2
         clear hbx hbz hF1 hO1 hat1)
      | (refine fr_rows_step (c := c28) (xs := y1) (ys := y2) rfl base (.tmp 23) (.tmp 30) 22 28 (.agg #[.int .i64 0, .int .i64 0, .string ByteArray.empty]) 3 32 rfl Try.underlying22 info28 rfl (by decide) (.slice A1 i cap1) (by simp [Act.eval, Act.put]) (some ⟨b, (i + 1) * 3, none⟩) (c - (i + 1)) (by simp [Act.eval, Act.put, L2.out]) c28_len c28_one (fun hpos => ⟨_, rfl, fun j u hu => ?_⟩) (HF1.out.move (fun _ _ => rfl)) (by omega) (by unfold maxLen; have := L1.out; have := L2.out; omega) (by have := L1.out; have := L2.out; omega) ?_
         · (rw [addo]; refine (cell_of_row _ b _ cur 28 (0, 0) HBH2.out).trans ?_; simpa using S2.out j u hu)
         intro A2 cap2 w3 hF2 hO2 hat2
         rw [show y1.length + y2.length = xs.length - 1 from by rw [L1.out, L2.out]; omega] at hF2 hat2 ⊢
         have hd2 : ∀ k, k ≤ w1.heap.size → ¬ (Value.slice A1 i cap1).ownBlock = some k := by
           intro k hk e
           rcases HAT1.out k e with h | h
           · have h' : w1.heap.size + 1 = k := by simpa [Value.ownBlock] using h
             omega
           · have h' : k = w1.heap.size + 1 + 1 := by simpa using h
             omega
         have HAT2 : Hid (∀ k, (Value.slice A2 (xs.length - 1) cap2).ownBlock = some k → w.heap.size ≤ k ∧ k ≠ w.heap.size) := by
           intro k e
           rcases hat2 k e with h | h
           · have : ¬ k ≤ w1.heap.size := fun hk => hd2 k hk h
             omega
           · omega
         have HB3 := Lib.hid (blk_only HB2.out hO2 (hd2 g (by omega)))
         have hbx := blk_only HBX.out hO2 (hd2 _ (by omega))
         have hbz := blk_only HBZ.out hO2 (hd2 _ (by omega))
         have c3 : w3.cell? ⟨g, 0, none⟩ = some (.slice (some ⟨b, 0, none⟩) xs.length c) := blk_cell HB3.out 0
         have f3 := blk_frozen HB3.out 0
         have x0 : w3.cell? ⟨w1.heap.size, 0, none⟩ = some (.int .i64 x.f0) := blk_cell hbx 0
         have x1 : w3.cell? ⟨w1.heap.size, 1, none⟩ = some (.int .i64 x.f1) := blk_cell hbx 1
         have x2 : w3.cell? ⟨w1.heap.size, 2, none⟩ = some (.string x.f2) := blk_cell hbx 2
         have z0 : w3.cell? ⟨w.heap.size, 0, none⟩ = some (.int .i64 0) := blk_cell hbz 0
         have z1 : w3.cell? ⟨w.heap.size, 1, none⟩ = some (.int .i64 0) := blk_cell hbz 1
         have z2 : w3.cell? ⟨w.heap.size, 2, none⟩ = some (.string ⟨#[]⟩) := blk_cell hbz 2
         have y0 := blk_frozen hbz 0
         have y1' := blk_frozen hbz 1
         have y2' := blk_frozen hbz 2
         have hz3 := hO2.size
         have HBZ3 := Lib.hid hbz
         have HF2 := Lib.hid hF2
         have HO2 := Lib.hid (hO2.mono (S' := fun k => w.heap.size ≤ k) (fun k hk => by
           have : ¬ k ≤ w1.heap.size := fun h => hd2 k h hk
           omega))
         clear hd2 hat2 hbx hbz hF2 hO2)
      )
    all_goals
      go_wp2
      have n1 : g ≠ w.heap.size := by omega
      refine bodyPost_ret (v := .tuple #[v28 x, .bool true]) (by simp [results, Try.results12, go_sem, z0, z1, z2]) rfl ⟨rfl, ⟨hg, ?_, .inl hokg, _, (blk_far (blk_far (blk_far (blk_set HB3.out 0 _) n1 _) n1 _) n1 _), ?_, ?_⟩, ?_⟩
      · simp; omega
      · rw [HE.out]
        have hl : (y1 ++ y2).length = xs.length - 1 := by rw [List.length_append, L1.out, L2.out]; omega
        have hne : ∀ k, (Value.slice A2 (xs.length - 1) cap2).ownBlock = some k → k ≠ g ∧ k ≠ w.heap.size := fun k hk => by
          have := HAT2.out k hk
          omega
        exact HF2.out.move (fun k hk => by
          rw [Below.heap_setCell _ _ _ _ (hne k hk).2, Below.heap_setCell _ _ _ _ (hne k hk).2, Below.heap_setCell _ _ _ _ (hne k hk).2, Below.heap_setCell _ _ _ _ (hne k hk).1])
      · intro k hk
        have := HAT2.out k hk
        exact ⟨.inr this.1, by omega⟩
      · have o1 := ((Only.refl ok w).alloc (.cells #[.int .i64 0, .int .i64 0, .string ⟨#[]⟩] 28)).trans (Only.of_below (S := fun _ => False) HBEL.out) (fun _ _ h => h.elim)
        have o2 := (((o1.alloc (.cells #[.int .i64 x.f0, .int .i64 x.f1, .string x.f2] 28)).alloc (.cells #[] 28)).drew).trans HO1.out (fun k hk e => by
          have : w1.heap.size + 1 = k := by simpa [Value.ownBlock] using e
          omega)
        have o3 := o2.trans HO2.out (fun k hk e => by omega)
        exact ((((o3.set (p := ⟨g, 0, none⟩) (.inl hokg) _).set (p := ⟨w.heap.size, 0, none⟩) (.inr (Nat.le_refl _)) _).set (p := ⟨w.heap.size, 1, none⟩) (.inr (Nat.le_refl _)) _).set (p := ⟨w.heap.size, 2, none⟩) (.inr (Nat.le_refl _)) _)
end Go.Proofs.Ytabfngbdbflfaaa
