/- TxKinds: the walk and the plain law. -/
import Derived.Test.YtndicjikjcifaaaDoorTxworks
import Derived.Test.YtndicjikjcifaaaDoorTxown
namespace Go.Proofs.YtndicjikjcifaaaDoor
open Go.RowKit Go.Shelf Go.Lib Go.Proofs.YtndicjikjcifaaaDoorW.PrintWords Go.Proofs.YtndicjikjcifaaaDoorW.PrintLast
set_option linter.unusedVariables false
set_option linter.unusedSimpArgs false

theorem nm_nil {s : ByteArray} (h : s.toList.isEmpty = true) : nm s = false := by
  have := empty_size h
  cases hn : nm s with
  | false => rfl
  | true => exact absurd this (of_decide_eq_true hn).1
theorem ch_other {k : Int} {f t : ByteArray} {am nc : Int} {ky' vl : ByteArray} {rs ws : List ByteArray} (h : ch k f t am nc ky' vl rs ws = 0) :
    (k = 1 ∧ ch 2 f t am nc ky' vl rs ws = 3) ∨ (k = 2 ∧ ch 1 f t am nc ky' vl rs ws = 3) := by
  have hF : chF k f t ky' vl am = 0 := by
    unfold ch at h
    split at h
    · assumption
    · exact absurd h (by assumption)
  rcases (ch_fine h).k with rfl | rfl
  · left
    refine ⟨rfl, ?_⟩
    have hk : ky'.toList.isEmpty = true := by
      cases hk : ky'.toList.isEmpty with
      | true => rfl
      | false => simp [chF, hk] at hF
    simp [ch, chF, nm_nil hk]
  · right
    refine ⟨rfl, ?_⟩
    have hk : t.toList.isEmpty = true := by
      cases hk : t.toList.isEmpty with
      | true => rfl
      | false => simp [chF, hk] at hF
    simp [ch, chF, nm_nil hk]
theorem ch_none (f t : ByteArray) (am nc : Int) (ky' vl : ByteArray) (rs ws : List ByteArray) : ch 3 f t am nc ky' vl rs ws = 5 := by
  simp [ch, chF]
theorem Bq.set0 {w W : World} {b0 b1 b2 b3 b4 b5 b6 b7 b8 : Value} (h : Bq w #[b0, b1, b2, b3, b4, b5, b6, b7, b8] W) (v : Value) : Bq w #[v, b1, b2, b3, b4, b5, b6, b7, b8] (W.setCell ⟨w.heap.size, 0, none⟩ v) :=
  ⟨h.low.setCell (by simp) v, by simpa using blk_set h.box 0 v⟩
theorem chkX (k : Int) (f t : ByteArray) (am nc : Int) (ky' vl : ByteArray) (A B : Option Addr) (c d : Nat) (rs ws : List ByteArray) (w : World) (x : Int) (hx : ch k f t am nc ky' vl rs ws = x)
    (hr : Kd.C Kd.string w A rs.length rs) (hc : rs.length ≤ c) (hs : Kd.C Kd.string w B ws.length ws) (hd : ws.length ≤ d) :
    Calls Tryd.prog 41 #[.agg #[.int .i64 k, .string f, .string t, .int .u64 am, .int .u64 nc, .string ky', .string vl, .slice A rs.length c, .slice B ws.length d]] w
      fun e w' => e = .returned (.int .i64 x) ∧ Below w.heap.size w w' := by
  subst hx
  exact chk_calls k f t am nc ky' vl A B c d rs ws w hr hc hs hd
set_option maxHeartbeats 8000000 in
set_option maxRecDepth 100000 in
theorem kinds_calls (k : Int) (f t : ByteArray) (am nc : Int) (ky' vl : ByteArray) (A B : Option Addr) (c d : Nat) (rs ws : List ByteArray) (w : World) (ht : TxIn w k f t am nc ky' vl A B c d rs ws) :
    Calls Tryd.prog 14 #[.agg #[.int .i64 k, .string f, .string t, .int .u64 am, .int .u64 nc, .string ky', .string vl, .slice A rs.length c, .slice B ws.length d]] w
      fun e w' => e = .returned (.bool true) ∧ Below w.heap.size w w' := by
  have hown := Lib.hid (fun W (hb : Below w.heap.size w W) => own_calls k f t am nc ky' vl A B c d rs ws W (Kd.C_below ht.r hb) ht.rc (Kd.C_below ht.s hb) ht.sc (by have := ht.rl; omega) (by have := ht.sl; omega))
  clear ht
  obtain ⟨x, hx⟩ : ∃ x, ch k f t am nc ky' vl rs ws = x := ⟨_, rfl⟩
  by_cases h0 : x = 0
  case neg =>
    have n1 : (x != 0) = true := by simpa using h0
    have HC := Lib.hid hx
    clear h0 hx
    go_enter Tryd.func14, Tryd.ntmps14
    have HX := Lib.hid (Bq.first w #[.int .i64 k, .string f, .string t, .int .u64 am, .int .u64 nc, .string ky', .string vl, .slice A rs.length c, .slice B ws.length d])
    go_wp2_with (first
      | (go_at_call 48
         go_must (refine (works_calls _).mono ?_)
         rintro e w2 ⟨rfl, hB⟩
         have HX := Lib.hid (HX.out.step hB)
         have e0 := blk_cell HX.out.box 0
         have e1 := blk_cell HX.out.box 1
         have e2 := blk_cell HX.out.box 2
         have e3 := blk_cell HX.out.box 3
         have e4 := blk_cell HX.out.box 4
         have e5 := blk_cell HX.out.box 5
         have e6 := blk_cell HX.out.box 6
         have e7 := blk_cell HX.out.box 7
         have e8 := blk_cell HX.out.box 8
         simp only [List.getElem?_toArray, List.getElem?_cons_zero, List.getElem?_cons_succ] at e0 e1 e2 e3 e4 e5 e6 e7 e8
         clear hB)
      | (go_at_call 19
         go_must (refine (hown.out _ HX.out.low).mono ?_)
         rintro e w2 ⟨A', c', B', d', rfl, h7, h8, hB⟩
         have HX := Lib.hid (HX.out.step hB)
         have H7 := Lib.hid h7
         have H8 := Lib.hid h8
         clear hB h7 h8)
      | (go_at_call 41
         go_must (refine (chk_calls k f t am nc ky' vl A' B' c' d' rs ws _ H7.out.1 H7.out.2 H8.out.1 H8.out.2).mono ?_)
         rw [HC.out]
         rintro e w2 ⟨rfl, hB⟩
         have HX := Lib.hid (HX.out.step hB)
         clear hB))
    go_ret
    exact ⟨rfl, HX.out.low⟩
  subst h0
  have hm : ∃ m, IntKind.i64.wrap (3 - k) = m ∧ ch m f t am nc ky' vl rs ws = 3 := by
    rcases ch_other hx with ⟨rfl, h⟩ | ⟨rfl, h⟩
    · exact ⟨2, by decide, h⟩
    · exact ⟨1, by decide, h⟩
  obtain ⟨m, wm, hm⟩ := hm
  have HC := Lib.hid hx
  have HM := Lib.hid hm
  have HN := Lib.hid (ch_none f t am nc ky' vl rs ws)
  clear hx hm
  go_enter Tryd.func14, Tryd.ntmps14
  have HX := Lib.hid (Bq.first w #[.int .i64 k, .string f, .string t, .int .u64 am, .int .u64 nc, .string ky', .string vl, .slice A rs.length c, .slice B ws.length d])
  go_upto_region 6 with (first
    | (go_at_call 48
       go_must (refine (works_calls _).mono ?_)
       rintro e w2 ⟨rfl, hB⟩
       have HX := Lib.hid (HX.out.step hB)
       have e0 := blk_cell HX.out.box 0
       have e1 := blk_cell HX.out.box 1
       have e2 := blk_cell HX.out.box 2
       have e3 := blk_cell HX.out.box 3
       have e4 := blk_cell HX.out.box 4
       have e5 := blk_cell HX.out.box 5
       have e6 := blk_cell HX.out.box 6
       have e7 := blk_cell HX.out.box 7
       have e8 := blk_cell HX.out.box 8
       simp only [List.getElem?_toArray, List.getElem?_cons_zero, List.getElem?_cons_succ] at e0 e1 e2 e3 e4 e5 e6 e7 e8
       clear hB)
    | (go_at_call 19
       go_must (refine (hown.out _ HX.out.low).mono ?_)
       rintro e w2 ⟨A', c', B', d', rfl, h7, h8, hB⟩
       have HX := Lib.hid (HX.out.step hB)
       have H7 := Lib.hid h7
       have H8 := Lib.hid h8
       have e0 := blk_cell HX.out.box 0
       have e1 := blk_cell HX.out.box 1
       have e2 := blk_cell HX.out.box 2
       have e3 := blk_cell HX.out.box 3
       have e4 := blk_cell HX.out.box 4
       have e5 := blk_cell HX.out.box 5
       have e6 := blk_cell HX.out.box 6
       have e7 := blk_cell HX.out.box 7
       have e8 := blk_cell HX.out.box 8
       simp only [List.getElem?_toArray, List.getElem?_cons_zero, List.getElem?_cons_succ] at e0 e1 e2 e3 e4 e5 e6 e7 e8
       clear hB h7 h8)
    | (go_at_call 41
       go_must (refine (chk_calls k f t am nc ky' vl A' B' c' d' rs ws _ H7.out.1 H7.out.2 H8.out.1 H8.out.2).mono ?_)
       rw [HC.out]
       rintro e w2 ⟨rfl, hB⟩
       have HX := Lib.hid (HX.out.step hB)
       have e0 := blk_cell HX.out.box 0
       have e1 := blk_cell HX.out.box 1
       have e2 := blk_cell HX.out.box 2
       have e3 := blk_cell HX.out.box 3
       have e4 := blk_cell HX.out.box 4
       have e5 := blk_cell HX.out.box 5
       have e6 := blk_cell HX.out.box 6
       have e7 := blk_cell HX.out.box 7
       have e8 := blk_cell HX.out.box 8
       simp only [List.getElem?_toArray, List.getElem?_cons_zero, List.getElem?_cons_succ] at e0 e1 e2 e3 e4 e5 e6 e7 e8
       clear hB))
  have hne : w.heap.size ≠ w2.heap.size := Nat.ne_of_lt (blk_lt HX.out.box)
  have hle0 := HX.out.low.size
  refine at_world (F := fun W => Bq w #[.int .i64 k, .string f, .string t, .int .u64 am, .int .u64 nc, .string ky', .string vl, .slice A rs.length c, .slice B ws.length d] W ∧ Bq w2 #[.int .i64 k, .string f, .string t, .int .u64 am, .int .u64 nc, .string ky', .string vl, .slice A' rs.length c', .slice B' ws.length d'] W) ⟨HX.out.step ((Below.refl _ _).alloc (Nat.le_refl _) _), Bq.first _ _⟩ ?_
  clear HX e0 e1 e2 e3 e4 e5 e6 e7 e8
  rintro W ⟨hx, hy⟩
  have HX := Lib.hid hx
  have HY := Lib.hid hy
  have l7 : rs.length ≤ c' := H7.out.2
  have l8 : ws.length ≤ d' := H8.out.2
  have H7 := Lib.hid (fun W (h : Below w2.heap.size w2 W) => Kd.C_below H7.out.1 h)
  have H8 := Lib.hid (fun W (h : Below w2.heap.size w2 W) => Kd.C_below H8.out.1 h)
  clear hx hy
  have x0 := blk_cell HX.out.box 0
  have HL := Lib.hid HX.out.low
  have hle : w.heap.size ≤ w2.heap.size := hle0
  have e0 := blk_cell HY.out.box 0
  have e1 := blk_cell HY.out.box 1
  have e2 := blk_cell HY.out.box 2
  have e3 := blk_cell HY.out.box 3
  have e4 := blk_cell HY.out.box 4
  have e5 := blk_cell HY.out.box 5
  have e6 := blk_cell HY.out.box 6
  have e7 := blk_cell HY.out.box 7
  have e8 := blk_cell HY.out.box 8
  simp only [List.getElem?_toArray, List.getElem?_cons_zero, List.getElem?_cons_succ] at e0 e1 e2 e3 e4 e5 e6 e7 e8
  have z0 := blk_frozen HY.out.box 0
  simp only [List.getElem?_toArray, List.getElem?_cons_zero, List.getElem?_cons_succ] at x0
  have HZ := Lib.hid (HY.out.set0 (.int .i64 m))
  go_wp2_with (first
    | (go_at_call 41
       first
         | (with_reducible refine (chkX m f t am nc ky' vl A' B' c' d' rs ws _ 3 HM.out (H7.out _ HZ.out.low) l7 (H8.out _ HZ.out.low) l8).mono ?_
            rintro e w3 ⟨rfl, hB⟩
            have HY := Lib.hid (HZ.out.step hB))
         | (with_reducible refine (chkX 3 f t am nc ky' vl A' B' c' d' rs ws _ 5 HN.out (H7.out _ (HY.out.set0 _).low) l7 (H8.out _ (HY.out.set0 _).low) l8).mono ?_
            rintro e w3 ⟨rfl, hB⟩
            have HY := Lib.hid ((HY.out.set0 _).step hB))
       have HL := Lib.hid (below_then (HL.out.setCell (p := ⟨w2.heap.size, 0, none⟩) hle _) (HL.out.setCell (p := ⟨w2.heap.size, 0, none⟩) hle _).size hB)
       have e0 := blk_cell HY.out.box 0
       have e1 := blk_cell HY.out.box 1
       have e2 := blk_cell HY.out.box 2
       have e3 := blk_cell HY.out.box 3
       have e4 := blk_cell HY.out.box 4
       have e5 := blk_cell HY.out.box 5
       have e6 := blk_cell HY.out.box 6
       have e7 := blk_cell HY.out.box 7
       have e8 := blk_cell HY.out.box 8
       simp only [List.getElem?_toArray, List.getElem?_cons_zero, List.getElem?_cons_succ] at e0 e1 e2 e3 e4 e5 e6 e7 e8
       have z0 := blk_frozen HY.out.box 0
       clear hB))
  go_ret
  exact ⟨rfl, HL.out⟩
end Go.Proofs.YtndicjikjcifaaaDoor
