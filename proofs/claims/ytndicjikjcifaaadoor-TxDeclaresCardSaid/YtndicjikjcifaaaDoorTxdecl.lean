/- TxDeclares: the walk and the plain law. -/
import Derived.Test.YtndicjikjcifaaaDoorTxnames
import Derived.Test.YtndicjikjcifaaaDoorTxkinds
namespace Go.Proofs.YtndicjikjcifaaaDoor
open Go.RowKit Go.Shelf Go.Lib Go.Proofs.YtndicjikjcifaaaDoorW.PrintWords Go.Proofs.YtndicjikjcifaaaDoorW.PrintLast
set_option linter.unusedVariables false
set_option linter.unusedSimpArgs false

theorem ky_nA (s : ByteArray) : ky (nA s) = nm s := ky_app 97 (.inl rfl) s
theorem ky_nK (s : ByteArray) : ky (nK s) = nm s := ky_app 107 (.inr rfl) s
theorem lts_irr (x y : ByteArray) (h : lts x y = true) : x.data.toList ≠ y.data.toList := by
  intro e
  rw [lts, Lib.toList_data, Lib.toList_data, e] at h
  have := leq_not y.data.toList y.data.toList
  rw [h] at this
  simp at this
theorem pair_form (a b : ByteArray) (ha : ky a = true) (hb : ky b = true) : ∃ x, ky x = true ∧ (one2 (mn a b) (mx a b) = [x] ∨ ∃ y, ky y = true ∧ lts x y = true ∧ one2 (mn a b) (mx a b) = [x, y]) := by
  unfold mn mx one2
  cases h : lts b a with
  | true =>
    have hne := lts_irr b a h
    refine ⟨b, hb, .inr ⟨a, ha, h, ?_⟩⟩
    rw [if_pos rfl, if_pos rfl, if_neg (by rw [Lib.toList_data, Lib.toList_data]; exact hne)]
  | false =>
    simp only [Bool.false_eq_true, if_false]
    by_cases he : a.toList = b.toList
    · exact ⟨a, ha, .inl (if_pos he)⟩
    · refine ⟨a, ha, .inr ⟨b, hb, ?_, if_neg he⟩⟩
      have hl := leq_not a.toList b.toList
      rw [lts] at h
      rw [h] at hl
      simp [he] at hl
      exact hl
theorem need_form {k : Int} {f t : ByteArray} {am nc : Int} {ky' vl : ByteArray} {rs ws : List ByteArray} (h : ch k f t am nc ky' vl rs ws = 0) :
    ∃ x, ky x = true ∧ (need k f t am nc ky' vl rs ws = [x] ∨ ∃ y, ky y = true ∧ lts x y = true ∧ need k f t am nc ky' vl rs ws = [x, y]) := by
  rw [need, if_pos h]
  have hF : chF k f t ky' vl am = 0 := by
    unfold ch at h
    split at h
    · assumption
    · exact absurd h (by assumption)
  rcases (ch_fine h).k with rfl | rfl
  · have e : nB 1 t ky' = nA t := rfl
    rw [e]
    refine pair_form _ _ ?_ ?_
    · rw [ky_nA]
      cases hn : nm f with
      | true => rfl
      | false => simp [chF, hn] at hF
    · rw [ky_nA]
      cases hn : nm t with
      | true => rfl
      | false => simp [chF, hn] at hF
  · have e : nB 2 t ky' = nK ky' := rfl
    rw [e]
    refine pair_form _ _ ?_ ?_
    · rw [ky_nA]
      cases hn : nm f with
      | true => rfl
      | false => simp [chF, hn] at hF
    · rw [ky_nK]
      cases hn : nm ky' with
      | true => rfl
      | false => simp [chF, hn] at hF
theorem ch_ws {k : Int} {f t : ByteArray} {am nc : Int} {ky' vl : ByteArray} {rs ws : List ByteArray} (h : ch k f t am nc ky' vl rs ws = 0) {ws' : List ByteArray} (hk : ke ws' = 0) : ch k f t am nc ky' vl rs ws' = 0 := by
  have hf := ch_fine h
  have hF : chF k f t ky' vl am = 0 := by
    unfold ch at h
    split at h
    · assumption
    · exact absurd h (by assumption)
  rw [ch, if_pos hF, chR, if_pos ⟨hf.am, hf.nc⟩, if_pos hf.rs, hk]
theorem need_ws {k : Int} {f t : ByteArray} {am nc : Int} {ky' vl : ByteArray} {rs ws : List ByteArray} (h : ch k f t am nc ky' vl rs ws = 0) {ws' : List ByteArray} (hk : ke ws' = 0) : need k f t am nc ky' vl rs ws' = need k f t am nc ky' vl rs ws := by
  rw [need, if_pos (ch_ws h hk), need, if_pos h]
theorem ke_one {x : ByteArray} (h : ky x = true) : ke [x] = 0 := by simp [ke, keL, h]
theorem ke_two {x y : ByteArray} (h : ky x = true) (h2 : ky y = true) (h3 : lts x y = true) : ke [x, y] = 0 := by simp [ke, keL, h, h2, h3]
theorem ke_nil : ke [] = 0 := rfl
theorem fit_one (x : ByteArray) : fitB [x] [x] = true := by simp [fitB, hasB]
theorem fit_none (x : ByteArray) : fitB [x] [] = false := by simp [fitB, hasB]
theorem fit_two (x y : ByteArray) : fitB [x, y] [x, y] = true := by simp [fitB, hasB]
theorem fit_less {x y : ByteArray} (h : lts x y = true) : fitB [x, y] [y] = false := by
  have := lts_irr x y h
  have h2 : ¬ x.data = y.data := fun e => this (by rw [e])
  simp [fitB, hasB, h2]
theorem need_bad {k : Int} {f t : ByteArray} {am nc : Int} {ky' vl : ByteArray} {rs ws : List ByteArray} (h : ch k f t am nc ky' vl rs ws ≠ 0) : need k f t am nc ky' vl rs ws = [] := if_neg h
theorem fitX (k : Int) (f t : ByteArray) (am nc : Int) (ky' vl : ByteArray) (A B : Option Addr) (c d : Nat) (rs ws : List ByteArray) (w : World) (x : Bool) (hx : fitB (need k f t am nc ky' vl rs ws) ws = x)
    (hr : Kd.C Kd.string w A rs.length rs) (hc : rs.length ≤ c) (hs : Kd.C Kd.string w B ws.length ws) (hd : ws.length ≤ d) (hw : ws.length < 4611686018427387904) :
    Calls Tryd.prog 46 #[.agg #[.int .i64 k, .string f, .string t, .int .u64 am, .int .u64 nc, .string ky', .string vl, .slice A rs.length c, .slice B ws.length d]] w
      fun e w' => e = .returned (.bool x) ∧ Below w.heap.size w w' := by
  subst hx
  exact fits_calls k f t am nc ky' vl A B c d rs ws w hr hc hs hd hw
theorem fitN (k : Int) (f t : ByteArray) (am nc : Int) (ky' vl : ByteArray) (A B : Option Addr) (c d : Nat) (rs ws : List ByteArray) (w : World) (x : Bool) (n : Nat) (hn : ws.length = n) (hx : fitB (need k f t am nc ky' vl rs ws) ws = x)
    (hr : Kd.C Kd.string w A rs.length rs) (hc : rs.length ≤ c) (hs : Kd.C Kd.string w B ws.length ws) (hd : ws.length ≤ d) (hw : ws.length < 4611686018427387904) :
    Calls Tryd.prog 46 #[.agg #[.int .i64 k, .string f, .string t, .int .u64 am, .int .u64 nc, .string ky', .string vl, .slice A rs.length c, .slice B n d]] w
      fun e w' => e = .returned (.bool x) ∧ Below w.heap.size w w' := by
  subst hn
  exact fitX k f t am nc ky' vl A B c d rs ws w x hx hr hc hs hd hw
theorem need_of (k : Int) (f t : ByteArray) (am nc : Int) (ky' vl : ByteArray) (A B : Option Addr) (c d : Nat) (rs ws : List ByteArray) (w : World) (n : List ByteArray) (hn : need k f t am nc ky' vl rs ws = n) (h0 : ch k f t am nc ky' vl rs ws = 0)
    (hr : Kd.C Kd.string w A rs.length rs) (hc : rs.length ≤ c) (hs : Kd.C Kd.string w B ws.length ws) (hd : ws.length ≤ d) :
    Calls Tryd.prog 44 #[.agg #[.int .i64 k, .string f, .string t, .int .u64 am, .int .u64 nc, .string ky', .string vl, .slice A rs.length c, .slice B ws.length d]] w
      fun e w' => ∃ g, e = .returned (.slice (some ⟨g, 0, none⟩) n.length 2) ∧ Kd.R Kd.string 9 w' w.heap.size (fun _ => True) (.slice (some ⟨g, 0, none⟩) n.length 2) n ∧ Below w.heap.size w w' := by
  subst hn
  refine (need_calls k f t am nc ky' vl A B c d rs ws w hr hc hs hd).mono fun e w' h => ?_
  obtain ⟨v, rfl, hR, hb, hv⟩ := h
  obtain ⟨g, rfl⟩ := hv h0
  exact ⟨g, rfl, hR, hb⟩
theorem need_no (k : Int) (f t : ByteArray) (am nc : Int) (ky' vl : ByteArray) (A B : Option Addr) (c d : Nat) (rs ws : List ByteArray) (w : World) (h0 : ch k f t am nc ky' vl rs ws ≠ 0)
    (hr : Kd.C Kd.string w A rs.length rs) (hc : rs.length ≤ c) (hs : Kd.C Kd.string w B ws.length ws) (hd : ws.length ≤ d) :
    Calls Tryd.prog 44 #[.agg #[.int .i64 k, .string f, .string t, .int .u64 am, .int .u64 nc, .string ky', .string vl, .slice A rs.length c, .slice B ws.length d]] w
      fun e w' => ∃ A' c', e = .returned (.slice A' 0 c') ∧ Below w.heap.size w w' := by
  refine (need_calls k f t am nc ky' vl A B c d rs ws w hr hc hs hd).mono fun e w' h => ?_
  obtain ⟨v, rfl, hR, hb, hv⟩ := h
  rw [need_bad h0] at hR
  obtain ⟨A', c', rfl, _, _⟩ := Kd.R_reads hR
  exact ⟨A', c', rfl, hb⟩
theorem Bq.grown {w W w1 : World} {bs : Array Value} {row : Option Nat} (h : Bq w bs W) (hg : W.grownBy w1 row) (hr : ∀ k, row = some k → w.heap.size < k) : Bq w bs w1 :=
  ⟨h.low.grown hg h.low.size (fun k hk => Nat.le_of_lt (hr k hk)), (hg.block _ (blk_lt h.box) (fun e => by have := hr _ e.symm; omega)).trans h.box⟩
theorem Bq.set8 {w W : World} {b0 b1 b2 b3 b4 b5 b6 b7 b8 : Value} (h : Bq w #[b0, b1, b2, b3, b4, b5, b6, b7, b8] W) (v : Value) : Bq w #[b0, b1, b2, b3, b4, b5, b6, b7, v] (W.setCell ⟨w.heap.size, 8, none⟩ v) :=
  ⟨h.low.setCell (by simp) v, by simpa using blk_set h.box 8 v⟩
theorem Bq.far {w W : World} {bs : Array Value} (h : Bq w bs W) {p : Addr} (hp : w.heap.size < p.block) (v : Value) : Bq w bs (W.setCell p v) :=
  ⟨h.low.setCell (Nat.le_of_lt hp) v, (Below.heap_setCell _ _ _ _ (by omega)).trans h.box⟩
theorem drop1 {w : World} {g : Nat} {x : ByteArray} (h : Kd.C Kd.string w (some ⟨g, 0, none⟩) ([x] : List ByteArray).length [x]) : Kd.C Kd.string w (some ⟨g, 1, none⟩) ([] : List ByteArray).length [] :=
  ⟨rfl, by simp, fun h => absurd h (by simp)⟩
theorem drop2 {w : World} {g : Nat} {x y : ByteArray} (h : Kd.C Kd.string w (some ⟨g, 0, none⟩) ([x, y] : List ByteArray).length [x, y]) : Kd.C Kd.string w (some ⟨g, 1, none⟩) ([y] : List ByteArray).length [y] :=
  Kd.C_drop (c := 2) (m := 1) h (by simp) (by simp)
theorem row_nil (w : World) (base : Nat) (hb : base ≤ w.heap.size) : Kd.R Kd.string 9 (w.alloc (.cells #[] 9)) base (fun _ => True) (.slice (some ⟨w.heap.size, 0, none⟩) 0 0) [] :=
  Kd.R_of_own ⟨rfl, .inr ⟨_, 0, _, rfl, hb, blk_new _ _, Nat.le_refl _, by decide, rfl, rfl⟩⟩ (fun _ _ => trivial)
set_option maxHeartbeats 8000000 in
set_option maxRecDepth 100000 in
theorem decl_calls (k : Int) (f t : ByteArray) (am nc : Int) (ky' vl : ByteArray) (A B : Option Addr) (c d : Nat) (rs ws : List ByteArray) (w : World) (ht : TxIn w k f t am nc ky' vl A B c d rs ws) :
    Calls Tryd.prog 12 #[.agg #[.int .i64 k, .string f, .string t, .int .u64 am, .int .u64 nc, .string ky', .string vl, .slice A rs.length c, .slice B ws.length d]] w
      fun e w' => e = .returned (.bool true) ∧ Below w.heap.size w w' := by
  have hown := Lib.hid (fun W (hb : Below w.heap.size w W) => own_calls k f t am nc ky' vl A B c d rs ws W (Kd.C_below ht.r hb) ht.rc (Kd.C_below ht.s hb) ht.sc (by have := ht.rl; omega) (by have := ht.sl; omega))
  have HW := Lib.hid (show ws.length < 4611686018427387904 by have := ht.sl; omega)
  clear ht
  obtain ⟨x, hx⟩ : ∃ x, ch k f t am nc ky' vl rs ws = x := ⟨_, rfl⟩
  by_cases h0 : x = 0
  case neg =>
    have n1 : (x != 0) = true := by simpa using h0
    have HC := Lib.hid hx
    have HN := Lib.hid (show ch k f t am nc ky' vl rs ws ≠ 0 from fun e => h0 (hx.symm.trans e))
    have HF := Lib.hid (show fitB (need k f t am nc ky' vl rs ws) ws = false by rw [need_bad HN.out]; rfl)
    clear h0 hx
    go_enter Tryd.func12, Tryd.ntmps12
    have HX := Lib.hid (Bq.first w #[.int .i64 k, .string f, .string t, .int .u64 am, .int .u64 nc, .string ky', .string vl, .slice A rs.length c, .slice B ws.length d])
    go_wp2_with (first
      | (go_at_call 48
         go_must (refine (works_calls _).mono ?_)
         rintro e w2 ⟨rfl, hB⟩
         have HX := Lib.hid (HX.out.step hB)
         have e0 := blk_cell HX.out.box 0
         have e1 := blk_cell HX.out.box 1
         have e2 := blk_cell HX.out.box 2
         have e3 := blk_cell HX.out.box 3
         have e4 := blk_cell HX.out.box 4
         have e5 := blk_cell HX.out.box 5
         have e6 := blk_cell HX.out.box 6
         have e7 := blk_cell HX.out.box 7
         have e8 := blk_cell HX.out.box 8
         simp only [List.getElem?_toArray, List.getElem?_cons_zero, List.getElem?_cons_succ] at e0 e1 e2 e3 e4 e5 e6 e7 e8
         clear hB)
      | (go_at_call 19
         go_must (refine (hown.out _ HX.out.low).mono ?_)
         rintro e w2 ⟨A', c', B', d', rfl, h7, h8, hB⟩
         have HX := Lib.hid (HX.out.step hB)
         have H7 := Lib.hid h7
         have H8 := Lib.hid h8
         clear hB h7 h8)
      | (go_at_call 44
         go_must (refine (need_no k f t am nc ky' vl A' B' c' d' rs ws _ HN.out H7.out.1 H7.out.2 H8.out.1 H8.out.2).mono ?_)
         rintro e w2 ⟨A3, c3, rfl, hB⟩
         have HX := Lib.hid (HX.out.step hB)
         have e0 := blk_cell HX.out.box 0
         have e1 := blk_cell HX.out.box 1
         have e2 := blk_cell HX.out.box 2
         have e3 := blk_cell HX.out.box 3
         have e4 := blk_cell HX.out.box 4
         have e5 := blk_cell HX.out.box 5
         have e6 := blk_cell HX.out.box 6
         have e7 := blk_cell HX.out.box 7
         have e8 := blk_cell HX.out.box 8
         simp only [List.getElem?_toArray, List.getElem?_cons_zero, List.getElem?_cons_succ] at e0 e1 e2 e3 e4 e5 e6 e7 e8
         clear hB)
      | (go_at_call 46
         go_must (refine (fitX k f t am nc ky' vl A' B' c' d' rs ws _ false HF.out H7.out.1 H7.out.2 H8.out.1 H8.out.2 HW.out).mono ?_)
         rintro e w2 ⟨rfl, hB⟩
         have HX := Lib.hid (HX.out.step hB)
         clear hB)
      | (go_at_call 41
         go_must (refine (chkX k f t am nc ky' vl A' B' c' d' rs ws _ x HC.out H7.out.1 H7.out.2 H8.out.1 H8.out.2).mono ?_)
         rintro e w2 ⟨rfl, hB⟩
         have HX := Lib.hid (HX.out.step hB)
         have e0 := blk_cell HX.out.box 0
         have e1 := blk_cell HX.out.box 1
         have e2 := blk_cell HX.out.box 2
         have e3 := blk_cell HX.out.box 3
         have e4 := blk_cell HX.out.box 4
         have e5 := blk_cell HX.out.box 5
         have e6 := blk_cell HX.out.box 6
         have e7 := blk_cell HX.out.box 7
         have e8 := blk_cell HX.out.box 8
         simp only [List.getElem?_toArray, List.getElem?_cons_zero, List.getElem?_cons_succ] at e0 e1 e2 e3 e4 e5 e6 e7 e8
         clear hB))
    go_ret
    exact ⟨rfl, HX.out.low⟩
  subst h0
  obtain ⟨y0, hy0, hform⟩ := need_form hx
  have HC := Lib.hid hx
  rcases hform with hN | ⟨y1, hy1, hl, hN⟩
  · have F1 := Lib.hid (show fitB (need k f t am nc ky' vl rs [y0]) [y0] = true by rw [need_ws hx (ke_one hy0), hN, fit_one])
    have F2 := Lib.hid (show fitB (need k f t am nc ky' vl rs []) [] = false by rw [need_ws hx ke_nil, hN, fit_none])
    have hN := Lib.hid hN
    clear hx hy0
    go_enter Tryd.func12, Tryd.ntmps12
    have HX := Lib.hid (Bq.first w #[.int .i64 k, .string f, .string t, .int .u64 am, .int .u64 nc, .string ky', .string vl, .slice A rs.length c, .slice B ws.length d])
    go_upto_region 6 with (first
      | (go_at_call 48
         go_must (refine (works_calls _).mono ?_)
         rintro e w2 ⟨rfl, hB⟩
         have HX := Lib.hid (HX.out.step hB)
         have e0 := blk_cell HX.out.box 0
         have e1 := blk_cell HX.out.box 1
         have e2 := blk_cell HX.out.box 2
         have e3 := blk_cell HX.out.box 3
         have e4 := blk_cell HX.out.box 4
         have e5 := blk_cell HX.out.box 5
         have e6 := blk_cell HX.out.box 6
         have e7 := blk_cell HX.out.box 7
         have e8 := blk_cell HX.out.box 8
         simp only [List.getElem?_toArray, List.getElem?_cons_zero, List.getElem?_cons_succ] at e0 e1 e2 e3 e4 e5 e6 e7 e8
         clear hB)
      | (go_at_call 19
         go_must (refine (hown.out _ HX.out.low).mono ?_)
         rintro e w2 ⟨A', c', B', d', rfl, h7, h8, hB⟩
         first | have HR := Lib.hid (Kd.R_below HR.out hB) | skip
         have HX := Lib.hid (HX.out.step hB)
         have H7 := Lib.hid h7
         have H8 := Lib.hid h8
         clear hB h7 h8)
      | (go_at_call 44
         go_must (refine (need_of k f t am nc ky' vl A' B' c' d' rs ws _ [y0] hN.out HC.out H7.out.1 H7.out.2 H8.out.1 H8.out.2).mono ?_)
         rintro e w2 ⟨g, rfl, hR, hB⟩
         have HR := Lib.hid (Kd.R_lower hR HX.out.low.size)
         have HX := Lib.hid (HX.out.step hB)
         have e0 := blk_cell HX.out.box 0
         have e1 := blk_cell HX.out.box 1
         have e2 := blk_cell HX.out.box 2
         have e3 := blk_cell HX.out.box 3
         have e4 := blk_cell HX.out.box 4
         have e5 := blk_cell HX.out.box 5
         have e6 := blk_cell HX.out.box 6
         have e7 := blk_cell HX.out.box 7
         have e8 := blk_cell HX.out.box 8
         simp only [List.getElem?_toArray, List.getElem?_cons_zero, List.getElem?_cons_succ] at e0 e1 e2 e3 e4 e5 e6 e7 e8
         clear hB hR)
      | (go_at_call 41
         go_must (refine (chkX k f t am nc ky' vl A' B' c' d' rs ws _ 0 HC.out H7.out.1 H7.out.2 H8.out.1 H8.out.2).mono ?_)
         rintro e w2 ⟨rfl, hB⟩
         have HR := Lib.hid (Kd.R_below HR.out hB)
         have HX := Lib.hid (HX.out.step hB)
         have e0 := blk_cell HX.out.box 0
         have e1 := blk_cell HX.out.box 1
         have e2 := blk_cell HX.out.box 2
         have e3 := blk_cell HX.out.box 3
         have e4 := blk_cell HX.out.box 4
         have e5 := blk_cell HX.out.box 5
         have e6 := blk_cell HX.out.box 6
         have e7 := blk_cell HX.out.box 7
         have e8 := blk_cell HX.out.box 8
         simp only [List.getElem?_toArray, List.getElem?_cons_zero, List.getElem?_cons_succ] at e0 e1 e2 e3 e4 e5 e6 e7 e8
         clear hB))
    go_quiet (fail)
    go_upto_region 8 with (fail)
    refine at_world (F := fun W => Bq w #[.int .i64 k, .string f, .string t, .int .u64 am, .int .u64 nc, .string ky', .string vl, .slice A rs.length c, .slice B ws.length d] W ∧ Kd.R Kd.string 9 W w.heap.size (fun _ => True) (.slice (some ⟨g, 0, none⟩) ([y0] : List ByteArray).length 2) [y0]) (by first | exact ⟨HX.out, HR.out⟩ | exact ⟨HX.out.step (pw_below_drewN (Below.refl _ _) _), Kd.R_drewN HR.out _⟩ | exact ⟨HX.out.step ((Below.refl _ _).drew), Kd.R_drew HR.out⟩) ?_
    clear HX HR e0 e1 e2 e3 e4 e5 e6 e7 e8
    rintro W ⟨hx, hr⟩
    have HX := Lib.hid hx
    have HR := Lib.hid hr
    clear hx hr
    have e0 := blk_cell HX.out.box 0
    have e1 := blk_cell HX.out.box 1
    have e2 := blk_cell HX.out.box 2
    have e3 := blk_cell HX.out.box 3
    have e4 := blk_cell HX.out.box 4
    have e5 := blk_cell HX.out.box 5
    have e6 := blk_cell HX.out.box 6
    have e7 := blk_cell HX.out.box 7
    have e8 := blk_cell HX.out.box 8
    simp only [List.getElem?_toArray, List.getElem?_cons_zero, List.getElem?_cons_succ] at e0 e1 e2 e3 e4 e5 e6 e7 e8
    go_upto_region 9 with (first
      | (go_at_call 19
         go_must (refine (hown.out _ HX.out.low).mono ?_)
         rintro e w6 ⟨A6, c6, B6, d6, rfl, h7, h8, hB⟩
         have HR := Lib.hid (Kd.R_below HR.out hB)
         have HX := Lib.hid (HX.out.step hB)
         have H6 := Lib.hid (fun W (h : Below w6.heap.size w6 W) => Kd.C_below h7.1 h)
         have L6 := Lib.hid h7.2
         clear hB h7 h8))
    have hlt6 := blk_lt HX.out.box
    refine at_world (F := fun W => Bq w #[.int .i64 k, .string f, .string t, .int .u64 am, .int .u64 nc, .string ky', .string vl, .slice A rs.length c, .slice B ws.length d] W ∧ Kd.R Kd.string 9 W w.heap.size (fun _ => True) (.slice (some ⟨g, 0, none⟩) ([y0] : List ByteArray).length 2) [y0] ∧ Bq w6 #[.int .i64 k, .string f, .string t, .int .u64 am, .int .u64 nc, .string ky', .string vl, .slice A6 rs.length c6, .slice B6 ws.length d6] W)
      ⟨HX.out.step ((Below.refl _ _).alloc (Nat.le_refl _) _), Kd.R_alloc HR.out _, Bq.first _ _⟩ ?_
    clear HX HR e0 e1 e2 e3 e4 e5 e6 e7 e8
    rintro W ⟨hx, hr, hu⟩
    have HX := Lib.hid hx
    have HR := Lib.hid hr
    have HU := Lib.hid hu
    clear hx hr hu
    have HW8 := Lib.hid (blk_lt HU.out.box)
    go_upto_region 10 with (first
      | ((with_reducible refine gate_builtin (b := .append) (xs := #[.tmp 48, .tmp 49]) rfl ?_); at_builtin
         refine Kd.R_append_rows Kd.string (w0 := w) w.heap.size rfl (.tmp 48) (.tmp 49) 31 9 (.string ⟨#[]⟩) 16 rfl Tryd.underlying31 (by kernel_rfl) rfl (by decide) (by omega) (.slice (some ⟨W.heap.size, 0, none⟩) 0 0) [] [y0] _ _ _ (fun _ => True) (fun _ => False) rfl rfl (row_nil W w.heap.size HX.out.low.size) (C_of_R (Kd.R_alloc HR.out _)) (fun _ _ h => h) (fun _ h => h.elim) (fun _ _ => trivial) (HX.out.low.alloc HX.out.low.size _) (HX.out.low.alloc HX.out.low.size _).size (by simp) ?_
         intro v1 w8 ho hb hg hat
         rw [List.nil_append] at ho
         obtain ⟨A9, c9, rfl, q8, q9⟩ := Kd.R_reads ho
         have HR := Lib.hid (Kd.R_grown (Kd.R_alloc (Kd.R_tight rfl HR.out) (.cells #[] 9)) hg (by
           intro k hk e
           have h1 := Kd.R_lt HR.out g rfl
           simp [Value.ownBlock] at hk e
           omega))
         have HX := Lib.hid ((HX.out.step ((Below.refl _ _).alloc (Nat.le_refl _) _)).grown hg (by intro k hk; simp [Value.ownBlock] at hk; subst hk; have := HW8.out; omega))
         have HU := Lib.hid ((HU.out.step ((Below.refl _ _).alloc (Nat.le_refl _) _)).grown hg (by intro k hk; simp [Value.ownBlock] at hk; subst hk; exact HW8.out))
         have z8 := blk_frozen HU.out.box 8
         have y8 := blk_cell HU.out.box 8
         simp only [List.getElem?_toArray, List.getElem?_cons_zero, List.getElem?_cons_succ] at y8
         have HO := Lib.hid ho
         have L9 := Lib.hid q8
         clear ho hb hg hat q8 q9))
    have ht : ∀ q, q ∈ 9 :: Kd.string.E → q ≠ 33 := by intro q hq; simp [Kd.string, Kd.scalar] at hq; subst hq; decide
    refine at_world (F := fun W => Bq w #[.int .i64 k, .string f, .string t, .int .u64 am, .int .u64 nc, .string ky', .string vl, .slice A rs.length c, .slice B ws.length d] W ∧ Kd.R Kd.string 9 W w.heap.size (fun k => some k = (Value.slice (some ⟨g, 0, none⟩) ([y0] : List ByteArray).length 2).ownBlock) (.slice (some ⟨g, 0, none⟩) ([y0] : List ByteArray).length 2) [y0] ∧ Bq w6 #[.int .i64 k, .string f, .string t, .int .u64 am, .int .u64 nc, .string ky', .string vl, .slice A6 rs.length c6, .slice A9 ([y0] : List ByteArray).length c9] W ∧ Kd.R Kd.string 9 W w.heap.size (fun _ => True) (.slice A9 ([y0] : List ByteArray).length c9) [y0])
      ⟨HX.out.far (p := ⟨w6.heap.size, 8, none⟩) hlt6 _, Kd.R_set HR.out HU.out.box ht _ _, HU.out.set8 _, Kd.R_set HO.out HU.out.box ht _ _⟩ ?_
    clear HX HR HU HO z8 y8 HW8
    rintro W ⟨hx, hr, hu, ho⟩
    have HX := Lib.hid hx
    have HR := Lib.hid hr
    have HU := Lib.hid hu
    have HO := Lib.hid ho
    clear hx hr hu ho
    have e0 := blk_cell HX.out.box 0
    have e1 := blk_cell HX.out.box 1
    have e2 := blk_cell HX.out.box 2
    have e3 := blk_cell HX.out.box 3
    have e4 := blk_cell HX.out.box 4
    have e5 := blk_cell HX.out.box 5
    have e6 := blk_cell HX.out.box 6
    have e7 := blk_cell HX.out.box 7
    have e8 := blk_cell HX.out.box 8
    simp only [List.getElem?_toArray, List.getElem?_cons_zero, List.getElem?_cons_succ] at e0 e1 e2 e3 e4 e5 e6 e7 e8
    go_upto_region 11 with (first
      | (go_at_call 19
         go_must (refine (hown.out _ HX.out.low).mono ?_)
         rintro e w9 ⟨A7, c7, B7, d7, rfl, h7, h8, hB⟩
         have HR := Lib.hid (Kd.R_below HR.out hB)
         have HO := Lib.hid (Kd.R_below HO.out hB)
         have HU := Lib.hid (HU.out.step hB)
         have HX := Lib.hid (HX.out.step hB)
         have H7 := Lib.hid (fun W (h : Below w9.heap.size w9 W) => Kd.C_below h7.1 h)
         have L7 := Lib.hid h7.2
         clear hB h7 h8))
    refine at_world (F := fun W => Below w.heap.size w W ∧ Kd.R Kd.string 9 W w.heap.size (fun k => some k = (Value.slice (some ⟨g, 0, none⟩) ([y0] : List ByteArray).length 2).ownBlock) (.slice (some ⟨g, 0, none⟩) ([y0] : List ByteArray).length 2) [y0] ∧ Bq w6 #[.int .i64 k, .string f, .string t, .int .u64 am, .int .u64 nc, .string ky', .string vl, .slice A6 rs.length c6, .slice A9 ([y0] : List ByteArray).length c9] W ∧ Kd.R Kd.string 9 W w.heap.size (fun _ => True) (.slice A9 ([y0] : List ByteArray).length c9) [y0] ∧ Bq w9 #[.int .i64 k, .string f, .string t, .int .u64 am, .int .u64 nc, .string ky', .string vl, .slice A7 rs.length c7, .slice B7 ws.length d7] W ∧ w6.heap.size < w9.heap.size)
      ⟨HX.out.low.alloc HX.out.low.size _, Kd.R_alloc HR.out _, HU.out.step ((Below.refl _ _).alloc (Nat.le_refl _) _), Kd.R_alloc HO.out _, Bq.first _ _, blk_lt HU.out.box⟩ ?_
    have hle9 := HX.out.low.size
    clear HX HR HU HO e0 e1 e2 e3 e4 e5 e6 e7 e8
    rintro W ⟨hl, hr, hu, ho, hv, h69⟩
    have z8 := blk_frozen hv.box 8
    have y8 := blk_cell hv.box 8
    simp only [List.getElem?_toArray, List.getElem?_cons_zero, List.getElem?_cons_succ] at y8
    have HA := Lib.hid (show _ ∧ _ ∧ _ ∧ _ ∧ _ from ⟨hl, hr, hu, ho, hv⟩)
    clear hl hr hu ho hv
    go_upto_region 12 with (fail)
    refine at_world (F := fun W => Below w.heap.size w W ∧ Kd.C Kd.string W (some ⟨g, 1, none⟩) ([] : List ByteArray).length [] ∧ Bq w6 #[.int .i64 k, .string f, .string t, .int .u64 am, .int .u64 nc, .string ky', .string vl, .slice A6 rs.length c6, .slice A9 ([y0] : List ByteArray).length c9] W ∧ Kd.C Kd.string W A9 ([y0] : List ByteArray).length [y0] ∧ Bq w9 #[.int .i64 k, .string f, .string t, .int .u64 am, .int .u64 nc, .string ky', .string vl, .slice A7 rs.length c7, .slice (some ⟨g, 1, none⟩) ([] : List ByteArray).length 1] W)
      ⟨HA.out.1.setCell (p := ⟨w9.heap.size, 8, none⟩) hle9 _, drop1 (C_of_R (Kd.R_set HA.out.2.1 HA.out.2.2.2.2.box ht _ _)), HA.out.2.2.1.far (p := ⟨w9.heap.size, 8, none⟩) h69 _, C_of_R (Kd.R_set HA.out.2.2.2.1 HA.out.2.2.2.2.box ht _ _), HA.out.2.2.2.2.set8 _⟩ ?_
    clear HA z8 y8
    rintro W ⟨hl, hc, hu, hd, hv⟩
    have HL := Lib.hid hl
    have HCm := Lib.hid hc
    have HU := Lib.hid hu
    have HCn := Lib.hid hd
    have HV := Lib.hid hv
    clear hl hc hu hd hv
    have u0 := blk_cell HU.out.box 0
    have u1 := blk_cell HU.out.box 1
    have u2 := blk_cell HU.out.box 2
    have u3 := blk_cell HU.out.box 3
    have u4 := blk_cell HU.out.box 4
    have u5 := blk_cell HU.out.box 5
    have u6 := blk_cell HU.out.box 6
    have u7 := blk_cell HU.out.box 7
    have u8 := blk_cell HU.out.box 8
    simp only [List.getElem?_toArray, List.getElem?_cons_zero, List.getElem?_cons_succ] at u0 u1 u2 u3 u4 u5 u6 u7 u8
    go_wp2_with (first
      | (go_at_call 46
         first
           | (with_reducible refine (fitN k f t am nc ky' vl A6 A9 c6 c9 rs [y0] _ true 1 (by simp) F1.out (H6.out _ HU.out.low) L6.out HCn.out L9.out (by simp)).mono ?_
              rintro e w10 ⟨rfl, hB⟩
              have HV := Lib.hid (HV.out.step hB)
              have HCm := Lib.hid (Kd.C_below HCm.out hB)
              have e0 := blk_cell HV.out.box 0
              have e1 := blk_cell HV.out.box 1
              have e2 := blk_cell HV.out.box 2
              have e3 := blk_cell HV.out.box 3
              have e4 := blk_cell HV.out.box 4
              have e5 := blk_cell HV.out.box 5
              have e6 := blk_cell HV.out.box 6
              have e7 := blk_cell HV.out.box 7
              have e8 := blk_cell HV.out.box 8
              simp only [List.getElem?_toArray, List.getElem?_cons_zero, List.getElem?_cons_succ] at e0 e1 e2 e3 e4 e5 e6 e7 e8
              skip)
           | (with_reducible refine (fitN k f t am nc ky' vl A7 (some ⟨g, 1, none⟩) c7 1 rs [] _ false 0 (by simp) F2.out (H7.out _ HV.out.low) L7.out HCm.out (by simp) (by simp)).mono ?_
              rintro e w10 ⟨rfl, hB⟩)
         have HL := Lib.hid (below_then HL.out HL.out.size hB)
         clear hB))
    go_ret
    exact ⟨rfl, HL.out⟩
  · have F1 := Lib.hid (show fitB (need k f t am nc ky' vl rs [y0, y1]) [y0, y1] = true by rw [need_ws hx (ke_two hy0 hy1 hl), hN, fit_two])
    have F2 := Lib.hid (show fitB (need k f t am nc ky' vl rs [y1]) [y1] = false by rw [need_ws hx (ke_one hy1), hN, fit_less hl])
    have hN := Lib.hid hN
    clear hx hy0 hy1
    go_enter Tryd.func12, Tryd.ntmps12
    have HX := Lib.hid (Bq.first w #[.int .i64 k, .string f, .string t, .int .u64 am, .int .u64 nc, .string ky', .string vl, .slice A rs.length c, .slice B ws.length d])
    go_upto_region 6 with (first
      | (go_at_call 48
         go_must (refine (works_calls _).mono ?_)
         rintro e w2 ⟨rfl, hB⟩
         have HX := Lib.hid (HX.out.step hB)
         have e0 := blk_cell HX.out.box 0
         have e1 := blk_cell HX.out.box 1
         have e2 := blk_cell HX.out.box 2
         have e3 := blk_cell HX.out.box 3
         have e4 := blk_cell HX.out.box 4
         have e5 := blk_cell HX.out.box 5
         have e6 := blk_cell HX.out.box 6
         have e7 := blk_cell HX.out.box 7
         have e8 := blk_cell HX.out.box 8
         simp only [List.getElem?_toArray, List.getElem?_cons_zero, List.getElem?_cons_succ] at e0 e1 e2 e3 e4 e5 e6 e7 e8
         clear hB)
      | (go_at_call 19
         go_must (refine (hown.out _ HX.out.low).mono ?_)
         rintro e w2 ⟨A', c', B', d', rfl, h7, h8, hB⟩
         first | have HR := Lib.hid (Kd.R_below HR.out hB) | skip
         have HX := Lib.hid (HX.out.step hB)
         have H7 := Lib.hid h7
         have H8 := Lib.hid h8
         clear hB h7 h8)
      | (go_at_call 44
         go_must (refine (need_of k f t am nc ky' vl A' B' c' d' rs ws _ [y0, y1] hN.out HC.out H7.out.1 H7.out.2 H8.out.1 H8.out.2).mono ?_)
         rintro e w2 ⟨g, rfl, hR, hB⟩
         have HR := Lib.hid (Kd.R_lower hR HX.out.low.size)
         have HX := Lib.hid (HX.out.step hB)
         have e0 := blk_cell HX.out.box 0
         have e1 := blk_cell HX.out.box 1
         have e2 := blk_cell HX.out.box 2
         have e3 := blk_cell HX.out.box 3
         have e4 := blk_cell HX.out.box 4
         have e5 := blk_cell HX.out.box 5
         have e6 := blk_cell HX.out.box 6
         have e7 := blk_cell HX.out.box 7
         have e8 := blk_cell HX.out.box 8
         simp only [List.getElem?_toArray, List.getElem?_cons_zero, List.getElem?_cons_succ] at e0 e1 e2 e3 e4 e5 e6 e7 e8
         clear hB hR)
      | (go_at_call 41
         go_must (refine (chkX k f t am nc ky' vl A' B' c' d' rs ws _ 0 HC.out H7.out.1 H7.out.2 H8.out.1 H8.out.2).mono ?_)
         rintro e w2 ⟨rfl, hB⟩
         have HR := Lib.hid (Kd.R_below HR.out hB)
         have HX := Lib.hid (HX.out.step hB)
         have e0 := blk_cell HX.out.box 0
         have e1 := blk_cell HX.out.box 1
         have e2 := blk_cell HX.out.box 2
         have e3 := blk_cell HX.out.box 3
         have e4 := blk_cell HX.out.box 4
         have e5 := blk_cell HX.out.box 5
         have e6 := blk_cell HX.out.box 6
         have e7 := blk_cell HX.out.box 7
         have e8 := blk_cell HX.out.box 8
         simp only [List.getElem?_toArray, List.getElem?_cons_zero, List.getElem?_cons_succ] at e0 e1 e2 e3 e4 e5 e6 e7 e8
         clear hB))
    have q0 : w2.cell? ⟨g, 0, none⟩ = some (.string y0) := (Kd.R_cell (enc := Value.string) ByteArray.empty HR.out 0 (by decide) (by simp)).1
    have q1 : w2.cell? ⟨g, 1, none⟩ = some (.string y1) := (Kd.R_cell (enc := Value.string) ByteArray.empty HR.out 1 (by decide) (by simp)).1
    have hl' : Op.bytesLess y0.toList y1.toList = true := hl
    go_quiet (fail)
    go_upto_region 8 with (fail)
    refine at_world (F := fun W => Bq w #[.int .i64 k, .string f, .string t, .int .u64 am, .int .u64 nc, .string ky', .string vl, .slice A rs.length c, .slice B ws.length d] W ∧ Kd.R Kd.string 9 W w.heap.size (fun _ => True) (.slice (some ⟨g, 0, none⟩) ([y0, y1] : List ByteArray).length 2) [y0, y1]) (by first | exact ⟨HX.out, HR.out⟩ | exact ⟨HX.out.step (pw_below_drewN (Below.refl _ _) _), Kd.R_drewN HR.out _⟩ | exact ⟨HX.out.step ((Below.refl _ _).drew), Kd.R_drew HR.out⟩) ?_
    clear HX HR e0 e1 e2 e3 e4 e5 e6 e7 e8
    rintro W ⟨hx, hr⟩
    have HX := Lib.hid hx
    have HR := Lib.hid hr
    clear hx hr
    have e0 := blk_cell HX.out.box 0
    have e1 := blk_cell HX.out.box 1
    have e2 := blk_cell HX.out.box 2
    have e3 := blk_cell HX.out.box 3
    have e4 := blk_cell HX.out.box 4
    have e5 := blk_cell HX.out.box 5
    have e6 := blk_cell HX.out.box 6
    have e7 := blk_cell HX.out.box 7
    have e8 := blk_cell HX.out.box 8
    simp only [List.getElem?_toArray, List.getElem?_cons_zero, List.getElem?_cons_succ] at e0 e1 e2 e3 e4 e5 e6 e7 e8
    go_upto_region 9 with (first
      | (go_at_call 19
         go_must (refine (hown.out _ HX.out.low).mono ?_)
         rintro e w6 ⟨A6, c6, B6, d6, rfl, h7, h8, hB⟩
         have HR := Lib.hid (Kd.R_below HR.out hB)
         have HX := Lib.hid (HX.out.step hB)
         have H6 := Lib.hid (fun W (h : Below w6.heap.size w6 W) => Kd.C_below h7.1 h)
         have L6 := Lib.hid h7.2
         clear hB h7 h8))
    have hlt6 := blk_lt HX.out.box
    refine at_world (F := fun W => Bq w #[.int .i64 k, .string f, .string t, .int .u64 am, .int .u64 nc, .string ky', .string vl, .slice A rs.length c, .slice B ws.length d] W ∧ Kd.R Kd.string 9 W w.heap.size (fun _ => True) (.slice (some ⟨g, 0, none⟩) ([y0, y1] : List ByteArray).length 2) [y0, y1] ∧ Bq w6 #[.int .i64 k, .string f, .string t, .int .u64 am, .int .u64 nc, .string ky', .string vl, .slice A6 rs.length c6, .slice B6 ws.length d6] W)
      ⟨HX.out.step ((Below.refl _ _).alloc (Nat.le_refl _) _), Kd.R_alloc HR.out _, Bq.first _ _⟩ ?_
    clear HX HR e0 e1 e2 e3 e4 e5 e6 e7 e8
    rintro W ⟨hx, hr, hu⟩
    have HX := Lib.hid hx
    have HR := Lib.hid hr
    have HU := Lib.hid hu
    clear hx hr hu
    have HW8 := Lib.hid (blk_lt HU.out.box)
    go_upto_region 10 with (first
      | ((with_reducible refine gate_builtin (b := .append) (xs := #[.tmp 48, .tmp 49]) rfl ?_); at_builtin
         refine Kd.R_append_rows Kd.string (w0 := w) w.heap.size rfl (.tmp 48) (.tmp 49) 31 9 (.string ⟨#[]⟩) 16 rfl Tryd.underlying31 (by kernel_rfl) rfl (by decide) (by omega) (.slice (some ⟨W.heap.size, 0, none⟩) 0 0) [] [y0, y1] _ _ _ (fun _ => True) (fun _ => False) rfl rfl (row_nil W w.heap.size HX.out.low.size) (C_of_R (Kd.R_alloc HR.out _)) (fun _ _ h => h) (fun _ h => h.elim) (fun _ _ => trivial) (HX.out.low.alloc HX.out.low.size _) (HX.out.low.alloc HX.out.low.size _).size (by simp) ?_
         intro v1 w8 ho hb hg hat
         rw [List.nil_append] at ho
         obtain ⟨A9, c9, rfl, q8, q9⟩ := Kd.R_reads ho
         have HR := Lib.hid (Kd.R_grown (Kd.R_alloc (Kd.R_tight rfl HR.out) (.cells #[] 9)) hg (by
           intro k hk e
           have h1 := Kd.R_lt HR.out g rfl
           simp [Value.ownBlock] at hk e
           omega))
         have HX := Lib.hid ((HX.out.step ((Below.refl _ _).alloc (Nat.le_refl _) _)).grown hg (by intro k hk; simp [Value.ownBlock] at hk; subst hk; have := HW8.out; omega))
         have HU := Lib.hid ((HU.out.step ((Below.refl _ _).alloc (Nat.le_refl _) _)).grown hg (by intro k hk; simp [Value.ownBlock] at hk; subst hk; exact HW8.out))
         have z8 := blk_frozen HU.out.box 8
         have y8 := blk_cell HU.out.box 8
         simp only [List.getElem?_toArray, List.getElem?_cons_zero, List.getElem?_cons_succ] at y8
         have HO := Lib.hid ho
         have L9 := Lib.hid q8
         clear ho hb hg hat q8 q9))
    have ht : ∀ q, q ∈ 9 :: Kd.string.E → q ≠ 33 := by intro q hq; simp [Kd.string, Kd.scalar] at hq; subst hq; decide
    refine at_world (F := fun W => Bq w #[.int .i64 k, .string f, .string t, .int .u64 am, .int .u64 nc, .string ky', .string vl, .slice A rs.length c, .slice B ws.length d] W ∧ Kd.R Kd.string 9 W w.heap.size (fun k => some k = (Value.slice (some ⟨g, 0, none⟩) ([y0, y1] : List ByteArray).length 2).ownBlock) (.slice (some ⟨g, 0, none⟩) ([y0, y1] : List ByteArray).length 2) [y0, y1] ∧ Bq w6 #[.int .i64 k, .string f, .string t, .int .u64 am, .int .u64 nc, .string ky', .string vl, .slice A6 rs.length c6, .slice A9 ([y0, y1] : List ByteArray).length c9] W ∧ Kd.R Kd.string 9 W w.heap.size (fun _ => True) (.slice A9 ([y0, y1] : List ByteArray).length c9) [y0, y1])
      ⟨HX.out.far (p := ⟨w6.heap.size, 8, none⟩) hlt6 _, Kd.R_set HR.out HU.out.box ht _ _, HU.out.set8 _, Kd.R_set HO.out HU.out.box ht _ _⟩ ?_
    clear HX HR HU HO z8 y8 HW8
    rintro W ⟨hx, hr, hu, ho⟩
    have HX := Lib.hid hx
    have HR := Lib.hid hr
    have HU := Lib.hid hu
    have HO := Lib.hid ho
    clear hx hr hu ho
    have e0 := blk_cell HX.out.box 0
    have e1 := blk_cell HX.out.box 1
    have e2 := blk_cell HX.out.box 2
    have e3 := blk_cell HX.out.box 3
    have e4 := blk_cell HX.out.box 4
    have e5 := blk_cell HX.out.box 5
    have e6 := blk_cell HX.out.box 6
    have e7 := blk_cell HX.out.box 7
    have e8 := blk_cell HX.out.box 8
    simp only [List.getElem?_toArray, List.getElem?_cons_zero, List.getElem?_cons_succ] at e0 e1 e2 e3 e4 e5 e6 e7 e8
    go_upto_region 11 with (first
      | (go_at_call 19
         go_must (refine (hown.out _ HX.out.low).mono ?_)
         rintro e w9 ⟨A7, c7, B7, d7, rfl, h7, h8, hB⟩
         have HR := Lib.hid (Kd.R_below HR.out hB)
         have HO := Lib.hid (Kd.R_below HO.out hB)
         have HU := Lib.hid (HU.out.step hB)
         have HX := Lib.hid (HX.out.step hB)
         have H7 := Lib.hid (fun W (h : Below w9.heap.size w9 W) => Kd.C_below h7.1 h)
         have L7 := Lib.hid h7.2
         clear hB h7 h8))
    refine at_world (F := fun W => Below w.heap.size w W ∧ Kd.R Kd.string 9 W w.heap.size (fun k => some k = (Value.slice (some ⟨g, 0, none⟩) ([y0, y1] : List ByteArray).length 2).ownBlock) (.slice (some ⟨g, 0, none⟩) ([y0, y1] : List ByteArray).length 2) [y0, y1] ∧ Bq w6 #[.int .i64 k, .string f, .string t, .int .u64 am, .int .u64 nc, .string ky', .string vl, .slice A6 rs.length c6, .slice A9 ([y0, y1] : List ByteArray).length c9] W ∧ Kd.R Kd.string 9 W w.heap.size (fun _ => True) (.slice A9 ([y0, y1] : List ByteArray).length c9) [y0, y1] ∧ Bq w9 #[.int .i64 k, .string f, .string t, .int .u64 am, .int .u64 nc, .string ky', .string vl, .slice A7 rs.length c7, .slice B7 ws.length d7] W ∧ w6.heap.size < w9.heap.size)
      ⟨HX.out.low.alloc HX.out.low.size _, Kd.R_alloc HR.out _, HU.out.step ((Below.refl _ _).alloc (Nat.le_refl _) _), Kd.R_alloc HO.out _, Bq.first _ _, blk_lt HU.out.box⟩ ?_
    have hle9 := HX.out.low.size
    clear HX HR HU HO e0 e1 e2 e3 e4 e5 e6 e7 e8
    rintro W ⟨hl, hr, hu, ho, hv, h69⟩
    have z8 := blk_frozen hv.box 8
    have y8 := blk_cell hv.box 8
    simp only [List.getElem?_toArray, List.getElem?_cons_zero, List.getElem?_cons_succ] at y8
    have HA := Lib.hid (show _ ∧ _ ∧ _ ∧ _ ∧ _ from ⟨hl, hr, hu, ho, hv⟩)
    clear hl hr hu ho hv
    go_upto_region 12 with (fail)
    refine at_world (F := fun W => Below w.heap.size w W ∧ Kd.C Kd.string W (some ⟨g, 1, none⟩) ([y1] : List ByteArray).length [y1] ∧ Bq w6 #[.int .i64 k, .string f, .string t, .int .u64 am, .int .u64 nc, .string ky', .string vl, .slice A6 rs.length c6, .slice A9 ([y0, y1] : List ByteArray).length c9] W ∧ Kd.C Kd.string W A9 ([y0, y1] : List ByteArray).length [y0, y1] ∧ Bq w9 #[.int .i64 k, .string f, .string t, .int .u64 am, .int .u64 nc, .string ky', .string vl, .slice A7 rs.length c7, .slice (some ⟨g, 1, none⟩) ([y1] : List ByteArray).length 1] W)
      ⟨HA.out.1.setCell (p := ⟨w9.heap.size, 8, none⟩) hle9 _, drop2 (C_of_R (Kd.R_set HA.out.2.1 HA.out.2.2.2.2.box ht _ _)), HA.out.2.2.1.far (p := ⟨w9.heap.size, 8, none⟩) h69 _, C_of_R (Kd.R_set HA.out.2.2.2.1 HA.out.2.2.2.2.box ht _ _), HA.out.2.2.2.2.set8 _⟩ ?_
    clear HA z8 y8
    rintro W ⟨hl, hc, hu, hd, hv⟩
    have HL := Lib.hid hl
    have HCm := Lib.hid hc
    have HU := Lib.hid hu
    have HCn := Lib.hid hd
    have HV := Lib.hid hv
    clear hl hc hu hd hv
    have u0 := blk_cell HU.out.box 0
    have u1 := blk_cell HU.out.box 1
    have u2 := blk_cell HU.out.box 2
    have u3 := blk_cell HU.out.box 3
    have u4 := blk_cell HU.out.box 4
    have u5 := blk_cell HU.out.box 5
    have u6 := blk_cell HU.out.box 6
    have u7 := blk_cell HU.out.box 7
    have u8 := blk_cell HU.out.box 8
    simp only [List.getElem?_toArray, List.getElem?_cons_zero, List.getElem?_cons_succ] at u0 u1 u2 u3 u4 u5 u6 u7 u8
    go_wp2_with (first
      | (go_at_call 46
         first
           | (with_reducible refine (fitN k f t am nc ky' vl A6 A9 c6 c9 rs [y0, y1] _ true 2 (by simp) F1.out (H6.out _ HU.out.low) L6.out HCn.out L9.out (by simp)).mono ?_
              rintro e w10 ⟨rfl, hB⟩
              have HV := Lib.hid (HV.out.step hB)
              have HCm := Lib.hid (Kd.C_below HCm.out hB)
              have e0 := blk_cell HV.out.box 0
              have e1 := blk_cell HV.out.box 1
              have e2 := blk_cell HV.out.box 2
              have e3 := blk_cell HV.out.box 3
              have e4 := blk_cell HV.out.box 4
              have e5 := blk_cell HV.out.box 5
              have e6 := blk_cell HV.out.box 6
              have e7 := blk_cell HV.out.box 7
              have e8 := blk_cell HV.out.box 8
              simp only [List.getElem?_toArray, List.getElem?_cons_zero, List.getElem?_cons_succ] at e0 e1 e2 e3 e4 e5 e6 e7 e8
              skip)
           | (with_reducible refine (fitN k f t am nc ky' vl A7 (some ⟨g, 1, none⟩) c7 1 rs [y1] _ false 1 (by simp) F2.out (H7.out _ HV.out.low) L7.out HCm.out (by simp) (by simp)).mono ?_
              rintro e w10 ⟨rfl, hB⟩)
         have HL := Lib.hid (below_then HL.out HL.out.size hB)
         clear hB))
    go_ret
    exact ⟨rfl, HL.out⟩
end Go.Proofs.YtndicjikjcifaaaDoor
