/- tx.Fits: what is needed is declared. -/
import Derived.Test.YtndicjikjcifaaaDoorTxneed
import Derived.Test.YtndicjikjcifaaaDoorPFtx1
namespace Go.Proofs.YtndicjikjcifaaaDoor
open Go.RowKit Go.Shelf Go.Lib Go.Proofs.YtndicjikjcifaaaDoorW.PrintWords Go.Proofs.YtndicjikjcifaaaDoorW.PrintLast
open Go.Proofs.YtndicjikjcifaaaDoor.PFt
set_option linter.unusedVariables false
set_option linter.unusedSimpArgs false

def hasB (xs : List ByteArray) (x : ByteArray) : Bool := xs.any fun y => decide (x.data.toList = y.data.toList)
theorem hasB_cons (y : ByteArray) (r : List ByteArray) (x : ByteArray) : hasB (y :: r) x = (decide (x.data.toList = y.data.toList) || hasB r x) := rfl
theorem idx_l (xs : List ByteArray) (x : ByteArray) (hx : xs.length < 4611686018427387904) : ∀ d i K, i + d = xs.length → d + 1 ≤ K →
    ∃ r : Int, slices_Index_string_string.l0 K xs x (xs.length : Int) i = some r ∧ decide (r ≥ 0) = hasB (xs.drop i) x
  | 0, i, 0, hi, hK => by omega
  | 0, i, K + 1, hi, hK => ⟨-1, by rw [slices_Index_string_string.l0, if_neg (by omega)], by rw [show xs.drop i = [] from List.drop_eq_nil_of_le (by omega)]; rfl⟩
  | d + 1, i, 0, hi, hK => by omega
  | d + 1, i, K + 1, hi, hK => by
    have hlt : i < xs.length := by omega
    have hw : wrap64 ((i : Int) + 1) = ((i + 1 : Nat) : Int) := by rw [w64 _ (by omega) (by omega)]; push_cast; rfl
    obtain ⟨r, h1, h2⟩ := idx_l xs x hx d (i + 1) K (by omega) (by omega)
    rw [slices_Index_string_string.l0, if_pos (by omega), if_pos (by omega), if_pos (by omega), rd_at xs i hlt, hw, h1, List.drop_eq_getElem_cons hlt, Lib.toList_data, Lib.toList_data]
    by_cases he : x.data.toList = xs[i].data.toList
    · rw [if_pos he]
      refine ⟨_, rfl, ?_⟩
      rw [hasB_cons, decide_eq_true he, decide_eq_true (by omega)]
      rfl
    · rw [if_neg he]
      refine ⟨r, rfl, ?_⟩
      rw [h2, hasB_cons, decide_eq_false he]
      rfl
theorem contains_eq (xs : List ByteArray) (x : ByteArray) (hx : xs.length < 4611686018427387904) (K : Nat) (hK : xs.length + 1 ≤ K) : slices_Contains_string_string.f K xs x = some (hasB xs x) := by
  obtain ⟨r, h1, h2⟩ := idx_l xs x hx xs.length 0 K (by omega) hK
  rw [slices_Contains_string_string.f, slices_Index_string_string.f]
  refine (congrArg (fun o : Option Int => o.bind fun t102 => some (decide (t102 ≥ 0))) h1).trans ?_
  rw [Option.bind_some, h2, List.drop_zero]
def fitB (l ws : List ByteArray) : Bool := l.all (hasB ws) && decide (0 < l.length)
theorem fits_l (k : Int) (f t : ByteArray) (am nc : Int) (ky' vl : ByteArray) (rs ws l : List ByteArray) (hw : ws.length < 4611686018427387904) (hl : l.length < 4611686018427387904) : ∀ d i K, i + d = l.length → d + ws.length + 2 ≤ K →
    tx_Fits.l0 K l l (l.length : Int) i k f t am nc ky' vl rs ws = some ((l.drop i).all (hasB ws) && decide (0 < l.length))
  | 0, i, 0, hi, hK => by omega
  | 0, i, K + 1, hi, hK => by
    rw [tx_Fits.l0, if_neg (by omega), show l.drop i = [] from List.drop_eq_nil_of_le (by omega)]
    simp
  | d + 1, i, 0, hi, hK => by omega
  | d + 1, i, K + 1, hi, hK => by
    have hlt : i < l.length := by omega
    have hwr : wrap64 ((i : Int) + 1) = ((i + 1 : Nat) : Int) := by rw [w64 _ (by omega) (by omega)]; push_cast; rfl
    rw [tx_Fits.l0, if_pos (by omega), if_pos (by omega), if_pos (by omega), rd_at l i hlt, contains_eq ws _ hw K (by omega), Option.bind_some, hwr, fits_l k f t am nc ky' vl rs ws l hw hl d (i + 1) K (by omega) (by omega), List.drop_eq_getElem_cons hlt, List.all_cons]
    cases hasB ws l[i] <;> simp
theorem fits_eq (k : Int) (f t : ByteArray) (am nc : Int) (ky' vl : ByteArray) (rs ws : List ByteArray) (hw : ws.length < 4611686018427387904) :
    tx_Fits.f (ws.length + 4) k f t am nc ky' vl rs ws = some (fitB (need k f t am nc ky' vl rs ws) ws) := by
  have hl : (need k f t am nc ky' vl rs ws).length ≤ 2 := by
    unfold need one2
    repeat' split
    all_goals simp
  rw [tx_Fits.f, tx_Needs.f, Option.bind_some]
  exact fits_l k f t am nc ky' vl rs ws _ hw (by omega) (need k f t am nc ky' vl rs ws).length 0 (ws.length + 4) (by omega) (by omega)
theorem fits_calls (k : Int) (f t : ByteArray) (am nc : Int) (ky' vl : ByteArray) (A B : Option Addr) (c d : Nat) (rs ws : List ByteArray) (w : World)
    (hr : Kd.C Kd.string w A rs.length rs) (hc : rs.length ≤ c) (hs : Kd.C Kd.string w B ws.length ws) (hd : ws.length ≤ d) (hw : ws.length < 4611686018427387904) :
    Calls Tryd.prog 46 #[.agg #[.int .i64 k, .string f, .string t, .int .u64 am, .int .u64 nc, .string ky', .string vl, .slice A rs.length c, .slice B ws.length d]] w
      fun e w' => e = .returned (.bool (fitB (need k f t am nc ky' vl rs ws) ws)) ∧ Below w.heap.size w w' :=
  tx_Fits.calls _ k f t am nc ky' vl A c rs B d ws _ w hr hc hs hd (fits_eq k f t am nc ky' vl rs ws hw)
end Go.Proofs.YtndicjikjcifaaaDoor

/- tusklaw04.pay, works: one transaction that is as it should be. -/
namespace Go.Proofs.YtndicjikjcifaaaDoor
open Go.RowKit Go.Shelf Go.Lib Go.Proofs.YtndicjikjcifaaaDoorW.PrintWords Go.Proofs.YtndicjikjcifaaaDoorW.PrintLast
set_option linter.unusedVariables false
set_option linter.unusedSimpArgs false

def bab : ByteArray := ⟨#[97, 98]⟩
def bc : ByteArray := ⟨#[99]⟩
def kab : ByteArray := ⟨#[97, 58, 97, 98]⟩
def kc : ByteArray := ⟨#[97, 58, 99]⟩
def payB : ByteArray := ⟨#[1, 2, 97, 98, 1, 99, 5, 1, 0, 0, 0, 2, 4, 97, 58, 97, 98, 3, 97, 58, 99]⟩
theorem ib_small (n : Nat) (h : n < 128) : ib (n : Int) = strOfNums [(n : Int)] := by
  rw [ib, if_neg (by omega), Int.toNat_natCast, vints, dif_pos h]
theorem ch_pay : ch 1 bab bc 5 1 ⟨#[]⟩ ⟨#[]⟩ [] [kab, kc] = 0 := by
  have h1 : nm bab = true := by decide +kernel
  have h2 : nm bc = true := by decide +kernel
  have h3 : ky kab = true := by decide +kernel
  have h4 : ky kc = true := by decide +kernel
  have h5 : lts kab kc = true := by rw [lts, Lib.toList_data, Lib.toList_data]; decide +kernel
  have h6 : (⟨#[]⟩ : ByteArray).toList.isEmpty = true := by rw [Lib.toList_data]; rfl
  simp [ch, chF, chR, ke, keL, h1, h2, h3, h4, h5, h6]
theorem enc_pay : enc 1 bab bc 5 1 ⟨#[]⟩ ⟨#[]⟩ [] [kab, kc] = (payB, 0) := by
  rw [enc, if_pos ch_pay]
  congr 1
  have i0 : ib 0 = ⟨#[0]⟩ := (ib_small 0 (by omega)).trans (by rfl)
  have i1 : ib 1 = ⟨#[1]⟩ := (ib_small 1 (by omega)).trans (by rfl)
  have i2 : ib 2 = ⟨#[2]⟩ := (ib_small 2 (by omega)).trans (by rfl)
  have i3 : ib 3 = ⟨#[3]⟩ := (ib_small 3 (by omega)).trans (by rfl)
  have i4 : ib 4 = ⟨#[4]⟩ := (ib_small 4 (by omega)).trans (by rfl)
  have i5 : ib 5 = ⟨#[5]⟩ := (ib_small 5 (by omega)).trans (by rfl)
  have t1 : tb bab = ⟨#[2, 97, 98]⟩ := by rw [tb, show ((bab.size : Nat) : Int) = 2 from rfl, i2]; rfl
  have t2 : tb bc = ⟨#[1, 99]⟩ := by rw [tb, show ((bc.size : Nat) : Int) = 1 from rfl, i1]; rfl
  have t3 : tb ⟨#[]⟩ = ⟨#[0]⟩ := by rw [tb, show (((⟨#[]⟩ : ByteArray).size : Nat) : Int) = 0 from rfl, i0]; rfl
  have t4 : tb kab = ⟨#[4, 97, 58, 97, 98]⟩ := by rw [tb, show ((kab.size : Nat) : Int) = 4 from rfl, i4]; rfl
  have t5 : tb kc = ⟨#[3, 97, 58, 99]⟩ := by rw [tb, show ((kc.size : Nat) : Int) = 3 from rfl, i3]; rfl
  have l1 : lb [] = ⟨#[0]⟩ := by rw [lb, lbL, show ((([] : List ByteArray).length : Nat) : Int) = 0 from rfl, i0]; rfl
  have l2 : lb [kab, kc] = ⟨#[2, 4, 97, 58, 97, 98, 3, 97, 58, 99]⟩ := by rw [lb, lbL, show (([kab, kc].length : Nat) : Int) = 2 from rfl, i2, tbs, tbs, tbs, t4, t5]; rfl
  rw [encB, join_nil, encL, i1, i5, t1, t2, t3, l1, l2]
  rfl
theorem need_pay : need 1 bab bc 5 1 ⟨#[]⟩ ⟨#[]⟩ [] [kab, kc] = [kab, kc] := by
  rw [need, if_pos ch_pay]
  have e1 : nA bab = kab := rfl
  have e2 : nB 1 bc ⟨#[]⟩ = kc := rfl
  have h5 : lts kc kab = false := by rw [lts, Lib.toList_data, Lib.toList_data]; decide +kernel
  rw [e1, e2, mn, mx, h5, one2, Lib.toList_data, Lib.toList_data]
  rfl
theorem fit_pay : fitB (need 1 bab bc 5 1 ⟨#[]⟩ ⟨#[]⟩ [] [kab, kc]) [kab, kc] = true := by
  rw [need_pay]
  decide +kernel
theorem ch_bad : ch 1 ⟨#[65, 98]⟩ bc 5 1 ⟨#[]⟩ ⟨#[]⟩ [] [kab, kc] = 3 := by
  have h1 : nm ⟨#[65, 98]⟩ = false := by decide +kernel
  simp [ch, chF, h1]
theorem row_two (w : World) (g : Nat) (x y : ByteArray) (hb : w.heap[g]? = some (.cells #[.string x, .string y] 9 (0, 0))) : Kd.R Kd.string 9 w g (fun _ => True) (.slice (some ⟨g, 0, none⟩) 2 2) [x, y] :=
  Kd.R_of_own ⟨rfl, .inr ⟨g, 2, _, rfl, Nat.le_refl _, hb, by simp, by decide, by simp, by simp [encs]⟩⟩ (fun _ _ => trivial)
set_option maxHeartbeats 8000000 in
set_option maxRecDepth 100000 in
theorem pay_calls (w : World) : Calls Tryd.prog 78 #[] w fun e w' => ∃ g, e = .returned (.agg #[.int .i64 1, .string bab, .string bc, .int .u64 5, .int .u64 1, .string ⟨#[]⟩, .string ⟨#[]⟩, .slice none 0 0, .slice (some ⟨g, 0, none⟩) [kab, kc].length 2])
    ∧ Kd.C Kd.string w' (some ⟨g, 0, none⟩) [kab, kc].length [kab, kc] ∧ Below w.heap.size w w' := by
  go_enter Tryd.func78, Tryd.ntmps78
  go_wp2
  have hb : ∀ W : World, W.heap[w.heap.size]? = some (.cells #[.int .i64 1, .string bab, .string bc, .int .u64 5, .int .u64 1, .string ⟨#[]⟩, .string ⟨#[]⟩, .slice none 0 0, .slice (some ⟨w.heap.size + 1, 0, none⟩) 2 2] 33 (0, 0)) → W = W → True := fun _ _ _ => trivial
  refine at_world (F := fun W => W.heap[w.heap.size]? = some (.cells #[.int .i64 1, .string bab, .string bc, .int .u64 5, .int .u64 1, .string ⟨#[]⟩, .string ⟨#[]⟩, .slice none 0 0, .slice (some ⟨w.heap.size + 1, 0, none⟩) 2 2] 33 (0, 0)) ∧ W.heap[w.heap.size + 1]? = some (.cells #[.string kab, .string kc] 9 (0, 0)) ∧ Below w.heap.size w W)
    ⟨blk_alloc (blk_new _ _) _, blk_newAt _ _ (by simp), ((Below.refl _ w).alloc (Nat.le_refl _) _).alloc (by simp) _⟩ ?_
  rintro Z ⟨h1, h2, h3⟩
  have d0 : Z.cell? ⟨w.heap.size, 0, none⟩ = some (.int .i64 1) := blk_cell h1 0
  have d1 : Z.cell? ⟨w.heap.size, 1, none⟩ = some (.string bab) := blk_cell h1 1
  have d2 : Z.cell? ⟨w.heap.size, 2, none⟩ = some (.string bc) := blk_cell h1 2
  have d3 : Z.cell? ⟨w.heap.size, 3, none⟩ = some (.int .u64 5) := blk_cell h1 3
  have d4 : Z.cell? ⟨w.heap.size, 4, none⟩ = some (.int .u64 1) := blk_cell h1 4
  have d5 : Z.cell? ⟨w.heap.size, 5, none⟩ = some (.string ⟨#[]⟩) := blk_cell h1 5
  have d6 : Z.cell? ⟨w.heap.size, 6, none⟩ = some (.string ⟨#[]⟩) := blk_cell h1 6
  have d7 : Z.cell? ⟨w.heap.size, 7, none⟩ = some (.slice none 0 0) := blk_cell h1 7
  have d8 : Z.cell? ⟨w.heap.size, 8, none⟩ = some (.slice (some ⟨w.heap.size + 1, 0, none⟩) 2 2) := blk_cell h1 8
  have hR := row_two Z _ kab kc h2
  have HC := Lib.hid (show Kd.C Kd.string Z (some ⟨w.heap.size + 1, 0, none⟩) [kab, kc].length [kab, kc] from C_of_R hR)
  have HB := Lib.hid h3
  clear h1 h2 h3 hR hb
  simp [bodyPost, results, Tryd.results78, go_sem, d0, d1, d2, d3, d4, d5, d6, d7, d8]
  first | exact HB.out | exact ⟨HC.out, HB.out⟩ | exact ⟨_, rfl, HC.out, HB.out⟩
set_option maxHeartbeats 8000000 in
set_option maxRecDepth 100000 in
theorem works_calls (w : World) : Calls Tryd.prog 48 #[] w fun e w' => e = .returned (.bool true) ∧ Below w.heap.size w w' := by
  have q1 : (payB.toList == [1, 2, 97, 98, 1, 99, 5, 1, 0, 0, 0, 2, 4, 97, 58, 97, 98, 3, 97, 58, 99]) = true := by rw [Lib.toList_data]; decide +kernel
  have hc8 : ([kab, kc] : List ByteArray).length ≤ 2 := by decide
  go_enter Tryd.func48, Tryd.ntmps48
  have HB := Lib.hid (Below.refl w.heap.size w)
  go_upto_region 4 with (first
    | (go_at_call 78
       go_must (refine (pay_calls _).mono ?_)
       rintro e w2 ⟨g, rfl, hC, hB⟩
       have HC := Lib.hid hC
       have HB := Lib.hid (below_then HB.out HB.out.size hB)
       clear hB hC)
    | (go_at_call 39
       go_must (refine (enc_calls 1 bab bc 5 1 ⟨#[]⟩ ⟨#[]⟩ none (some ⟨g, 0, none⟩) 0 2 [] [kab, kc] _ (Kd.C_nil _ _) (Nat.le_refl _) HC.out hc8 (by decide) (by decide)).mono ?_)
       rw [enc_pay]
       rintro e w2 ⟨rfl, hB⟩
       have HB := Lib.hid (below_then HB.out HB.out.size hB)
       clear hB))
  have HX := Lib.hid (Bq.first w2 #[.int .i64 1, .string ⟨#[65, 98]⟩, .string bc, .int .u64 5, .int .u64 1, .string ⟨#[]⟩, .string ⟨#[]⟩, .slice none 0 0, .slice (some ⟨g, 0, none⟩) 2 2])
  have HC := Lib.hid (fun W (h : Below w2.heap.size w2 W) => Kd.C_below HC.out h)
  have HF := fit_pay
  have HQ := ch_bad
  go_wp2_with (first
    | (go_at_call 78
       go_must (refine (pay_calls _).mono ?_)
       rintro e w3 ⟨g', rfl, hC, hB⟩
       have HC3 := Lib.hid hC
       have HX := Lib.hid (HX.out.step hB)
       clear hB hC)
    | (go_at_call 46
       go_must (refine (fits_calls 1 bab bc 5 1 ⟨#[]⟩ ⟨#[]⟩ none (some ⟨g', 0, none⟩) 0 2 [] [kab, kc] _ (Kd.C_nil _ _) (Nat.le_refl _) HC3.out hc8 (by decide)).mono ?_)
       rw [fit_pay]
       rintro e w3 ⟨rfl, hB⟩
       have HX := Lib.hid (HX.out.step hB)
       have e0 := blk_cell HX.out.box 0
       have e1 := blk_cell HX.out.box 1
       have e2 := blk_cell HX.out.box 2
       have e3 := blk_cell HX.out.box 3
       have e4 := blk_cell HX.out.box 4
       have e5 := blk_cell HX.out.box 5
       have e6 := blk_cell HX.out.box 6
       have e7 := blk_cell HX.out.box 7
       have e8 := blk_cell HX.out.box 8
       simp only [List.getElem?_toArray, List.getElem?_cons_zero, List.getElem?_cons_succ] at e0 e1 e2 e3 e4 e5 e6 e7 e8
       clear hB)
    | (go_at_call 41
       go_must (refine (chk_calls 1 ⟨#[65, 98]⟩ bc 5 1 ⟨#[]⟩ ⟨#[]⟩ none (some ⟨g, 0, none⟩) 0 2 [] [kab, kc] _ (Kd.C_nil _ _) (Nat.le_refl _) (HC.out _ HX.out.low) hc8).mono ?_)
       rw [ch_bad]
       rintro e w3 ⟨rfl, hB⟩
       have HX := Lib.hid (HX.out.step hB)
       clear hB))
  go_ret
  exact ⟨rfl, below_then HB.out HB.out.size HX.out.low⟩
end Go.Proofs.YtndicjikjcifaaaDoor
