/- TxBack: the walk. -/
import Derived.Test.YtndicjikjcifaaaDoorTxworks
import Derived.Test.YtndicjikjcifaaaDoorTxown
import Derived.Test.YtndicjikjcifaaaDoorCodec
import Derived.Test.YtndicjikjcifaaaDoorPSmx1
namespace Go.Proofs.YtndicjikjcifaaaDoor
open Go.RowKit Go.Shelf Go.Lib Go.Proofs.YtndicjikjcifaaaDoorW.PrintWords Go.Proofs.YtndicjikjcifaaaDoorW.PrintLast
set_option linter.unusedVariables false
set_option linter.unusedSimpArgs false

open PSm in
theorem same_l (xs : List ByteArray) (hx : xs.length < 4611686018427387904) : ∀ d i K, i + d = xs.length → d + 1 ≤ K → tuskref01_Same.l0 K xs xs i = some true
  | 0, i, 0, hi, hK => by omega
  | 0, i, K + 1, hi, hK => by rw [tuskref01_Same.l0, if_neg (by omega)]
  | d + 1, i, 0, hi, hK => by omega
  | d + 1, i, K + 1, hi, hK => by
    have hw : wrap64 ((i : Int) + 1) = ((i + 1 : Nat) : Int) := by rw [w64 _ (by omega) (by omega)]; push_cast; rfl
    rw [tuskref01_Same.l0, if_pos (by omega), if_pos (by omega), if_pos (by omega), if_pos rfl, hw]
    exact same_l xs hx d (i + 1) K (by omega) (by omega)
open PSm in
theorem same_eq (xs : List ByteArray) (hx : xs.length < 4611686018427387904) (K : Nat) (hK : xs.length + 1 ≤ K) : tuskref01_Same.f K xs xs = some true := by
  rw [tuskref01_Same.f, if_pos rfl]
  exact same_l xs hx xs.length 0 K (by omega) hK
theorem same_calls (k : Int) (f t : ByteArray) (am nc : Int) (ky' vl : ByteArray) (A B A' B' : Option Addr) (c d c' d' : Nat) (rs ws : List ByteArray) (w : World)
    (hr : Kd.C Kd.string w A rs.length rs) (hc : rs.length ≤ c) (hs : Kd.C Kd.string w B ws.length ws) (hd : ws.length ≤ d)
    (hr' : Kd.C Kd.string w A' rs.length rs) (hc' : rs.length ≤ c') (hs' : Kd.C Kd.string w B' ws.length ws) (hd' : ws.length ≤ d') (h1 : rs.length < 4611686018427387904) (h2 : ws.length < 4611686018427387904) :
    Calls Tryd.prog 27 #[.agg #[.int .i64 k, .string f, .string t, .int .u64 am, .int .u64 nc, .string ky', .string vl, .slice A rs.length c, .slice B ws.length d], .agg #[.int .i64 k, .string f, .string t, .int .u64 am, .int .u64 nc, .string ky', .string vl, .slice A' rs.length c', .slice B' ws.length d']] w
      fun e w' => e = .returned (.bool true) ∧ Below w.heap.size w w' := by
  refine PSm.tuskref04_Same.calls (rs.length + ws.length + 1) k f t am nc ky' vl A c rs B d ws k f t am nc ky' vl A' c' rs B' d' ws true w hr hc hs hd hr' hc' hs' hd' ?_
  rw [PSm.tuskref04_Same.f]
  simp [same_eq rs h1 _ (show rs.length + 1 ≤ rs.length + ws.length + 1 by omega), same_eq ws h2 _ (show ws.length + 1 ≤ rs.length + ws.length + 1 by omega)]
theorem encB_size {k : Int} {f t : ByteArray} {am nc : Int} {ky' vl : ByteArray} {rs ws : List ByteArray} (hc : ch k f t am nc ky' vl rs ws = 0) : (encB k f t am nc ky' vl rs ws).size ≤ 1000 := by
  have hf := ch_fine hc
  have hr1 := ke_zero hf.rs
  have hs1 := ke_zero hf.ws
  have L1 := lb_size 34 rs hr1.2
  have L2 := lb_size 34 ws hs1.2
  have S1 : (lb rs).size = (lbL rs).length := by simp [lb, ByteArray.size]
  have S2 : (lb ws).size = (lbL ws).length := by simp [lb, ByteArray.size]
  have I1 := ib_size k
  have I2 := ib_size am
  have I3 := ib_size nc
  have T1 := tb_size f
  have T2 := tb_size t
  have T3 := tb_size ky'
  have T4 := tb_size vl
  have Q1 := hf.f
  have Q2 := hf.t
  have Q3 := hf.ky
  have Q4 := hf.vl
  have L1 : (lbL rs).length ≤ 353 := by have := hr1.1; omega
  have L2 : (lbL ws).length ≤ 353 := by have := hs1.1; omega
  rw [encB_eq]
  simp only [ByteArray.size_append]
  omega
/-- A result of tx.Decode, opened. -/
theorem DP_open {r : Dec} {w w' : World} {e : Ending} (h : DP r w e w') : ∃ A c B d, e = .returned (.tuple #[.agg #[.int .i64 r.1, .string r.2.1, .string r.2.2.1, .int .u64 r.2.2.2.1, .int .u64 r.2.2.2.2.1, .string r.2.2.2.2.2.1, .string r.2.2.2.2.2.2.1, .slice A r.2.2.2.2.2.2.2.1.length c, .slice B r.2.2.2.2.2.2.2.2.1.length d], .int .i64 r.2.2.2.2.2.2.2.2.2])
    ∧ (Kd.C Kd.string w' A r.2.2.2.2.2.2.2.1.length r.2.2.2.2.2.2.2.1 ∧ r.2.2.2.2.2.2.2.1.length ≤ c) ∧ (Kd.C Kd.string w' B r.2.2.2.2.2.2.2.2.1.length r.2.2.2.2.2.2.2.2.1 ∧ r.2.2.2.2.2.2.2.2.1.length ≤ d) ∧ Below w.heap.size w w' := by
  obtain ⟨v8, v9, rfl, r8, r9, hb⟩ := h
  obtain ⟨A, c, rfl, q1, q2⟩ := Kd.R_reads r8
  obtain ⟨B, d, rfl, q3, q4⟩ := Kd.R_reads r9
  exact ⟨A, c, B, d, rfl, ⟨q2, q1⟩, ⟨q4, q3⟩, hb⟩
theorem dec_of (s : ByteArray) (k : Int) (f t : ByteArray) (am nc : Int) (ky' vl : ByteArray) (rs ws : List ByteArray) (e : Int) (w : World) (hs : s.size < 4611686018427387904) (hd : dec s = (k, f, t, am, nc, ky', vl, rs, ws, e)) :
    Calls Tryd.prog 25 #[.string s] w fun e' w' => ∃ A c B d, e' = .returned (.tuple #[.agg #[.int .i64 k, .string f, .string t, .int .u64 am, .int .u64 nc, .string ky', .string vl, .slice A rs.length c, .slice B ws.length d], .int .i64 e])
      ∧ (Kd.C Kd.string w' A rs.length rs ∧ rs.length ≤ c) ∧ (Kd.C Kd.string w' B ws.length ws ∧ ws.length ≤ d) ∧ Below w.heap.size w w' := by
  refine (dec_calls s w hs).mono fun e' w' h => ?_
  rw [hd] at h
  exact DP_open h
theorem enc_of (k : Int) (f t : ByteArray) (am nc : Int) (ky' vl : ByteArray) (A B : Option Addr) (c d : Nat) (rs ws : List ByteArray) (w : World) (b : ByteArray) (x : Int) (he : enc k f t am nc ky' vl rs ws = (b, x))
    (hr : Kd.C Kd.string w A rs.length rs) (hc : rs.length ≤ c) (hs : Kd.C Kd.string w B ws.length ws) (hd : ws.length ≤ d) (ha : 0 ≤ am) (hn : 0 ≤ nc) :
    Calls Tryd.prog 39 #[.agg #[.int .i64 k, .string f, .string t, .int .u64 am, .int .u64 nc, .string ky', .string vl, .slice A rs.length c, .slice B ws.length d]] w
      fun e w' => e = .returned (.tuple #[.string b, .int .i64 x]) ∧ Below w.heap.size w w' := by
  have := enc_calls k f t am nc ky' vl A B c d rs ws w hr hc hs hd ha hn
  rw [he] at this
  exact this
set_option maxHeartbeats 8000000 in
set_option maxRecDepth 100000 in
theorem back_calls (k : Int) (f t : ByteArray) (am nc : Int) (ky' vl : ByteArray) (A B : Option Addr) (c d : Nat) (rs ws : List ByteArray) (s : ByteArray) (w : World) (ht : TxIn w k f t am nc ky' vl A B c d rs ws) :
    Calls Tryd.prog 15 #[.agg #[.int .i64 k, .string f, .string t, .int .u64 am, .int .u64 nc, .string ky', .string vl, .slice A rs.length c, .slice B ws.length d], .string s] w
      fun e w' => e = .returned (.bool true) ∧ Below w.heap.size w w' := by
  have hown := Lib.hid (fun W (hb : Below w.heap.size w W) => own_calls k f t am nc ky' vl A B c d rs ws W (Kd.C_below ht.r hb) ht.rc (Kd.C_below ht.s hb) ht.sc (by have := ht.rl; omega) (by have := ht.sl; omega))
  have HT := Lib.hid ht
  clear ht
  by_cases h5 : s.size ≤ 5000
  case neg =>
    have d1 : decide ((5000 : Int) < (s.size : Int)) = true := by simp; omega
    go_enter Tryd.func15, Tryd.ntmps15
    have HX := Lib.hid (Bq.first w #[.int .i64 k, .string f, .string t, .int .u64 am, .int .u64 nc, .string ky', .string vl, .slice A rs.length c, .slice B ws.length d])
    go_wp2_with (first
      | (go_at_call 48
         go_must (refine (works_calls _).mono ?_)
         rintro e w2 ⟨rfl, hB⟩
         have HX := Lib.hid (HX.out.step hB)
         clear hB))
    go_ret
    exact ⟨rfl, HX.out.low⟩
  have d1 : decide ((5000 : Int) < (s.size : Int)) = false := by simp; omega
  have HS := Lib.hid (show s.size < 4611686018427387904 by omega)
  clear h5
  obtain ⟨x, hx⟩ : ∃ x, ch k f t am nc ky' vl rs ws = x := ⟨_, rfl⟩
  by_cases h0 : x = 0
  case neg =>
    have x1 : (x == 0) = false := by simpa using h0
    have HE := Lib.hid (show enc k f t am nc ky' vl rs ws = (⟨#[]⟩, x) by rw [enc, if_neg (fun e => h0 (hx.symm.trans e)), hx])
    clear hx h0
    go_enter Tryd.func15, Tryd.ntmps15
    have HX := Lib.hid (Bq.first w #[.int .i64 k, .string f, .string t, .int .u64 am, .int .u64 nc, .string ky', .string vl, .slice A rs.length c, .slice B ws.length d])
    go_upto_region 11 with (first
      | (go_at_call 48
         go_must (refine (works_calls _).mono ?_)
         rintro e w2 ⟨rfl, hB⟩
         have HX := Lib.hid (HX.out.step hB)
         have e0 := blk_cell HX.out.box 0
         have e1 := blk_cell HX.out.box 1
         have e2 := blk_cell HX.out.box 2
         have e3 := blk_cell HX.out.box 3
         have e4 := blk_cell HX.out.box 4
         have e5 := blk_cell HX.out.box 5
         have e6 := blk_cell HX.out.box 6
         have e7 := blk_cell HX.out.box 7
         have e8 := blk_cell HX.out.box 8
         simp only [List.getElem?_toArray, List.getElem?_cons_zero, List.getElem?_cons_succ] at e0 e1 e2 e3 e4 e5 e6 e7 e8
         clear hB)
      | (go_at_call 19
         go_must (refine (hown.out _ HX.out.low).mono ?_)
         rintro e w2 ⟨A', c', B', d', rfl, h7, h8, hB⟩
         have HX := Lib.hid (HX.out.step hB)
         have H7 := Lib.hid h7
         have H8 := Lib.hid h8
         clear hB h7 h8)
      | (go_at_call 39
         go_must (refine (enc_of k f t am nc ky' vl A' B' c' d' rs ws _ ⟨#[]⟩ x HE.out H7.out.1 H7.out.2 H8.out.1 H8.out.2 HT.out.am HT.out.nc).mono ?_)
         rintro e w2 ⟨rfl, hB⟩
         have HX := Lib.hid (HX.out.step hB)
         clear hB))
    clear H7 H8
    by_cases h9 : err (dec s) = 0
    · obtain ⟨k1, f1, t1, am1, nc1, ky1, vl1, rs1, ws1, q1, q2, q3, q4, q5⟩ := dec_inv s h9
      have D3 := Lib.hid q1
      have E3 := Lib.hid (show enc k1 f1 t1 am1 nc1 ky1 vl1 rs1 ws1 = (s, 0) by rw [enc, if_pos q2, ← q3])
      have N3 := Lib.hid (show 0 ≤ am1 ∧ 0 ≤ nc1 from ⟨q4, q5⟩)
      have p1 : (s.toList == s.toList) = true := beq_self_eq_true _
      clear q1 q2 q3 q4 q5 h9
      go_upto_region 14 with (first
        | (go_at_call 27
           go_must (refine (same_calls k f t am nc ky' vl A1 B1 A B c1 d1' c d rs ws _ (Kd.C_below H7.out.1 HY.out.low) H7.out.2 (Kd.C_below H8.out.1 HY.out.low) H8.out.2 (Kd.C_below HT.out.r HX.out.low) HT.out.rc (Kd.C_below HT.out.s HX.out.low) HT.out.sc (by have := HT.out.rl; omega) (by have := HT.out.sl; omega)).mono ?_)
           rintro e w5 ⟨rfl, hB⟩
           have HX := Lib.hid (HX.out.step hB)
           clear hB)
        | (go_at_call 25
           go_must (refine (dec_of s k1 f1 t1 am1 nc1 ky1 vl1 rs1 ws1 0 _ HS.out D3.out).mono ?_)
           rintro e w6 ⟨A3, c3, B3, d3, rfl, h7, h8, hB⟩
           have HX := Lib.hid (HX.out.step hB)
           have G7 := Lib.hid h7
           have G8 := Lib.hid h8
           clear hB h7 h8))
      refine at_world (F := fun W => Bq w6 #[.int .i64 k1, .string f1, .string t1, .int .u64 am1, .int .u64 nc1, .string ky1, .string vl1, .slice A3 rs1.length c3, .slice B3 ws1.length d3] W ∧ Below w.heap.size w W) ⟨Bq.first _ _, HX.out.low.alloc HX.out.low.size _⟩ ?_
      rintro W ⟨hz, hl⟩
      have HZ := Lib.hid hz
      have HL := Lib.hid hl
      clear hz hl HX
      have z0 := blk_cell HZ.out.box 0
      have z1 := blk_cell HZ.out.box 1
      have z2 := blk_cell HZ.out.box 2
      have z3 := blk_cell HZ.out.box 3
      have z4 := blk_cell HZ.out.box 4
      have z5 := blk_cell HZ.out.box 5
      have z6 := blk_cell HZ.out.box 6
      have z7 := blk_cell HZ.out.box 7
      have z8 := blk_cell HZ.out.box 8
      simp only [List.getElem?_toArray, List.getElem?_cons_zero, List.getElem?_cons_succ] at z0 z1 z2 z3 z4 z5 z6 z7 z8
      go_wp2_with (first
        | (go_at_call 39
           go_must (refine (enc_of k1 f1 t1 am1 nc1 ky1 vl1 A3 B3 c3 d3 rs1 ws1 _ s 0 E3.out (Kd.C_below G7.out.1 HZ.out.low) G7.out.2 (Kd.C_below G8.out.1 HZ.out.low) G8.out.2 N3.out.1 N3.out.2).mono ?_)
           rintro e w7 ⟨rfl, hB⟩
           have HL := Lib.hid (below_then HL.out HL.out.size hB)
           clear hB))
      go_ret
      exact ⟨rfl, HL.out⟩
    · have q1 := dec_err s h9
      obtain ⟨y, hy⟩ : ∃ y, err (dec s) = y := ⟨_, rfl⟩
      rw [hy] at h9 q1
      have n1 : (y != 0) = true := by simpa using h9
      have D3 := Lib.hid (show dec s = (0, ⟨#[]⟩, ⟨#[]⟩, 0, 0, ⟨#[]⟩, ⟨#[]⟩, [], [], y) from q1)
      clear q1 hy h9
      go_upto_region 13 with (first
        | (go_at_call 27
           go_must (refine (same_calls k f t am nc ky' vl A1 B1 A B c1 d1' c d rs ws _ (Kd.C_below H7.out.1 HY.out.low) H7.out.2 (Kd.C_below H8.out.1 HY.out.low) H8.out.2 (Kd.C_below HT.out.r HX.out.low) HT.out.rc (Kd.C_below HT.out.s HX.out.low) HT.out.sc (by have := HT.out.rl; omega) (by have := HT.out.sl; omega)).mono ?_)
           rintro e w5 ⟨rfl, hB⟩
           have HX := Lib.hid (HX.out.step hB)
           clear hB)
        | (go_at_call 25
           go_must (refine (dec_of s 0 ⟨#[]⟩ ⟨#[]⟩ 0 0 ⟨#[]⟩ ⟨#[]⟩ [] [] y _ HS.out D3.out).mono ?_)
           rintro e w6 ⟨A3, c3, B3, d3, rfl, h7, h8, hB⟩
           have HX := Lib.hid (HX.out.step hB)
           have G7 := Lib.hid h7
           have G8 := Lib.hid h8
           clear hB h7 h8))
      refine at_world (F := fun W => Bq w6 #[.int .i64 0, .string ⟨#[]⟩, .string ⟨#[]⟩, .int .u64 0, .int .u64 0, .string ⟨#[]⟩, .string ⟨#[]⟩, .slice A3 ([] : List ByteArray).length c3, .slice B3 ([] : List ByteArray).length d3] W ∧ Below w.heap.size w W) ⟨Bq.first _ _, HX.out.low.alloc HX.out.low.size _⟩ ?_
      rintro W ⟨hz, hl⟩
      have HZ := Lib.hid hz
      have HL := Lib.hid hl
      clear hz hl HX
      have z0 := blk_cell HZ.out.box 0
      have z1 := blk_cell HZ.out.box 1
      have z2 := blk_cell HZ.out.box 2
      have z3 := blk_cell HZ.out.box 3
      have z4 := blk_cell HZ.out.box 4
      have z5 := blk_cell HZ.out.box 5
      have z6 := blk_cell HZ.out.box 6
      have z7 := blk_cell HZ.out.box 7
      have z8 := blk_cell HZ.out.box 8
      simp only [List.getElem?_toArray, List.getElem?_cons_zero, List.getElem?_cons_succ] at z0 z1 z2 z3 z4 z5 z6 z7 z8
      go_wp2_with (first
        | (go_at_call 27
           go_must (refine (same_calls 0 ⟨#[]⟩ ⟨#[]⟩ 0 0 ⟨#[]⟩ ⟨#[]⟩ A3 B3 none none c3 d3 0 0 [] [] _ (Kd.C_below G7.out.1 HZ.out.low) G7.out.2 (Kd.C_below G8.out.1 HZ.out.low) G8.out.2 (Kd.C_nil _ _) (Nat.le_refl _) (Kd.C_nil _ _) (Nat.le_refl _) (by decide) (by decide)).mono ?_)
           rintro e w7 ⟨rfl, hB⟩
           have HL := Lib.hid (below_then HL.out HL.out.size hB)
           clear hB))
      go_ret
      exact ⟨rfl, HL.out⟩
  subst h0
  have x1 : (0 == 0) = true := rfl
  have HE := Lib.hid (show enc k f t am nc ky' vl rs ws = (encB k f t am nc ky' vl rs ws, 0) from if_pos hx)
  have hsz := encB_size hx
  have hd1 := dec_enc hx HT.out.am HT.out.nc ⟨#[]⟩
  have hd2 := dec_enc hx HT.out.am HT.out.nc ⟨#[120]⟩
  rw [ba_nil', if_pos (by rw [Lib.toList_data]; rfl)] at hd1
  rw [if_neg (by rw [Lib.toList_data]; decide)] at hd2
  obtain ⟨b, hb⟩ : ∃ b, encB k f t am nc ky' vl rs ws = b := ⟨_, rfl⟩
  rw [hb] at HE hsz hd1 hd2
  have D1 := Lib.hid hd1
  have D2 := Lib.hid (show dec (b ++ ⟨#[120]⟩) = (0, ⟨#[]⟩, ⟨#[]⟩, 0, 0, ⟨#[]⟩, ⟨#[]⟩, [], [], 6) from hd2)
  have s1 : b.size + (⟨#[120]⟩ : ByteArray).size ≤ 9223372036854775807 := by have e : (⟨#[120]⟩ : ByteArray).size = 1 := rfl; omega
  have HB1 := Lib.hid (show b.size < 4611686018427387904 by omega)
  have HB2 := Lib.hid (show (b ++ (⟨#[120]⟩ : ByteArray)).size < 4611686018427387904 by rw [ByteArray.size_append]; have e : (⟨#[120]⟩ : ByteArray).size = 1 := rfl; omega)
  clear hx hsz hd1 hd2 hb
  go_enter Tryd.func15, Tryd.ntmps15
  have HX := Lib.hid (Bq.first w #[.int .i64 k, .string f, .string t, .int .u64 am, .int .u64 nc, .string ky', .string vl, .slice A rs.length c, .slice B ws.length d])
  go_upto_region 9 with (first
    | (go_at_call 48
       go_must (refine (works_calls _).mono ?_)
       rintro e w2 ⟨rfl, hB⟩
       have HX := Lib.hid (HX.out.step hB)
       have e0 := blk_cell HX.out.box 0
       have e1 := blk_cell HX.out.box 1
       have e2 := blk_cell HX.out.box 2
       have e3 := blk_cell HX.out.box 3
       have e4 := blk_cell HX.out.box 4
       have e5 := blk_cell HX.out.box 5
       have e6 := blk_cell HX.out.box 6
       have e7 := blk_cell HX.out.box 7
       have e8 := blk_cell HX.out.box 8
       simp only [List.getElem?_toArray, List.getElem?_cons_zero, List.getElem?_cons_succ] at e0 e1 e2 e3 e4 e5 e6 e7 e8
       clear hB)
    | (go_at_call 19
       go_must (refine (hown.out _ HX.out.low).mono ?_)
       rintro e w2 ⟨A', c', B', d', rfl, h7, h8, hB⟩
       have HX := Lib.hid (HX.out.step hB)
       have H7 := Lib.hid h7
       have H8 := Lib.hid h8
       clear hB h7 h8)
    | (go_at_call 39
       go_must (refine (enc_of k f t am nc ky' vl A' B' c' d' rs ws _ b 0 HE.out H7.out.1 H7.out.2 H8.out.1 H8.out.2 HT.out.am HT.out.nc).mono ?_)
       rintro e w2 ⟨rfl, hB⟩
       have HX := Lib.hid (HX.out.step hB)
       clear hB)
    | (go_at_call 25
       first
         | (with_reducible refine (dec_of b k f t am nc ky' vl rs ws 0 _ HB1.out D1.out).mono ?_
            rintro e w3 ⟨A1, c1, B1, d1', rfl, h7, h8, hB⟩
            have HX := Lib.hid (HX.out.step hB)
            have H7 := Lib.hid h7
            have H8 := Lib.hid h8
            clear hB h7 h8)
         | (with_reducible refine (dec_of (b ++ ⟨#[120]⟩) 0 ⟨#[]⟩ ⟨#[]⟩ 0 0 ⟨#[]⟩ ⟨#[]⟩ [] [] 6 _ HB2.out D2.out).mono ?_
            rintro e w4 ⟨A2, c2, B2, d2', rfl, h9, h10, hB⟩
            have HY := Lib.hid (Bq.first w3 #[.int .i64 k, .string f, .string t, .int .u64 am, .int .u64 nc, .string ky', .string vl, .slice A1 rs.length c1, .slice B1 ws.length d1'])
            have HX := Lib.hid ((HX.out.step ((Below.refl _ _).alloc (Nat.le_refl _) _)).step hB)
            have HY := Lib.hid (HY.out.step hB)
            clear hB h9 h10)))
  refine at_world (F := fun W => Bq w #[.int .i64 k, .string f, .string t, .int .u64 am, .int .u64 nc, .string ky', .string vl, .slice A rs.length c, .slice B ws.length d] W ∧ Bq w3 #[.int .i64 k, .string f, .string t, .int .u64 am, .int .u64 nc, .string ky', .string vl, .slice A1 rs.length c1, .slice B1 ws.length d1'] W) ⟨HX.out.step ((Below.refl _ _).alloc (Nat.le_refl _) _), HY.out.step ((Below.refl _ _).alloc (Nat.le_refl _) _)⟩ ?_
  clear HX HY e0 e1 e2 e3 e4 e5 e6 e7 e8
  rintro W ⟨hx, hy⟩
  have HX := Lib.hid hx
  have HY := Lib.hid hy
  clear hx hy
  have e0 := blk_cell HX.out.box 0
  have e1 := blk_cell HX.out.box 1
  have e2 := blk_cell HX.out.box 2
  have e3 := blk_cell HX.out.box 3
  have e4 := blk_cell HX.out.box 4
  have e5 := blk_cell HX.out.box 5
  have e6 := blk_cell HX.out.box 6
  have e7 := blk_cell HX.out.box 7
  have e8 := blk_cell HX.out.box 8
  simp only [List.getElem?_toArray, List.getElem?_cons_zero, List.getElem?_cons_succ] at e0 e1 e2 e3 e4 e5 e6 e7 e8
  have y0 := blk_cell HY.out.box 0
  have y1 := blk_cell HY.out.box 1
  have y2 := blk_cell HY.out.box 2
  have y3 := blk_cell HY.out.box 3
  have y4 := blk_cell HY.out.box 4
  have y5 := blk_cell HY.out.box 5
  have y6 := blk_cell HY.out.box 6
  have y7 := blk_cell HY.out.box 7
  have y8 := blk_cell HY.out.box 8
  simp only [List.getElem?_toArray, List.getElem?_cons_zero, List.getElem?_cons_succ] at y0 y1 y2 y3 y4 y5 y6 y7 y8
  by_cases h9 : err (dec s) = 0
  · obtain ⟨k1, f1, t1, am1, nc1, ky1, vl1, rs1, ws1, q1, q2, q3, q4, q5⟩ := dec_inv s h9
    have D3 := Lib.hid q1
    have E3 := Lib.hid (show enc k1 f1 t1 am1 nc1 ky1 vl1 rs1 ws1 = (s, 0) by rw [enc, if_pos q2, ← q3])
    have N3 := Lib.hid (show 0 ≤ am1 ∧ 0 ≤ nc1 from ⟨q4, q5⟩)
    have p1 : (s.toList == s.toList) = true := beq_self_eq_true _
    clear q1 q2 q3 q4 q5 h9
    go_upto_region 14 with (first
      | (go_at_call 27
         go_must (refine (same_calls k f t am nc ky' vl A1 B1 A B c1 d1' c d rs ws _ (Kd.C_below H7.out.1 HY.out.low) H7.out.2 (Kd.C_below H8.out.1 HY.out.low) H8.out.2 (Kd.C_below HT.out.r HX.out.low) HT.out.rc (Kd.C_below HT.out.s HX.out.low) HT.out.sc (by have := HT.out.rl; omega) (by have := HT.out.sl; omega)).mono ?_)
         rintro e w5 ⟨rfl, hB⟩
         have HX := Lib.hid (HX.out.step hB)
         clear hB)
      | (go_at_call 25
         go_must (refine (dec_of s k1 f1 t1 am1 nc1 ky1 vl1 rs1 ws1 0 _ HS.out D3.out).mono ?_)
         rintro e w6 ⟨A3, c3, B3, d3, rfl, h7, h8, hB⟩
         have HX := Lib.hid (HX.out.step hB)
         have G7 := Lib.hid h7
         have G8 := Lib.hid h8
         clear hB h7 h8))
    refine at_world (F := fun W => Bq w6 #[.int .i64 k1, .string f1, .string t1, .int .u64 am1, .int .u64 nc1, .string ky1, .string vl1, .slice A3 rs1.length c3, .slice B3 ws1.length d3] W ∧ Below w.heap.size w W) ⟨Bq.first _ _, HX.out.low.alloc HX.out.low.size _⟩ ?_
    rintro W ⟨hz, hl⟩
    have HZ := Lib.hid hz
    have HL := Lib.hid hl
    clear hz hl HX
    have z0 := blk_cell HZ.out.box 0
    have z1 := blk_cell HZ.out.box 1
    have z2 := blk_cell HZ.out.box 2
    have z3 := blk_cell HZ.out.box 3
    have z4 := blk_cell HZ.out.box 4
    have z5 := blk_cell HZ.out.box 5
    have z6 := blk_cell HZ.out.box 6
    have z7 := blk_cell HZ.out.box 7
    have z8 := blk_cell HZ.out.box 8
    simp only [List.getElem?_toArray, List.getElem?_cons_zero, List.getElem?_cons_succ] at z0 z1 z2 z3 z4 z5 z6 z7 z8
    go_wp2_with (first
      | (go_at_call 39
         go_must (refine (enc_of k1 f1 t1 am1 nc1 ky1 vl1 A3 B3 c3 d3 rs1 ws1 _ s 0 E3.out (Kd.C_below G7.out.1 HZ.out.low) G7.out.2 (Kd.C_below G8.out.1 HZ.out.low) G8.out.2 N3.out.1 N3.out.2).mono ?_)
         rintro e w7 ⟨rfl, hB⟩
         have HL := Lib.hid (below_then HL.out HL.out.size hB)
         clear hB))
    go_ret
    exact ⟨rfl, HL.out⟩
  · have q1 := dec_err s h9
    obtain ⟨y, hy⟩ : ∃ y, err (dec s) = y := ⟨_, rfl⟩
    rw [hy] at h9 q1
    have n1 : (y != 0) = true := by simpa using h9
    have D3 := Lib.hid (show dec s = (0, ⟨#[]⟩, ⟨#[]⟩, 0, 0, ⟨#[]⟩, ⟨#[]⟩, [], [], y) from q1)
    clear q1 hy h9
    go_upto_region 13 with (first
      | (go_at_call 27
         go_must (refine (same_calls k f t am nc ky' vl A1 B1 A B c1 d1' c d rs ws _ (Kd.C_below H7.out.1 HY.out.low) H7.out.2 (Kd.C_below H8.out.1 HY.out.low) H8.out.2 (Kd.C_below HT.out.r HX.out.low) HT.out.rc (Kd.C_below HT.out.s HX.out.low) HT.out.sc (by have := HT.out.rl; omega) (by have := HT.out.sl; omega)).mono ?_)
         rintro e w5 ⟨rfl, hB⟩
         have HX := Lib.hid (HX.out.step hB)
         clear hB)
      | (go_at_call 25
         go_must (refine (dec_of s 0 ⟨#[]⟩ ⟨#[]⟩ 0 0 ⟨#[]⟩ ⟨#[]⟩ [] [] y _ HS.out D3.out).mono ?_)
         rintro e w6 ⟨A3, c3, B3, d3, rfl, h7, h8, hB⟩
         have HX := Lib.hid (HX.out.step hB)
         have G7 := Lib.hid h7
         have G8 := Lib.hid h8
         clear hB h7 h8))
    refine at_world (F := fun W => Bq w6 #[.int .i64 0, .string ⟨#[]⟩, .string ⟨#[]⟩, .int .u64 0, .int .u64 0, .string ⟨#[]⟩, .string ⟨#[]⟩, .slice A3 ([] : List ByteArray).length c3, .slice B3 ([] : List ByteArray).length d3] W ∧ Below w.heap.size w W) ⟨Bq.first _ _, HX.out.low.alloc HX.out.low.size _⟩ ?_
    rintro W ⟨hz, hl⟩
    have HZ := Lib.hid hz
    have HL := Lib.hid hl
    clear hz hl HX
    have z0 := blk_cell HZ.out.box 0
    have z1 := blk_cell HZ.out.box 1
    have z2 := blk_cell HZ.out.box 2
    have z3 := blk_cell HZ.out.box 3
    have z4 := blk_cell HZ.out.box 4
    have z5 := blk_cell HZ.out.box 5
    have z6 := blk_cell HZ.out.box 6
    have z7 := blk_cell HZ.out.box 7
    have z8 := blk_cell HZ.out.box 8
    simp only [List.getElem?_toArray, List.getElem?_cons_zero, List.getElem?_cons_succ] at z0 z1 z2 z3 z4 z5 z6 z7 z8
    go_wp2_with (first
      | (go_at_call 27
         go_must (refine (same_calls 0 ⟨#[]⟩ ⟨#[]⟩ 0 0 ⟨#[]⟩ ⟨#[]⟩ A3 B3 none none c3 d3 0 0 [] [] _ (Kd.C_below G7.out.1 HZ.out.low) G7.out.2 (Kd.C_below G8.out.1 HZ.out.low) G8.out.2 (Kd.C_nil _ _) (Nat.le_refl _) (Kd.C_nil _ _) (Nat.le_refl _) (by decide) (by decide)).mono ?_)
         rintro e w7 ⟨rfl, hB⟩
         have HL := Lib.hid (below_then HL.out HL.out.size hB)
         clear hB))
    go_ret
    exact ⟨rfl, HL.out⟩
end Go.Proofs.YtndicjikjcifaaaDoor
