/- tuskref01's numbers, texts, lists and tuskref04.Encode: the same bytes as tx's. -/
import Derived.Test.YtndicjikjcifaaaDoorTxworks
import Derived.Test.YtndicjikjcifaaaDoorCodeb
import Derived.Test.YtndicjikjcifaaaDoorRefchk
import Derived.Test.YtndicjikjcifaaaDoorPRix1
import Derived.Test.YtndicjikjcifaaaDoorPRnx1
import Derived.Deep.RegionHeld3
import Derived.Test.YtndicjikjcifaaaDoorTxsame
import Derived.Test.YtndicjikjcifaaaDoorTxown
namespace Go.Proofs.YtndicjikjcifaaaDoor
open Go.RowKit Go.Shelf Go.Lib Go.Proofs.YtndicjikjcifaaaDoorW.PrintWords Go.Proofs.YtndicjikjcifaaaDoorW.PrintLast
set_option linter.unusedVariables false
set_option linter.unusedSimpArgs false

theorem str_cons (a : Int) (l : List Int) : strOfNums (a :: l) = strOfNums [a] ++ strOfNums l := by
  apply ba_eq
  rw [ba_app, strOfNums_data, strOfNums_data, strOfNums_data]
  rfl
open PRi in
theorem ref_int : ∀ d (n : Nat) K, n < 128 ^ (d + 1) → n ≤ 4611686018427387903 → 2 * d + 2 ≤ K → tuskref01_Int.f K (n : Int) = some (strOfNums (vints n))
  | d, n, 0, h, hm, hK => by omega
  | d, n, 1, h, hm, hK => by omega
  | d, n, K + 2, h, hm, hK => by
    rw [tuskref01_Int.f, if_neg (by omega), tuskref01_Int.j0, if_neg (by simp; omega)]
    by_cases h1 : n < 128
    · rw [if_pos (by omega), vints, dif_pos h1]
      congr 3
      omega
    · rw [if_neg (by omega)]
      cases d with
      | zero => omega
      | succ d =>
        have e1 : Int.tmod (n : Int) 128 = ((n % 128 : Nat) : Int) := by
          rw [Int.tmod_eq_emod_of_nonneg (by omega)]; omega
        have e2 : Int.tdiv (n : Int) 128 = ((n / 128 : Nat) : Int) := by
          rw [Int.tdiv_eq_ediv_of_nonneg (by omega)]; omega
        have e3 : wrap64 (128 + Int.tmod (n : Int) 128) % 256 = ((n % 128 + 128 : Nat) : Int) := by
          rw [e1, w64 _ (by omega) (by omega)]; omega
        have e4 : wrap64 (Int.tdiv (n : Int) 128) = ((n / 128 : Nat) : Int) := by rw [e2, w64 _ (by omega) (by omega)]
        have ih := ref_int d (n / 128) K (by rw [Nat.pow_succ] at h; omega) (by omega) (by omega)
        rw [e3, e4, ih, Option.bind_some, Option.bind_some]
        have hl := vints_len (d + 1 + 7) (n / 128) (by
          have : 128 ^ (d + 1) ≤ 128 ^ (d + 1 + 7 + 1) := Nat.pow_le_pow_right (by omega) (by omega)
          rw [Nat.pow_succ] at h
          omega)
        have hl2 := vints_len 8 (n / 128) (by omega)
        rw [if_pos (by rw [strOfNums_size, strOfNums_size, List.length_singleton]; omega)]
        conv => rhs; rw [vints, dif_neg h1, str_cons]
theorem int2_calls (n : Int) (w : World) (h0 : 0 ≤ n) (h1 : n ≤ 4611686018427387903) : Calls Tryd.prog 64 #[.int .i64 n] w fun e w' => e = .returned (.string (ib n)) ∧ Below w.heap.size w w' := by
  obtain ⟨m, rfl⟩ : ∃ m : Nat, n = m := ⟨n.toNat, by omega⟩
  refine PRi.tuskref01_Int.calls 18 (m : Int) (ib m) w ?_
  rw [ref_int 8 m 18 (by omega) (by omega) (by omega), ib_eq (by omega) (by omega), Int.toNat_natCast]
open PRi in
theorem ref_txt (x : ByteArray) (hx : x.size ≤ 4611686018427387000) (K : Nat) (hK : 18 ≤ K) : tuskref01_Text.f K x = some (tb x) := by
  have hi := ib_size x.size
  rw [tuskref01_Text.f, ref_int 8 x.size K (by omega) (by omega) (by omega), Option.bind_some]
  rw [ib_eq (by omega) (by omega), Int.toNat_natCast] at hi
  rw [if_pos (by omega), tb, ib_eq (by omega) (by omega), Int.toNat_natCast]
theorem text2_calls (x : ByteArray) (w : World) (hx : x.size ≤ 4611686018427387000) : Calls Tryd.prog 70 #[.string x] w fun e w' => e = .returned (.string (tb x)) ∧ Below w.heap.size w w' :=
  PRi.tuskref01_Text.calls 18 x (tb x) w (ref_txt x hx 18 (by omega))
open PRi in
theorem ref_lst (xs : List ByteArray) (hx : xs.length ≤ 1000) (hz : ∀ x ∈ xs, x.size ≤ 65536) : ∀ d i K acc, i + d = xs.length → d + 19 ≤ K → acc.size ≤ 9 + i * 65545 →
    tuskref01_List.l0 K xs acc (i : Int) = some (acc ++ tbsB (xs.drop i))
  | 0, i, 0, acc, hi, hK, ha => by omega
  | 0, i, K + 1, acc, hi, hK, ha => by
    rw [tuskref01_List.l0, if_neg (by omega), List.drop_eq_nil_of_le (by omega), tbsB_nil, ba_nil']
  | d + 1, i, 0, acc, hi, hK, ha => by omega
  | d + 1, i, K + 1, acc, hi, hK, ha => by
    have hlt : i < xs.length := by omega
    have hw : wrap64 ((i : Int) + 1) = ((i + 1 : Nat) : Int) := by rw [w64 _ (by omega) (by omega)]; push_cast; rfl
    have hs := hz xs[i] (List.getElem_mem hlt)
    have ht := tb_size xs[i]
    have hm : i * 65545 ≤ 1000 * 65545 := Nat.mul_le_mul_right _ (by omega)
    rw [tuskref01_List.l0, if_pos (by omega), if_pos (by omega), rd_at xs i hlt, ref_txt _ (by omega) K (by omega), Option.bind_some, if_pos (by omega), hw,
      ref_lst xs hx hz d (i + 1) K (acc ++ tb xs[i]) (by omega) (by omega) (by rw [ByteArray.size_append, Nat.succ_mul]; omega), List.drop_eq_getElem_cons hlt, tbsB_cons, ba_assoc]
theorem list2_calls (A : Option Addr) (c : Nat) (xs : List ByteArray) (w : World) (hr : Kd.C Kd.string w A xs.length xs) (hc : xs.length ≤ c) (hx : xs.length ≤ 1000) (hz : ∀ x ∈ xs, x.size ≤ 65536) :
    Calls Tryd.prog 65 #[.slice A xs.length c] w fun e w' => e = .returned (.string (lb xs)) ∧ Below w.heap.size w w' := by
  refine PRi.tuskref01_List.calls (xs.length + 19) A c xs (lb xs) w hr hc ?_
  have hi := ib_size xs.length
  rw [PRi.tuskref01_List.f, ref_int 8 xs.length _ (by omega) (by omega) (by omega), Option.bind_some]
  have e : strOfNums (vints xs.length) = ib xs.length := by rw [ib_eq (by omega) (by omega), Int.toNat_natCast]
  rw [e]
  have := ref_lst xs hx hz xs.length 0 (xs.length + 19) (ib xs.length) (by omega) (by omega) (by omega)
  rw [List.drop_zero, ← lb_eq] at this
  exact this
theorem one_ref (a b : ByteArray) : one2 (mn a b) (mx a b) = if a.toList = b.toList then [a] else if Op.bytesLess a.toList b.toList = true then [a, b] else [b, a] := by
  have hl := leq_not a.toList b.toList
  unfold one2 mn mx
  cases h : lts b a with
  | true =>
    rw [lts] at h
    rw [h] at hl
    simp only [Bool.not_true, Bool.or_eq_false_iff] at hl
    have h2 : a.toList ≠ b.toList := by simpa using hl.2
    rw [if_pos rfl, if_pos rfl, if_neg (fun e => h2 e.symm), if_neg h2, if_neg (by simp [hl.1])]
  | false =>
    rw [lts] at h
    rw [h] at hl
    simp only [Bool.false_eq_true, if_false]
    by_cases he : a.toList = b.toList
    · rw [if_pos he, if_pos he]
    · have h3 : (a.toList == b.toList) = false := by simpa using he
      rw [h3] at hl
      simp at hl
      rw [if_neg he, if_neg he, if_pos hl]
theorem need2_eq (K : Nat) (k : Int) (f t : ByteArray) (am nc : Int) (ky' vl : ByteArray) (rs ws : List ByteArray) (hL : Lim f t ky' rs ws) :
    PRn.tuskref04_Needs.f (K + 1) k f t am nc ky' vl rs ws = some (need k f t am nc ky' vl rs ws) := by
  have e2 : tuskref04_Check.f k f t am nc ky' vl rs ws = some (ch k f t am nc ky' vl rs ws) := if_pos hL
  rw [PRn.tuskref04_Needs.f, e2, Option.bind_some, need]
  by_cases h : ch k f t am nc ky' vl rs ws = 0
  · have h1 := hL.1
    have h2 := hL.2.1
    have h3 := hL.2.2.1
    rw [if_pos h, if_pos h, if_pos (by omega), if_pos (by omega), one_ref]
    by_cases hk : k = 2
    · rw [if_pos hk, if_pos (by omega), PRn.tuskref04_Needs.j0, nB, if_pos hk]
      unfold nA nK
      repeat' split
      all_goals first | rfl | contradiction
    · rw [if_neg hk, PRn.tuskref04_Needs.j0, nB, if_neg hk]
      unfold nA
      repeat' split
      all_goals first | rfl | contradiction
  · rw [if_neg h, if_neg h]
open PRn in
theorem has_l (xs : List ByteArray) (x : ByteArray) (hx : xs.length < 4611686018427387904) : ∀ d i K, i + d = xs.length → d + 1 ≤ K → tuskref04_Has.l0 K xs x i = some (hasB (xs.drop i) x)
  | 0, i, 0, hi, hK => by omega
  | 0, i, K + 1, hi, hK => by rw [tuskref04_Has.l0, if_neg (by omega), List.drop_eq_nil_of_le (by omega)]; rfl
  | d + 1, i, 0, hi, hK => by omega
  | d + 1, i, K + 1, hi, hK => by
    have hlt : i < xs.length := by omega
    have hw : wrap64 ((i : Int) + 1) = ((i + 1 : Nat) : Int) := by rw [w64 _ (by omega) (by omega)]; push_cast; rfl
    rw [tuskref04_Has.l0, if_pos (by omega), if_pos (by omega), rd_at xs i hlt, hw, has_l xs x hx d (i + 1) K (by omega) (by omega), List.drop_eq_getElem_cons hlt, hasB_cons, Lib.toList_data, Lib.toList_data]
    by_cases he : xs[i].data.toList = x.data.toList
    · rw [if_pos he, decide_eq_true he.symm]; rfl
    · rw [if_neg he, decide_eq_false (fun e => he e.symm)]; rfl
open PRn in
theorem fits2_l (k : Int) (f t : ByteArray) (am nc : Int) (ky' vl : ByteArray) (rs ws l : List ByteArray) (hw : ws.length < 4611686018427387904) (hl : l.length < 4611686018427387904) : ∀ d i K, i + d = l.length → d + ws.length + 2 ≤ K →
    tuskref04_Fits.l0 K l i k f t am nc ky' vl rs ws = some ((l.drop i).all (hasB ws) && decide (0 < l.length))
  | 0, i, 0, hi, hK => by omega
  | 0, i, K + 1, hi, hK => by
    rw [tuskref04_Fits.l0, if_neg (by omega), List.drop_eq_nil_of_le (by omega)]
    simp
  | d + 1, i, 0, hi, hK => by omega
  | d + 1, i, K + 1, hi, hK => by
    have hlt : i < l.length := by omega
    have hwr : wrap64 ((i : Int) + 1) = ((i + 1 : Nat) : Int) := by rw [w64 _ (by omega) (by omega)]; push_cast; rfl
    have hh : tuskref04_Has.f K ws l[i] = some (hasB ws l[i]) := by
      have := has_l ws l[i] hw ws.length 0 K (by omega) (by omega)
      rw [List.drop_zero] at this
      exact this
    rw [tuskref04_Fits.l0, if_pos (by omega), if_pos (by omega), rd_at l i hlt, hh, Option.bind_some, hwr, fits2_l k f t am nc ky' vl rs ws l hw hl d (i + 1) K (by omega) (by omega), List.drop_eq_getElem_cons hlt, List.all_cons]
    cases hasB ws l[i] <;> simp
theorem need2_calls (k : Int) (f t : ByteArray) (am nc : Int) (ky' vl : ByteArray) (A B : Option Addr) (c d : Nat) (rs ws : List ByteArray) (w : World) (hL : Lim f t ky' rs ws)
    (hr : Kd.C Kd.string w A rs.length rs) (hc : rs.length ≤ c) (hs : Kd.C Kd.string w B ws.length ws) (hd : ws.length ≤ d) :
    Calls Tryd.prog 45 #[.agg #[.int .i64 k, .string f, .string t, .int .u64 am, .int .u64 nc, .string ky', .string vl, .slice A rs.length c, .slice B ws.length d]] w
      fun e w' => ∃ v0_ : Value, e = .returned v0_ ∧ Kd.R Kd.string 9 w' w.heap.size (fun _ => True) v0_ (need k f t am nc ky' vl rs ws) ∧ Below w.heap.size w w' :=
  PRn.tuskref04_Needs.calls 2 k f t am nc ky' vl A c rs B d ws _ w hr hc hs hd (need2_eq 1 k f t am nc ky' vl rs ws hL)
theorem fits2_calls (k : Int) (f t : ByteArray) (am nc : Int) (ky' vl : ByteArray) (A B : Option Addr) (c d : Nat) (rs ws : List ByteArray) (w : World) (hL : Lim f t ky' rs ws) (hw : ws.length < 4611686018427387904)
    (hr : Kd.C Kd.string w A rs.length rs) (hc : rs.length ≤ c) (hs : Kd.C Kd.string w B ws.length ws) (hd : ws.length ≤ d) :
    Calls Tryd.prog 47 #[.agg #[.int .i64 k, .string f, .string t, .int .u64 am, .int .u64 nc, .string ky', .string vl, .slice A rs.length c, .slice B ws.length d]] w
      fun e w' => e = .returned (.bool (fitB (need k f t am nc ky' vl rs ws) ws)) ∧ Below w.heap.size w w' := by
  refine PRn.tuskref04_Fits.calls (ws.length + 5) k f t am nc ky' vl A c rs B d ws _ w hr hc hs hd ?_
  have hl : (need k f t am nc ky' vl rs ws).length ≤ 2 := by
    unfold need one2
    repeat' split
    all_goals simp
  rw [PRn.tuskref04_Fits.f, need2_eq _ k f t am nc ky' vl rs ws hL, Option.bind_some]
  exact fits2_l k f t am nc ky' vl rs ws _ hw (by omega) (need k f t am nc ky' vl rs ws).length 0 (ws.length + 5) (by omega) (by omega)
set_option maxHeartbeats 8000000 in
set_option maxRecDepth 100000 in
theorem enc2_no (k : Int) (f t : ByteArray) (am nc : Int) (ky' vl : ByteArray) (A B : Option Addr) (c d : Nat) (rs ws : List ByteArray) (w : World) (x : Int) (hx : ch k f t am nc ky' vl rs ws = x) (h0 : x ≠ 0) (hL : Lim f t ky' rs ws)
    (hr : Kd.C Kd.string w A rs.length rs) (hc : rs.length ≤ c) (hs : Kd.C Kd.string w B ws.length ws) (hd : ws.length ≤ d) :
    Calls Tryd.prog 40 #[.agg #[.int .i64 k, .string f, .string t, .int .u64 am, .int .u64 nc, .string ky', .string vl, .slice A rs.length c, .slice B ws.length d]] w
      fun e w' => EP (⟨#[]⟩, x) w e w' := by
  have HR := Lib.hid hr
  have HC := Lib.hid hc
  have HS := Lib.hid hs
  have HD := Lib.hid hd
  have HL := Lib.hid hL
  clear hr hc hs hd hL
  have hx2 : (x != 0) = true := by simpa using h0
  have hch := Lib.hid (fun W hw => tuskref04_Check.calls k f t am nc ky' vl A c rs B d ws x W (Kd.C_below HR.out hw) HC.out (Kd.C_below HS.out hw) HD.out (by rw [tuskref04_Check.f, if_pos HL.out, hx]))
  clear hx h0
  go_enter Tryd.func40, Tryd.ntmps40
  have HX := Lib.hid (Bq.first w #[.int .i64 k, .string f, .string t, .int .u64 am, .int .u64 nc, .string ky', .string vl, .slice A rs.length c, .slice B ws.length d])
  go_wp2_with (first
    | (go_at_call 42
       go_must (refine (hch.out _ HX.out.low).mono ?_)
       rintro e w2 ⟨rfl, hB⟩
       have HX := Lib.hid (HX.out.step hB)
       clear hB))
  go_ret2
  exact ⟨rfl, HX.out.low⟩
set_option maxHeartbeats 8000000 in
set_option maxRecDepth 100000 in
theorem enc2_ok (k : Int) (f t : ByteArray) (am nc : Int) (ky' vl : ByteArray) (A B : Option Addr) (c d : Nat) (rs ws : List ByteArray) (w : World) (hx : ch k f t am nc ky' vl rs ws = 0) (hL : Lim f t ky' rs ws)
    (hr : Kd.C Kd.string w A rs.length rs) (hc : rs.length ≤ c) (hs : Kd.C Kd.string w B ws.length ws) (hd : ws.length ≤ d) (ha : 0 ≤ am) (hn : 0 ≤ nc) :
    Calls Tryd.prog 40 #[.agg #[.int .i64 k, .string f, .string t, .int .u64 am, .int .u64 nc, .string ky', .string vl, .slice A rs.length c, .slice B ws.length d]] w
      fun e w' => EP (encB k f t am nc ky' vl rs ws, 0) w e w' := by
  have hf := ch_fine hx
  have HR := Lib.hid hr
  have HC := Lib.hid hc
  have HS := Lib.hid hs
  have HD := Lib.hid hd
  have hr1 := ke_zero hf.rs
  have hs1 := ke_zero hf.ws
  have L1 := lb_size 34 rs hr1.2
  have L2 := lb_size 34 ws hs1.2
  have S1 : (lb rs).size = (lbL rs).length := by simp [lb, ByteArray.size]
  have S2 : (lb ws).size = (lbL ws).length := by simp [lb, ByteArray.size]
  have L1 : (lbL rs).length ≤ 353 := by have := hr1.1; omega
  have L2 : (lbL ws).length ≤ 353 := by have := hs1.1; omega
  have T1 := tb_size f
  have T2 := tb_size t
  have T3 := tb_size ky'
  have T4 := tb_size vl
  have I1 := ib_size k
  have I2 := ib_size am
  have I3 := ib_size nc
  have Q1 := hf.f
  have Q2 := hf.t
  have Q3 := hf.ky
  have Q4 := hf.vl
  have Q5 := hf.k
  have HT := Lib.hid (show f.size ≤ 4611686018427387000 ∧ t.size ≤ 4611686018427387000 ∧ ky'.size ≤ 4611686018427387000 ∧ vl.size ≤ 4611686018427387000 from ⟨by omega, by omega, by omega, by omega⟩)
  have HI := Lib.hid (show (0 ≤ k ∧ k ≤ 4611686018427387903) ∧ (0 ≤ am ∧ am ≤ 4611686018427387903) ∧ (0 ≤ nc ∧ nc ≤ 4611686018427387903) from ⟨by omega, ⟨ha, hf.am⟩, ⟨hn, hf.nc⟩⟩)
  have HZ := Lib.hid (show (rs.length ≤ 1000 ∧ ∀ x ∈ rs, x.size ≤ 65536) ∧ (ws.length ≤ 1000 ∧ ∀ x ∈ ws, x.size ≤ 65536) from ⟨⟨by omega, fun x h => by have := hr1.2 x h; omega⟩, ⟨by omega, fun x h => by have := hs1.2 x h; omega⟩⟩)
  have g1 : (9223372036854775807 < (ib k).size + (tb f).size) = False := by rw [eq_iff_iff, iff_false]; omega
  have g2 : (9223372036854775807 < (ib k).size + (tb f).size + (tb t).size) = False := by rw [eq_iff_iff, iff_false]; omega
  have g3 : (9223372036854775807 < (ib k).size + (tb f).size + (tb t).size + (ib am).size) = False := by rw [eq_iff_iff, iff_false]; omega
  have g4 : (9223372036854775807 < (ib k).size + (tb f).size + (tb t).size + (ib am).size + (ib nc).size) = False := by rw [eq_iff_iff, iff_false]; omega
  have g5 : (9223372036854775807 < (ib k).size + (tb f).size + (tb t).size + (ib am).size + (ib nc).size + (tb ky').size) = False := by rw [eq_iff_iff, iff_false]; omega
  have g6 : (9223372036854775807 < (ib k).size + (tb f).size + (tb t).size + (ib am).size + (ib nc).size + (tb ky').size + (tb vl).size) = False := by rw [eq_iff_iff, iff_false]; omega
  have g7 : (9223372036854775807 < (ib k).size + (tb f).size + (tb t).size + (ib am).size + (ib nc).size + (tb ky').size + (tb vl).size + (lb rs).size) = False := by rw [eq_iff_iff, iff_false]; omega
  have g8 : (9223372036854775807 < (ib k).size + (tb f).size + (tb t).size + (ib am).size + (ib nc).size + (tb ky').size + (tb vl).size + (lb rs).size + (lb ws).size) = False := by rw [eq_iff_iff, iff_false]; omega
  have wa : IntKind.i64.wrap am = am := by have := hf.am; rw [IntKind.wrap_i64]; omega
  have wn : IntKind.i64.wrap nc = nc := by have := hf.nc; rw [IntKind.wrap_i64]; omega
  have hch := Lib.hid (fun W hw => tuskref04_Check.calls k f t am nc ky' vl A c rs B d ws 0 W (Kd.C_below HR.out hw) HC.out (Kd.C_below HS.out hw) HD.out (by rw [tuskref04_Check.f, if_pos hL, hx]))
  clear hr hc hs hd hx ha hn hf hr1 hs1 L1 L2 T1 T2 T3 T4 Q1 Q2 Q3 Q4 Q5 S1 S2 I1 I2 I3 hL
  go_enter Tryd.func40, Tryd.ntmps40
  have HX := Lib.hid (Bq.first w #[.int .i64 k, .string f, .string t, .int .u64 am, .int .u64 nc, .string ky', .string vl, .slice A rs.length c, .slice B ws.length d])
  go_wp2_with (first
    | (go_at_call 42
       go_must (refine (hch.out _ HX.out.low).mono ?_)
       rintro e w2 ⟨rfl, hB⟩
       have HX := Lib.hid (HX.out.step hB)
       clear hB))
  have hq : ∀ W, Bq w #[.int .i64 k, .string f, .string t, .int .u64 am, .int .u64 nc, .string ky', .string vl, .slice A rs.length c, .slice B ws.length d] W →
      Bq w #[.int .i64 k, .string f, .string t, .int .u64 am, .int .u64 nc, .string ky', .string vl, .slice A rs.length c, .slice B ws.length d] W ∧
      W.cell? ⟨w.heap.size, 0, none⟩ = some (.int .i64 k) ∧ W.cell? ⟨w.heap.size, 1, none⟩ = some (.string f) ∧ W.cell? ⟨w.heap.size, 2, none⟩ = some (.string t) ∧ W.cell? ⟨w.heap.size, 3, none⟩ = some (.int .u64 am) ∧ W.cell? ⟨w.heap.size, 4, none⟩ = some (.int .u64 nc) ∧ W.cell? ⟨w.heap.size, 5, none⟩ = some (.string ky') ∧ W.cell? ⟨w.heap.size, 6, none⟩ = some (.string vl) ∧ W.cell? ⟨w.heap.size, 7, none⟩ = some (.slice A rs.length c) ∧ W.cell? ⟨w.heap.size, 8, none⟩ = some (.slice B ws.length d) :=
    fun W h => ⟨h, blk_cell h.box 0, blk_cell h.box 1, blk_cell h.box 2, blk_cell h.box 3, blk_cell h.box 4, blk_cell h.box 5, blk_cell h.box 6, blk_cell h.box 7, blk_cell h.box 8⟩
  have hq0 := hq _ HX.out
  have hq := Lib.hid hq
  obtain ⟨B0, q0, q1, q2, q3, q4, q5, q6, q7, q8⟩ := hq0
  go_region_held3 (fun W => Bq w #[.int .i64 k, .string f, .string t, .int .u64 am, .int .u64 nc, .string ky', .string vl, .slice A rs.length c, .slice B ws.length d] W ∧
      W.cell? ⟨w.heap.size, 0, none⟩ = some (.int .i64 k) ∧ W.cell? ⟨w.heap.size, 1, none⟩ = some (.string f) ∧ W.cell? ⟨w.heap.size, 2, none⟩ = some (.string t) ∧ W.cell? ⟨w.heap.size, 3, none⟩ = some (.int .u64 am) ∧ W.cell? ⟨w.heap.size, 4, none⟩ = some (.int .u64 nc) ∧ W.cell? ⟨w.heap.size, 5, none⟩ = some (.string ky') ∧ W.cell? ⟨w.heap.size, 6, none⟩ = some (.string vl) ∧ W.cell? ⟨w.heap.size, 7, none⟩ = some (.slice A rs.length c) ∧ W.cell? ⟨w.heap.size, 8, none⟩ = some (.slice B ws.length d))
    (first
      | exact hq.out _ HX.out
      | exact hq.out _ (HX.out.step ((Below.refl _ _).drew))
      | exact hq.out _ (HX.out.step ((Below.refl _ _).alloc (Nat.le_refl _) _)))
    (first
      | (go_at_call 64; first | with_reducible refine (int2_calls k _ HI.out.1.1 HI.out.1.2).mono ?_ | with_reducible refine (int2_calls am _ HI.out.2.1.1 HI.out.2.1.2).mono ?_ | with_reducible refine (int2_calls nc _ HI.out.2.2.1 HI.out.2.2.2).mono ?_
         rintro e w2 ⟨rfl, hB⟩; first | have HX := Lib.hid (HX.out.step hB) | have HX := Lib.hid ((HX.out.step ((Below.refl _ _).drew)).step hB))
      | (go_at_call 70; first | with_reducible refine (text2_calls f _ HT.out.1).mono ?_ | with_reducible refine (text2_calls t _ HT.out.2.1).mono ?_ | with_reducible refine (text2_calls ky' _ HT.out.2.2.1).mono ?_ | with_reducible refine (text2_calls vl _ HT.out.2.2.2).mono ?_
         rintro e w2 ⟨rfl, hB⟩; first | have HX := Lib.hid (HX.out.step hB) | have HX := Lib.hid ((HX.out.step ((Below.refl _ _).drew)).step hB))
      | (go_at_call 65; first | with_reducible refine Calls.mono (list2_calls A c rs _ ?_ HC.out HZ.out.1.1 HZ.out.1.2) ?_ | with_reducible refine Calls.mono (list2_calls B d ws _ ?_ HD.out HZ.out.2.1 HZ.out.2.2) ?_
         · first | exact Kd.C_below HR.out (Bq.low (And.left (by assumption))) | exact Kd.C_below HS.out (Bq.low (And.left (by assumption)))
         rintro e w2 ⟨rfl, hB⟩; first | have HX := Lib.hid (HX.out.step hB) | have HX := Lib.hid ((HX.out.step ((Below.refl _ _).drew)).step hB)))
  have hE := Lib.hid (show ib k ++ tb f ++ tb t ++ ib am ++ ib nc ++ tb ky' ++ tb vl ++ lb rs ++ lb ws = encB k f t am nc ky' vl rs ws by rw [encB_eq]; simp only [ba_assoc])
  go_wp2
  go_ret2
  exact ⟨congrArg (fun s => Ending.returned (.tuple #[.string s, .int .i64 0])) hE.out, HX.out.low⟩
theorem enc2_calls (k : Int) (f t : ByteArray) (am nc : Int) (ky' vl : ByteArray) (A B : Option Addr) (c d : Nat) (rs ws : List ByteArray) (w : World) (hL : Lim f t ky' rs ws) (b : ByteArray) (x : Int) (he : enc k f t am nc ky' vl rs ws = (b, x))
    (hr : Kd.C Kd.string w A rs.length rs) (hc : rs.length ≤ c) (hs : Kd.C Kd.string w B ws.length ws) (hd : ws.length ≤ d) (ha : 0 ≤ am) (hn : 0 ≤ nc) :
    Calls Tryd.prog 40 #[.agg #[.int .i64 k, .string f, .string t, .int .u64 am, .int .u64 nc, .string ky', .string vl, .slice A rs.length c, .slice B ws.length d]] w
      fun e w' => e = .returned (.tuple #[.string b, .int .i64 x]) ∧ Below w.heap.size w w' := by
  unfold enc at he
  split at he
  · have := enc2_ok k f t am nc ky' vl A B c d rs ws w (by assumption) hL hr hc hs hd ha hn
    rw [he] at this
    exact this
  · have := enc2_no k f t am nc ky' vl A B c d rs ws w _ rfl (by assumption) hL hr hc hs hd
    rw [he] at this
    exact this
end Go.Proofs.YtndicjikjcifaaaDoor

/- TxChecks: the walk. -/
namespace Go.Proofs.YtndicjikjcifaaaDoor
open Go.RowKit Go.Shelf Go.Lib Go.Proofs.YtndicjikjcifaaaDoorW.PrintWords Go.Proofs.YtndicjikjcifaaaDoorW.PrintLast
set_option linter.unusedVariables false
set_option linter.unusedSimpArgs false

theorem same1_calls (xs : List ByteArray) (A A' : Option Addr) (c c' : Nat) (w : World) (hx : xs.length < 4611686018427387904) (hr : Kd.C Kd.string w A xs.length xs) (hc : xs.length ≤ c) (hr' : Kd.C Kd.string w A' xs.length xs) (hc' : xs.length ≤ c') :
    Calls Tryd.prog 43 #[.slice A xs.length c, .slice A' xs.length c'] w fun e w' => e = .returned (.bool true) ∧ Below w.heap.size w w' :=
  (PSm.tuskref01_Same.calls (xs.length + 1) A c xs A' c' xs true w hr hc hr' hc' (same_eq xs hx _ (Nat.le_refl _))).mono fun e w' h => ⟨h.1, drawn_below h.2⟩
theorem need_C (k : Int) (f t : ByteArray) (am nc : Int) (ky' vl : ByteArray) (A B : Option Addr) (c d : Nat) (rs ws : List ByteArray) (w : World) (n : List ByteArray) (hn : need k f t am nc ky' vl rs ws = n)
    (hr : Kd.C Kd.string w A rs.length rs) (hc : rs.length ≤ c) (hs : Kd.C Kd.string w B ws.length ws) (hd : ws.length ≤ d) :
    Calls Tryd.prog 44 #[.agg #[.int .i64 k, .string f, .string t, .int .u64 am, .int .u64 nc, .string ky', .string vl, .slice A rs.length c, .slice B ws.length d]] w
      fun e w' => ∃ A' c', e = .returned (.slice A' n.length c') ∧ (Kd.C Kd.string w' A' n.length n ∧ n.length ≤ c') ∧ Below w.heap.size w w' := by
  subst hn
  refine (need_calls k f t am nc ky' vl A B c d rs ws w hr hc hs hd).mono fun e w' h => ?_
  obtain ⟨v, rfl, hR, hb, hv⟩ := h
  obtain ⟨A', c', rfl, q1, q2⟩ := Kd.R_reads hR
  exact ⟨A', c', rfl, ⟨q2, q1⟩, hb⟩
theorem need2_C (k : Int) (f t : ByteArray) (am nc : Int) (ky' vl : ByteArray) (A B : Option Addr) (c d : Nat) (rs ws : List ByteArray) (w : World) (n : List ByteArray) (hn : need k f t am nc ky' vl rs ws = n) (hL : Lim f t ky' rs ws)
    (hr : Kd.C Kd.string w A rs.length rs) (hc : rs.length ≤ c) (hs : Kd.C Kd.string w B ws.length ws) (hd : ws.length ≤ d) :
    Calls Tryd.prog 45 #[.agg #[.int .i64 k, .string f, .string t, .int .u64 am, .int .u64 nc, .string ky', .string vl, .slice A rs.length c, .slice B ws.length d]] w
      fun e w' => ∃ A' c', e = .returned (.slice A' n.length c') ∧ (Kd.C Kd.string w' A' n.length n ∧ n.length ≤ c') ∧ Below w.heap.size w w' := by
  subst hn
  refine (need2_calls k f t am nc ky' vl A B c d rs ws w hL hr hc hs hd).mono fun e w' h => ?_
  obtain ⟨v, rfl, hR, hb⟩ := h
  obtain ⟨A', c', rfl, q1, q2⟩ := Kd.R_reads hR
  exact ⟨A', c', rfl, ⟨q2, q1⟩, hb⟩
theorem fitX (k : Int) (f t : ByteArray) (am nc : Int) (ky' vl : ByteArray) (A B : Option Addr) (c d : Nat) (rs ws : List ByteArray) (w : World) (x : Bool) (hx : fitB (need k f t am nc ky' vl rs ws) ws = x)
    (hr : Kd.C Kd.string w A rs.length rs) (hc : rs.length ≤ c) (hs : Kd.C Kd.string w B ws.length ws) (hd : ws.length ≤ d) (hw : ws.length < 4611686018427387904) :
    Calls Tryd.prog 46 #[.agg #[.int .i64 k, .string f, .string t, .int .u64 am, .int .u64 nc, .string ky', .string vl, .slice A rs.length c, .slice B ws.length d]] w
      fun e w' => e = .returned (.bool x) ∧ Below w.heap.size w w' := by
  subst hx
  exact fits_calls k f t am nc ky' vl A B c d rs ws w hr hc hs hd hw
theorem fits2X (k : Int) (f t : ByteArray) (am nc : Int) (ky' vl : ByteArray) (A B : Option Addr) (c d : Nat) (rs ws : List ByteArray) (w : World) (x : Bool) (hx : fitB (need k f t am nc ky' vl rs ws) ws = x) (hL : Lim f t ky' rs ws) (hw : ws.length < 4611686018427387904)
    (hr : Kd.C Kd.string w A rs.length rs) (hc : rs.length ≤ c) (hs : Kd.C Kd.string w B ws.length ws) (hd : ws.length ≤ d) :
    Calls Tryd.prog 47 #[.agg #[.int .i64 k, .string f, .string t, .int .u64 am, .int .u64 nc, .string ky', .string vl, .slice A rs.length c, .slice B ws.length d]] w
      fun e w' => e = .returned (.bool x) ∧ Below w.heap.size w w' := by
  subst hx
  exact fits2_calls k f t am nc ky' vl A B c d rs ws w hL hw hr hc hs hd
theorem chkX (k : Int) (f t : ByteArray) (am nc : Int) (ky' vl : ByteArray) (A B : Option Addr) (c d : Nat) (rs ws : List ByteArray) (w : World) (x : Int) (hx : ch k f t am nc ky' vl rs ws = x)
    (hr : Kd.C Kd.string w A rs.length rs) (hc : rs.length ≤ c) (hs : Kd.C Kd.string w B ws.length ws) (hd : ws.length ≤ d) :
    Calls Tryd.prog 41 #[.agg #[.int .i64 k, .string f, .string t, .int .u64 am, .int .u64 nc, .string ky', .string vl, .slice A rs.length c, .slice B ws.length d]] w
      fun e w' => e = .returned (.int .i64 x) ∧ Below w.heap.size w w' := by
  subst hx
  exact chk_calls k f t am nc ky' vl A B c d rs ws w hr hc hs hd
/-- The eighteen cells that are read. -/
abbrev Two (w w2 : World) (k : Int) (f t : ByteArray) (am nc : Int) (ky' vl : ByteArray) (a7 a8 b7 b8 : Value) (W : World) : Prop :=
  Bq w #[.int .i64 k, .string f, .string t, .int .u64 am, .int .u64 nc, .string ky', .string vl, a7, a8] W ∧ Bq w2 #[.int .i64 k, .string f, .string t, .int .u64 am, .int .u64 nc, .string ky', .string vl, b7, b8] W
theorem Two.step {w w2 : World} {k : Int} {f t : ByteArray} {am nc : Int} {ky' vl : ByteArray} {a7 a8 b7 b8 : Value} {W W' : World} (h : Two w w2 k f t am nc ky' vl a7 a8 b7 b8 W) (hb : Below W.heap.size W W') : Two w w2 k f t am nc ky' vl a7 a8 b7 b8 W' := ⟨h.1.step hb, h.2.step hb⟩
set_option maxHeartbeats 8000000 in
set_option maxRecDepth 100000 in
theorem checks_calls (k : Int) (f t : ByteArray) (am nc : Int) (ky' vl : ByteArray) (A B : Option Addr) (c d : Nat) (rs ws : List ByteArray) (w : World) (ht : TxIn w k f t am nc ky' vl A B c d rs ws) :
    Calls Tryd.prog 11 #[.agg #[.int .i64 k, .string f, .string t, .int .u64 am, .int .u64 nc, .string ky', .string vl, .slice A rs.length c, .slice B ws.length d]] w
      fun e w' => e = .returned (.bool true) ∧ Below w.heap.size w w' := by
  have hown := Lib.hid (fun W (hb : Below w.heap.size w W) => own_calls k f t am nc ky' vl A B c d rs ws W (Kd.C_below ht.r hb) ht.rc (Kd.C_below ht.s hb) ht.sc (by have := ht.rl; omega) (by have := ht.sl; omega))
  have HLim := Lib.hid (show Lim f t ky' rs ws from ⟨by have := ht.f; omega, by have := ht.t; omega, by have := ht.ky; omega, fun x hx => by have := ht.rz x hx; omega, fun x hx => by have := ht.sz x hx; omega⟩)
  have HT := Lib.hid ht
  have HZ := Lib.hid (show rs.length < 4611686018427387904 ∧ ws.length < 4611686018427387904 from ⟨by have := ht.rl; omega, by have := ht.sl; omega⟩)
  clear ht
  obtain ⟨b, x, hbx⟩ : ∃ b x, enc k f t am nc ky' vl rs ws = (b, x) := ⟨_, _, rfl⟩
  have HE := Lib.hid hbx
  obtain ⟨n, hn⟩ : ∃ n, need k f t am nc ky' vl rs ws = n := ⟨_, rfl⟩
  have hnl : n.length ≤ 2 := by
    rw [← hn]
    unfold need one2
    repeat' split
    all_goals simp
  have HN := Lib.hid hn
  have HNL := Lib.hid (show n.length < 4611686018427387904 by omega)
  obtain ⟨fb, hfb⟩ : ∃ fb, fitB (need k f t am nc ky' vl rs ws) ws = fb := ⟨_, rfl⟩
  have HFB := Lib.hid hfb
  obtain ⟨y, hy⟩ : ∃ y, ch k f t am nc ky' vl rs ws = y := ⟨_, rfl⟩
  have HY := Lib.hid hy
  have p1 : (b.toList == b.toList) = true := beq_self_eq_true _
  have p2 : (x == x) = true := beq_self_eq_true _
  have p3 : (y == y) = true := beq_self_eq_true _
  have p4 : (fb == fb) = true := beq_self_eq_true _
  clear hbx hn hnl hfb hy
  go_enter Tryd.func11, Tryd.ntmps11
  have HX := Lib.hid (Bq.first w #[.int .i64 k, .string f, .string t, .int .u64 am, .int .u64 nc, .string ky', .string vl, .slice A rs.length c, .slice B ws.length d])
  go_upto_region 2 with (first
    | (go_at_call 19
       go_must (refine (hown.out _ HX.out.low).mono ?_)
       rintro e w2 ⟨A', c', B', d', rfl, h7, h8, hB⟩
       have HX := Lib.hid (HX.out.step hB)
       have H7 := Lib.hid (fun W (h : Below w2.heap.size w2 W) => Kd.C_below h7.1 h)
       have H8 := Lib.hid (fun W (h : Below w2.heap.size w2 W) => Kd.C_below h8.1 h)
       have L7 := Lib.hid h7.2
       have L8 := Lib.hid h8.2
       clear hB h7 h8))
  refine at_world (F := fun W =>
    Two w w2 k f t am nc ky' vl (.slice A rs.length c) (.slice B ws.length d) (.slice A' rs.length c') (.slice B' ws.length d') W
    ) ⟨HX.out.step ((Below.refl _ _).alloc (Nat.le_refl _) _), Bq.first _ _⟩ ?_
  clear HX
  rintro W hx
  have HX := Lib.hid hx
  clear hx
  have e0 := blk_cell HX.out.1.box 0
  have e1 := blk_cell HX.out.1.box 1
  have e2 := blk_cell HX.out.1.box 2
  have e3 := blk_cell HX.out.1.box 3
  have e4 := blk_cell HX.out.1.box 4
  have e5 := blk_cell HX.out.1.box 5
  have e6 := blk_cell HX.out.1.box 6
  have e7 := blk_cell HX.out.1.box 7
  have e8 := blk_cell HX.out.1.box 8
  simp only [List.getElem?_toArray, List.getElem?_cons_zero, List.getElem?_cons_succ] at e0 e1 e2 e3 e4 e5 e6 e7 e8
  have u0 := blk_cell HX.out.2.box 0
  have u1 := blk_cell HX.out.2.box 1
  have u2 := blk_cell HX.out.2.box 2
  have u3 := blk_cell HX.out.2.box 3
  have u4 := blk_cell HX.out.2.box 4
  have u5 := blk_cell HX.out.2.box 5
  have u6 := blk_cell HX.out.2.box 6
  have u7 := blk_cell HX.out.2.box 7
  have u8 := blk_cell HX.out.2.box 8
  simp only [List.getElem?_toArray, List.getElem?_cons_zero, List.getElem?_cons_succ] at u0 u1 u2 u3 u4 u5 u6 u7 u8
  go_upto_region 4 with (first
    | (go_at_call 39
       go_must (refine (enc_of k f t am nc ky' vl A' B' c' d' rs ws _ b x HE.out (H7.out _ HX.out.2.low) L7.out (H8.out _ HX.out.2.low) L8.out HT.out.am HT.out.nc).mono ?_)
       rintro e w3 ⟨rfl, hB⟩
       have HX := Lib.hid (HX.out.step hB)
       have e0 := blk_cell HX.out.1.box 0
       have e1 := blk_cell HX.out.1.box 1
       have e2 := blk_cell HX.out.1.box 2
       have e3 := blk_cell HX.out.1.box 3
       have e4 := blk_cell HX.out.1.box 4
       have e5 := blk_cell HX.out.1.box 5
       have e6 := blk_cell HX.out.1.box 6
       have e7 := blk_cell HX.out.1.box 7
       have e8 := blk_cell HX.out.1.box 8
       simp only [List.getElem?_toArray, List.getElem?_cons_zero, List.getElem?_cons_succ] at e0 e1 e2 e3 e4 e5 e6 e7 e8
       clear hB)
    | (go_at_call 40
       go_must (refine (enc2_calls k f t am nc ky' vl A B c d rs ws _ HLim.out b x HE.out (Kd.C_below HT.out.r HX.out.1.low) HT.out.rc (Kd.C_below HT.out.s HX.out.1.low) HT.out.sc HT.out.am HT.out.nc).mono ?_)
       rintro e w4 ⟨rfl, hB⟩
       have HX := Lib.hid (HX.out.step hB)
       clear hB))
  have hq : ∀ W, Two w w2 k f t am nc ky' vl (.slice A rs.length c) (.slice B ws.length d) (.slice A' rs.length c') (.slice B' ws.length d') W → Two w w2 k f t am nc ky' vl (.slice A rs.length c) (.slice B ws.length d) (.slice A' rs.length c') (.slice B' ws.length d') W ∧ W.cell? ⟨w.heap.size, 0, none⟩ = some (.int .i64 k) ∧ W.cell? ⟨w.heap.size, 1, none⟩ = some (.string f) ∧ W.cell? ⟨w.heap.size, 2, none⟩ = some (.string t) ∧ W.cell? ⟨w.heap.size, 3, none⟩ = some (.int .u64 am) ∧ W.cell? ⟨w.heap.size, 4, none⟩ = some (.int .u64 nc) ∧ W.cell? ⟨w.heap.size, 5, none⟩ = some (.string ky') ∧ W.cell? ⟨w.heap.size, 6, none⟩ = some (.string vl) ∧ W.cell? ⟨w.heap.size, 7, none⟩ = some (.slice A rs.length c) ∧ W.cell? ⟨w.heap.size, 8, none⟩ = some (.slice B ws.length d) ∧ W.cell? ⟨w2.heap.size, 0, none⟩ = some (.int .i64 k) ∧ W.cell? ⟨w2.heap.size, 1, none⟩ = some (.string f) ∧ W.cell? ⟨w2.heap.size, 2, none⟩ = some (.string t) ∧ W.cell? ⟨w2.heap.size, 3, none⟩ = some (.int .u64 am) ∧ W.cell? ⟨w2.heap.size, 4, none⟩ = some (.int .u64 nc) ∧ W.cell? ⟨w2.heap.size, 5, none⟩ = some (.string ky') ∧ W.cell? ⟨w2.heap.size, 6, none⟩ = some (.string vl) ∧ W.cell? ⟨w2.heap.size, 7, none⟩ = some (.slice A' rs.length c') ∧ W.cell? ⟨w2.heap.size, 8, none⟩ = some (.slice B' ws.length d') :=
    fun W h => ⟨h, blk_cell h.1.box 0, blk_cell h.1.box 1, blk_cell h.1.box 2, blk_cell h.1.box 3, blk_cell h.1.box 4, blk_cell h.1.box 5, blk_cell h.1.box 6, blk_cell h.1.box 7, blk_cell h.1.box 8, blk_cell h.2.box 0, blk_cell h.2.box 1, blk_cell h.2.box 2, blk_cell h.2.box 3, blk_cell h.2.box 4, blk_cell h.2.box 5, blk_cell h.2.box 6, blk_cell h.2.box 7, blk_cell h.2.box 8⟩
  clear e0 e1 e2 e3 e4 e5 e6 e7 e8 u0 u1 u2 u3 u4 u5 u6 u7 u8
  have hq0 := hq _ HX.out
  have hq := Lib.hid hq
  obtain ⟨B0, e0, e1, e2, e3, e4, e5, e6, e7, e8, u0, u1, u2, u3, u4, u5, u6, u7, u8⟩ := hq0
  have HX := Lib.hid (HX.out.step ((Below.refl _ _).drew))
  have HCH := Lib.hid (show tuskref04_Check.f k f t am nc ky' vl rs ws = some y by rw [tuskref04_Check.f, if_pos HLim.out, HY.out])
  go_region_held3 (fun W => Two w w2 k f t am nc ky' vl (.slice A rs.length c) (.slice B ws.length d) (.slice A' rs.length c') (.slice B' ws.length d') W ∧ W.cell? ⟨w.heap.size, 0, none⟩ = some (.int .i64 k) ∧ W.cell? ⟨w.heap.size, 1, none⟩ = some (.string f) ∧ W.cell? ⟨w.heap.size, 2, none⟩ = some (.string t) ∧ W.cell? ⟨w.heap.size, 3, none⟩ = some (.int .u64 am) ∧ W.cell? ⟨w.heap.size, 4, none⟩ = some (.int .u64 nc) ∧ W.cell? ⟨w.heap.size, 5, none⟩ = some (.string ky') ∧ W.cell? ⟨w.heap.size, 6, none⟩ = some (.string vl) ∧ W.cell? ⟨w.heap.size, 7, none⟩ = some (.slice A rs.length c) ∧ W.cell? ⟨w.heap.size, 8, none⟩ = some (.slice B ws.length d) ∧ W.cell? ⟨w2.heap.size, 0, none⟩ = some (.int .i64 k) ∧ W.cell? ⟨w2.heap.size, 1, none⟩ = some (.string f) ∧ W.cell? ⟨w2.heap.size, 2, none⟩ = some (.string t) ∧ W.cell? ⟨w2.heap.size, 3, none⟩ = some (.int .u64 am) ∧ W.cell? ⟨w2.heap.size, 4, none⟩ = some (.int .u64 nc) ∧ W.cell? ⟨w2.heap.size, 5, none⟩ = some (.string ky') ∧ W.cell? ⟨w2.heap.size, 6, none⟩ = some (.string vl) ∧ W.cell? ⟨w2.heap.size, 7, none⟩ = some (.slice A' rs.length c') ∧ W.cell? ⟨w2.heap.size, 8, none⟩ = some (.slice B' ws.length d'))
    (first
      | exact hq.out _ HX.out
      | exact hq.out _ (HX.out.step ((Below.refl _ _).drew)))
    (first
      | (go_at_call 41
         with_reducible refine (chkX k f t am nc ky' vl A' B' c' d' rs ws _ y HY.out (H7.out _ HX.out.2.low) L7.out (H8.out _ HX.out.2.low) L8.out).mono ?_
         rintro e w5 ⟨rfl, hB⟩
         have HX := Lib.hid (HX.out.step hB))
      | (go_at_call 42
         with_reducible refine (tuskref04_Check.calls k f t am nc ky' vl A c rs B d ws y _ (Kd.C_below HT.out.r HX.out.1.low) HT.out.rc (Kd.C_below HT.out.s HX.out.1.low) HT.out.sc HCH.out).mono ?_
         rintro e w5 ⟨rfl, hB⟩
         have HX := Lib.hid (HX.out.step hB))
      | (go_at_call 44
         with_reducible refine (need_C k f t am nc ky' vl A' B' c' d' rs ws _ n HN.out (H7.out _ HX.out.2.low) L7.out (H8.out _ HX.out.2.low) L8.out).mono ?_
         rintro e w5 ⟨A5, c5, rfl, h5, hB⟩
         have HX := Lib.hid (HX.out.step hB)
         have H5 := Lib.hid h5)
      | (go_at_call 45
         with_reducible refine (need2_C k f t am nc ky' vl A B c d rs ws _ n HN.out HLim.out (Kd.C_below HT.out.r HX.out.1.low) HT.out.rc (Kd.C_below HT.out.s HX.out.1.low) HT.out.sc).mono ?_
         rintro e w5 ⟨A6, c6, rfl, h6, hB⟩
         have HX := Lib.hid (HX.out.step hB)
         have H6 := Lib.hid h6
         have H5 := Lib.hid (show _ ∧ _ from ⟨Kd.C_below H5.out.1 hB, H5.out.2⟩))
      | (go_at_call 43
         with_reducible refine (same1_calls n A5 A6 c5 c6 _ HNL.out H5.out.1 H5.out.2 H6.out.1 H6.out.2).mono ?_
         rintro e w5 ⟨rfl, hB⟩
         have HX := Lib.hid (HX.out.step hB))
      | (go_at_call 46
         with_reducible refine (fitX k f t am nc ky' vl A' B' c' d' rs ws _ fb HFB.out (H7.out _ HX.out.2.low) L7.out (H8.out _ HX.out.2.low) L8.out HZ.out.2).mono ?_
         rintro e w5 ⟨rfl, hB⟩
         have HX := Lib.hid (HX.out.step hB))
      | (go_at_call 47
         with_reducible refine (fits2X k f t am nc ky' vl A B c d rs ws _ fb HFB.out HLim.out HZ.out.2 (Kd.C_below HT.out.r HX.out.1.low) HT.out.rc (Kd.C_below HT.out.s HX.out.1.low) HT.out.sc).mono ?_
         rintro e w5 ⟨rfl, hB⟩
         have HX := Lib.hid (HX.out.step hB))
      | (go_at_call 27
         with_reducible refine (same_calls k f t am nc ky' vl A' B' A B c' d' c d rs ws _ (H7.out _ HX.out.2.low) L7.out (H8.out _ HX.out.2.low) L8.out (Kd.C_below HT.out.r HX.out.1.low) HT.out.rc (Kd.C_below HT.out.s HX.out.1.low) HT.out.sc HZ.out.1 HZ.out.2).mono ?_
         rintro e w5 ⟨rfl, hB⟩
         have HX := Lib.hid (HX.out.step hB)))
  go_wp2
  go_ret
  exact ⟨rfl, HX.out.1.low⟩
end Go.Proofs.YtndicjikjcifaaaDoor
