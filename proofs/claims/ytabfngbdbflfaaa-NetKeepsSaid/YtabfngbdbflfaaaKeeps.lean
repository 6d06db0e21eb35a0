/- NetKeeps' walk. -/
import Derived.Test.YtabfngbdbflfaaaOp
import Derived.LoopTactic
namespace Go.Proofs.Ytabfngbdbflfaaa
open Go.RowKit Go.Proofs.YtabfngbdbflfaaaW.PrintWords Go.Proofs.YtabfngbdbflfaaaW.PrintLast Go.Proofs.YtabfngbdbflfaaaW.PrintMore Go.Proofs.Ytabfngbdbflfaaa.PNetKeeps
set_option linter.unusedVariables false
set_option linter.unusedSimpArgs false

/-- What holds at a round's head, and behind the switch: the two bags are alike; the act lies in block B. -/
def KS (base : Nat) (W w : World) (g1 g2 : Nat) (xs : List Env) (l : Int) (L : List Nat) : Prop :=
  Both base w g1 g2 xs l xs l L ∧ Below base W w ∧ xs.length ≤ 256 ∧ base ≤ w.heap.size
def act (o : S42) : Obj := .cells #[.int .i64 o.f0, .int .i64 o.f1.f0, .int .i64 o.f1.f1, .string o.f1.f2, .int .i64 o.f2, .int .i64 o.f3] 42
theorem more_le (x : Int) : wrap64 ((IntKind.u64.wrap x).tmod 100) ≤ 99 := by
  have h0 : 0 ≤ IntKind.u64.wrap x := by show 0 ≤ x % 18446744073709551616; omega
  have h1 : 0 ≤ (IntKind.u64.wrap x).tmod 100 ∧ (IntKind.u64.wrap x).tmod 100 < 100 := ⟨Int.tmod_nonneg _ h0, Int.tmod_lt_of_pos _ (by omega)⟩
  generalize (IntKind.u64.wrap x).tmod 100 = y at *
  rw [IntWalk.wrap64_in y (by omega)]
  omega

set_option maxRecDepth 100000 in
set_option maxHeartbeats 1000000 in
theorem keeps_walk (A : Option Addr) (c : Nat) (l : List S42) (w : World) (hr : Kd.C k42 w A l.length l) (hc : l.length ≤ c) (hG : (∀ a ∈ l, G42 a) ∧ l.length * 56 ≤ 140737488351232 ∧ l.length ≤ maxLen) :
    Calls Try.prog 5 #[.slice A l.length c] w fun e w' => e = .returned (.bool true) ∧ Below w.heap.size w w' := by
  have hm : l.length ≤ 9223372036854775807 := by have := hG.2.1; omega
  have HR := Lib.hid hr
  clear hr hG
  go_enter Try.func5, Try.ntmps5
  go_wp2_with (
    go_at_call 7
    refine (new_bag _ w.heap.size (Nat.le_refl _)).mono ?_
    rintro e w1 ⟨rfl, hI, hbel⟩
    have HI := Lib.hid hI
    have HBEL := Lib.hid hbel
    have hsz := hI.2.1
    clear hI hbel)
  obtain ⟨g1, hg1⟩ : ∃ g, w.heap.size = g := ⟨_, rfl⟩
  obtain ⟨g2, hg2⟩ : ∃ g, w1.heap.size = g := ⟨_, rfl⟩
  have HKS : Hid (KS w.heap.size w (w1.alloc (.cells #[.slice none 0 0, .int .i64 0] 40)) g1 g2 [] 0 []) := by
    refine ⟨⟨fun k => w.heap.size ≤ k ∧ k < w1.heap.size, fun k => k = w1.heap.size, ?_, ?_, ?_, ?_, ?_, ?_⟩, HBEL.out.alloc (by omega) _, by simp, by simp; omega⟩
    · rw [← hg1]; exact (bag_lt HI.out).only (S := fun _ => False) ((Only.refl _ w1).alloc _) (fun _ _ h => h)
    · exact ⟨by omega, by simp; omega, hg2.symm, _, hg2 ▸ blk_new _ _, FR.nil _ _ _ _ _, fun k hk => by cases hk⟩
    · intro k hk; exact ⟨hk.1, by simp; omega⟩
    · rintro k rfl; exact ⟨by omega, by simp⟩
    · rintro k hk rfl; omega
    · intro b hb; cases hb
  rw [hg1, hg2]
  clear hg1 hg2 HI HBEL hsz
  go_loopg [5] l.length (fun q i wr => ∃ (k : Nat) (xs : List Env) (lost : Int), k ≤ l.length ∧ k ≤ 100 ∧ i = .int .i64 k ∧ Aside0 (l.length - k ≤ q) ∧ 0 ≤ lost ∧ lost ≤ 200 * k ∧ Aside0 (KS w.heap.size w wr g1 g2 xs lost []))
  case atStart => exact ⟨0, [], 0, by omega, by omega, rfl, ⟨by omega⟩, by omega, by omega, ⟨HKS.out⟩⟩
  case round =>
    obtain ⟨k, xs, lost, hk1, hk2, rfl, HQ, hl1, hl2, HK⟩ := hrel
    clear HKS
    by_cases hlt : k < l.length ∧ k < 100
    · obtain ⟨hlt1, hlt2⟩ := hlt
      obtain ⟨ad, hA, e0, e1, e2, e3, e4, e5⟩ := at_T42 HR.out k hlt1
      subst hA
      obtain ⟨o, ho⟩ : ∃ o, l.getD k z42 = o := ⟨_, rfl⟩
      rw [ho] at e0 e1 e2 e3 e4 e5
      clear ho
      have d0 := (HK.out.2.1.cell (World.block_lt_of_cell? w _ e0)).trans e0
      have d1 := (HK.out.2.1.cell (World.block_lt_of_cell? w _ e1)).trans e1
      have d2 := (HK.out.2.1.cell (World.block_lt_of_cell? w _ e2)).trans e2
      have d3 := (HK.out.2.1.cell (World.block_lt_of_cell? w _ e3)).trans e3
      have d4 := (HK.out.2.1.cell (World.block_lt_of_cell? w _ e4)).trans e4
      have d5 := (HK.out.2.1.cell (World.block_lt_of_cell? w _ e5)).trans e5
      clear e0 e1 e2 e3 e4 e5
      have hd100 : decide ((k : Int) < 100) = true := by simp; omega
      go_upto_block 2 with (fail)
      obtain ⟨B, hB⟩ : ∃ B, wr.heap.size = B := ⟨_, rfl⟩
      have HKB : Hid (Both w.heap.size (wr.alloc (act o)) g1 g2 xs lost xs lost [B]) := hB ▸ HK.out.1.new (act o)
      have HBo : Hid ((wr.alloc (act o)).heap[B]? = some (act o)) := blk_newAt _ _ hB
      have HBel : Hid (Below w.heap.size w (wr.alloc (act o))) := HK.out.2.1.alloc HK.out.2.2.2 _
      have hbB : w.heap.size ≤ B := hB ▸ HK.out.2.2.2
      have hmax := HK.out.2.2.1
      rw [hB]
      change Code.wp _ _ _ _ (wr.alloc (act o))
      obtain ⟨W1, hW1⟩ : ∃ W1, wr.alloc (act o) = W1 := ⟨_, rfl⟩
      rw [hW1] at HKB HBo HBel ⊢
      clear hW1 hB HK d0 d1 d2 d3 d4 d5
      have b0 : W1.cell? ⟨B, 0, none⟩ = some (.int .i64 o.f0) := blk_cell HBo.out 0
      have b1 : W1.cell? ⟨B, 1, none⟩ = some (.int .i64 o.f1.f0) := blk_cell HBo.out 1
      have b2 : W1.cell? ⟨B, 2, none⟩ = some (.int .i64 o.f1.f1) := blk_cell HBo.out 2
      have b3 : W1.cell? ⟨B, 3, none⟩ = some (.string o.f1.f2) := blk_cell HBo.out 3
      have b4 : W1.cell? ⟨B, 4, none⟩ = some (.int .i64 o.f2) := blk_cell HBo.out 4
      have b5 : W1.cell? ⟨B, 5, none⟩ = some (.int .i64 o.f3) := blk_cell HBo.out 5
      go_cut [7, 8, 9, 10, 11] (fun _ _ _ _ _ w2 => ∃ (ys : List Env) (m : Int), lost ≤ m ∧ m ≤ lost + 150 ∧ Aside0 (KS w.heap.size w w2 g1 g2 ys m [B]) ∧ Aside0 (w2.heap[B]? = some (act o)))
      case first =>
        by_cases k0 : o.f0 = 0
        · have t0 : (o.f0 == 0) = true := beq_iff_eq.2 k0
          have K0 := Lib.hid k0
          clear k0
          go_wp2
          go_loopg [7] 101 (fun q kk w2 => ∃ (j : Nat) (ys : List Env) (m : Int), j ≤ 100 ∧ kk = .int .i64 j ∧ Aside0 (101 - j ≤ q) ∧ lost ≤ m ∧ m ≤ lost + j ∧ Aside0 (KS w.heap.size w w2 g1 g2 ys m [B]) ∧ Aside0 (w2.heap[B]? = some (act o)))
          case atStart => exact ⟨0, xs, lost, by omega, rfl, ⟨by omega⟩, by omega, by omega, ⟨HKB.out, HBel.out, hmax, by have := blk_lt HBo.out; omega⟩, ⟨HBo.out⟩⟩
          case round =>
            obtain ⟨j, ys, m, hj, rfl, HQ2, hm1, hm2, HK2, HB2⟩ := hrel
            clear b0 b1 b2 b3 b4 b5
            have b1 : wr.cell? ⟨B, 1, none⟩ = some (.int .i64 o.f1.f0) := blk_cell HB2.out 1
            have b2 : wr.cell? ⟨B, 2, none⟩ = some (.int .i64 o.f1.f1) := blk_cell HB2.out 2
            have b3 : wr.cell? ⟨B, 3, none⟩ = some (.string o.f1.f2) := blk_cell HB2.out 3
            have b5 : wr.cell? ⟨B, 5, none⟩ = some (.int .i64 o.f3) := blk_cell HB2.out 5
            have hM := more_le o.f3
            by_cases hjM : (j : Int) ≤ wrap64 ((IntKind.u64.wrap o.f3).tmod 100)
            · have hj99 : (j : Int) ≤ 99 := by omega
              clear hM
              go_wp2_with fail
              have HBO := HK2.out.1
              have HBS := HK2.out.2.1
              have hys := HK2.out.2.2.1
              have HBO := Lib.hid HBO
              have HBS := Lib.hid HBS
              have hbase := HK2.out.2.2.2
              go_region_with (first
                | (go_at_call 8; go_must (refine (both_left (by exact HBO.out.below ⟨rfl, rfl, rfl, Nat.le_refl _, fun _ _ => rfl⟩) (by have := HBS.out.size; exact this) (fun ok h => send_any _ _ _ ok ys m o.f1 h hys (by omega) (by omega))).mono ?_; rintro e w2 ⟨rfl, hB2, hS2, hb2⟩; have HBO := Lib.hid hB2; have HBS := Lib.hid (HBS.out.trans ⟨hb2.os, hb2.tape, hb2.output, hb2.size, hb2.block⟩); have HB2 := Aside0.mk ((hS2 B (by simp)).trans HB2.out); have b1 : w2.cell? ⟨B, 1, none⟩ = some (.int .i64 o.f1.f0) := blk_cell HB2.out 1; have b2 : w2.cell? ⟨B, 2, none⟩ = some (.int .i64 o.f1.f1) := blk_cell HB2.out 2; have b3 : w2.cell? ⟨B, 3, none⟩ = some (.string o.f1.f2) := blk_cell HB2.out 3; clear hB2 hS2 hb2))
                | (go_at_call 11; go_must (refine (both_right (by exact HBO.out.below ⟨rfl, rfl, rfl, Nat.le_refl _, fun _ _ => rfl⟩) (by have := HBS.out.size; exact this) (fun ok h => rsend_any _ _ _ ok ys m o.f1 h hys (by omega) (by omega))).mono ?_; rintro e w2 ⟨rfl, hB2, hS2, hb2⟩; have HBO := Lib.hid hB2; have HBS := Lib.hid (HBS.out.trans ⟨hb2.os, hb2.tape, hb2.output, hb2.size, hb2.block⟩); have HB2 := Aside0.mk ((hS2 B (by simp)).trans HB2.out); have b1 : w2.cell? ⟨B, 1, none⟩ = some (.int .i64 o.f1.f0) := blk_cell HB2.out 1; have b2 : w2.cell? ⟨B, 2, none⟩ = some (.int .i64 o.f1.f1) := blk_cell HB2.out 2; have b3 : w2.cell? ⟨B, 3, none⟩ = some (.string o.f1.f2) := blk_cell HB2.out 3; clear hB2 hS2 hb2)))
              all_goals
                go_wp2
                go_roundg (gk - 1)
                case measure => have := HQ2.out; omega
                case rel => exact ⟨j + 1, snt ys o.f1, lst ys m, by omega, by go_num, ⟨by have := HQ2.out; omega⟩, by have := lst_bd ys m; omega, by have := lst_bd ys m; omega, ⟨HBO.out, HBS.out, room_le hys, by have := HBS.out.size; omega⟩, ⟨HB2.out⟩⟩
            · clear hM
              go_wp2
              go_meet
              case rel => exact ⟨ys, m, hm1, by omega, HK2, HB2⟩
        · by_cases k1 : o.f0 = 1
          · have t0 : (o.f0 == 0) = false := beq_eq_false_iff_ne.2 k0
            have t1 : (o.f0 == 1) = true := beq_iff_eq.2 k1
            clear k0 k1
            obtain ⟨x, hx⟩ : ∃ x, atv xs o.f2 = x := ⟨_, rfl⟩
            have HX := Lib.hid hx
            clear hx
            go_wp2_with (first
              | (go_at_call 9
                 refine (both_left HKB.out (by have := blk_lt HBo.out; omega) (fun ok h => take_any _ _ _ ok xs lost o.f2 h hmax)).mono ?_
                 rintro e w2 ⟨rfl, hB2, hS2, hb2⟩
                 rw [HX.out]
                 have HX2 := Lib.hid (blk_new w2 (.cells #[.int .i64 x.f0, .int .i64 x.f1, .string x.f2] 28))
                 have HBO := Lib.hid (hB2.new (.cells #[.int .i64 x.f0, .int .i64 x.f1, .string x.f2] 28))
                 have HBo2 := Lib.hid (blk_alloc ((hS2 B (by simp)).trans HBo.out) (.cells #[.int .i64 x.f0, .int .i64 x.f1, .string x.f2] 28))
                 have HBS := Lib.hid ((HBel.out.trans hb2).alloc (by have := HBel.out.size; have := hb2.size; omega) (.cells #[.int .i64 x.f0, .int .i64 x.f1, .string x.f2] 28))
                 have b4 : w2.cell? ⟨B, 4, none⟩ = some (.int .i64 o.f2) := blk_cell ((hS2 B (by simp)).trans HBo.out) 4
                 have hBl := blk_lt ((hS2 B (by simp)).trans HBo.out)
                 clear hB2 hS2 hb2)
              | (go_at_call 12
                 refine (both_right HBO.out (by have := HBS.out.size; exact this) (fun ok h => rtake_any _ _ _ ok xs lost o.f2 h hmax)).mono ?_
                 rintro e w3 ⟨rfl, hB3, hS3, hb3⟩
                 rw [HX.out]
                 have hx3 := (hS3 _ (by simp)).trans HX2.out
                 have c0 : w3.cell? ⟨w2.heap.size, 0, none⟩ = some (.int .i64 x.f0) := blk_cell hx3 0
                 have c1 : w3.cell? ⟨w2.heap.size, 1, none⟩ = some (.int .i64 x.f1) := blk_cell hx3 1
                 have c2 : w3.cell? ⟨w2.heap.size, 2, none⟩ = some (.string x.f2) := blk_cell hx3 2
                 have hl3 := blk_lt hx3
                 have HBO := Lib.hid (hB3.new (.cells #[.int .i64 x.f0, .int .i64 x.f1, .string x.f2] 28))
                 have HBo3 := Lib.hid (blk_alloc ((hS3 B (by simp)).trans HBo2.out) (.cells #[.int .i64 x.f0, .int .i64 x.f1, .string x.f2] 28))
                 have HBS := Lib.hid ((HBS.out.trans hb3).alloc (by have := HBS.out.size; have := hb3.size; omega) (.cells #[.int .i64 x.f0, .int .i64 x.f1, .string x.f2] 28))
                 clear hx3 hB3 hS3 hb3))
            go_meet
            case rel => exact ⟨tkn xs o.f2, lost, by omega, by omega, ⟨HBO.out.sub (fun b hb => by simp at hb; simp [hb]), HBS.out, tkn_le hmax, HBS.out.size⟩, ⟨HBo3.out⟩⟩
          · by_cases k2 : o.f0 = 2
            · have t0 : (o.f0 == 0) = false := beq_eq_false_iff_ne.2 k0
              have t1 : (o.f0 == 1) = false := beq_eq_false_iff_ne.2 k1
              have t2 : (o.f0 == 2) = true := beq_iff_eq.2 k2
              clear k0 k1 k2
              go_wp2_with fail
              have HBO := HKB
              have HBS := HBel
              have HB2 := Aside0.mk HBo.out
              have hbase : w.heap.size ≤ W1.heap.size := HBel.out.size
              go_region_with (first
                | (go_at_call 13; go_must (refine (both_left (by exact HBO.out.below ⟨rfl, rfl, rfl, Nat.le_refl _, fun _ _ => rfl⟩) (by have := HBS.out.size; exact this) (fun ok h => twice_any _ _ _ ok xs lost o.f2 h hmax (by omega) (by omega))).mono ?_; rintro e w2 ⟨rfl, hB2, hS2, hb2⟩; have HBO := Lib.hid hB2; have HBS := Lib.hid (HBS.out.trans ⟨hb2.os, hb2.tape, hb2.output, hb2.size, hb2.block⟩); have HB2 := Aside0.mk ((hS2 B (by simp)).trans HB2.out); have b4 : w2.cell? ⟨B, 4, none⟩ = some (.int .i64 o.f2) := blk_cell HB2.out 4; clear hB2 hS2 hb2))
                | (go_at_call 14; go_must (refine (both_right (by exact HBO.out.below ⟨rfl, rfl, rfl, Nat.le_refl _, fun _ _ => rfl⟩) (by have := HBS.out.size; exact this) (fun ok h => rtwice_any _ _ _ ok xs lost o.f2 h hmax (by omega) (by omega))).mono ?_; rintro e w2 ⟨rfl, hB2, hS2, hb2⟩; have HBO := Lib.hid hB2; have HBS := Lib.hid (HBS.out.trans ⟨hb2.os, hb2.tape, hb2.output, hb2.size, hb2.block⟩); have HB2 := Aside0.mk ((hS2 B (by simp)).trans HB2.out); have b4 : w2.cell? ⟨B, 4, none⟩ = some (.int .i64 o.f2) := blk_cell HB2.out 4; clear hB2 hS2 hb2)))
              all_goals
                go_wp2
                go_meet
                case rel => exact ⟨twn xs o.f2, twl xs lost o.f2, by have := twl_bd xs lost o.f2; omega, by have := twl_bd xs lost o.f2; omega, ⟨HBO.out, HBS.out, twn_le hmax, by have := HBS.out.size; omega⟩, ⟨HB2.out⟩⟩
            · have t0 : (o.f0 == 0) = false := beq_eq_false_iff_ne.2 k0
              have t1 : (o.f0 == 1) = false := beq_eq_false_iff_ne.2 k1
              have t2 : (o.f0 == 2) = false := beq_eq_false_iff_ne.2 k2
              clear k0 k1 k2
              go_wp2
              go_meet
              case rel => exact ⟨xs, lost, by omega, by omega, ⟨HKB.out, HBel.out, hmax, HBel.out.size⟩, ⟨HBo.out⟩⟩
      case rest =>
        obtain ⟨ys, m, hm1, hm2, HK2, HB2⟩ := hcut
        clear HKB HBo HBel hmax b0 b1 b2 b3 b4 b5
        have b4 : wc.cell? ⟨B, 4, none⟩ = some (.int .i64 o.f2) := blk_cell HB2.out 4
        have hBl := blk_lt HB2.out
        obtain ⟨x, hx⟩ : ∃ x, atv ys o.f2 = x := ⟨_, rfl⟩
        have HX := Lib.hid hx
        clear hx
        go_wp2_with (first
          | (go_at_call 15
             refine (both_readl HK2.out.1 (fun ok h => at_any _ _ _ ok ys m o.f2 h HK2.out.2.2.1)).mono ?_
             rintro e w2 ⟨rfl, hB2, hb2⟩
             rw [HX.out]
             have HX2 := Lib.hid (blk_new w2 (.cells #[.int .i64 x.f0, .int .i64 x.f1, .string x.f2] 28))
             have HBO := Lib.hid (hB2.new (.cells #[.int .i64 x.f0, .int .i64 x.f1, .string x.f2] 28))
             have hbo := blk_below HB2.out hb2
             have b4 : w2.cell? ⟨B, 4, none⟩ = some (.int .i64 o.f2) := blk_cell hbo 4
             have hBl := blk_lt hbo
             have HBS := Lib.hid ((HK2.out.2.1.trans (hb2.mono HK2.out.2.2.2)).alloc (by have := HK2.out.2.2.2; have := hb2.size; omega) (.cells #[.int .i64 x.f0, .int .i64 x.f1, .string x.f2] 28))
             clear hB2 hb2 hbo)
          | (go_at_call 16
             refine (both_readr HBO.out (fun ok h => rat_any _ _ _ ok ys m o.f2 h HK2.out.2.2.1)).mono ?_
             rintro e w3 ⟨rfl, hB3, hb3⟩
             rw [HX.out]
             have hx3 := blk_below HX2.out hb3
             have c0 : w3.cell? ⟨w2.heap.size, 0, none⟩ = some (.int .i64 x.f0) := blk_cell hx3 0
             have c1 : w3.cell? ⟨w2.heap.size, 1, none⟩ = some (.int .i64 x.f1) := blk_cell hx3 1
             have c2 : w3.cell? ⟨w2.heap.size, 2, none⟩ = some (.string x.f2) := blk_cell hx3 2
             have hl3 := blk_lt hx3
             have HBO := Lib.hid (hB3.new (.cells #[.int .i64 x.f0, .int .i64 x.f1, .string x.f2] 28))
             have HBS := Lib.hid ((HBS.out.trans (hb3.mono HBS.out.size)).alloc (by have := HBS.out.size; have := hb3.size; omega) (.cells #[.int .i64 x.f0, .int .i64 x.f1, .string x.f2] 28))
             clear hx3 hB3 hb3))
        obtain ⟨W3, hW3⟩ : ∃ W3, w3.alloc (.cells #[.int .i64 x.f0, .int .i64 x.f1, .string x.f2] 28) = W3 := ⟨_, rfl⟩
        have e0 : W3.cell? ⟨w2.heap.size, 0, none⟩ = some (.int .i64 x.f0) := hW3 ▸ (World.cell?_alloc_past _ _ _ hl3).trans c0
        have e1 : W3.cell? ⟨w2.heap.size, 1, none⟩ = some (.int .i64 x.f1) := hW3 ▸ (World.cell?_alloc_past _ _ _ hl3).trans c1
        have e2 : W3.cell? ⟨w2.heap.size, 2, none⟩ = some (.string x.f2) := hW3 ▸ (World.cell?_alloc_past _ _ _ hl3).trans c2
        have hn := blk_new w3 (.cells #[.int .i64 x.f0, .int .i64 x.f1, .string x.f2] 28)
        have y0 : W3.cell? ⟨w3.heap.size, 0, none⟩ = some (.int .i64 x.f0) := hW3 ▸ blk_cell hn 0
        have y1 : W3.cell? ⟨w3.heap.size, 1, none⟩ = some (.int .i64 x.f1) := hW3 ▸ blk_cell hn 1
        have y2 : W3.cell? ⟨w3.heap.size, 2, none⟩ = some (.string x.f2) := hW3 ▸ blk_cell hn 2
        rw [hW3] at HBO HBS ⊢
        clear hW3 hn c0 c1 c2
        obtain ⟨ok1, ok2, hb1, hb2, _⟩ := id HBO.out
        obtain ⟨_, _, _, v2, hh2, hF2, _⟩ := id hb2
        obtain ⟨A2, cc2, rfl, _⟩ := hF2.form
        have r0 : W3.cell? ⟨g2, 0, none⟩ = some (.slice A2 ys.length cc2) := blk_cell hh2 0
        have r1 : W3.cell? ⟨g2, 1, none⟩ = some (.int .i64 m) := blk_cell hh2 1
        have HB1 := Lib.hid hb1
        clear hb1 hb2 hh2 hF2
        go_quiet ((first | (go_at_call 10; exact Calls.quiet_of_same ((bag_len _ _ _ ok1 ys m (by exact HB1.out.only (S := fun _ => False) (Only.of_below ⟨rfl, rfl, rfl, Nat.le_refl _, fun _ _ => rfl⟩) (fun _ _ h => h))).mono (fun e w' h => ⟨h.1, h.2.symm⟩))) | (go_at_call 17; exact Calls.quiet_of_same ((bag_lost _ _ _ ok1 ys m (by exact HB1.out.only (S := fun _ => False) (Only.of_below ⟨rfl, rfl, rfl, Nat.le_refl _, fun _ _ => rfl⟩) (fun _ _ h => h))).mono (fun e w' h => ⟨h.1, h.2.symm⟩)))))
        go_wp2
        go_roundg (gk - 1)
        case measure => have := HQ.out; omega
        case rel => exact ⟨k + 1, ys, m, by omega, by omega, by go_num, ⟨by have := HQ.out; omega⟩, by omega, by omega, ⟨(HBO.out.sub (fun b hb => by cases hb)).drewN _, HBS.out.trans ⟨rfl, rfl, rfl, Nat.le_refl _, fun _ _ => rfl⟩, HK2.out.2.2.1, HBS.out.size⟩⟩
    · rcases (show (k < l.length ∧ 100 ≤ k) ∨ l.length ≤ k by omega) with ⟨h1, h2⟩ | h1
      all_goals
        clear hlt
        go_wp2
        go_ret
        exact ⟨rfl, HK.out.2.1⟩
end Go.Proofs.Ytabfngbdbflfaaa
