/- NetOrder's walk. -/
import Derived.Test.YtabfngbdbflfaaaWorks
namespace Go.Proofs.Ytabfngbdbflfaaa
open Go.RowKit Go.Proofs.YtabfngbdbflfaaaW.PrintWords Go.Proofs.YtabfngbdbflfaaaW.PrintLast Go.Proofs.YtabfngbdbflfaaaW.PrintMore Go.Proofs.Ytabfngbdbflfaaa.PNetKeeps
attribute [local go_sem] max2_int min2_int
set_option linter.unusedVariables false
set_option linter.unusedSimpArgs false

set_option maxRecDepth 100000 in
set_option maxHeartbeats 1000000 in
theorem order_walk (w : World) (A : Option Addr) (c : Nat) (l : List Env) (hr : Kd.C k28 w A l.length l) (hc : l.length ≤ c) (hm : l.length ≤ 9223372036854775807) :
    Calls Try.prog 3 #[.slice A l.length c] w fun e w' => e = .returned (.bool true) ∧ Below w.heap.size w w' := by
  have HR := Lib.hid hr
  clear hr
  go_enter Try.func3, Try.ntmps3
  go_wp2_with (first
    | (go_at_call 6
       refine (works_true _).mono ?_
       rintro e w0 ⟨rfl, hb0⟩
       have HB0 := Lib.hid hb0
       clear hb0)
    | (go_at_call 7
       refine (new_bag _ w.heap.size HB0.out.size).mono ?_
       rintro e w1 ⟨rfl, hI, hbel⟩
       have HI := Lib.hid (show One 46 w.heap.size w1 w0.heap.size [] 0 [] from ⟨_, bag_lt hI, fun k hk => ⟨by have := HB0.out.size; have := hk.1; omega, hk.2⟩, fun b hb => by cases hb⟩)
       have HB1 := Lib.hid (HB0.out.trans (hbel.mono HB0.out.size))
       clear hI hbel))
  obtain ⟨g, hg⟩ : ∃ g, w0.heap.size = g := ⟨_, rfl⟩
  have HG := Lib.hid hg
  rw [hg]
  have HI' := Lib.hid (show One 46 w.heap.size w1 g [] 0 [] from hg ▸ HI.out)
  clear hg HI
  go_loopw [4, 5] (fun n i wr => ∃ (k m : Nat) (lost : Int), k ≤ l.length ∧ k ≤ 400 ∧ n = .int .i64 m ∧ i = .int .i64 k ∧ 0 ≤ lost ∧ lost ≤ k ∧ m ≤ 256 ∧ Aside0 (m = min k 256) ∧ Aside0 (One 46 w.heap.size wr g (l.take m) lost []) ∧ Aside0 (Below w.heap.size w wr)) (fun _ i _ => l.length - (intOf i).toNat)
  case atStart => exact ⟨0, 0, 0, by omega, by omega, rfl, rfl, by omega, by omega, by omega, ⟨rfl⟩, ⟨by simpa using HI'.out⟩, ⟨HB1.out⟩⟩
  case round =>
    obtain ⟨k, m, lost, hk1, hk2, rfl, rfl, hl1, hl2, hm1, HM, HO, HB⟩ := hrel
    clear HI' HB1
    have HLEN := Lib.hid (show (l.take m).length = m by have := HM.out; rw [List.length_take]; omega)
    by_cases hlt : k < l.length ∧ k < 400
    · obtain ⟨hlt1, hlt2⟩ := hlt
      obtain ⟨ad, hA, e0, e1, e2⟩ := at_T28 HR.out k (by omega) (by omega)
      subst hA
      simp only [Int.toNat_natCast] at e0 e1 e2
      have d0 := (HB.out.cell (World.block_lt_of_cell? w _ e0)).trans e0
      have d1 := (HB.out.cell (World.block_lt_of_cell? w _ e1)).trans e1
      have d2 := (HB.out.cell (World.block_lt_of_cell? w _ e2)).trans e2
      clear e0 e1 e2
      obtain ⟨x, hx⟩ : ∃ x, rd_T28 l k = x := ⟨_, rfl⟩
      rw [hx] at d0 d1 d2
      have HX := Lib.hid hx
      clear hx
      by_cases hk : k < 256
      · obtain rfl : m = k := by have := HM.out; omega
        have hroom : room (l.take m) = true := by unfold room; rw [HLEN.out]; simpa using hk
        have HROOM := Lib.hid hroom
        clear hroom
        have hmin : ¬ (256 : Int) < (m : Int) + 1 := by omega
        go_wp2_with (go_at_call 8; refine (one_call HO.out HB.out.size (fun ok h => send_any _ _ _ ok _ lost x h (by rw [HLEN.out]; omega) hl1 (by omega))).mono ?_; rintro e w2 ⟨rfl, hI2, _, hb2⟩; rw [HROOM.out]; have HI2 := Lib.hid hI2; have HB2 := Lib.hid hb2; clear hI2 hb2)
        go_roundw
        case rel => exact ⟨m + 1, m + 1, lost, by omega, by omega, by go_num, by go_num, hl1, by omega, by omega, ⟨by omega⟩, ⟨by
            have h := HI2.out
            have e1 : snt (l.take m) x = l.take (m + 1) := by
              unfold snt
              rw [if_pos HROOM.out, List.take_succ_eq_append_getElem hlt1, ← HX.out]
              simp [rd_T28, hlt1]
            rwa [e1, show lst (l.take m) lost = lost by unfold lst; rw [if_pos HROOM.out]] at h⟩, ⟨HB.out.trans HB2.out⟩⟩
        case measure => simp [intOf]; omega
      · obtain rfl : m = 256 := by have := HM.out; omega
        have hroom : room (l.take 256) = false := by unfold room; rw [HLEN.out]; rfl
        have HROOM := Lib.hid hroom
        clear hroom
        have hmin : (256 : Int) < (k : Int) + 1 := by omega
        go_wp2_with (go_at_call 8; refine (one_call HO.out HB.out.size (fun ok h => send_any _ _ _ ok _ lost x h (by rw [HLEN.out]; omega) hl1 (by omega))).mono ?_; rintro e w2 ⟨rfl, hI2, _, hb2⟩; rw [HROOM.out]; have HI2 := Lib.hid hI2; have HB2 := Lib.hid hb2; clear hI2 hb2)
        go_roundw
        case rel => exact ⟨k + 1, 256, lost + 1, by omega, by omega, rfl, by go_num, by omega, by omega, by omega, ⟨by omega⟩, ⟨by
            have h := HI2.out
            rwa [show snt (l.take 256) x = l.take 256 by unfold snt; rw [if_neg (by rw [HROOM.out]; decide)], show lst (l.take 256) lost = lost + 1 by unfold lst; rw [if_neg (by rw [HROOM.out]; decide)]] at h⟩, ⟨HB.out.trans HB2.out⟩⟩
        case measure => simp [intOf]; omega
    · have hx : l.length ≤ k ∨ 400 ≤ k := by omega
      have HMM := Lib.hid (show m = min l.length 256 by have := HM.out; omega)
      rcases (show (k < l.length ∧ 400 ≤ k) ∨ l.length ≤ k by omega) with ⟨h1, h2⟩ | h1
      all_goals
        clear hlt hx
        go_wp2
        go_loopw [6] (fun i wr => ∃ j : Nat, j ≤ m ∧ i = .int .i64 j ∧ Aside0 (One 46 w.heap.size wr g ((l.take m).drop j) lost []) ∧ Aside0 (Below w.heap.size w wr)) (fun i _ => m - (intOf i).toNat)
        case atStart => exact ⟨0, by omega, rfl, ⟨by simpa using HO.out⟩, ⟨HB.out⟩⟩
        case round =>
          clear HO HB
          obtain ⟨j, hj, rfl, HO, HB⟩ := hrel
          by_cases hjm : j < m
          · have hjl : j < l.length := by have := HMM.out; omega
            obtain ⟨ad, hA, e0, e1, e2⟩ := at_T28 HR.out j (by omega) (by omega)
            subst hA
            simp only [Int.toNat_natCast] at e0 e1 e2
            have d0 := (HB.out.cell (World.block_lt_of_cell? w _ e0)).trans e0
            have d1 := (HB.out.cell (World.block_lt_of_cell? w _ e1)).trans e1
            have d2 := (HB.out.cell (World.block_lt_of_cell? w _ e2)).trans e2
            have l0 := World.block_lt_of_cell? w _ e0
            have l1 := World.block_lt_of_cell? w _ e1
            have l2 := World.block_lt_of_cell? w _ e2
            have L0 := Lib.hid l0
            have L1 := Lib.hid l1
            have L2 := Lib.hid l2
            clear e0 e1 e2 l0 l1 l2
            obtain ⟨x, hx⟩ : ∃ x, rd_T28 l j = x := ⟨_, rfl⟩
            rw [hx] at d0 d1 d2
            have HAT : Hid (atv ((l.take m).drop j) 0 = x ∧ inb ((l.take m).drop j) 0 = true ∧ tkn ((l.take m).drop j) 0 = (l.take m).drop (j + 1)) := by
              have h1 : (l.take m).drop j = x :: (l.take m).drop (j + 1) := by
                rw [List.drop_eq_getElem_cons (by rw [HLEN.out]; exact hjm), ← hx]
                simp [rd_T28, hjl]
              rw [h1]
              exact ⟨rfl, by simp [inb], by simp [tkn, inb]⟩
            clear hx
            have HLE := Lib.hid (show ((l.take m).drop j).length ≤ 256 by rw [List.length_drop, HLEN.out]; omega)
            go_wp2_with (go_at_call 9; refine (one_call HO.out HB.out.size (fun ok h => take_any _ _ _ ok _ lost 0 h HLE.out)).mono ?_; rintro e w2 ⟨rfl, hI2, _, hb2⟩; rw [HAT.out.1, HAT.out.2.1]; have HI2 := Lib.hid hI2; have HB2 := Lib.hid hb2; have d0 := (hb2.cell L0.out).trans d0; have d1 := (hb2.cell L1.out).trans d1; have d2 := (hb2.cell L2.out).trans d2; have hb1 := World.block_lt_of_cell? w2 _ d0; clear hI2 hb2)
            have hjl' : (j : Int) < l.length := by omega
            have hj0 : (0 : Int) ≤ j := by omega
            go_quiet (fail)
            go_wp2
            go_roundw
            case rel => exact ⟨j + 1, by omega, by go_num, ⟨((HAT.out.2.2 ▸ HI2.out).below ((Below.refl _ _).alloc (Nat.le_refl _) _)).below ((Below.refl _ _).trans ⟨rfl, rfl, rfl, Nat.le_refl _, fun _ _ => rfl⟩)⟩, ⟨((HB.out.trans HB2.out).alloc (by have := HB.out.size; have := HB2.out.size; omega) _).trans ⟨rfl, rfl, rfl, Nat.le_refl _, fun _ _ => rfl⟩⟩⟩
            case measure => simp [intOf]; omega
          · obtain rfl : j = m := by omega
            have HAT : Hid (atv ((l.take j).drop j) 0 = z28 ∧ inb ((l.take j).drop j) 0 = false ∧ tkn ((l.take j).drop j) 0 = []) := by
              rw [List.drop_eq_nil_of_le (by rw [HLEN.out]; omega)]
              exact ⟨rfl, rfl, rfl⟩
            have HLE := Lib.hid (show ((l.take j).drop j).length ≤ 256 by rw [List.length_drop, HLEN.out]; omega)
            go_wp2_with (first
              | (go_at_call 9; refine (one_call HO.out HB.out.size (fun ok h => take_any _ _ _ ok _ lost 0 h HLE.out)).mono ?_; rintro e w2 ⟨rfl, hI2, _, hb2⟩; rw [HAT.out.1, HAT.out.2.1]; rw [HAT.out.2.2] at hI2; have HI2 := Lib.hid (hI2.new (.cells #[.int .i64 z28.f0, .int .i64 z28.f1, .string z28.f2] 28)); have HB2 := Lib.hid hb2; clear hI2 hb2)
              | (go_at_call 10
                 obtain ⟨ok, hb, _⟩ := HI2.out
                 refine (bag_len _ _ _ ok [] lost hb).mono ?_
                 rintro e w6 ⟨rfl, rfl⟩
                 clear hb
                 rw [show ((([] : List Env).length : Nat) : Int) = 0 from rfl]))
            go_ret
            exact ⟨rfl, (HB.out.trans HB2.out).alloc (by have := HB.out.size; have := HB2.out.size; omega) _⟩
end Go.Proofs.Ytabfngbdbflfaaa
