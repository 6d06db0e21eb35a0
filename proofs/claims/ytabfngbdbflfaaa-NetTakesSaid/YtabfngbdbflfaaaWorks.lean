/- The law's own small run. -/
import Derived.Test.YtabfngbdbflfaaaBagone
import Derived.LoopTactic
namespace Go.Proofs.Ytabfngbdbflfaaa
open Go.RowKit Go.Proofs.YtabfngbdbflfaaaW.PrintWords Go.Proofs.YtabfngbdbflfaaaW.PrintLast Go.Proofs.Ytabfngbdbflfaaa.PNetKeeps
set_option linter.unusedVariables false
set_option linter.unusedSimpArgs false
def env (k : Nat) : Env := ⟨k, 0, ⟨#[]⟩⟩
def sent (k : Nat) : List Env := (List.range k).map env
theorem sent_succ (k : Nat) : sent (k + 1) = sent k ++ [env k] := by simp [sent, List.range_succ]
theorem sent_len (k : Nat) : (sent k).length = k := by simp [sent]
set_option maxHeartbeats 400000 in
theorem works_true (w : World) : Calls Try.prog 6 #[] w fun e w' => e = .returned (.bool true) ∧ Below w.heap.size w w' := by
  go_enter Try.func6, Try.ntmps6
  go_wp2_with (
    go_at_call 7
    refine (new_bag _ w.heap.size (Nat.le_refl _)).mono ?_
    rintro e w1 ⟨rfl, hI, hbel⟩
    have HI := Lib.hid (show One 46 w.heap.size w1 w.heap.size [] 0 [] from ⟨_, bag_lt hI, fun k hk => hk, fun b hb => by cases hb⟩)
    have HBEL := Lib.hid hbel
    clear hI hbel)
  go_loopw [2] (fun i wr => ∃ k : Nat, k ≤ 3 ∧ i = .int .i64 k ∧ Aside0 (One 46 w.heap.size wr w.heap.size (sent k) 0 []) ∧ Aside0 (Below w.heap.size w wr)) (fun i _ => 3 - (intOf i).toNat)
  case atStart => exact ⟨0, by omega, rfl, ⟨HI.out⟩, ⟨HBEL.out⟩⟩
  case round =>
    obtain ⟨k, hk, rfl, HO, HB⟩ := hrel
    clear HI HBEL
    have hl : (sent k).length = k := sent_len k
    have HL := Lib.hid hl
    clear hl
    by_cases hlt : k < 3
    · go_wp2_with (
        go_at_call 8
        refine (one_call HO.out HB.out.size (fun ok h => send_any _ _ _ ok (sent k) 0 (env k) h (by rw [HL.out]; omega) (by omega) (by omega))).mono ?_
        rintro e w2 ⟨rfl, hI2, _, hb2⟩
        have HI2 := Lib.hid hI2
        have HB2 := Lib.hid hb2
        clear hI2 hb2)
      go_roundw
      case rel => exact ⟨k + 1, by omega, by go_num, ⟨by
          have := HI2.out
          rwa [show snt (sent k) (env k) = sent (k + 1) by rw [sent_succ]; unfold snt room; rw [if_pos (by rw [HL.out]; simpa using (by omega))], show lst (sent k) 0 = 0 by unfold lst room; rw [if_pos (by rw [HL.out]; simpa using (by omega))]] at this⟩, ⟨HB.out.trans HB2.out⟩⟩
      case measure => simp [intOf]; omega
    · obtain rfl : k = 3 := by omega
      have t1 : tkn (sent 3) 1 = [env 0, env 2] := rfl
      have t2 : atv (sent 3) 1 = env 1 := rfl
      have t3 : inb (sent 3) 1 = true := rfl
      have T1 := Lib.hid t1
      have T2 := Lib.hid t2
      have T3 := Lib.hid t3
      clear t1 t2 t3 hk HL
      go_wp2_with (first
        | (go_at_call 9
           refine (one_call HO.out HB.out.size (fun ok h => take_any _ _ _ ok (sent 3) 0 1 h (by decide))).mono ?_
           rintro e w2 ⟨rfl, hI2, _, hb2⟩
           rw [T2.out, T3.out]
           rw [T1.out] at hI2
           have HI2 := Lib.hid (hI2.new (.cells #[.int .i64 (env 1).f0, .int .i64 (env 1).f1, .string (env 1).f2] 28))
           have HB2 := Lib.hid (HB.out.trans hb2)
           have HX2 := Lib.hid (blk_new w2 (.cells #[.int .i64 (env 1).f0, .int .i64 (env 1).f1, .string (env 1).f2] 28))
           have hz2 := HB2.out.size
           clear hI2 hb2)
        | (go_at_call 15
           have tok := HI2.out
           refine (one_read HI2.out (fun ok h => at_any _ _ _ ok [env 0, env 2] 0 1 h (by decide))).mono ?_
           rintro e w3 ⟨rfl, hI3, hb3⟩
           rw [show atv [env 0, env 2] 1 = env 2 from rfl, show inb [env 0, env 2] 1 = true from rfl]
           have HI3 := Lib.hid (hI3.new (.cells #[.int .i64 (env 2).f0, .int .i64 (env 2).f1, .string (env 2).f2] 28))
           have HX3 := Lib.hid (blk_alloc (blk_below HX2.out hb3) (.cells #[.int .i64 (env 2).f0, .int .i64 (env 2).f1, .string (env 2).f2] 28))
           have HY3 := Lib.hid (blk_new w3 (.cells #[.int .i64 (env 2).f0, .int .i64 (env 2).f1, .string (env 2).f2] 28))
           have HB3 := Lib.hid hb3
           have hz3 := hb3.size
           simp at hz3
           clear hb3 hI3 tok HI2)
        | (go_at_call 13
           refine (one_call HI3.out (by have := HB2.out.size; have := HB3.out.size; simp at *; omega) (fun ok h => twice_any _ _ _ ok [env 0, env 2] 0 0 h (by decide) (by decide) (by decide))).mono ?_
           rintro e w4 ⟨rfl, hI4, hs4, hb4⟩
           rw [show (inb [env 0, env 2] 0 && room [env 0, env 2]) = true from rfl]
           rw [show twn [env 0, env 2] 0 = [env 0, env 2, env 0] from rfl, show twl [env 0, env 2] 0 0 = 0 from rfl] at hI4
           have HI4 := Lib.hid hI4
           have HX4 := Lib.hid ((hs4 w2.heap.size (by simp)).trans HX3.out)
           have HY4 := Lib.hid ((hs4 w3.heap.size (by simp)).trans HY3.out)
           have HB4 := Lib.hid hb4
           have hz4 := hb4.size
           simp at hz4
           clear hI4 hb4 hs4 HI3)
        | (go_at_call 15
           refine (one_read HI4.out (fun ok h => at_any _ _ _ ok [env 0, env 2, env 0] 0 2 h (by decide))).mono ?_
           rintro e w5 ⟨rfl, hI5, hb5⟩
           rw [show atv [env 0, env 2, env 0] 2 = env 0 from rfl, show inb [env 0, env 2, env 0] 2 = true from rfl]
           have HI5 := Lib.hid (hI5.new (.cells #[.int .i64 (env 0).f0, .int .i64 (env 0).f1, .string (env 0).f2] 28))
           have hx5 := blk_alloc (blk_below HX4.out hb5) (.cells #[.int .i64 (env 0).f0, .int .i64 (env 0).f1, .string (env 0).f2] 28)
           have hy5 := blk_alloc (blk_below HY4.out hb5) (.cells #[.int .i64 (env 0).f0, .int .i64 (env 0).f1, .string (env 0).f2] 28)
           have hw5 := blk_new w5 (.cells #[.int .i64 (env 0).f0, .int .i64 (env 0).f1, .string (env 0).f2] 28)
           have x5 : w5.cell? ⟨w2.heap.size, 0, none⟩ = some (.int .i64 1) := blk_cell (blk_below HX4.out hb5) 0
           have y5 : w5.cell? ⟨w3.heap.size, 0, none⟩ = some (.int .i64 2) := blk_cell (blk_below HY4.out hb5) 0
           have e0 : (env 0).f0 = 0 := rfl
           have HB5 := Lib.hid hb5
           have hz5 := hb5.size
           have hl2 : w2.heap.size < w5.heap.size := by omega
           have hl3 : w3.heap.size < w5.heap.size := by omega
           clear hb5 hI5 HI4 hx5 hy5 hw5)
        | (go_at_call 10
           obtain ⟨ok, hb, _⟩ := HI5.out
           refine (bag_len _ _ _ ok [env 0, env 2, env 0] 0 hb).mono ?_
           rintro e w6 ⟨rfl, rfl⟩
           clear hb
           rw [show (([env 0, env 2, env 0].length : Nat) : Int) = 3 from rfl]))
      go_ret
      have b3 := (HB2.out.alloc hz2 (.cells #[.int .i64 (env 1).f0, .int .i64 (env 1).f1, .string (env 1).f2] 28)).trans (HB3.out.mono (by simp; omega))
      have b4 := (b3.alloc (by omega) (.cells #[.int .i64 (env 2).f0, .int .i64 (env 2).f1, .string (env 2).f2] 28)).trans HB4.out
      exact ⟨rfl, (b4.trans (HB5.out.mono (by omega))).alloc (by omega) _⟩
end Go.Proofs.Ytabfngbdbflfaaa
