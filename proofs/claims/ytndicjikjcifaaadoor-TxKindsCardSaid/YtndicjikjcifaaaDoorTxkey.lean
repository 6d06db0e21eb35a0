/- tx.key, tx.keys: what a key is; what is wrong with a row of keys. -/
import Derived.Test.YtndicjikjcifaaaDoorTxname
import Derived.Shelf.Strings.Prefix
import Derived.StillTactics
namespace Go.Proofs
open Go.Shelf
def Tryd.lays206_ren : Go.Shelf.Ren := ⟨fun | 206 => 132 | n => n, fun | 9 => 9 | 4 => 4 | 3 => 3 | n => n, fun | n => n⟩
theorem Tryd.lays206 : Go.Proofs.Lays.n206 Tryd.prog Tryd.lays206_ren := {
  mixed := by kernel_rfl
  f206 := Tryd.func132.trans (congrArg some (by kernel_rfl))
  t3 := Tryd.underlying3
  a3 := Tryd.isAgg3
  z3 := Tryd.sizeOf3
  v3 := Tryd.zeroValue3
  t4 := Tryd.underlying4
  a4 := Tryd.isAgg4
  z4 := Tryd.sizeOf4
  v4 := Tryd.zeroValue4
  t9 := Tryd.underlying9
  a9 := Tryd.isAgg9
  z9 := Tryd.sizeOf9
  v9 := Tryd.zeroValue9 }
end Go.Proofs
namespace Go.Proofs.YtndicjikjcifaaaDoor
open Go.RowKit Go.Shelf Go.Lib Go.Proofs.YtndicjikjcifaaaDoorW.PrintWords Go.Proofs.YtndicjikjcifaaaDoorW.PrintLast
set_option linter.unusedVariables false
set_option linter.unusedSimpArgs false

theorem hasPrefix_calls (s p : ByteArray) (w : World) :
    Calls Tryd.prog 110 #[.string s, .string p] w fun e w' => e = .returned (.bool (Lib.hasPrefix s.data.toList p.data.toList)) ∧ w' = w := by
  have hcon := Any.stringslite_HasPrefix Tryd.lays206 s p w
  change Calls Tryd.prog 132 _ _ _ at hcon
  generalize Lib.hasPrefix s.data.toList p.data.toList = r at hcon ⊢
  go_enter Tryd.func110, Tryd.ntmps110
  go_wp2_with (go_at_call 132; go_must (refine hcon.mono ?_); rintro e w' ⟨rfl, rfl⟩)
  go_ret
  exact ⟨rfl, rfl⟩
def ky (s : ByteArray) : Bool := decide (2 < s.size) && (Lib.hasPrefix s.data.toList [97, 58] || Lib.hasPrefix s.data.toList [107, 58]) && nm (s.extract 2 s.size)
set_option maxHeartbeats 4000000 in
theorem key_calls (s : ByteArray) (w : World) :
    Calls Tryd.prog 91 #[.string s] w fun e w' => e = .returned (.bool (ky s)) ∧ Below w.heap.size w w' := by
  have hA := hasPrefix_calls s ⟨#[97, 58]⟩ w
  have hK := hasPrefix_calls s ⟨#[107, 58]⟩ w
  have hN := name_calls (s.extract 2 s.size) w
  have E : ky s = (decide (2 < s.size) && (Lib.hasPrefix s.data.toList [97, 58] || Lib.hasPrefix s.data.toList [107, 58]) && nm (s.extract 2 s.size)) := rfl
  change Calls _ _ _ _ (fun e w' => e = .returned (.bool (Lib.hasPrefix s.data.toList [97, 58])) ∧ w' = w) at hA
  change Calls _ _ _ _ (fun e w' => e = .returned (.bool (Lib.hasPrefix s.data.toList [107, 58])) ∧ w' = w) at hK
  generalize Lib.hasPrefix s.data.toList [97, 58] = pa at hA E
  generalize Lib.hasPrefix s.data.toList [107, 58] = pk at hK E
  generalize nm (s.extract 2 s.size) = pn at hN E
  rw [E]
  clear E
  go_enter Tryd.func91, Tryd.ntmps91
  by_cases h0 : 2 < s.size
  · have e1 : decide ((2 : Int) < (s.size : Int)) = true := by simp; omega
    have e2 : (2 : Int) ≤ s.size := by omega
    rw [decide_eq_true h0]
    cases pa <;> cases pk <;> simp only [Bool.true_and, Bool.or_true, Bool.or_false, Bool.true_or, Bool.false_or, Bool.false_and]
    all_goals
      go_wp2_with (first | (go_at_call 110; (first | with_reducible refine hA.mono ?_ | with_reducible refine hK.mono ?_); rintro e w' ⟨rfl, rfl⟩) | (go_at_call 71; go_must (refine hN.mono ?_); rintro e w' ⟨rfl, hB⟩))
      go_ret
      first | exact ⟨rfl, hB⟩ | exact ⟨rfl, Below.refl _ _⟩
  · have e1 : decide ((2 : Int) < (s.size : Int)) = false := by simp; omega
    rw [decide_eq_false h0]
    clear h0
    go_wp2
    go_ret
    exact ⟨rfl, Below.refl _ _⟩

def lts (a b : ByteArray) : Bool := Op.bytesLess a.toList b.toList
def keL : Option ByteArray → List ByteArray → Int
  | _, [] => 0
  | p, s :: r => if ky s = false then 3 else if (match p with | none => true | some q => lts q s) = false then 9 else keL (some s) r
def ke (xs : List ByteArray) : Int := if xs.length ≤ 8 then keL none xs else 8
def prv (xs : List ByteArray) : Nat → Option ByteArray
  | 0 => none
  | j + 1 => some (rdOf ByteArray.empty xs (j : Int))

theorem rdOf_nat (xs : List ByteArray) (j : Nat) (hj : j < xs.length) : xs.drop j = rdOf ByteArray.empty xs (j : Int) :: xs.drop (j + 1) := by
  rw [List.drop_eq_getElem_cons hj]
  congr 1
  simp [rdOf, hj]

set_option maxHeartbeats 8000000 in
set_option maxRecDepth 100000 in
theorem keys_calls (A : Option Addr) (c : Nat) (xs : List ByteArray) (w : World) (hr : Kd.C Kd.string w A xs.length xs) (hc : xs.length ≤ c) :
    Calls Tryd.prog 72 #[.slice A xs.length c] w fun e w' => e = okOr (ke xs) ∧ Below w.heap.size w w' := by
  by_cases h8 : xs.length ≤ 8
  · have hE : keL none xs = ke xs := by rw [ke, if_pos h8]
    generalize ke xs = E at hE ⊢
    have e1 : decide ((xs.length : Int) ≤ 8) = true := by simp; omega
    have HR := Lib.hid hr
    clear hr
    go_enter Tryd.func72, Tryd.ntmps72
    go_wp2_with (first | (go_at_call 55; go_must (refine (check_ok _ _).mono ?_); rintro e w' ⟨rfl, hw⟩; have hw := hw.symm; subst hw))
    go_loopg [10] xs.length (fun q v10 wr => ∃ j : Nat, v10 = .int .i64 j ∧ j ≤ xs.length ∧ q + j = xs.length ∧ Hid (Below w.heap.size w wr) ∧ Hid (keL (prv xs j) (xs.drop j) = E))
    case atStart => exact ⟨0, rfl, by omega, by omega, Below.refl _ _, hE⟩
    case round =>
      obtain ⟨j, rfl, hj, hq, HB, HE⟩ := hrel
      rcases Nat.eq_or_lt_of_le hj with hj | hj
      · have e2 : decide ((j : Int) < (xs.length : Int)) = false := by simp; omega
        have hE : E = 0 := by rw [← HE, hj, List.drop_length]; rfl
        clear HE
        subst hE
        go_wp2
        go_end0
        exact ⟨rfl, HB⟩
      · have e2 : decide ((j : Int) < (xs.length : Int)) = true := by simp; omega
        have p1 := eq_true (show 0 ≤ (j : Int) by omega)
        have q1 := eq_true (show (j : Int) < (xs.length : Int) by omega)
        obtain ⟨ad, rfl, hx⟩ := Kd.at_string HR j (by omega) (by omega)
        have hx : wr.cell? (ad.add j) = some (.string (rdOf ByteArray.empty xs (j : Int))) := (HB.out.cell (World.block_lt_of_cell? w _ hx)).trans hx
        rw [rdOf_nat xs j hj] at HE
        generalize hs : rdOf ByteArray.empty xs (j : Int) = s at hx HE
        have hy := key_calls s wr
        cases hk : ky s with
        | false =>
          have hE : E = 3 := by have := HE; simp [keL, hk] at this; exact this.symm
          subst hE
          rw [hk] at hy
          clear HE
          go_wp2_with (first | (go_at_call 91; go_must (refine hy.mono ?_); rintro e w' ⟨rfl, hB⟩) | (go_at_call 55; go_must (refine (check_no _ _).mono ?_); rintro e w'' ⟨rfl, hw⟩; have hw := hw.symm; subst hw))
          exact ⟨rfl, rfl, below_then HB.out HB.out.size hB⟩
        | true =>
          rw [hk] at hy
          by_cases hj0 : j = 0
          · have d3 : ((j : Int) == 0) = true := by simp; omega
            have HE : Hid (keL (some s) (xs.drop (j + 1)) = E) := by have := HE; subst hj0; simpa [keL, hk, prv] using this
            clear hj0
            go_wp2_with (first | (go_at_call 91; go_must (refine hy.mono ?_); rintro e w2 ⟨rfl, hB⟩; have HB2 := Lib.hid (below_then HB.out HB.out.size hB); clear hB) | (go_at_call 55; go_must (refine (check_ok _ _).mono ?_); rintro e w'' ⟨rfl, hw⟩; have hw := hw.symm; subst hw))
            go_roundg (xs.length - (j + 1))
            case measure => omega
            case rel => exact ⟨j + 1, rfl, by omega, by omega, HB2, by rw [prv, hs]; exact HE⟩
          · obtain ⟨m, hm⟩ : ∃ m, j = m + 1 := ⟨j - 1, by omega⟩
            have d3 : ((j : Int) == 0) = false := by simp; omega
            obtain ⟨ad2, e2', hx2⟩ := Kd.at_string HR.out (m : Int) (by omega) (by omega)
            cases e2'
            have hx2 : w.cell? (ad.add m) = some (.string (rdOf ByteArray.empty xs (m : Int))) := hx2
            have hlt2 := World.block_lt_of_cell? w _ hx2
            have p2 := eq_true (show 0 ≤ (m : Int) by omega)
            have q2 := eq_true (show (m : Int) < (xs.length : Int) by omega)
            generalize hs2 : rdOf ByteArray.empty xs (m : Int) = s2 at hx2
            have hz : IntKind.i64.wrap ((j : Int) - 1) = (m : Int) := by rw [IntKind.wrap_i64]; omega
            cases hl : lts s2 s with
            | true =>
              have HE : Hid (keL (some s) (xs.drop (j + 1)) = E) := by have := HE; subst hm; simpa [keL, hk, prv, hs2, hl] using this
              have hl' : Op.bytesLess s2.toList s.toList = true := hl
              clear hj0 hm
              go_wp2_with (first | (go_at_call 91; go_must (refine hy.mono ?_); rintro e w2 ⟨rfl, hB⟩; have HB2 := Lib.hid (below_then HB.out HB.out.size hB); clear hB; have hx3 := (HB2.out.cell hlt2).trans hx2) | (go_at_call 55; go_must (refine (check_ok _ _).mono ?_); rintro e w'' ⟨rfl, hw⟩; have hw := hw.symm; subst hw))
              go_roundg (xs.length - (j + 1))
              case measure => omega
              case rel => exact ⟨j + 1, rfl, by omega, by omega, HB2, by rw [prv, hs]; exact HE⟩
            | false =>
              have hE : E = 9 := by have := HE; subst hm; simp [keL, hk, prv, hs2, hl] at this; exact this.symm
              subst hE
              have hl' : Op.bytesLess s2.toList s.toList = false := hl
              clear HE hj0 hm
              go_wp2_with (first | (go_at_call 91; go_must (refine hy.mono ?_); rintro e w2 ⟨rfl, hB⟩; have HB2 := Lib.hid (below_then HB.out HB.out.size hB); clear hB; have hx3 := (HB2.out.cell hlt2).trans hx2) | (go_at_call 55; first | (with_reducible refine (check_ok _ _).mono ?_; rintro e w'' ⟨rfl, hw⟩; have hw := hw.symm; subst hw) | (with_reducible refine (check_no _ _).mono ?_; rintro e w'' ⟨rfl, hw⟩; have hw := hw.symm; subst hw)))
              exact ⟨rfl, rfl, HB2⟩
  · have hE : ke xs = 8 := by rw [ke, if_neg h8]
    have e1 : decide ((xs.length : Int) ≤ 8) = false := by simp; omega
    rw [hE]
    go_enter Tryd.func72, Tryd.ntmps72
    go_wp2_with (first | (go_at_call 55; go_must (refine (check_no _ _).mono ?_); rintro e w' ⟨rfl, hw⟩; have hw := hw.symm; subst hw))
    exact ⟨rfl, rfl, Below.refl _ _⟩
end Go.Proofs.YtndicjikjcifaaaDoor
