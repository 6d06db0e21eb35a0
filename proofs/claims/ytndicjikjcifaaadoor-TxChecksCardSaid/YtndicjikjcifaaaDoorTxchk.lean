/- tx.check, tx.caught, tx.name, tx.key: what is thrown, and what a name is. -/
import Derived.Test.YtndicjikjcifaaaDoorProg
import Derived.Test.YtndicjikjcifaaaDoorBase
import Derived.WalkKit
import Derived.Ground.NamesProg
import Derived.Shelf.Lays
import Derived.Shelf.Strings.SlTrimAscii
import Derived.Defers
import Derived.Recover
import Derived.WalkSmall
import Derived.Laws.Pointers
import Derived.Deep.DeepMust
import Derived.Shelf.Strings.Prefix
import Derived.StillTactics
namespace Go.Proofs
open Go.Shelf
def Tryd.lays160_ren : Go.Shelf.Ren := ⟨fun | 160 => 90 | 232 => 104 | 231 => 103 | 227 => 105 | 234 => 107 | 233 => 106 | 236 => 109 | 235 => 108 | 228 => 128 | 271 => 131 | 151 => 130 | 197 => 129 | 120 => 143 | 152 => 142 | 260 => 141 | 137 => 145 | 119 => 146 | 224 => 147 | 225 => 148 | 217 => 149 | 266 => 150 | n => n, fun | 9 => 9 | 4 => 4 | 3 => 3 | 5 => 5 | 117 => 136 | 116 => 135 | 0 => 0 | 124 => 139 | 21 => 21 | 105 => 165 | 46 => 105 | 119 => 178 | 139 => 181 | 138 => 180 | n => n, fun | 3 => 3 | 4 => 4 | n => n⟩
theorem Tryd.lays160 : Go.Proofs.Lays.n160 Tryd.prog Tryd.lays160_ren := {
  mixed := by kernel_rfl
  f119 := Tryd.func146.trans (congrArg some (by kernel_rfl))
  f120 := Tryd.func143.trans (congrArg some (by kernel_rfl))
  f137 := Tryd.func145.trans (congrArg some (by kernel_rfl))
  f151 := Tryd.func130.trans (congrArg some (by kernel_rfl))
  f152 := Tryd.func142.trans (congrArg some (by kernel_rfl))
  f160 := Tryd.func90.trans (congrArg some (by kernel_rfl))
  f197 := Tryd.func129.trans (congrArg some (by kernel_rfl))
  f217 := Tryd.func149.trans (congrArg some (by kernel_rfl))
  f224 := Tryd.func147.trans (congrArg some (by kernel_rfl))
  f225 := Tryd.func148.trans (congrArg some (by kernel_rfl))
  f227 := Tryd.func105.trans (congrArg some (by kernel_rfl))
  f228 := Tryd.func128.trans (congrArg some (by kernel_rfl))
  f231 := Tryd.func103.trans (congrArg some (by kernel_rfl))
  f232 := Tryd.func104.trans (congrArg some (by kernel_rfl))
  f233 := Tryd.func106.trans (congrArg some (by kernel_rfl))
  f234 := Tryd.func107.trans (congrArg some (by kernel_rfl))
  f235 := Tryd.func108.trans (congrArg some (by kernel_rfl))
  f236 := Tryd.func109.trans (congrArg some (by kernel_rfl))
  f260 := Tryd.func141.trans (congrArg some (by kernel_rfl))
  f266 := Tryd.func150.trans (congrArg some (by kernel_rfl))
  f271 := Tryd.func131.trans (congrArg some (by kernel_rfl))
  t0 := Tryd.underlying0
  a0 := Tryd.isAgg0
  z0 := Tryd.sizeOf0
  v0 := Tryd.zeroValue0
  t3 := Tryd.underlying3
  a3 := Tryd.isAgg3
  z3 := Tryd.sizeOf3
  v3 := Tryd.zeroValue3
  t4 := Tryd.underlying4
  a4 := Tryd.isAgg4
  z4 := Tryd.sizeOf4
  v4 := Tryd.zeroValue4
  t5 := Tryd.underlying5
  a5 := Tryd.isAgg5
  z5 := Tryd.sizeOf5
  v5 := Tryd.zeroValue5
  t9 := Tryd.underlying9
  a9 := Tryd.isAgg9
  z9 := Tryd.sizeOf9
  v9 := Tryd.zeroValue9
  t21 := Tryd.underlying21
  a21 := Tryd.isAgg21
  z21 := Tryd.sizeOf21
  v21 := Tryd.zeroValue21
  t46 := Tryd.underlying105
  a46 := Tryd.isAgg105
  z46 := Tryd.sizeOf105
  v46 := Tryd.zeroValue105
  t105 := Tryd.underlying165
  a105 := Tryd.isAgg165
  z105 := Tryd.sizeOf165
  v105 := Tryd.zeroValue165
  t116 := Tryd.underlying135
  a116 := Tryd.isAgg135
  z116 := Tryd.sizeOf135
  t117 := Tryd.underlying136
  a117 := Tryd.isAgg136
  z117 := Tryd.sizeOf136
  v117 := Tryd.zeroValue136
  t119 := Tryd.underlying178
  a119 := Tryd.isAgg178
  z119 := Tryd.sizeOf178
  t124 := Tryd.underlying139
  a124 := Tryd.isAgg139
  z124 := Tryd.sizeOf139
  v124 := Tryd.zeroValue139
  t138 := Tryd.underlying180
  a138 := Tryd.isAgg180
  z138 := Tryd.sizeOf180
  v138 := Tryd.zeroValue180
  t139 := Tryd.underlying181
  a139 := Tryd.isAgg181
  z139 := Tryd.sizeOf181
  v139 := Tryd.zeroValue181
  g3 := by kernel_rfl
  g4 := by kernel_rfl }
end Go.Proofs
namespace Go.Proofs.YtndicjikjcifaaaDoor
open Go.RowKit Go.Shelf Go.Lib Go.Proofs.YtndicjikjcifaaaDoorW.PrintWords Go.Proofs.YtndicjikjcifaaaDoorW.PrintLast
set_option linter.unusedVariables false
set_option linter.unusedSimpArgs false

/-- What is thrown: one Errno. -/
def thr (x : Int) : Ending := .panicked [{ v := .iface 24 (.int .i64 x), recovered := false }]
def okOr (x : Int) : Ending := if x = 0 then .returned (.tuple #[]) else thr x

theorem check_ok (x : Int) (w : World) : Calls Tryd.prog 55 #[.bool true, .int .i64 x] w fun e w' => e = .returned (.tuple #[]) ∧ w' = w := by
  go_enter Tryd.func55, Tryd.ntmps55
  go_wp2
  go_end0
  exact ⟨rfl, rfl⟩
theorem check_no (x : Int) (w : World) : Calls Tryd.prog 55 #[.bool false, .int .i64 x] w fun e w' => e = .panicked [{ v := .iface 24 (.int .i64 x), recovered := false }] ∧ w' = w := by
  go_enter Tryd.func55, Tryd.ntmps55
  go_wp2
  exact ⟨rfl, rfl, rfl⟩

theorem assert_yes (W : World) (x : Int) : (Instr.typeAssert (.iface 24 (.int .i64 x)) 20 24 true).run Tryd.prog W = .ok (.tuple #[.int .i64 x, .bool true]) W := by kernel_rfl
set_option maxHeartbeats 2000000 in
set_option maxRecDepth 100000 in
theorem caught_panicking (p : Addr) (x0 x : Int) (older : List PanicEntry) (w : World) (hc : w.cell? p = some (.int .i64 x0)) (hz : w.frozen? p = false) :
    CallsD Tryd.prog 51 #[.pointer (some p)] (.panicking ({ v := .iface 24 (.int .i64 x), recovered := false } :: older)) w fun e u' w' =>
      e = .returned (.tuple #[]) ∧ u' = .panicking ({ v := .iface 24 (.int .i64 x), recovered := true } :: older) ∧ w' = w.setCell p (.int .i64 x) := by
  have ha := fun W => assert_yes W x
  refine callsD_of_wpS Tryd.func51 rfl fun c₀ cs hu => ?_
  apply wpS_seq
  apply wpS_region
  simp [wpOpsS, go_sem, recoverD, hu, Tryd.ntmps51, Exit.thenS]
  refine wpS_of_wp ?_
  go_wp2
  cases c₀
  simp_all [bodyPostS, results, Tryd.results51]
theorem caught_idle (p : Addr) (w : World) :
    CallsD Tryd.prog 51 #[.pointer (some p)] .returning w fun e u' w' => e = .returned (.tuple #[]) ∧ u' = .returning ∧ w' = w := by
  refine callsD_of_wpS Tryd.func51 rfl fun c₀ cs hu => ?_
  apply wpS_seq
  apply wpS_region
  simp [wpOpsS, go_sem, recoverD, hu, Tryd.ntmps51, Exit.thenS]
  refine wpS_of_wp ?_
  simp only [Array.replicate]
  go_wp2
  cases c₀
  simp_all [bodyPostS, results, Tryd.results51]

def cutset : List UInt8 := [97, 98, 99, 100, 101, 102, 103, 104, 105, 106, 107, 108, 109, 110, 111, 112, 113, 114, 115, 116, 117, 118, 119, 120, 121, 122, 48, 49, 50, 51, 52, 53, 54, 55, 56, 57]
set_option maxRecDepth 10000 in
theorem cut_ascii : cutset.toArray.toList.all (fun b => decide (b.toNat < 128)) = true := by decide
def nm (s : ByteArray) : Bool := decide (s.size ≠ 0 ∧ s.size ≤ 32 ∧ Lib.trimS s.data.toList cutset = [])
theorem name_calls (s : ByteArray) (w : World) :
    Calls Tryd.prog 71 #[.string s] w fun e w' => e = .returned (.bool (nm s)) ∧ Below w.heap.size w w' := by
  go_enter Tryd.func71, Tryd.ntmps71
  by_cases h0 : s.size = 0
  · have e1 : nm s = false := by simp [nm, h0]
    have e2 : s.toList.isEmpty = true := by
      have : s = ⟨#[]⟩ := ByteArray.size_eq_zero_iff.1 h0
      rw [this, ByteArray.toList_eq]; rfl
    rw [e1]
    clear e1 h0
    go_wp2
    go_ret
    exact ⟨rfl, Below.refl _ _⟩
  have e2 : s.toList.isEmpty = false := by
    rw [ByteArray.toList_eq]
    cases h : s.data.toList with
    | nil => exact absurd (show s.size = 0 from by have := congrArg List.length h; rw [Array.length_toList] at this; exact this) h0
    | cons => rfl
  by_cases h1 : s.size ≤ 32
  · have e3 : decide ((s.size : Int) ≤ 32) = true := by simp; omega
    have hcon := Any.strings_Trim_laid Tryd.lays160 (by kernel_rfl) s ⟨cutset.toArray⟩ w (by omega) (by decide) (ascii_of_all cut_ascii)
    change Calls Tryd.prog 90 _ _ (fun e w' => e = .returned (.string ⟨(Lib.trimS s.data.toList cutset).toArray⟩) ∧ Below w.heap.size w w') at hcon
    have e4 : (Lib.trimS s.data.toList cutset = []) ↔ nm s = true := by
      unfold nm
      rw [decide_eq_true_iff]
      exact ⟨fun h => ⟨h0, h1, h⟩, fun h => h.2.2⟩
    have e5 : (⟨(Lib.trimS s.data.toList cutset).toArray⟩ : ByteArray).toList.isEmpty = nm s := by
      rw [Bool.eq_iff_iff, ← e4, ByteArray.toList_eq]
      exact List.isEmpty_iff
    generalize (⟨(Lib.trimS s.data.toList cutset).toArray⟩ : ByteArray) = r at hcon e5
    clear e4 h0 h1
    generalize nm s = q at e5 ⊢
    go_wp2_with (go_at_call 90; go_must (refine hcon.mono ?_); rintro e w' ⟨rfl, hB⟩)
    go_ret
    exact ⟨rfl, hB⟩
  · have e3 : decide ((s.size : Int) ≤ 32) = false := by simp; omega
    have e1 : nm s = false := by simp [nm, h1]
    rw [e1]
    clear e1 h0 h1
    go_wp2
    go_ret
    exact ⟨rfl, Below.refl _ _⟩
end Go.Proofs.YtndicjikjcifaaaDoor

/- tx.key, tx.keys: what a key is; what is wrong with a row of keys. -/
namespace Go.Proofs
open Go.Shelf
def Tryd.lays206_ren : Go.Shelf.Ren := ⟨fun | 206 => 132 | n => n, fun | 9 => 9 | 4 => 4 | 3 => 3 | n => n, fun | n => n⟩
theorem Tryd.lays206 : Go.Proofs.Lays.n206 Tryd.prog Tryd.lays206_ren := {
  mixed := by kernel_rfl
  f206 := Tryd.func132.trans (congrArg some (by kernel_rfl))
  t3 := Tryd.underlying3
  a3 := Tryd.isAgg3
  z3 := Tryd.sizeOf3
  v3 := Tryd.zeroValue3
  t4 := Tryd.underlying4
  a4 := Tryd.isAgg4
  z4 := Tryd.sizeOf4
  v4 := Tryd.zeroValue4
  t9 := Tryd.underlying9
  a9 := Tryd.isAgg9
  z9 := Tryd.sizeOf9
  v9 := Tryd.zeroValue9 }
end Go.Proofs
namespace Go.Proofs.YtndicjikjcifaaaDoor
open Go.RowKit Go.Shelf Go.Lib Go.Proofs.YtndicjikjcifaaaDoorW.PrintWords Go.Proofs.YtndicjikjcifaaaDoorW.PrintLast
set_option linter.unusedVariables false
set_option linter.unusedSimpArgs false

theorem hasPrefix_calls (s p : ByteArray) (w : World) :
    Calls Tryd.prog 110 #[.string s, .string p] w fun e w' => e = .returned (.bool (Lib.hasPrefix s.data.toList p.data.toList)) ∧ w' = w := by
  have hcon := Any.stringslite_HasPrefix Tryd.lays206 s p w
  change Calls Tryd.prog 132 _ _ _ at hcon
  generalize Lib.hasPrefix s.data.toList p.data.toList = r at hcon ⊢
  go_enter Tryd.func110, Tryd.ntmps110
  go_wp2_with (go_at_call 132; go_must (refine hcon.mono ?_); rintro e w' ⟨rfl, rfl⟩)
  go_ret
  exact ⟨rfl, rfl⟩
def ky (s : ByteArray) : Bool := decide (2 < s.size) && (Lib.hasPrefix s.data.toList [97, 58] || Lib.hasPrefix s.data.toList [107, 58]) && nm (s.extract 2 s.size)
set_option maxHeartbeats 4000000 in
theorem key_calls (s : ByteArray) (w : World) :
    Calls Tryd.prog 91 #[.string s] w fun e w' => e = .returned (.bool (ky s)) ∧ Below w.heap.size w w' := by
  have hA := hasPrefix_calls s ⟨#[97, 58]⟩ w
  have hK := hasPrefix_calls s ⟨#[107, 58]⟩ w
  have hN := name_calls (s.extract 2 s.size) w
  have E : ky s = (decide (2 < s.size) && (Lib.hasPrefix s.data.toList [97, 58] || Lib.hasPrefix s.data.toList [107, 58]) && nm (s.extract 2 s.size)) := rfl
  change Calls _ _ _ _ (fun e w' => e = .returned (.bool (Lib.hasPrefix s.data.toList [97, 58])) ∧ w' = w) at hA
  change Calls _ _ _ _ (fun e w' => e = .returned (.bool (Lib.hasPrefix s.data.toList [107, 58])) ∧ w' = w) at hK
  generalize Lib.hasPrefix s.data.toList [97, 58] = pa at hA E
  generalize Lib.hasPrefix s.data.toList [107, 58] = pk at hK E
  generalize nm (s.extract 2 s.size) = pn at hN E
  rw [E]
  clear E
  go_enter Tryd.func91, Tryd.ntmps91
  by_cases h0 : 2 < s.size
  · have e1 : decide ((2 : Int) < (s.size : Int)) = true := by simp; omega
    have e2 : (2 : Int) ≤ s.size := by omega
    rw [decide_eq_true h0]
    cases pa <;> cases pk <;> simp only [Bool.true_and, Bool.or_true, Bool.or_false, Bool.true_or, Bool.false_or, Bool.false_and]
    all_goals
      go_wp2_with (first | (go_at_call 110; (first | with_reducible refine hA.mono ?_ | with_reducible refine hK.mono ?_); rintro e w' ⟨rfl, rfl⟩) | (go_at_call 71; go_must (refine hN.mono ?_); rintro e w' ⟨rfl, hB⟩))
      go_ret
      first | exact ⟨rfl, hB⟩ | exact ⟨rfl, Below.refl _ _⟩
  · have e1 : decide ((2 : Int) < (s.size : Int)) = false := by simp; omega
    rw [decide_eq_false h0]
    clear h0
    go_wp2
    go_ret
    exact ⟨rfl, Below.refl _ _⟩

def lts (a b : ByteArray) : Bool := Op.bytesLess a.toList b.toList
def keL : Option ByteArray → List ByteArray → Int
  | _, [] => 0
  | p, s :: r => if ky s = false then 3 else if (match p with | none => true | some q => lts q s) = false then 9 else keL (some s) r
def ke (xs : List ByteArray) : Int := if xs.length ≤ 8 then keL none xs else 8
def prv (xs : List ByteArray) : Nat → Option ByteArray
  | 0 => none
  | j + 1 => some (rdOf ByteArray.empty xs (j : Int))

theorem rdOf_nat (xs : List ByteArray) (j : Nat) (hj : j < xs.length) : xs.drop j = rdOf ByteArray.empty xs (j : Int) :: xs.drop (j + 1) := by
  rw [List.drop_eq_getElem_cons hj]
  congr 1
  simp [rdOf, hj]

set_option maxHeartbeats 8000000 in
set_option maxRecDepth 100000 in
theorem keys_calls (A : Option Addr) (c : Nat) (xs : List ByteArray) (w : World) (hr : Kd.C Kd.string w A xs.length xs) (hc : xs.length ≤ c) :
    Calls Tryd.prog 72 #[.slice A xs.length c] w fun e w' => e = okOr (ke xs) ∧ Below w.heap.size w w' := by
  by_cases h8 : xs.length ≤ 8
  · have hE : keL none xs = ke xs := by rw [ke, if_pos h8]
    generalize ke xs = E at hE ⊢
    have e1 : decide ((xs.length : Int) ≤ 8) = true := by simp; omega
    have HR := Lib.hid hr
    clear hr
    go_enter Tryd.func72, Tryd.ntmps72
    go_wp2_with (first | (go_at_call 55; go_must (refine (check_ok _ _).mono ?_); rintro e w' ⟨rfl, hw⟩; have hw := hw.symm; subst hw))
    go_loopg [10] xs.length (fun q v10 wr => ∃ j : Nat, v10 = .int .i64 j ∧ j ≤ xs.length ∧ q + j = xs.length ∧ Hid (Below w.heap.size w wr) ∧ Hid (keL (prv xs j) (xs.drop j) = E))
    case atStart => exact ⟨0, rfl, by omega, by omega, Below.refl _ _, hE⟩
    case round =>
      obtain ⟨j, rfl, hj, hq, HB, HE⟩ := hrel
      rcases Nat.eq_or_lt_of_le hj with hj | hj
      · have e2 : decide ((j : Int) < (xs.length : Int)) = false := by simp; omega
        have hE : E = 0 := by rw [← HE, hj, List.drop_length]; rfl
        clear HE
        subst hE
        go_wp2
        go_end0
        exact ⟨rfl, HB⟩
      · have e2 : decide ((j : Int) < (xs.length : Int)) = true := by simp; omega
        have p1 := eq_true (show 0 ≤ (j : Int) by omega)
        have q1 := eq_true (show (j : Int) < (xs.length : Int) by omega)
        obtain ⟨ad, rfl, hx⟩ := Kd.at_string HR j (by omega) (by omega)
        have hx : wr.cell? (ad.add j) = some (.string (rdOf ByteArray.empty xs (j : Int))) := (HB.out.cell (World.block_lt_of_cell? w _ hx)).trans hx
        rw [rdOf_nat xs j hj] at HE
        generalize hs : rdOf ByteArray.empty xs (j : Int) = s at hx HE
        have hy := key_calls s wr
        cases hk : ky s with
        | false =>
          have hE : E = 3 := by have := HE; simp [keL, hk] at this; exact this.symm
          subst hE
          rw [hk] at hy
          clear HE
          go_wp2_with (first | (go_at_call 91; go_must (refine hy.mono ?_); rintro e w' ⟨rfl, hB⟩) | (go_at_call 55; go_must (refine (check_no _ _).mono ?_); rintro e w'' ⟨rfl, hw⟩; have hw := hw.symm; subst hw))
          exact ⟨rfl, rfl, below_then HB.out HB.out.size hB⟩
        | true =>
          rw [hk] at hy
          by_cases hj0 : j = 0
          · have d3 : ((j : Int) == 0) = true := by simp; omega
            have HE : Hid (keL (some s) (xs.drop (j + 1)) = E) := by have := HE; subst hj0; simpa [keL, hk, prv] using this
            clear hj0
            go_wp2_with (first | (go_at_call 91; go_must (refine hy.mono ?_); rintro e w2 ⟨rfl, hB⟩; have HB2 := Lib.hid (below_then HB.out HB.out.size hB); clear hB) | (go_at_call 55; go_must (refine (check_ok _ _).mono ?_); rintro e w'' ⟨rfl, hw⟩; have hw := hw.symm; subst hw))
            go_roundg (xs.length - (j + 1))
            case measure => omega
            case rel => exact ⟨j + 1, rfl, by omega, by omega, HB2, by rw [prv, hs]; exact HE⟩
          · obtain ⟨m, hm⟩ : ∃ m, j = m + 1 := ⟨j - 1, by omega⟩
            have d3 : ((j : Int) == 0) = false := by simp; omega
            obtain ⟨ad2, e2', hx2⟩ := Kd.at_string HR.out (m : Int) (by omega) (by omega)
            cases e2'
            have hx2 : w.cell? (ad.add m) = some (.string (rdOf ByteArray.empty xs (m : Int))) := hx2
            have hlt2 := World.block_lt_of_cell? w _ hx2
            have p2 := eq_true (show 0 ≤ (m : Int) by omega)
            have q2 := eq_true (show (m : Int) < (xs.length : Int) by omega)
            generalize hs2 : rdOf ByteArray.empty xs (m : Int) = s2 at hx2
            have hz : IntKind.i64.wrap ((j : Int) - 1) = (m : Int) := by rw [IntKind.wrap_i64]; omega
            cases hl : lts s2 s with
            | true =>
              have HE : Hid (keL (some s) (xs.drop (j + 1)) = E) := by have := HE; subst hm; simpa [keL, hk, prv, hs2, hl] using this
              have hl' : Op.bytesLess s2.toList s.toList = true := hl
              clear hj0 hm
              go_wp2_with (first | (go_at_call 91; go_must (refine hy.mono ?_); rintro e w2 ⟨rfl, hB⟩; have HB2 := Lib.hid (below_then HB.out HB.out.size hB); clear hB; have hx3 := (HB2.out.cell hlt2).trans hx2) | (go_at_call 55; go_must (refine (check_ok _ _).mono ?_); rintro e w'' ⟨rfl, hw⟩; have hw := hw.symm; subst hw))
              go_roundg (xs.length - (j + 1))
              case measure => omega
              case rel => exact ⟨j + 1, rfl, by omega, by omega, HB2, by rw [prv, hs]; exact HE⟩
            | false =>
              have hE : E = 9 := by have := HE; subst hm; simp [keL, hk, prv, hs2, hl] at this; exact this.symm
              subst hE
              have hl' : Op.bytesLess s2.toList s.toList = false := hl
              clear HE hj0 hm
              go_wp2_with (first | (go_at_call 91; go_must (refine hy.mono ?_); rintro e w2 ⟨rfl, hB⟩; have HB2 := Lib.hid (below_then HB.out HB.out.size hB); clear hB; have hx3 := (HB2.out.cell hlt2).trans hx2) | (go_at_call 55; first | (with_reducible refine (check_ok _ _).mono ?_; rintro e w'' ⟨rfl, hw⟩; have hw := hw.symm; subst hw) | (with_reducible refine (check_no _ _).mono ?_; rintro e w'' ⟨rfl, hw⟩; have hw := hw.symm; subst hw)))
              exact ⟨rfl, rfl, HB2⟩
  · have hE : ke xs = 8 := by rw [ke, if_neg h8]
    have e1 : decide ((xs.length : Int) ≤ 8) = false := by simp; omega
    rw [hE]
    go_enter Tryd.func72, Tryd.ntmps72
    go_wp2_with (first | (go_at_call 55; go_must (refine (check_no _ _).mono ?_); rintro e w' ⟨rfl, hw⟩; have hw := hw.symm; subst hw))
    exact ⟨rfl, rfl, Below.refl _ _⟩
end Go.Proofs.YtndicjikjcifaaaDoor

/- tx.Check: what is wrong with a transaction. -/
namespace Go.Proofs.YtndicjikjcifaaaDoor
open Go.RowKit Go.Shelf Go.Lib Go.Proofs.YtndicjikjcifaaaDoorW.PrintWords Go.Proofs.YtndicjikjcifaaaDoorW.PrintLast
set_option linter.unusedVariables false
set_option linter.unusedSimpArgs false

/-- What is wrong with a transaction (0: nothing). -/
def chF (k : Int) (f t ky' vl : ByteArray) (am : Int) : Int :=
  if k = 1 then (if (nm f && nm t && ky'.toList.isEmpty && vl.toList.isEmpty) = true then 0 else 3)
  else if k = 2 then (if (nm f && nm ky' && decide (vl.size ≤ 64) && t.toList.isEmpty && decide (am = 0)) = true then 0 else 3)
  else 5
def chR (am nc : Int) (rs ws : List ByteArray) : Int :=
  if am ≤ 4611686018427387903 ∧ nc ≤ 4611686018427387903 then (if ke rs = 0 then ke ws else ke rs) else 2
def ch (k : Int) (f t : ByteArray) (am nc : Int) (ky' vl : ByteArray) (rs ws : List ByteArray) : Int :=
  if chF k f t ky' vl am = 0 then chR am nc rs ws else chF k f t ky' vl am

theorem keys_ok (A : Option Addr) (c : Nat) (xs : List ByteArray) (w : World) (h0 : ke xs = 0) (hr : Kd.C Kd.string w A xs.length xs) (hc : xs.length ≤ c) :
    Calls Tryd.prog 72 #[.slice A xs.length c] w fun e w' => e = .returned (.tuple #[]) ∧ Below w.heap.size w w' := by
  have := keys_calls A c xs w hr hc
  rw [okOr, if_pos h0] at this
  exact this
theorem keys_no (A : Option Addr) (c : Nat) (xs : List ByteArray) (w : World) (h0 : ke xs ≠ 0) (hr : Kd.C Kd.string w A xs.length xs) (hc : xs.length ≤ c) :
    Calls Tryd.prog 72 #[.slice A xs.length c] w fun e w' => e = .panicked [{ v := .iface 24 (.int .i64 (ke xs)), recovered := false }] ∧ Below w.heap.size w w' := by
  have := keys_calls A c xs w hr hc
  rw [okOr, if_neg h0] at this
  exact this
/-- The two boxes at a world. -/
structure Bx (w : World) (bs : Array Value) (W : World) : Prop where
  low : Below w.heap.size w W
  box : W.heap[w.heap.size]? = some (.cells bs 33 (0, 0))
  res : W.heap[w.heap.size + 1]? = some (.cells #[.int .i64 0] 24 (0, 0))
theorem Bx.size {w W : World} {bs : Array Value} (h : Bx w bs W) : w.heap.size + 1 < W.heap.size := by
  have := h.res
  rcases Nat.lt_or_ge (w.heap.size + 1) W.heap.size with h | h
  · exact h
  · rw [Array.getElem?_eq_none h] at this; cases this
theorem Bx.step {w W W' : World} {bs : Array Value} (h : Bx w bs W) (hb : Below W.heap.size W W') : Bx w bs W' :=
  ⟨below_then h.low h.low.size hb, (hb.block _ (by have := h.size; omega)).trans h.box, (hb.block _ h.size).trans h.res⟩
theorem Bx.first (w : World) (bs : Array Value) : Bx w bs ((w.alloc (.cells bs 33)).alloc (.cells #[.int .i64 0] 24)) :=
  ⟨((Below.refl _ w).alloc (Nat.le_refl _) _).alloc (by simp) _, blk_alloc (blk_new _ _) _, blk_newAt _ _ (by simp)⟩
theorem Bx.resr {w W : World} {bs : Array Value} (h : Bx w bs W) (v : Value) : (W.setCell ⟨w.heap.size + 1, 0, none⟩ v).cell? ⟨w.heap.size + 1, 0, none⟩ = some v := by
  have := blk_cell (blk_set h.res 0 v) 0
  simpa using this
theorem Bx.setr {w W : World} {bs : Array Value} (h : Bx w bs W) (v : Value) : Below w.heap.size w (W.setCell ⟨w.heap.size + 1, 0, none⟩ v) :=
  h.low.setCell (by simp) v

set_option maxHeartbeats 8000000 in
set_option maxRecDepth 100000 in
theorem chk_calls (k : Int) (f t : ByteArray) (am nc : Int) (ky' vl : ByteArray) (A B : Option Addr) (c d : Nat) (rs ws : List ByteArray) (w : World)
    (hr : Kd.C Kd.string w A rs.length rs) (hc : rs.length ≤ c) (hs : Kd.C Kd.string w B ws.length ws) (hd : ws.length ≤ d) :
    Calls Tryd.prog 41 #[.agg #[.int .i64 k, .string f, .string t, .int .u64 am, .int .u64 nc, .string ky', .string vl, .slice A rs.length c, .slice B ws.length d]] w
      fun e w' => e = .returned (.int .i64 (ch k f t am nc ky' vl rs ws)) ∧ Below w.heap.size w w' := by
  have HR := Lib.hid hr
  have HC := Lib.hid hc
  have HS := Lib.hid hs
  have HD := Lib.hid hd
  clear hr hc hs hd
  go_enter_defers Tryd.func41, Tryd.ntmps41
  by_cases h5 : chF k f t ky' vl am = 5
  · have hE : ch k f t am nc ky' vl rs ws = 5 := by rw [ch, h5]; rfl
    have e1 : (k == 1) = false := by
      cases h : (k == 1)
      · rfl
      · simp at h; subst h; simp [chF] at h5; split at h5 <;> cases h5
    have e2 : (k == 2) = false := by
      cases h : (k == 2)
      · rfl
      · simp at h; subst h; simp [chF] at h5; split at h5 <;> cases h5
    rw [hE]
    clear hE h5
    go_wp2
    refine leaves_cons (f := 51) (args := #[.pointer (some ⟨w.heap.size + 1, 0, none⟩)]) (by simp) (by simp [go_sem]) ?_
    refine (caught_idle ⟨w.heap.size + 1, 0, none⟩ _).mono ?_
    rintro e u' w'' ⟨rfl, rfl, rfl⟩
    simp [Leaves, settle, results, Tryd.results41, go_sem]
    exact ((Below.refl _ w).alloc (Nat.le_refl _) _).alloc (by simp) _
  have HX := Lib.hid (Bx.first w #[.int .i64 k, .string f, .string t, .int .u64 am, .int .u64 nc, .string ky', .string vl, .slice A rs.length c, .slice B ws.length d])
  have hnil : ∀ s : ByteArray, s.toList.isEmpty = true ∨ s.toList.isEmpty = false := fun s => by cases s.toList.isEmpty <;> simp
  rcases (show k = 1 ∨ k = 2 by
    by_cases h1 : k = 1
    · exact .inl h1
    · by_cases h2 : k = 2
      · exact .inr h2
      · exact absurd (by simp [chF, h1, h2]) h5) with rfl | rfl
  · clear h5
    cases h1 : nm f with
    | false =>
      have hE : ch 1 f t am nc ky' vl rs ws = 3 := by simp [ch, chF, h1]
      rw [hE]
      clear hE hnil
      go_wp2_with (first
        | (go_at_call 71
           go_must (refine (name_calls _ _).mono ?_)
           rintro e w2 ⟨rfl, hB⟩
           have HX := Lib.hid (HX.out.step hB)
           clear hB
           have c1 : w2.cell? ⟨w.heap.size, 1, none⟩ = some (.string f) := blk_cell HX.out.box 1
           have c2 : w2.cell? ⟨w.heap.size, 2, none⟩ = some (.string t) := blk_cell HX.out.box 2
           have c3 : w2.cell? ⟨w.heap.size, 3, none⟩ = some (.int .u64 am) := blk_cell HX.out.box 3
           have c4 : w2.cell? ⟨w.heap.size, 4, none⟩ = some (.int .u64 nc) := blk_cell HX.out.box 4
           have c5 : w2.cell? ⟨w.heap.size, 5, none⟩ = some (.string ky') := blk_cell HX.out.box 5
           have c6 : w2.cell? ⟨w.heap.size, 6, none⟩ = some (.string vl) := blk_cell HX.out.box 6
           have c7 : w2.cell? ⟨w.heap.size, 7, none⟩ = some (.slice A rs.length c) := blk_cell HX.out.box 7
           have c8 : w2.cell? ⟨w.heap.size, 8, none⟩ = some (.slice B ws.length d) := blk_cell HX.out.box 8
           have r0 : w2.cell? ⟨w.heap.size + 1, 0, none⟩ = some (.int .i64 0) := blk_cell HX.out.res 0
           have z0 := blk_frozen HX.out.res 0
           skip)
        | (go_at_call 55; first | (with_reducible refine (check_ok _ _).mono ?_; rintro e w'' ⟨rfl, hw⟩; have hw := hw.symm; subst hw) | (with_reducible refine (check_no _ _).mono ?_; rintro e w'' ⟨rfl, hw⟩; have hw := hw.symm; subst hw))
        | (go_at_call 72
           first
             | (with_reducible refine (keys_ok A c rs _ k1.out (Kd.C_below HR.out HX.out.low) HC.out).mono ?_)
             | (with_reducible refine (keys_no A c rs _ k1.out (Kd.C_below HR.out HX.out.low) HC.out).mono ?_)
             | (with_reducible refine (keys_ok B d ws _ k2.out (Kd.C_below HS.out HX.out.low) HD.out).mono ?_)
             | (with_reducible refine (keys_no B d ws _ k2.out (Kd.C_below HS.out HX.out.low) HD.out).mono ?_)
           rintro e w2 ⟨rfl, hB⟩
           have HX := Lib.hid (HX.out.step hB)
           clear hB
           have c1 : w2.cell? ⟨w.heap.size, 1, none⟩ = some (.string f) := blk_cell HX.out.box 1
           have c2 : w2.cell? ⟨w.heap.size, 2, none⟩ = some (.string t) := blk_cell HX.out.box 2
           have c3 : w2.cell? ⟨w.heap.size, 3, none⟩ = some (.int .u64 am) := blk_cell HX.out.box 3
           have c4 : w2.cell? ⟨w.heap.size, 4, none⟩ = some (.int .u64 nc) := blk_cell HX.out.box 4
           have c5 : w2.cell? ⟨w.heap.size, 5, none⟩ = some (.string ky') := blk_cell HX.out.box 5
           have c6 : w2.cell? ⟨w.heap.size, 6, none⟩ = some (.string vl) := blk_cell HX.out.box 6
           have c7 : w2.cell? ⟨w.heap.size, 7, none⟩ = some (.slice A rs.length c) := blk_cell HX.out.box 7
           have c8 : w2.cell? ⟨w.heap.size, 8, none⟩ = some (.slice B ws.length d) := blk_cell HX.out.box 8
           have r0 : w2.cell? ⟨w.heap.size + 1, 0, none⟩ = some (.int .i64 0) := blk_cell HX.out.res 0
           have z0 := blk_frozen HX.out.res 0
           skip))
      refine leaves_cons (f := 51) (args := #[.pointer (some ⟨w.heap.size + 1, 0, none⟩)]) (by simp) (by simp [go_sem]) ?_
      refine (caught_panicking ⟨w.heap.size + 1, 0, none⟩ 0 3 [] _ (blk_cell HX.out.res 0) (blk_frozen HX.out.res 0)).mono ?_
      rintro e u' w'' ⟨rfl, rfl, rfl⟩
      have hq := HX.out.resr (.int .i64 3)
      simp [Leaves, settle, results, Tryd.results41, go_sem, hq]
      exact HX.out.setr _
    | true =>
      cases h2 : nm t with
      | false =>
        have hE : ch 1 f t am nc ky' vl rs ws = 3 := by simp [ch, chF, h1, h2]
        rw [hE]
        clear hE hnil
        go_wp2_with (first
          | (go_at_call 71
             go_must (refine (name_calls _ _).mono ?_)
             rintro e w2 ⟨rfl, hB⟩
             have HX := Lib.hid (HX.out.step hB)
             clear hB
             have c1 : w2.cell? ⟨w.heap.size, 1, none⟩ = some (.string f) := blk_cell HX.out.box 1
             have c2 : w2.cell? ⟨w.heap.size, 2, none⟩ = some (.string t) := blk_cell HX.out.box 2
             have c3 : w2.cell? ⟨w.heap.size, 3, none⟩ = some (.int .u64 am) := blk_cell HX.out.box 3
             have c4 : w2.cell? ⟨w.heap.size, 4, none⟩ = some (.int .u64 nc) := blk_cell HX.out.box 4
             have c5 : w2.cell? ⟨w.heap.size, 5, none⟩ = some (.string ky') := blk_cell HX.out.box 5
             have c6 : w2.cell? ⟨w.heap.size, 6, none⟩ = some (.string vl) := blk_cell HX.out.box 6
             have c7 : w2.cell? ⟨w.heap.size, 7, none⟩ = some (.slice A rs.length c) := blk_cell HX.out.box 7
             have c8 : w2.cell? ⟨w.heap.size, 8, none⟩ = some (.slice B ws.length d) := blk_cell HX.out.box 8
             have r0 : w2.cell? ⟨w.heap.size + 1, 0, none⟩ = some (.int .i64 0) := blk_cell HX.out.res 0
             have z0 := blk_frozen HX.out.res 0
             skip)
          | (go_at_call 55; first | (with_reducible refine (check_ok _ _).mono ?_; rintro e w'' ⟨rfl, hw⟩; have hw := hw.symm; subst hw) | (with_reducible refine (check_no _ _).mono ?_; rintro e w'' ⟨rfl, hw⟩; have hw := hw.symm; subst hw))
          | (go_at_call 72
             first
               | (with_reducible refine (keys_ok A c rs _ k1.out (Kd.C_below HR.out HX.out.low) HC.out).mono ?_)
               | (with_reducible refine (keys_no A c rs _ k1.out (Kd.C_below HR.out HX.out.low) HC.out).mono ?_)
               | (with_reducible refine (keys_ok B d ws _ k2.out (Kd.C_below HS.out HX.out.low) HD.out).mono ?_)
               | (with_reducible refine (keys_no B d ws _ k2.out (Kd.C_below HS.out HX.out.low) HD.out).mono ?_)
             rintro e w2 ⟨rfl, hB⟩
             have HX := Lib.hid (HX.out.step hB)
             clear hB
             have c1 : w2.cell? ⟨w.heap.size, 1, none⟩ = some (.string f) := blk_cell HX.out.box 1
             have c2 : w2.cell? ⟨w.heap.size, 2, none⟩ = some (.string t) := blk_cell HX.out.box 2
             have c3 : w2.cell? ⟨w.heap.size, 3, none⟩ = some (.int .u64 am) := blk_cell HX.out.box 3
             have c4 : w2.cell? ⟨w.heap.size, 4, none⟩ = some (.int .u64 nc) := blk_cell HX.out.box 4
             have c5 : w2.cell? ⟨w.heap.size, 5, none⟩ = some (.string ky') := blk_cell HX.out.box 5
             have c6 : w2.cell? ⟨w.heap.size, 6, none⟩ = some (.string vl) := blk_cell HX.out.box 6
             have c7 : w2.cell? ⟨w.heap.size, 7, none⟩ = some (.slice A rs.length c) := blk_cell HX.out.box 7
             have c8 : w2.cell? ⟨w.heap.size, 8, none⟩ = some (.slice B ws.length d) := blk_cell HX.out.box 8
             have r0 : w2.cell? ⟨w.heap.size + 1, 0, none⟩ = some (.int .i64 0) := blk_cell HX.out.res 0
             have z0 := blk_frozen HX.out.res 0
             skip))
        refine leaves_cons (f := 51) (args := #[.pointer (some ⟨w.heap.size + 1, 0, none⟩)]) (by simp) (by simp [go_sem]) ?_
        refine (caught_panicking ⟨w.heap.size + 1, 0, none⟩ 0 3 [] _ (blk_cell HX.out.res 0) (blk_frozen HX.out.res 0)).mono ?_
        rintro e u' w'' ⟨rfl, rfl, rfl⟩
        have hq := HX.out.resr (.int .i64 3)
        simp [Leaves, settle, results, Tryd.results41, go_sem, hq]
        exact HX.out.setr _
      | true =>
        rcases hnil ky' with h3 | h3
        · rcases hnil vl with h4 | h4
          ·
            by_cases a1 : am ≤ 4611686018427387903
            · have d1 : decide (am ≤ 4611686018427387903) = true := by simp; omega
              by_cases a2 : nc ≤ 4611686018427387903
              · have d2 : decide (nc ≤ 4611686018427387903) = true := by simp; omega
                by_cases k1 : ke rs = 0
                · by_cases k2 : ke ws = 0
                  · have hE : ch 1 f t am nc ky' vl rs ws = 0 := by simp [ch, chF, chR, h1, h2, h3, h4, a1, a2, k1, k2]
                    rw [hE]
                    have k1 := Lib.hid k1
                    have k2 := Lib.hid k2
                    clear hE hnil a1 a2
                    go_wp2_with (first
                      | (go_at_call 71
                         go_must (refine (name_calls _ _).mono ?_)
                         rintro e w2 ⟨rfl, hB⟩
                         have HX := Lib.hid (HX.out.step hB)
                         clear hB
                         have c1 : w2.cell? ⟨w.heap.size, 1, none⟩ = some (.string f) := blk_cell HX.out.box 1
                         have c2 : w2.cell? ⟨w.heap.size, 2, none⟩ = some (.string t) := blk_cell HX.out.box 2
                         have c3 : w2.cell? ⟨w.heap.size, 3, none⟩ = some (.int .u64 am) := blk_cell HX.out.box 3
                         have c4 : w2.cell? ⟨w.heap.size, 4, none⟩ = some (.int .u64 nc) := blk_cell HX.out.box 4
                         have c5 : w2.cell? ⟨w.heap.size, 5, none⟩ = some (.string ky') := blk_cell HX.out.box 5
                         have c6 : w2.cell? ⟨w.heap.size, 6, none⟩ = some (.string vl) := blk_cell HX.out.box 6
                         have c7 : w2.cell? ⟨w.heap.size, 7, none⟩ = some (.slice A rs.length c) := blk_cell HX.out.box 7
                         have c8 : w2.cell? ⟨w.heap.size, 8, none⟩ = some (.slice B ws.length d) := blk_cell HX.out.box 8
                         have r0 : w2.cell? ⟨w.heap.size + 1, 0, none⟩ = some (.int .i64 0) := blk_cell HX.out.res 0
                         have z0 := blk_frozen HX.out.res 0
                         skip)
                      | (go_at_call 55; first | (with_reducible refine (check_ok _ _).mono ?_; rintro e w'' ⟨rfl, hw⟩; have hw := hw.symm; subst hw) | (with_reducible refine (check_no _ _).mono ?_; rintro e w'' ⟨rfl, hw⟩; have hw := hw.symm; subst hw))
                      | (go_at_call 72
                         first
                           | (with_reducible refine (keys_ok A c rs _ k1.out (Kd.C_below HR.out HX.out.low) HC.out).mono ?_)
                           | (with_reducible refine (keys_no A c rs _ k1.out (Kd.C_below HR.out HX.out.low) HC.out).mono ?_)
                           | (with_reducible refine (keys_ok B d ws _ k2.out (Kd.C_below HS.out HX.out.low) HD.out).mono ?_)
                           | (with_reducible refine (keys_no B d ws _ k2.out (Kd.C_below HS.out HX.out.low) HD.out).mono ?_)
                         rintro e w2 ⟨rfl, hB⟩
                         have HX := Lib.hid (HX.out.step hB)
                         clear hB
                         have c1 : w2.cell? ⟨w.heap.size, 1, none⟩ = some (.string f) := blk_cell HX.out.box 1
                         have c2 : w2.cell? ⟨w.heap.size, 2, none⟩ = some (.string t) := blk_cell HX.out.box 2
                         have c3 : w2.cell? ⟨w.heap.size, 3, none⟩ = some (.int .u64 am) := blk_cell HX.out.box 3
                         have c4 : w2.cell? ⟨w.heap.size, 4, none⟩ = some (.int .u64 nc) := blk_cell HX.out.box 4
                         have c5 : w2.cell? ⟨w.heap.size, 5, none⟩ = some (.string ky') := blk_cell HX.out.box 5
                         have c6 : w2.cell? ⟨w.heap.size, 6, none⟩ = some (.string vl) := blk_cell HX.out.box 6
                         have c7 : w2.cell? ⟨w.heap.size, 7, none⟩ = some (.slice A rs.length c) := blk_cell HX.out.box 7
                         have c8 : w2.cell? ⟨w.heap.size, 8, none⟩ = some (.slice B ws.length d) := blk_cell HX.out.box 8
                         have r0 : w2.cell? ⟨w.heap.size + 1, 0, none⟩ = some (.int .i64 0) := blk_cell HX.out.res 0
                         have z0 := blk_frozen HX.out.res 0
                         skip))
                    refine leaves_cons (f := 51) (args := #[.pointer (some ⟨w.heap.size + 1, 0, none⟩)]) (by simp) (by simp [go_sem]) ?_
                    refine (caught_idle ⟨w.heap.size + 1, 0, none⟩ _).mono ?_
                    rintro e u' w'' ⟨rfl, rfl, rfl⟩
                    have hq := HX.out.resr (.int .i64 0)
                    simp [Leaves, settle, results, Tryd.results41, go_sem, hq]
                    exact HX.out.setr _
                  · have hE : ch 1 f t am nc ky' vl rs ws = ke ws := by simp [ch, chF, chR, h1, h2, h3, h4, a1, a2, k1]
                    rw [hE]
                    have k1 := Lib.hid k1
                    have k2 := Lib.hid k2
                    clear hE hnil a1 a2
                    go_wp2_with (first
                      | (go_at_call 71
                         go_must (refine (name_calls _ _).mono ?_)
                         rintro e w2 ⟨rfl, hB⟩
                         have HX := Lib.hid (HX.out.step hB)
                         clear hB
                         have c1 : w2.cell? ⟨w.heap.size, 1, none⟩ = some (.string f) := blk_cell HX.out.box 1
                         have c2 : w2.cell? ⟨w.heap.size, 2, none⟩ = some (.string t) := blk_cell HX.out.box 2
                         have c3 : w2.cell? ⟨w.heap.size, 3, none⟩ = some (.int .u64 am) := blk_cell HX.out.box 3
                         have c4 : w2.cell? ⟨w.heap.size, 4, none⟩ = some (.int .u64 nc) := blk_cell HX.out.box 4
                         have c5 : w2.cell? ⟨w.heap.size, 5, none⟩ = some (.string ky') := blk_cell HX.out.box 5
                         have c6 : w2.cell? ⟨w.heap.size, 6, none⟩ = some (.string vl) := blk_cell HX.out.box 6
                         have c7 : w2.cell? ⟨w.heap.size, 7, none⟩ = some (.slice A rs.length c) := blk_cell HX.out.box 7
                         have c8 : w2.cell? ⟨w.heap.size, 8, none⟩ = some (.slice B ws.length d) := blk_cell HX.out.box 8
                         have r0 : w2.cell? ⟨w.heap.size + 1, 0, none⟩ = some (.int .i64 0) := blk_cell HX.out.res 0
                         have z0 := blk_frozen HX.out.res 0
                         skip)
                      | (go_at_call 55; first | (with_reducible refine (check_ok _ _).mono ?_; rintro e w'' ⟨rfl, hw⟩; have hw := hw.symm; subst hw) | (with_reducible refine (check_no _ _).mono ?_; rintro e w'' ⟨rfl, hw⟩; have hw := hw.symm; subst hw))
                      | (go_at_call 72
                         first
                           | (with_reducible refine (keys_ok A c rs _ k1.out (Kd.C_below HR.out HX.out.low) HC.out).mono ?_)
                           | (with_reducible refine (keys_no A c rs _ k1.out (Kd.C_below HR.out HX.out.low) HC.out).mono ?_)
                           | (with_reducible refine (keys_ok B d ws _ k2.out (Kd.C_below HS.out HX.out.low) HD.out).mono ?_)
                           | (with_reducible refine (keys_no B d ws _ k2.out (Kd.C_below HS.out HX.out.low) HD.out).mono ?_)
                         rintro e w2 ⟨rfl, hB⟩
                         have HX := Lib.hid (HX.out.step hB)
                         clear hB
                         have c1 : w2.cell? ⟨w.heap.size, 1, none⟩ = some (.string f) := blk_cell HX.out.box 1
                         have c2 : w2.cell? ⟨w.heap.size, 2, none⟩ = some (.string t) := blk_cell HX.out.box 2
                         have c3 : w2.cell? ⟨w.heap.size, 3, none⟩ = some (.int .u64 am) := blk_cell HX.out.box 3
                         have c4 : w2.cell? ⟨w.heap.size, 4, none⟩ = some (.int .u64 nc) := blk_cell HX.out.box 4
                         have c5 : w2.cell? ⟨w.heap.size, 5, none⟩ = some (.string ky') := blk_cell HX.out.box 5
                         have c6 : w2.cell? ⟨w.heap.size, 6, none⟩ = some (.string vl) := blk_cell HX.out.box 6
                         have c7 : w2.cell? ⟨w.heap.size, 7, none⟩ = some (.slice A rs.length c) := blk_cell HX.out.box 7
                         have c8 : w2.cell? ⟨w.heap.size, 8, none⟩ = some (.slice B ws.length d) := blk_cell HX.out.box 8
                         have r0 : w2.cell? ⟨w.heap.size + 1, 0, none⟩ = some (.int .i64 0) := blk_cell HX.out.res 0
                         have z0 := blk_frozen HX.out.res 0
                         skip))
                    refine leaves_cons (f := 51) (args := #[.pointer (some ⟨w.heap.size + 1, 0, none⟩)]) (by simp) (by simp [go_sem]) ?_
                    refine (caught_panicking ⟨w.heap.size + 1, 0, none⟩ 0 (ke ws) [] _ (blk_cell HX.out.res 0) (blk_frozen HX.out.res 0)).mono ?_
                    rintro e u' w'' ⟨rfl, rfl, rfl⟩
                    have hq := HX.out.resr (.int .i64 (ke ws))
                    simp [Leaves, settle, results, Tryd.results41, go_sem, hq]
                    exact HX.out.setr _
                · have hE : ch 1 f t am nc ky' vl rs ws = ke rs := by simp [ch, chF, chR, h1, h2, h3, h4, a1, a2, k1]
                  rw [hE]
                  have k1 := Lib.hid k1
                  clear hE hnil a1 a2
                  go_wp2_with (first
                    | (go_at_call 71
                       go_must (refine (name_calls _ _).mono ?_)
                       rintro e w2 ⟨rfl, hB⟩
                       have HX := Lib.hid (HX.out.step hB)
                       clear hB
                       have c1 : w2.cell? ⟨w.heap.size, 1, none⟩ = some (.string f) := blk_cell HX.out.box 1
                       have c2 : w2.cell? ⟨w.heap.size, 2, none⟩ = some (.string t) := blk_cell HX.out.box 2
                       have c3 : w2.cell? ⟨w.heap.size, 3, none⟩ = some (.int .u64 am) := blk_cell HX.out.box 3
                       have c4 : w2.cell? ⟨w.heap.size, 4, none⟩ = some (.int .u64 nc) := blk_cell HX.out.box 4
                       have c5 : w2.cell? ⟨w.heap.size, 5, none⟩ = some (.string ky') := blk_cell HX.out.box 5
                       have c6 : w2.cell? ⟨w.heap.size, 6, none⟩ = some (.string vl) := blk_cell HX.out.box 6
                       have c7 : w2.cell? ⟨w.heap.size, 7, none⟩ = some (.slice A rs.length c) := blk_cell HX.out.box 7
                       have c8 : w2.cell? ⟨w.heap.size, 8, none⟩ = some (.slice B ws.length d) := blk_cell HX.out.box 8
                       have r0 : w2.cell? ⟨w.heap.size + 1, 0, none⟩ = some (.int .i64 0) := blk_cell HX.out.res 0
                       have z0 := blk_frozen HX.out.res 0
                       skip)
                    | (go_at_call 55; first | (with_reducible refine (check_ok _ _).mono ?_; rintro e w'' ⟨rfl, hw⟩; have hw := hw.symm; subst hw) | (with_reducible refine (check_no _ _).mono ?_; rintro e w'' ⟨rfl, hw⟩; have hw := hw.symm; subst hw))
                    | (go_at_call 72
                       first
                         | (with_reducible refine (keys_ok A c rs _ k1.out (Kd.C_below HR.out HX.out.low) HC.out).mono ?_)
                         | (with_reducible refine (keys_no A c rs _ k1.out (Kd.C_below HR.out HX.out.low) HC.out).mono ?_)
                         | (with_reducible refine (keys_ok B d ws _ k2.out (Kd.C_below HS.out HX.out.low) HD.out).mono ?_)
                         | (with_reducible refine (keys_no B d ws _ k2.out (Kd.C_below HS.out HX.out.low) HD.out).mono ?_)
                       rintro e w2 ⟨rfl, hB⟩
                       have HX := Lib.hid (HX.out.step hB)
                       clear hB
                       have c1 : w2.cell? ⟨w.heap.size, 1, none⟩ = some (.string f) := blk_cell HX.out.box 1
                       have c2 : w2.cell? ⟨w.heap.size, 2, none⟩ = some (.string t) := blk_cell HX.out.box 2
                       have c3 : w2.cell? ⟨w.heap.size, 3, none⟩ = some (.int .u64 am) := blk_cell HX.out.box 3
                       have c4 : w2.cell? ⟨w.heap.size, 4, none⟩ = some (.int .u64 nc) := blk_cell HX.out.box 4
                       have c5 : w2.cell? ⟨w.heap.size, 5, none⟩ = some (.string ky') := blk_cell HX.out.box 5
                       have c6 : w2.cell? ⟨w.heap.size, 6, none⟩ = some (.string vl) := blk_cell HX.out.box 6
                       have c7 : w2.cell? ⟨w.heap.size, 7, none⟩ = some (.slice A rs.length c) := blk_cell HX.out.box 7
                       have c8 : w2.cell? ⟨w.heap.size, 8, none⟩ = some (.slice B ws.length d) := blk_cell HX.out.box 8
                       have r0 : w2.cell? ⟨w.heap.size + 1, 0, none⟩ = some (.int .i64 0) := blk_cell HX.out.res 0
                       have z0 := blk_frozen HX.out.res 0
                       skip))
                  refine leaves_cons (f := 51) (args := #[.pointer (some ⟨w.heap.size + 1, 0, none⟩)]) (by simp) (by simp [go_sem]) ?_
                  refine (caught_panicking ⟨w.heap.size + 1, 0, none⟩ 0 (ke rs) [] _ (blk_cell HX.out.res 0) (blk_frozen HX.out.res 0)).mono ?_
                  rintro e u' w'' ⟨rfl, rfl, rfl⟩
                  have hq := HX.out.resr (.int .i64 (ke rs))
                  simp [Leaves, settle, results, Tryd.results41, go_sem, hq]
                  exact HX.out.setr _
              · have d2 : decide (nc ≤ 4611686018427387903) = false := by simp; omega
                have hE : ch 1 f t am nc ky' vl rs ws = 2 := by simp [ch, chF, chR, h1, h2, h3, h4, a2]
                rw [hE]
                clear hE hnil a1 a2
                go_wp2_with (first
                  | (go_at_call 71
                     go_must (refine (name_calls _ _).mono ?_)
                     rintro e w2 ⟨rfl, hB⟩
                     have HX := Lib.hid (HX.out.step hB)
                     clear hB
                     have c1 : w2.cell? ⟨w.heap.size, 1, none⟩ = some (.string f) := blk_cell HX.out.box 1
                     have c2 : w2.cell? ⟨w.heap.size, 2, none⟩ = some (.string t) := blk_cell HX.out.box 2
                     have c3 : w2.cell? ⟨w.heap.size, 3, none⟩ = some (.int .u64 am) := blk_cell HX.out.box 3
                     have c4 : w2.cell? ⟨w.heap.size, 4, none⟩ = some (.int .u64 nc) := blk_cell HX.out.box 4
                     have c5 : w2.cell? ⟨w.heap.size, 5, none⟩ = some (.string ky') := blk_cell HX.out.box 5
                     have c6 : w2.cell? ⟨w.heap.size, 6, none⟩ = some (.string vl) := blk_cell HX.out.box 6
                     have c7 : w2.cell? ⟨w.heap.size, 7, none⟩ = some (.slice A rs.length c) := blk_cell HX.out.box 7
                     have c8 : w2.cell? ⟨w.heap.size, 8, none⟩ = some (.slice B ws.length d) := blk_cell HX.out.box 8
                     have r0 : w2.cell? ⟨w.heap.size + 1, 0, none⟩ = some (.int .i64 0) := blk_cell HX.out.res 0
                     have z0 := blk_frozen HX.out.res 0
                     skip)
                  | (go_at_call 55; first | (with_reducible refine (check_ok _ _).mono ?_; rintro e w'' ⟨rfl, hw⟩; have hw := hw.symm; subst hw) | (with_reducible refine (check_no _ _).mono ?_; rintro e w'' ⟨rfl, hw⟩; have hw := hw.symm; subst hw))
                  | (go_at_call 72
                     first
                       | (with_reducible refine (keys_ok A c rs _ k1.out (Kd.C_below HR.out HX.out.low) HC.out).mono ?_)
                       | (with_reducible refine (keys_no A c rs _ k1.out (Kd.C_below HR.out HX.out.low) HC.out).mono ?_)
                       | (with_reducible refine (keys_ok B d ws _ k2.out (Kd.C_below HS.out HX.out.low) HD.out).mono ?_)
                       | (with_reducible refine (keys_no B d ws _ k2.out (Kd.C_below HS.out HX.out.low) HD.out).mono ?_)
                     rintro e w2 ⟨rfl, hB⟩
                     have HX := Lib.hid (HX.out.step hB)
                     clear hB
                     have c1 : w2.cell? ⟨w.heap.size, 1, none⟩ = some (.string f) := blk_cell HX.out.box 1
                     have c2 : w2.cell? ⟨w.heap.size, 2, none⟩ = some (.string t) := blk_cell HX.out.box 2
                     have c3 : w2.cell? ⟨w.heap.size, 3, none⟩ = some (.int .u64 am) := blk_cell HX.out.box 3
                     have c4 : w2.cell? ⟨w.heap.size, 4, none⟩ = some (.int .u64 nc) := blk_cell HX.out.box 4
                     have c5 : w2.cell? ⟨w.heap.size, 5, none⟩ = some (.string ky') := blk_cell HX.out.box 5
                     have c6 : w2.cell? ⟨w.heap.size, 6, none⟩ = some (.string vl) := blk_cell HX.out.box 6
                     have c7 : w2.cell? ⟨w.heap.size, 7, none⟩ = some (.slice A rs.length c) := blk_cell HX.out.box 7
                     have c8 : w2.cell? ⟨w.heap.size, 8, none⟩ = some (.slice B ws.length d) := blk_cell HX.out.box 8
                     have r0 : w2.cell? ⟨w.heap.size + 1, 0, none⟩ = some (.int .i64 0) := blk_cell HX.out.res 0
                     have z0 := blk_frozen HX.out.res 0
                     skip))
                refine leaves_cons (f := 51) (args := #[.pointer (some ⟨w.heap.size + 1, 0, none⟩)]) (by simp) (by simp [go_sem]) ?_
                refine (caught_panicking ⟨w.heap.size + 1, 0, none⟩ 0 2 [] _ (blk_cell HX.out.res 0) (blk_frozen HX.out.res 0)).mono ?_
                rintro e u' w'' ⟨rfl, rfl, rfl⟩
                have hq := HX.out.resr (.int .i64 2)
                simp [Leaves, settle, results, Tryd.results41, go_sem, hq]
                exact HX.out.setr _
            · have d1 : decide (am ≤ 4611686018427387903) = false := by simp; omega
              have hE : ch 1 f t am nc ky' vl rs ws = 2 := by simp [ch, chF, chR, h1, h2, h3, h4, a1]
              rw [hE]
              clear hE hnil a1
              go_wp2_with (first
                | (go_at_call 71
                   go_must (refine (name_calls _ _).mono ?_)
                   rintro e w2 ⟨rfl, hB⟩
                   have HX := Lib.hid (HX.out.step hB)
                   clear hB
                   have c1 : w2.cell? ⟨w.heap.size, 1, none⟩ = some (.string f) := blk_cell HX.out.box 1
                   have c2 : w2.cell? ⟨w.heap.size, 2, none⟩ = some (.string t) := blk_cell HX.out.box 2
                   have c3 : w2.cell? ⟨w.heap.size, 3, none⟩ = some (.int .u64 am) := blk_cell HX.out.box 3
                   have c4 : w2.cell? ⟨w.heap.size, 4, none⟩ = some (.int .u64 nc) := blk_cell HX.out.box 4
                   have c5 : w2.cell? ⟨w.heap.size, 5, none⟩ = some (.string ky') := blk_cell HX.out.box 5
                   have c6 : w2.cell? ⟨w.heap.size, 6, none⟩ = some (.string vl) := blk_cell HX.out.box 6
                   have c7 : w2.cell? ⟨w.heap.size, 7, none⟩ = some (.slice A rs.length c) := blk_cell HX.out.box 7
                   have c8 : w2.cell? ⟨w.heap.size, 8, none⟩ = some (.slice B ws.length d) := blk_cell HX.out.box 8
                   have r0 : w2.cell? ⟨w.heap.size + 1, 0, none⟩ = some (.int .i64 0) := blk_cell HX.out.res 0
                   have z0 := blk_frozen HX.out.res 0
                   skip)
                | (go_at_call 55; first | (with_reducible refine (check_ok _ _).mono ?_; rintro e w'' ⟨rfl, hw⟩; have hw := hw.symm; subst hw) | (with_reducible refine (check_no _ _).mono ?_; rintro e w'' ⟨rfl, hw⟩; have hw := hw.symm; subst hw))
                | (go_at_call 72
                   first
                     | (with_reducible refine (keys_ok A c rs _ k1.out (Kd.C_below HR.out HX.out.low) HC.out).mono ?_)
                     | (with_reducible refine (keys_no A c rs _ k1.out (Kd.C_below HR.out HX.out.low) HC.out).mono ?_)
                     | (with_reducible refine (keys_ok B d ws _ k2.out (Kd.C_below HS.out HX.out.low) HD.out).mono ?_)
                     | (with_reducible refine (keys_no B d ws _ k2.out (Kd.C_below HS.out HX.out.low) HD.out).mono ?_)
                   rintro e w2 ⟨rfl, hB⟩
                   have HX := Lib.hid (HX.out.step hB)
                   clear hB
                   have c1 : w2.cell? ⟨w.heap.size, 1, none⟩ = some (.string f) := blk_cell HX.out.box 1
                   have c2 : w2.cell? ⟨w.heap.size, 2, none⟩ = some (.string t) := blk_cell HX.out.box 2
                   have c3 : w2.cell? ⟨w.heap.size, 3, none⟩ = some (.int .u64 am) := blk_cell HX.out.box 3
                   have c4 : w2.cell? ⟨w.heap.size, 4, none⟩ = some (.int .u64 nc) := blk_cell HX.out.box 4
                   have c5 : w2.cell? ⟨w.heap.size, 5, none⟩ = some (.string ky') := blk_cell HX.out.box 5
                   have c6 : w2.cell? ⟨w.heap.size, 6, none⟩ = some (.string vl) := blk_cell HX.out.box 6
                   have c7 : w2.cell? ⟨w.heap.size, 7, none⟩ = some (.slice A rs.length c) := blk_cell HX.out.box 7
                   have c8 : w2.cell? ⟨w.heap.size, 8, none⟩ = some (.slice B ws.length d) := blk_cell HX.out.box 8
                   have r0 : w2.cell? ⟨w.heap.size + 1, 0, none⟩ = some (.int .i64 0) := blk_cell HX.out.res 0
                   have z0 := blk_frozen HX.out.res 0
                   skip))
              refine leaves_cons (f := 51) (args := #[.pointer (some ⟨w.heap.size + 1, 0, none⟩)]) (by simp) (by simp [go_sem]) ?_
              refine (caught_panicking ⟨w.heap.size + 1, 0, none⟩ 0 2 [] _ (blk_cell HX.out.res 0) (blk_frozen HX.out.res 0)).mono ?_
              rintro e u' w'' ⟨rfl, rfl, rfl⟩
              have hq := HX.out.resr (.int .i64 2)
              simp [Leaves, settle, results, Tryd.results41, go_sem, hq]
              exact HX.out.setr _
          ·
            have hE : ch 1 f t am nc ky' vl rs ws = 3 := by simp [ch, chF, h1, h2, h3, h4]
            rw [hE]
            clear hE hnil
            go_wp2_with (first
              | (go_at_call 71
                 go_must (refine (name_calls _ _).mono ?_)
                 rintro e w2 ⟨rfl, hB⟩
                 have HX := Lib.hid (HX.out.step hB)
                 clear hB
                 have c1 : w2.cell? ⟨w.heap.size, 1, none⟩ = some (.string f) := blk_cell HX.out.box 1
                 have c2 : w2.cell? ⟨w.heap.size, 2, none⟩ = some (.string t) := blk_cell HX.out.box 2
                 have c3 : w2.cell? ⟨w.heap.size, 3, none⟩ = some (.int .u64 am) := blk_cell HX.out.box 3
                 have c4 : w2.cell? ⟨w.heap.size, 4, none⟩ = some (.int .u64 nc) := blk_cell HX.out.box 4
                 have c5 : w2.cell? ⟨w.heap.size, 5, none⟩ = some (.string ky') := blk_cell HX.out.box 5
                 have c6 : w2.cell? ⟨w.heap.size, 6, none⟩ = some (.string vl) := blk_cell HX.out.box 6
                 have c7 : w2.cell? ⟨w.heap.size, 7, none⟩ = some (.slice A rs.length c) := blk_cell HX.out.box 7
                 have c8 : w2.cell? ⟨w.heap.size, 8, none⟩ = some (.slice B ws.length d) := blk_cell HX.out.box 8
                 have r0 : w2.cell? ⟨w.heap.size + 1, 0, none⟩ = some (.int .i64 0) := blk_cell HX.out.res 0
                 have z0 := blk_frozen HX.out.res 0
                 skip)
              | (go_at_call 55; first | (with_reducible refine (check_ok _ _).mono ?_; rintro e w'' ⟨rfl, hw⟩; have hw := hw.symm; subst hw) | (with_reducible refine (check_no _ _).mono ?_; rintro e w'' ⟨rfl, hw⟩; have hw := hw.symm; subst hw))
              | (go_at_call 72
                 first
                   | (with_reducible refine (keys_ok A c rs _ k1.out (Kd.C_below HR.out HX.out.low) HC.out).mono ?_)
                   | (with_reducible refine (keys_no A c rs _ k1.out (Kd.C_below HR.out HX.out.low) HC.out).mono ?_)
                   | (with_reducible refine (keys_ok B d ws _ k2.out (Kd.C_below HS.out HX.out.low) HD.out).mono ?_)
                   | (with_reducible refine (keys_no B d ws _ k2.out (Kd.C_below HS.out HX.out.low) HD.out).mono ?_)
                 rintro e w2 ⟨rfl, hB⟩
                 have HX := Lib.hid (HX.out.step hB)
                 clear hB
                 have c1 : w2.cell? ⟨w.heap.size, 1, none⟩ = some (.string f) := blk_cell HX.out.box 1
                 have c2 : w2.cell? ⟨w.heap.size, 2, none⟩ = some (.string t) := blk_cell HX.out.box 2
                 have c3 : w2.cell? ⟨w.heap.size, 3, none⟩ = some (.int .u64 am) := blk_cell HX.out.box 3
                 have c4 : w2.cell? ⟨w.heap.size, 4, none⟩ = some (.int .u64 nc) := blk_cell HX.out.box 4
                 have c5 : w2.cell? ⟨w.heap.size, 5, none⟩ = some (.string ky') := blk_cell HX.out.box 5
                 have c6 : w2.cell? ⟨w.heap.size, 6, none⟩ = some (.string vl) := blk_cell HX.out.box 6
                 have c7 : w2.cell? ⟨w.heap.size, 7, none⟩ = some (.slice A rs.length c) := blk_cell HX.out.box 7
                 have c8 : w2.cell? ⟨w.heap.size, 8, none⟩ = some (.slice B ws.length d) := blk_cell HX.out.box 8
                 have r0 : w2.cell? ⟨w.heap.size + 1, 0, none⟩ = some (.int .i64 0) := blk_cell HX.out.res 0
                 have z0 := blk_frozen HX.out.res 0
                 skip))
            refine leaves_cons (f := 51) (args := #[.pointer (some ⟨w.heap.size + 1, 0, none⟩)]) (by simp) (by simp [go_sem]) ?_
            refine (caught_panicking ⟨w.heap.size + 1, 0, none⟩ 0 3 [] _ (blk_cell HX.out.res 0) (blk_frozen HX.out.res 0)).mono ?_
            rintro e u' w'' ⟨rfl, rfl, rfl⟩
            have hq := HX.out.resr (.int .i64 3)
            simp [Leaves, settle, results, Tryd.results41, go_sem, hq]
            exact HX.out.setr _
        ·
          have hE : ch 1 f t am nc ky' vl rs ws = 3 := by simp [ch, chF, h1, h2, h3]
          rw [hE]
          clear hE hnil
          go_wp2_with (first
            | (go_at_call 71
               go_must (refine (name_calls _ _).mono ?_)
               rintro e w2 ⟨rfl, hB⟩
               have HX := Lib.hid (HX.out.step hB)
               clear hB
               have c1 : w2.cell? ⟨w.heap.size, 1, none⟩ = some (.string f) := blk_cell HX.out.box 1
               have c2 : w2.cell? ⟨w.heap.size, 2, none⟩ = some (.string t) := blk_cell HX.out.box 2
               have c3 : w2.cell? ⟨w.heap.size, 3, none⟩ = some (.int .u64 am) := blk_cell HX.out.box 3
               have c4 : w2.cell? ⟨w.heap.size, 4, none⟩ = some (.int .u64 nc) := blk_cell HX.out.box 4
               have c5 : w2.cell? ⟨w.heap.size, 5, none⟩ = some (.string ky') := blk_cell HX.out.box 5
               have c6 : w2.cell? ⟨w.heap.size, 6, none⟩ = some (.string vl) := blk_cell HX.out.box 6
               have c7 : w2.cell? ⟨w.heap.size, 7, none⟩ = some (.slice A rs.length c) := blk_cell HX.out.box 7
               have c8 : w2.cell? ⟨w.heap.size, 8, none⟩ = some (.slice B ws.length d) := blk_cell HX.out.box 8
               have r0 : w2.cell? ⟨w.heap.size + 1, 0, none⟩ = some (.int .i64 0) := blk_cell HX.out.res 0
               have z0 := blk_frozen HX.out.res 0
               skip)
            | (go_at_call 55; first | (with_reducible refine (check_ok _ _).mono ?_; rintro e w'' ⟨rfl, hw⟩; have hw := hw.symm; subst hw) | (with_reducible refine (check_no _ _).mono ?_; rintro e w'' ⟨rfl, hw⟩; have hw := hw.symm; subst hw))
            | (go_at_call 72
               first
                 | (with_reducible refine (keys_ok A c rs _ k1.out (Kd.C_below HR.out HX.out.low) HC.out).mono ?_)
                 | (with_reducible refine (keys_no A c rs _ k1.out (Kd.C_below HR.out HX.out.low) HC.out).mono ?_)
                 | (with_reducible refine (keys_ok B d ws _ k2.out (Kd.C_below HS.out HX.out.low) HD.out).mono ?_)
                 | (with_reducible refine (keys_no B d ws _ k2.out (Kd.C_below HS.out HX.out.low) HD.out).mono ?_)
               rintro e w2 ⟨rfl, hB⟩
               have HX := Lib.hid (HX.out.step hB)
               clear hB
               have c1 : w2.cell? ⟨w.heap.size, 1, none⟩ = some (.string f) := blk_cell HX.out.box 1
               have c2 : w2.cell? ⟨w.heap.size, 2, none⟩ = some (.string t) := blk_cell HX.out.box 2
               have c3 : w2.cell? ⟨w.heap.size, 3, none⟩ = some (.int .u64 am) := blk_cell HX.out.box 3
               have c4 : w2.cell? ⟨w.heap.size, 4, none⟩ = some (.int .u64 nc) := blk_cell HX.out.box 4
               have c5 : w2.cell? ⟨w.heap.size, 5, none⟩ = some (.string ky') := blk_cell HX.out.box 5
               have c6 : w2.cell? ⟨w.heap.size, 6, none⟩ = some (.string vl) := blk_cell HX.out.box 6
               have c7 : w2.cell? ⟨w.heap.size, 7, none⟩ = some (.slice A rs.length c) := blk_cell HX.out.box 7
               have c8 : w2.cell? ⟨w.heap.size, 8, none⟩ = some (.slice B ws.length d) := blk_cell HX.out.box 8
               have r0 : w2.cell? ⟨w.heap.size + 1, 0, none⟩ = some (.int .i64 0) := blk_cell HX.out.res 0
               have z0 := blk_frozen HX.out.res 0
               skip))
          refine leaves_cons (f := 51) (args := #[.pointer (some ⟨w.heap.size + 1, 0, none⟩)]) (by simp) (by simp [go_sem]) ?_
          refine (caught_panicking ⟨w.heap.size + 1, 0, none⟩ 0 3 [] _ (blk_cell HX.out.res 0) (blk_frozen HX.out.res 0)).mono ?_
          rintro e u' w'' ⟨rfl, rfl, rfl⟩
          have hq := HX.out.resr (.int .i64 3)
          simp [Leaves, settle, results, Tryd.results41, go_sem, hq]
          exact HX.out.setr _
  · clear h5
    cases h1 : nm f with
    | false =>
      have hE : ch 2 f t am nc ky' vl rs ws = 3 := by simp [ch, chF, h1]
      rw [hE]
      clear hE hnil
      go_wp2_with (first
        | (go_at_call 71
           go_must (refine (name_calls _ _).mono ?_)
           rintro e w2 ⟨rfl, hB⟩
           have HX := Lib.hid (HX.out.step hB)
           clear hB
           have c1 : w2.cell? ⟨w.heap.size, 1, none⟩ = some (.string f) := blk_cell HX.out.box 1
           have c2 : w2.cell? ⟨w.heap.size, 2, none⟩ = some (.string t) := blk_cell HX.out.box 2
           have c3 : w2.cell? ⟨w.heap.size, 3, none⟩ = some (.int .u64 am) := blk_cell HX.out.box 3
           have c4 : w2.cell? ⟨w.heap.size, 4, none⟩ = some (.int .u64 nc) := blk_cell HX.out.box 4
           have c5 : w2.cell? ⟨w.heap.size, 5, none⟩ = some (.string ky') := blk_cell HX.out.box 5
           have c6 : w2.cell? ⟨w.heap.size, 6, none⟩ = some (.string vl) := blk_cell HX.out.box 6
           have c7 : w2.cell? ⟨w.heap.size, 7, none⟩ = some (.slice A rs.length c) := blk_cell HX.out.box 7
           have c8 : w2.cell? ⟨w.heap.size, 8, none⟩ = some (.slice B ws.length d) := blk_cell HX.out.box 8
           have r0 : w2.cell? ⟨w.heap.size + 1, 0, none⟩ = some (.int .i64 0) := blk_cell HX.out.res 0
           have z0 := blk_frozen HX.out.res 0
           skip)
        | (go_at_call 55; first | (with_reducible refine (check_ok _ _).mono ?_; rintro e w'' ⟨rfl, hw⟩; have hw := hw.symm; subst hw) | (with_reducible refine (check_no _ _).mono ?_; rintro e w'' ⟨rfl, hw⟩; have hw := hw.symm; subst hw))
        | (go_at_call 72
           first
             | (with_reducible refine (keys_ok A c rs _ k1.out (Kd.C_below HR.out HX.out.low) HC.out).mono ?_)
             | (with_reducible refine (keys_no A c rs _ k1.out (Kd.C_below HR.out HX.out.low) HC.out).mono ?_)
             | (with_reducible refine (keys_ok B d ws _ k2.out (Kd.C_below HS.out HX.out.low) HD.out).mono ?_)
             | (with_reducible refine (keys_no B d ws _ k2.out (Kd.C_below HS.out HX.out.low) HD.out).mono ?_)
           rintro e w2 ⟨rfl, hB⟩
           have HX := Lib.hid (HX.out.step hB)
           clear hB
           have c1 : w2.cell? ⟨w.heap.size, 1, none⟩ = some (.string f) := blk_cell HX.out.box 1
           have c2 : w2.cell? ⟨w.heap.size, 2, none⟩ = some (.string t) := blk_cell HX.out.box 2
           have c3 : w2.cell? ⟨w.heap.size, 3, none⟩ = some (.int .u64 am) := blk_cell HX.out.box 3
           have c4 : w2.cell? ⟨w.heap.size, 4, none⟩ = some (.int .u64 nc) := blk_cell HX.out.box 4
           have c5 : w2.cell? ⟨w.heap.size, 5, none⟩ = some (.string ky') := blk_cell HX.out.box 5
           have c6 : w2.cell? ⟨w.heap.size, 6, none⟩ = some (.string vl) := blk_cell HX.out.box 6
           have c7 : w2.cell? ⟨w.heap.size, 7, none⟩ = some (.slice A rs.length c) := blk_cell HX.out.box 7
           have c8 : w2.cell? ⟨w.heap.size, 8, none⟩ = some (.slice B ws.length d) := blk_cell HX.out.box 8
           have r0 : w2.cell? ⟨w.heap.size + 1, 0, none⟩ = some (.int .i64 0) := blk_cell HX.out.res 0
           have z0 := blk_frozen HX.out.res 0
           skip))
      refine leaves_cons (f := 51) (args := #[.pointer (some ⟨w.heap.size + 1, 0, none⟩)]) (by simp) (by simp [go_sem]) ?_
      refine (caught_panicking ⟨w.heap.size + 1, 0, none⟩ 0 3 [] _ (blk_cell HX.out.res 0) (blk_frozen HX.out.res 0)).mono ?_
      rintro e u' w'' ⟨rfl, rfl, rfl⟩
      have hq := HX.out.resr (.int .i64 3)
      simp [Leaves, settle, results, Tryd.results41, go_sem, hq]
      exact HX.out.setr _
    | true =>
      cases h2 : nm ky' with
      | false =>
        have hE : ch 2 f t am nc ky' vl rs ws = 3 := by simp [ch, chF, h1, h2]
        rw [hE]
        clear hE hnil
        go_wp2_with (first
          | (go_at_call 71
             go_must (refine (name_calls _ _).mono ?_)
             rintro e w2 ⟨rfl, hB⟩
             have HX := Lib.hid (HX.out.step hB)
             clear hB
             have c1 : w2.cell? ⟨w.heap.size, 1, none⟩ = some (.string f) := blk_cell HX.out.box 1
             have c2 : w2.cell? ⟨w.heap.size, 2, none⟩ = some (.string t) := blk_cell HX.out.box 2
             have c3 : w2.cell? ⟨w.heap.size, 3, none⟩ = some (.int .u64 am) := blk_cell HX.out.box 3
             have c4 : w2.cell? ⟨w.heap.size, 4, none⟩ = some (.int .u64 nc) := blk_cell HX.out.box 4
             have c5 : w2.cell? ⟨w.heap.size, 5, none⟩ = some (.string ky') := blk_cell HX.out.box 5
             have c6 : w2.cell? ⟨w.heap.size, 6, none⟩ = some (.string vl) := blk_cell HX.out.box 6
             have c7 : w2.cell? ⟨w.heap.size, 7, none⟩ = some (.slice A rs.length c) := blk_cell HX.out.box 7
             have c8 : w2.cell? ⟨w.heap.size, 8, none⟩ = some (.slice B ws.length d) := blk_cell HX.out.box 8
             have r0 : w2.cell? ⟨w.heap.size + 1, 0, none⟩ = some (.int .i64 0) := blk_cell HX.out.res 0
             have z0 := blk_frozen HX.out.res 0
             skip)
          | (go_at_call 55; first | (with_reducible refine (check_ok _ _).mono ?_; rintro e w'' ⟨rfl, hw⟩; have hw := hw.symm; subst hw) | (with_reducible refine (check_no _ _).mono ?_; rintro e w'' ⟨rfl, hw⟩; have hw := hw.symm; subst hw))
          | (go_at_call 72
             first
               | (with_reducible refine (keys_ok A c rs _ k1.out (Kd.C_below HR.out HX.out.low) HC.out).mono ?_)
               | (with_reducible refine (keys_no A c rs _ k1.out (Kd.C_below HR.out HX.out.low) HC.out).mono ?_)
               | (with_reducible refine (keys_ok B d ws _ k2.out (Kd.C_below HS.out HX.out.low) HD.out).mono ?_)
               | (with_reducible refine (keys_no B d ws _ k2.out (Kd.C_below HS.out HX.out.low) HD.out).mono ?_)
             rintro e w2 ⟨rfl, hB⟩
             have HX := Lib.hid (HX.out.step hB)
             clear hB
             have c1 : w2.cell? ⟨w.heap.size, 1, none⟩ = some (.string f) := blk_cell HX.out.box 1
             have c2 : w2.cell? ⟨w.heap.size, 2, none⟩ = some (.string t) := blk_cell HX.out.box 2
             have c3 : w2.cell? ⟨w.heap.size, 3, none⟩ = some (.int .u64 am) := blk_cell HX.out.box 3
             have c4 : w2.cell? ⟨w.heap.size, 4, none⟩ = some (.int .u64 nc) := blk_cell HX.out.box 4
             have c5 : w2.cell? ⟨w.heap.size, 5, none⟩ = some (.string ky') := blk_cell HX.out.box 5
             have c6 : w2.cell? ⟨w.heap.size, 6, none⟩ = some (.string vl) := blk_cell HX.out.box 6
             have c7 : w2.cell? ⟨w.heap.size, 7, none⟩ = some (.slice A rs.length c) := blk_cell HX.out.box 7
             have c8 : w2.cell? ⟨w.heap.size, 8, none⟩ = some (.slice B ws.length d) := blk_cell HX.out.box 8
             have r0 : w2.cell? ⟨w.heap.size + 1, 0, none⟩ = some (.int .i64 0) := blk_cell HX.out.res 0
             have z0 := blk_frozen HX.out.res 0
             skip))
        refine leaves_cons (f := 51) (args := #[.pointer (some ⟨w.heap.size + 1, 0, none⟩)]) (by simp) (by simp [go_sem]) ?_
        refine (caught_panicking ⟨w.heap.size + 1, 0, none⟩ 0 3 [] _ (blk_cell HX.out.res 0) (blk_frozen HX.out.res 0)).mono ?_
        rintro e u' w'' ⟨rfl, rfl, rfl⟩
        have hq := HX.out.resr (.int .i64 3)
        simp [Leaves, settle, results, Tryd.results41, go_sem, hq]
        exact HX.out.setr _
      | true =>
        by_cases h3 : vl.size ≤ 64
        · have b3 : decide ((vl.size : Int) ≤ 64) = true := by simp; omega
          rcases hnil t with h4 | h4
          · by_cases h5 : am = 0
            · have b5 : (am == 0) = true := by simp [h5]
              have d1 : decide (am ≤ 4611686018427387903) = true := by simp; omega
              have hk : ∀ x, chR am nc rs ws = x → ch 2 f t am nc ky' vl rs ws = x := fun x h => by simp [ch, chF, h1, h2, h3, h4, h5]; rw [← h5]; exact h
              have a1 : am ≤ 4611686018427387903 := by omega
              clear h5
              clear h3
              by_cases a2 : nc ≤ 4611686018427387903
              · have d2 : decide (nc ≤ 4611686018427387903) = true := by simp; omega
                by_cases k1 : ke rs = 0
                · by_cases k2 : ke ws = 0
                  · rw [hk 0 (by simp [chR, a1, a2, k1, k2])]
                    have k1 := Lib.hid k1
                    have k2 := Lib.hid k2
                    clear hk hnil a1 a2
                    go_wp2_with (first
                      | (go_at_call 71
                         go_must (refine (name_calls _ _).mono ?_)
                         rintro e w2 ⟨rfl, hB⟩
                         have HX := Lib.hid (HX.out.step hB)
                         clear hB
                         have c1 : w2.cell? ⟨w.heap.size, 1, none⟩ = some (.string f) := blk_cell HX.out.box 1
                         have c2 : w2.cell? ⟨w.heap.size, 2, none⟩ = some (.string t) := blk_cell HX.out.box 2
                         have c3 : w2.cell? ⟨w.heap.size, 3, none⟩ = some (.int .u64 am) := blk_cell HX.out.box 3
                         have c4 : w2.cell? ⟨w.heap.size, 4, none⟩ = some (.int .u64 nc) := blk_cell HX.out.box 4
                         have c5 : w2.cell? ⟨w.heap.size, 5, none⟩ = some (.string ky') := blk_cell HX.out.box 5
                         have c6 : w2.cell? ⟨w.heap.size, 6, none⟩ = some (.string vl) := blk_cell HX.out.box 6
                         have c7 : w2.cell? ⟨w.heap.size, 7, none⟩ = some (.slice A rs.length c) := blk_cell HX.out.box 7
                         have c8 : w2.cell? ⟨w.heap.size, 8, none⟩ = some (.slice B ws.length d) := blk_cell HX.out.box 8
                         have r0 : w2.cell? ⟨w.heap.size + 1, 0, none⟩ = some (.int .i64 0) := blk_cell HX.out.res 0
                         have z0 := blk_frozen HX.out.res 0
                         skip)
                      | (go_at_call 55; first | (with_reducible refine (check_ok _ _).mono ?_; rintro e w'' ⟨rfl, hw⟩; have hw := hw.symm; subst hw) | (with_reducible refine (check_no _ _).mono ?_; rintro e w'' ⟨rfl, hw⟩; have hw := hw.symm; subst hw))
                      | (go_at_call 72
                         first
                           | (with_reducible refine (keys_ok A c rs _ k1.out (Kd.C_below HR.out HX.out.low) HC.out).mono ?_)
                           | (with_reducible refine (keys_no A c rs _ k1.out (Kd.C_below HR.out HX.out.low) HC.out).mono ?_)
                           | (with_reducible refine (keys_ok B d ws _ k2.out (Kd.C_below HS.out HX.out.low) HD.out).mono ?_)
                           | (with_reducible refine (keys_no B d ws _ k2.out (Kd.C_below HS.out HX.out.low) HD.out).mono ?_)
                         rintro e w2 ⟨rfl, hB⟩
                         have HX := Lib.hid (HX.out.step hB)
                         clear hB
                         have c1 : w2.cell? ⟨w.heap.size, 1, none⟩ = some (.string f) := blk_cell HX.out.box 1
                         have c2 : w2.cell? ⟨w.heap.size, 2, none⟩ = some (.string t) := blk_cell HX.out.box 2
                         have c3 : w2.cell? ⟨w.heap.size, 3, none⟩ = some (.int .u64 am) := blk_cell HX.out.box 3
                         have c4 : w2.cell? ⟨w.heap.size, 4, none⟩ = some (.int .u64 nc) := blk_cell HX.out.box 4
                         have c5 : w2.cell? ⟨w.heap.size, 5, none⟩ = some (.string ky') := blk_cell HX.out.box 5
                         have c6 : w2.cell? ⟨w.heap.size, 6, none⟩ = some (.string vl) := blk_cell HX.out.box 6
                         have c7 : w2.cell? ⟨w.heap.size, 7, none⟩ = some (.slice A rs.length c) := blk_cell HX.out.box 7
                         have c8 : w2.cell? ⟨w.heap.size, 8, none⟩ = some (.slice B ws.length d) := blk_cell HX.out.box 8
                         have r0 : w2.cell? ⟨w.heap.size + 1, 0, none⟩ = some (.int .i64 0) := blk_cell HX.out.res 0
                         have z0 := blk_frozen HX.out.res 0
                         skip))
                    refine leaves_cons (f := 51) (args := #[.pointer (some ⟨w.heap.size + 1, 0, none⟩)]) (by simp) (by simp [go_sem]) ?_
                    refine (caught_idle ⟨w.heap.size + 1, 0, none⟩ _).mono ?_
                    rintro e u' w'' ⟨rfl, rfl, rfl⟩
                    have hq := HX.out.resr (.int .i64 0)
                    simp [Leaves, settle, results, Tryd.results41, go_sem, hq]
                    exact HX.out.setr _
                  · rw [hk (ke ws) (by simp [chR, a1, a2, k1])]
                    have k1 := Lib.hid k1
                    have k2 := Lib.hid k2
                    clear hk hnil a1 a2
                    go_wp2_with (first
                      | (go_at_call 71
                         go_must (refine (name_calls _ _).mono ?_)
                         rintro e w2 ⟨rfl, hB⟩
                         have HX := Lib.hid (HX.out.step hB)
                         clear hB
                         have c1 : w2.cell? ⟨w.heap.size, 1, none⟩ = some (.string f) := blk_cell HX.out.box 1
                         have c2 : w2.cell? ⟨w.heap.size, 2, none⟩ = some (.string t) := blk_cell HX.out.box 2
                         have c3 : w2.cell? ⟨w.heap.size, 3, none⟩ = some (.int .u64 am) := blk_cell HX.out.box 3
                         have c4 : w2.cell? ⟨w.heap.size, 4, none⟩ = some (.int .u64 nc) := blk_cell HX.out.box 4
                         have c5 : w2.cell? ⟨w.heap.size, 5, none⟩ = some (.string ky') := blk_cell HX.out.box 5
                         have c6 : w2.cell? ⟨w.heap.size, 6, none⟩ = some (.string vl) := blk_cell HX.out.box 6
                         have c7 : w2.cell? ⟨w.heap.size, 7, none⟩ = some (.slice A rs.length c) := blk_cell HX.out.box 7
                         have c8 : w2.cell? ⟨w.heap.size, 8, none⟩ = some (.slice B ws.length d) := blk_cell HX.out.box 8
                         have r0 : w2.cell? ⟨w.heap.size + 1, 0, none⟩ = some (.int .i64 0) := blk_cell HX.out.res 0
                         have z0 := blk_frozen HX.out.res 0
                         skip)
                      | (go_at_call 55; first | (with_reducible refine (check_ok _ _).mono ?_; rintro e w'' ⟨rfl, hw⟩; have hw := hw.symm; subst hw) | (with_reducible refine (check_no _ _).mono ?_; rintro e w'' ⟨rfl, hw⟩; have hw := hw.symm; subst hw))
                      | (go_at_call 72
                         first
                           | (with_reducible refine (keys_ok A c rs _ k1.out (Kd.C_below HR.out HX.out.low) HC.out).mono ?_)
                           | (with_reducible refine (keys_no A c rs _ k1.out (Kd.C_below HR.out HX.out.low) HC.out).mono ?_)
                           | (with_reducible refine (keys_ok B d ws _ k2.out (Kd.C_below HS.out HX.out.low) HD.out).mono ?_)
                           | (with_reducible refine (keys_no B d ws _ k2.out (Kd.C_below HS.out HX.out.low) HD.out).mono ?_)
                         rintro e w2 ⟨rfl, hB⟩
                         have HX := Lib.hid (HX.out.step hB)
                         clear hB
                         have c1 : w2.cell? ⟨w.heap.size, 1, none⟩ = some (.string f) := blk_cell HX.out.box 1
                         have c2 : w2.cell? ⟨w.heap.size, 2, none⟩ = some (.string t) := blk_cell HX.out.box 2
                         have c3 : w2.cell? ⟨w.heap.size, 3, none⟩ = some (.int .u64 am) := blk_cell HX.out.box 3
                         have c4 : w2.cell? ⟨w.heap.size, 4, none⟩ = some (.int .u64 nc) := blk_cell HX.out.box 4
                         have c5 : w2.cell? ⟨w.heap.size, 5, none⟩ = some (.string ky') := blk_cell HX.out.box 5
                         have c6 : w2.cell? ⟨w.heap.size, 6, none⟩ = some (.string vl) := blk_cell HX.out.box 6
                         have c7 : w2.cell? ⟨w.heap.size, 7, none⟩ = some (.slice A rs.length c) := blk_cell HX.out.box 7
                         have c8 : w2.cell? ⟨w.heap.size, 8, none⟩ = some (.slice B ws.length d) := blk_cell HX.out.box 8
                         have r0 : w2.cell? ⟨w.heap.size + 1, 0, none⟩ = some (.int .i64 0) := blk_cell HX.out.res 0
                         have z0 := blk_frozen HX.out.res 0
                         skip))
                    refine leaves_cons (f := 51) (args := #[.pointer (some ⟨w.heap.size + 1, 0, none⟩)]) (by simp) (by simp [go_sem]) ?_
                    refine (caught_panicking ⟨w.heap.size + 1, 0, none⟩ 0 (ke ws) [] _ (blk_cell HX.out.res 0) (blk_frozen HX.out.res 0)).mono ?_
                    rintro e u' w'' ⟨rfl, rfl, rfl⟩
                    have hq := HX.out.resr (.int .i64 (ke ws))
                    simp [Leaves, settle, results, Tryd.results41, go_sem, hq]
                    exact HX.out.setr _
                · rw [hk (ke rs) (by simp [chR, a1, a2, k1])]
                  have k1 := Lib.hid k1
                  clear hk hnil a1 a2
                  go_wp2_with (first
                    | (go_at_call 71
                       go_must (refine (name_calls _ _).mono ?_)
                       rintro e w2 ⟨rfl, hB⟩
                       have HX := Lib.hid (HX.out.step hB)
                       clear hB
                       have c1 : w2.cell? ⟨w.heap.size, 1, none⟩ = some (.string f) := blk_cell HX.out.box 1
                       have c2 : w2.cell? ⟨w.heap.size, 2, none⟩ = some (.string t) := blk_cell HX.out.box 2
                       have c3 : w2.cell? ⟨w.heap.size, 3, none⟩ = some (.int .u64 am) := blk_cell HX.out.box 3
                       have c4 : w2.cell? ⟨w.heap.size, 4, none⟩ = some (.int .u64 nc) := blk_cell HX.out.box 4
                       have c5 : w2.cell? ⟨w.heap.size, 5, none⟩ = some (.string ky') := blk_cell HX.out.box 5
                       have c6 : w2.cell? ⟨w.heap.size, 6, none⟩ = some (.string vl) := blk_cell HX.out.box 6
                       have c7 : w2.cell? ⟨w.heap.size, 7, none⟩ = some (.slice A rs.length c) := blk_cell HX.out.box 7
                       have c8 : w2.cell? ⟨w.heap.size, 8, none⟩ = some (.slice B ws.length d) := blk_cell HX.out.box 8
                       have r0 : w2.cell? ⟨w.heap.size + 1, 0, none⟩ = some (.int .i64 0) := blk_cell HX.out.res 0
                       have z0 := blk_frozen HX.out.res 0
                       skip)
                    | (go_at_call 55; first | (with_reducible refine (check_ok _ _).mono ?_; rintro e w'' ⟨rfl, hw⟩; have hw := hw.symm; subst hw) | (with_reducible refine (check_no _ _).mono ?_; rintro e w'' ⟨rfl, hw⟩; have hw := hw.symm; subst hw))
                    | (go_at_call 72
                       first
                         | (with_reducible refine (keys_ok A c rs _ k1.out (Kd.C_below HR.out HX.out.low) HC.out).mono ?_)
                         | (with_reducible refine (keys_no A c rs _ k1.out (Kd.C_below HR.out HX.out.low) HC.out).mono ?_)
                         | (with_reducible refine (keys_ok B d ws _ k2.out (Kd.C_below HS.out HX.out.low) HD.out).mono ?_)
                         | (with_reducible refine (keys_no B d ws _ k2.out (Kd.C_below HS.out HX.out.low) HD.out).mono ?_)
                       rintro e w2 ⟨rfl, hB⟩
                       have HX := Lib.hid (HX.out.step hB)
                       clear hB
                       have c1 : w2.cell? ⟨w.heap.size, 1, none⟩ = some (.string f) := blk_cell HX.out.box 1
                       have c2 : w2.cell? ⟨w.heap.size, 2, none⟩ = some (.string t) := blk_cell HX.out.box 2
                       have c3 : w2.cell? ⟨w.heap.size, 3, none⟩ = some (.int .u64 am) := blk_cell HX.out.box 3
                       have c4 : w2.cell? ⟨w.heap.size, 4, none⟩ = some (.int .u64 nc) := blk_cell HX.out.box 4
                       have c5 : w2.cell? ⟨w.heap.size, 5, none⟩ = some (.string ky') := blk_cell HX.out.box 5
                       have c6 : w2.cell? ⟨w.heap.size, 6, none⟩ = some (.string vl) := blk_cell HX.out.box 6
                       have c7 : w2.cell? ⟨w.heap.size, 7, none⟩ = some (.slice A rs.length c) := blk_cell HX.out.box 7
                       have c8 : w2.cell? ⟨w.heap.size, 8, none⟩ = some (.slice B ws.length d) := blk_cell HX.out.box 8
                       have r0 : w2.cell? ⟨w.heap.size + 1, 0, none⟩ = some (.int .i64 0) := blk_cell HX.out.res 0
                       have z0 := blk_frozen HX.out.res 0
                       skip))
                  refine leaves_cons (f := 51) (args := #[.pointer (some ⟨w.heap.size + 1, 0, none⟩)]) (by simp) (by simp [go_sem]) ?_
                  refine (caught_panicking ⟨w.heap.size + 1, 0, none⟩ 0 (ke rs) [] _ (blk_cell HX.out.res 0) (blk_frozen HX.out.res 0)).mono ?_
                  rintro e u' w'' ⟨rfl, rfl, rfl⟩
                  have hq := HX.out.resr (.int .i64 (ke rs))
                  simp [Leaves, settle, results, Tryd.results41, go_sem, hq]
                  exact HX.out.setr _
              · have d2 : decide (nc ≤ 4611686018427387903) = false := by simp; omega
                rw [hk 2 (by simp [chR, a2])]
                clear hk hnil a1 a2
                go_wp2_with (first
                  | (go_at_call 71
                     go_must (refine (name_calls _ _).mono ?_)
                     rintro e w2 ⟨rfl, hB⟩
                     have HX := Lib.hid (HX.out.step hB)
                     clear hB
                     have c1 : w2.cell? ⟨w.heap.size, 1, none⟩ = some (.string f) := blk_cell HX.out.box 1
                     have c2 : w2.cell? ⟨w.heap.size, 2, none⟩ = some (.string t) := blk_cell HX.out.box 2
                     have c3 : w2.cell? ⟨w.heap.size, 3, none⟩ = some (.int .u64 am) := blk_cell HX.out.box 3
                     have c4 : w2.cell? ⟨w.heap.size, 4, none⟩ = some (.int .u64 nc) := blk_cell HX.out.box 4
                     have c5 : w2.cell? ⟨w.heap.size, 5, none⟩ = some (.string ky') := blk_cell HX.out.box 5
                     have c6 : w2.cell? ⟨w.heap.size, 6, none⟩ = some (.string vl) := blk_cell HX.out.box 6
                     have c7 : w2.cell? ⟨w.heap.size, 7, none⟩ = some (.slice A rs.length c) := blk_cell HX.out.box 7
                     have c8 : w2.cell? ⟨w.heap.size, 8, none⟩ = some (.slice B ws.length d) := blk_cell HX.out.box 8
                     have r0 : w2.cell? ⟨w.heap.size + 1, 0, none⟩ = some (.int .i64 0) := blk_cell HX.out.res 0
                     have z0 := blk_frozen HX.out.res 0
                     skip)
                  | (go_at_call 55; first | (with_reducible refine (check_ok _ _).mono ?_; rintro e w'' ⟨rfl, hw⟩; have hw := hw.symm; subst hw) | (with_reducible refine (check_no _ _).mono ?_; rintro e w'' ⟨rfl, hw⟩; have hw := hw.symm; subst hw))
                  | (go_at_call 72
                     first
                       | (with_reducible refine (keys_ok A c rs _ k1.out (Kd.C_below HR.out HX.out.low) HC.out).mono ?_)
                       | (with_reducible refine (keys_no A c rs _ k1.out (Kd.C_below HR.out HX.out.low) HC.out).mono ?_)
                       | (with_reducible refine (keys_ok B d ws _ k2.out (Kd.C_below HS.out HX.out.low) HD.out).mono ?_)
                       | (with_reducible refine (keys_no B d ws _ k2.out (Kd.C_below HS.out HX.out.low) HD.out).mono ?_)
                     rintro e w2 ⟨rfl, hB⟩
                     have HX := Lib.hid (HX.out.step hB)
                     clear hB
                     have c1 : w2.cell? ⟨w.heap.size, 1, none⟩ = some (.string f) := blk_cell HX.out.box 1
                     have c2 : w2.cell? ⟨w.heap.size, 2, none⟩ = some (.string t) := blk_cell HX.out.box 2
                     have c3 : w2.cell? ⟨w.heap.size, 3, none⟩ = some (.int .u64 am) := blk_cell HX.out.box 3
                     have c4 : w2.cell? ⟨w.heap.size, 4, none⟩ = some (.int .u64 nc) := blk_cell HX.out.box 4
                     have c5 : w2.cell? ⟨w.heap.size, 5, none⟩ = some (.string ky') := blk_cell HX.out.box 5
                     have c6 : w2.cell? ⟨w.heap.size, 6, none⟩ = some (.string vl) := blk_cell HX.out.box 6
                     have c7 : w2.cell? ⟨w.heap.size, 7, none⟩ = some (.slice A rs.length c) := blk_cell HX.out.box 7
                     have c8 : w2.cell? ⟨w.heap.size, 8, none⟩ = some (.slice B ws.length d) := blk_cell HX.out.box 8
                     have r0 : w2.cell? ⟨w.heap.size + 1, 0, none⟩ = some (.int .i64 0) := blk_cell HX.out.res 0
                     have z0 := blk_frozen HX.out.res 0
                     skip))
                refine leaves_cons (f := 51) (args := #[.pointer (some ⟨w.heap.size + 1, 0, none⟩)]) (by simp) (by simp [go_sem]) ?_
                refine (caught_panicking ⟨w.heap.size + 1, 0, none⟩ 0 2 [] _ (blk_cell HX.out.res 0) (blk_frozen HX.out.res 0)).mono ?_
                rintro e u' w'' ⟨rfl, rfl, rfl⟩
                have hq := HX.out.resr (.int .i64 2)
                simp [Leaves, settle, results, Tryd.results41, go_sem, hq]
                exact HX.out.setr _
            · have b5 : (am == 0) = false := by simp [h5]
              have hE : ch 2 f t am nc ky' vl rs ws = 3 := by simp [ch, chF, h1, h2, h3, h4, h5]
              rw [hE]
              clear hE hnil
              try clear h3
              try clear h5
              go_wp2_with (first
                | (go_at_call 71
                   go_must (refine (name_calls _ _).mono ?_)
                   rintro e w2 ⟨rfl, hB⟩
                   have HX := Lib.hid (HX.out.step hB)
                   clear hB
                   have c1 : w2.cell? ⟨w.heap.size, 1, none⟩ = some (.string f) := blk_cell HX.out.box 1
                   have c2 : w2.cell? ⟨w.heap.size, 2, none⟩ = some (.string t) := blk_cell HX.out.box 2
                   have c3 : w2.cell? ⟨w.heap.size, 3, none⟩ = some (.int .u64 am) := blk_cell HX.out.box 3
                   have c4 : w2.cell? ⟨w.heap.size, 4, none⟩ = some (.int .u64 nc) := blk_cell HX.out.box 4
                   have c5 : w2.cell? ⟨w.heap.size, 5, none⟩ = some (.string ky') := blk_cell HX.out.box 5
                   have c6 : w2.cell? ⟨w.heap.size, 6, none⟩ = some (.string vl) := blk_cell HX.out.box 6
                   have c7 : w2.cell? ⟨w.heap.size, 7, none⟩ = some (.slice A rs.length c) := blk_cell HX.out.box 7
                   have c8 : w2.cell? ⟨w.heap.size, 8, none⟩ = some (.slice B ws.length d) := blk_cell HX.out.box 8
                   have r0 : w2.cell? ⟨w.heap.size + 1, 0, none⟩ = some (.int .i64 0) := blk_cell HX.out.res 0
                   have z0 := blk_frozen HX.out.res 0
                   skip)
                | (go_at_call 55; first | (with_reducible refine (check_ok _ _).mono ?_; rintro e w'' ⟨rfl, hw⟩; have hw := hw.symm; subst hw) | (with_reducible refine (check_no _ _).mono ?_; rintro e w'' ⟨rfl, hw⟩; have hw := hw.symm; subst hw))
                | (go_at_call 72
                   first
                     | (with_reducible refine (keys_ok A c rs _ k1.out (Kd.C_below HR.out HX.out.low) HC.out).mono ?_)
                     | (with_reducible refine (keys_no A c rs _ k1.out (Kd.C_below HR.out HX.out.low) HC.out).mono ?_)
                     | (with_reducible refine (keys_ok B d ws _ k2.out (Kd.C_below HS.out HX.out.low) HD.out).mono ?_)
                     | (with_reducible refine (keys_no B d ws _ k2.out (Kd.C_below HS.out HX.out.low) HD.out).mono ?_)
                   rintro e w2 ⟨rfl, hB⟩
                   have HX := Lib.hid (HX.out.step hB)
                   clear hB
                   have c1 : w2.cell? ⟨w.heap.size, 1, none⟩ = some (.string f) := blk_cell HX.out.box 1
                   have c2 : w2.cell? ⟨w.heap.size, 2, none⟩ = some (.string t) := blk_cell HX.out.box 2
                   have c3 : w2.cell? ⟨w.heap.size, 3, none⟩ = some (.int .u64 am) := blk_cell HX.out.box 3
                   have c4 : w2.cell? ⟨w.heap.size, 4, none⟩ = some (.int .u64 nc) := blk_cell HX.out.box 4
                   have c5 : w2.cell? ⟨w.heap.size, 5, none⟩ = some (.string ky') := blk_cell HX.out.box 5
                   have c6 : w2.cell? ⟨w.heap.size, 6, none⟩ = some (.string vl) := blk_cell HX.out.box 6
                   have c7 : w2.cell? ⟨w.heap.size, 7, none⟩ = some (.slice A rs.length c) := blk_cell HX.out.box 7
                   have c8 : w2.cell? ⟨w.heap.size, 8, none⟩ = some (.slice B ws.length d) := blk_cell HX.out.box 8
                   have r0 : w2.cell? ⟨w.heap.size + 1, 0, none⟩ = some (.int .i64 0) := blk_cell HX.out.res 0
                   have z0 := blk_frozen HX.out.res 0
                   skip))
              refine leaves_cons (f := 51) (args := #[.pointer (some ⟨w.heap.size + 1, 0, none⟩)]) (by simp) (by simp [go_sem]) ?_
              refine (caught_panicking ⟨w.heap.size + 1, 0, none⟩ 0 3 [] _ (blk_cell HX.out.res 0) (blk_frozen HX.out.res 0)).mono ?_
              rintro e u' w'' ⟨rfl, rfl, rfl⟩
              have hq := HX.out.resr (.int .i64 3)
              simp [Leaves, settle, results, Tryd.results41, go_sem, hq]
              exact HX.out.setr _
          ·
            have hE : ch 2 f t am nc ky' vl rs ws = 3 := by simp [ch, chF, h1, h2, h3, h4]
            rw [hE]
            clear hE hnil
            try clear h3
            try clear h5
            go_wp2_with (first
              | (go_at_call 71
                 go_must (refine (name_calls _ _).mono ?_)
                 rintro e w2 ⟨rfl, hB⟩
                 have HX := Lib.hid (HX.out.step hB)
                 clear hB
                 have c1 : w2.cell? ⟨w.heap.size, 1, none⟩ = some (.string f) := blk_cell HX.out.box 1
                 have c2 : w2.cell? ⟨w.heap.size, 2, none⟩ = some (.string t) := blk_cell HX.out.box 2
                 have c3 : w2.cell? ⟨w.heap.size, 3, none⟩ = some (.int .u64 am) := blk_cell HX.out.box 3
                 have c4 : w2.cell? ⟨w.heap.size, 4, none⟩ = some (.int .u64 nc) := blk_cell HX.out.box 4
                 have c5 : w2.cell? ⟨w.heap.size, 5, none⟩ = some (.string ky') := blk_cell HX.out.box 5
                 have c6 : w2.cell? ⟨w.heap.size, 6, none⟩ = some (.string vl) := blk_cell HX.out.box 6
                 have c7 : w2.cell? ⟨w.heap.size, 7, none⟩ = some (.slice A rs.length c) := blk_cell HX.out.box 7
                 have c8 : w2.cell? ⟨w.heap.size, 8, none⟩ = some (.slice B ws.length d) := blk_cell HX.out.box 8
                 have r0 : w2.cell? ⟨w.heap.size + 1, 0, none⟩ = some (.int .i64 0) := blk_cell HX.out.res 0
                 have z0 := blk_frozen HX.out.res 0
                 skip)
              | (go_at_call 55; first | (with_reducible refine (check_ok _ _).mono ?_; rintro e w'' ⟨rfl, hw⟩; have hw := hw.symm; subst hw) | (with_reducible refine (check_no _ _).mono ?_; rintro e w'' ⟨rfl, hw⟩; have hw := hw.symm; subst hw))
              | (go_at_call 72
                 first
                   | (with_reducible refine (keys_ok A c rs _ k1.out (Kd.C_below HR.out HX.out.low) HC.out).mono ?_)
                   | (with_reducible refine (keys_no A c rs _ k1.out (Kd.C_below HR.out HX.out.low) HC.out).mono ?_)
                   | (with_reducible refine (keys_ok B d ws _ k2.out (Kd.C_below HS.out HX.out.low) HD.out).mono ?_)
                   | (with_reducible refine (keys_no B d ws _ k2.out (Kd.C_below HS.out HX.out.low) HD.out).mono ?_)
                 rintro e w2 ⟨rfl, hB⟩
                 have HX := Lib.hid (HX.out.step hB)
                 clear hB
                 have c1 : w2.cell? ⟨w.heap.size, 1, none⟩ = some (.string f) := blk_cell HX.out.box 1
                 have c2 : w2.cell? ⟨w.heap.size, 2, none⟩ = some (.string t) := blk_cell HX.out.box 2
                 have c3 : w2.cell? ⟨w.heap.size, 3, none⟩ = some (.int .u64 am) := blk_cell HX.out.box 3
                 have c4 : w2.cell? ⟨w.heap.size, 4, none⟩ = some (.int .u64 nc) := blk_cell HX.out.box 4
                 have c5 : w2.cell? ⟨w.heap.size, 5, none⟩ = some (.string ky') := blk_cell HX.out.box 5
                 have c6 : w2.cell? ⟨w.heap.size, 6, none⟩ = some (.string vl) := blk_cell HX.out.box 6
                 have c7 : w2.cell? ⟨w.heap.size, 7, none⟩ = some (.slice A rs.length c) := blk_cell HX.out.box 7
                 have c8 : w2.cell? ⟨w.heap.size, 8, none⟩ = some (.slice B ws.length d) := blk_cell HX.out.box 8
                 have r0 : w2.cell? ⟨w.heap.size + 1, 0, none⟩ = some (.int .i64 0) := blk_cell HX.out.res 0
                 have z0 := blk_frozen HX.out.res 0
                 skip))
            refine leaves_cons (f := 51) (args := #[.pointer (some ⟨w.heap.size + 1, 0, none⟩)]) (by simp) (by simp [go_sem]) ?_
            refine (caught_panicking ⟨w.heap.size + 1, 0, none⟩ 0 3 [] _ (blk_cell HX.out.res 0) (blk_frozen HX.out.res 0)).mono ?_
            rintro e u' w'' ⟨rfl, rfl, rfl⟩
            have hq := HX.out.resr (.int .i64 3)
            simp [Leaves, settle, results, Tryd.results41, go_sem, hq]
            exact HX.out.setr _
        · have b3 : decide ((vl.size : Int) ≤ 64) = false := by simp; omega
          have hE : ch 2 f t am nc ky' vl rs ws = 3 := by simp [ch, chF, h1, h2, h3]
          rw [hE]
          clear hE hnil
          try clear h3
          try clear h5
          go_wp2_with (first
            | (go_at_call 71
               go_must (refine (name_calls _ _).mono ?_)
               rintro e w2 ⟨rfl, hB⟩
               have HX := Lib.hid (HX.out.step hB)
               clear hB
               have c1 : w2.cell? ⟨w.heap.size, 1, none⟩ = some (.string f) := blk_cell HX.out.box 1
               have c2 : w2.cell? ⟨w.heap.size, 2, none⟩ = some (.string t) := blk_cell HX.out.box 2
               have c3 : w2.cell? ⟨w.heap.size, 3, none⟩ = some (.int .u64 am) := blk_cell HX.out.box 3
               have c4 : w2.cell? ⟨w.heap.size, 4, none⟩ = some (.int .u64 nc) := blk_cell HX.out.box 4
               have c5 : w2.cell? ⟨w.heap.size, 5, none⟩ = some (.string ky') := blk_cell HX.out.box 5
               have c6 : w2.cell? ⟨w.heap.size, 6, none⟩ = some (.string vl) := blk_cell HX.out.box 6
               have c7 : w2.cell? ⟨w.heap.size, 7, none⟩ = some (.slice A rs.length c) := blk_cell HX.out.box 7
               have c8 : w2.cell? ⟨w.heap.size, 8, none⟩ = some (.slice B ws.length d) := blk_cell HX.out.box 8
               have r0 : w2.cell? ⟨w.heap.size + 1, 0, none⟩ = some (.int .i64 0) := blk_cell HX.out.res 0
               have z0 := blk_frozen HX.out.res 0
               skip)
            | (go_at_call 55; first | (with_reducible refine (check_ok _ _).mono ?_; rintro e w'' ⟨rfl, hw⟩; have hw := hw.symm; subst hw) | (with_reducible refine (check_no _ _).mono ?_; rintro e w'' ⟨rfl, hw⟩; have hw := hw.symm; subst hw))
            | (go_at_call 72
               first
                 | (with_reducible refine (keys_ok A c rs _ k1.out (Kd.C_below HR.out HX.out.low) HC.out).mono ?_)
                 | (with_reducible refine (keys_no A c rs _ k1.out (Kd.C_below HR.out HX.out.low) HC.out).mono ?_)
                 | (with_reducible refine (keys_ok B d ws _ k2.out (Kd.C_below HS.out HX.out.low) HD.out).mono ?_)
                 | (with_reducible refine (keys_no B d ws _ k2.out (Kd.C_below HS.out HX.out.low) HD.out).mono ?_)
               rintro e w2 ⟨rfl, hB⟩
               have HX := Lib.hid (HX.out.step hB)
               clear hB
               have c1 : w2.cell? ⟨w.heap.size, 1, none⟩ = some (.string f) := blk_cell HX.out.box 1
               have c2 : w2.cell? ⟨w.heap.size, 2, none⟩ = some (.string t) := blk_cell HX.out.box 2
               have c3 : w2.cell? ⟨w.heap.size, 3, none⟩ = some (.int .u64 am) := blk_cell HX.out.box 3
               have c4 : w2.cell? ⟨w.heap.size, 4, none⟩ = some (.int .u64 nc) := blk_cell HX.out.box 4
               have c5 : w2.cell? ⟨w.heap.size, 5, none⟩ = some (.string ky') := blk_cell HX.out.box 5
               have c6 : w2.cell? ⟨w.heap.size, 6, none⟩ = some (.string vl) := blk_cell HX.out.box 6
               have c7 : w2.cell? ⟨w.heap.size, 7, none⟩ = some (.slice A rs.length c) := blk_cell HX.out.box 7
               have c8 : w2.cell? ⟨w.heap.size, 8, none⟩ = some (.slice B ws.length d) := blk_cell HX.out.box 8
               have r0 : w2.cell? ⟨w.heap.size + 1, 0, none⟩ = some (.int .i64 0) := blk_cell HX.out.res 0
               have z0 := blk_frozen HX.out.res 0
               skip))
          refine leaves_cons (f := 51) (args := #[.pointer (some ⟨w.heap.size + 1, 0, none⟩)]) (by simp) (by simp [go_sem]) ?_
          refine (caught_panicking ⟨w.heap.size + 1, 0, none⟩ 0 3 [] _ (blk_cell HX.out.res 0) (blk_frozen HX.out.res 0)).mono ?_
          rintro e u' w'' ⟨rfl, rfl, rfl⟩
          have hq := HX.out.resr (.int .i64 3)
          simp [Leaves, settle, results, Tryd.results41, go_sem, hq]
          exact HX.out.setr _
def tx_Check.f (a0_0 : Int) (a0_1 a0_2 : ByteArray) (a0_3 a0_4 : Int) (a0_5 a0_6 : ByteArray) (l0_7 l0_8 : List ByteArray) : Option Int := some (ch a0_0 a0_1 a0_2 a0_3 a0_4 a0_5 a0_6 l0_7 l0_8)
theorem tx_Check.calls (a0_0 : Int) (a0_1 a0_2 : ByteArray) (a0_3 a0_4 : Int) (a0_5 a0_6 : ByteArray) (A0_7 : Option Addr) (c0_7 : Nat) (l0_7 : List ByteArray) (A0_8 : Option Addr) (c0_8 : Nat) (l0_8 : List ByteArray) (r : Int) (w : World) (hr0_7 : Kd.C Kd.string w A0_7 l0_7.length l0_7) (hc0_7 : l0_7.length ≤ c0_7) (hr0_8 : Kd.C Kd.string w A0_8 l0_8.length l0_8) (hc0_8 : l0_8.length ≤ c0_8) (h : tx_Check.f a0_0 a0_1 a0_2 a0_3 a0_4 a0_5 a0_6 l0_7 l0_8 = some r) :
    Calls Tryd.prog 41 #[.agg #[.int .i64 a0_0, .string a0_1, .string a0_2, .int .u64 a0_3, .int .u64 a0_4, .string a0_5, .string a0_6, .slice A0_7 l0_7.length c0_7, .slice A0_8 l0_8.length c0_8]] w fun e w' => e = .returned (.int .i64 r) ∧ Below w.heap.size w w' := by
  obtain rfl := Option.some.inj h
  exact chk_calls a0_0 a0_1 a0_2 a0_3 a0_4 a0_5 a0_6 A0_7 A0_8 c0_7 c0_8 l0_7 l0_8 w hr0_7 hc0_7 hr0_8 hc0_8
end Go.Proofs.YtndicjikjcifaaaDoor
