/- Texts joined by wip/tools/slim2.py: Seal, Strle, WFour, WFootNe, WAt, WEqStruct, WRepsOne, WInv, WInvWords, WGuard, PBx0, Batl, Lays, Txchk, PWix0, Ints, PWix1, Wirel, PCkx0, PCkx1, Txread, Refchk, PBx1, PBx2, Batsame0. -/
import Derived.Test.YtndicjikjcifaaaDoorProg
import Derived.Test.YtndicjikjcifaaaDoorJ1
import Derived.Laws.Cover1
import Derived.Lib.Hide
import Derived.Laws.StructEq
import Derived.Below
import Derived.Deep.Draws
import Derived.Deep.AppendLies
import Derived.Maps.AppendAt
import Derived.OwnWalk
import Derived.Laws.BytesArg
import Derived.Laws.MakeOwn
import Derived.Laws.OwnMore
import Derived.Deep.OwnRows
import Derived.Tactics
import Derived.Lib.ConvBytes
import Derived.Laws.Slices
import Derived.WalkKit
import Derived.KernelRfl
import Derived.RowKit3
import Derived.Deep.LoopGhost
import Derived.Deep.QuietTactic
import Derived.BigQuiet
import Derived.WideLaws
import Derived.Deep.DeepCutAuto
import Derived.Deep.CutBlock
import Derived.Deep.RegionHeld3
import Derived.Laws.Rows
import Derived.Lib.AppendStr
import Derived.ArgAppend
import Derived.Laws.IdiomCopy
import Derived.OrdersHeld
import Derived.Laws.BitsLemmas
import Derived.RowKit
import Derived.Ground.NamesProg
import Derived.Shelf.Lays
import Derived.Shelf.Strings.SlTrimAscii
import Derived.Defers
import Derived.Recover
import Derived.WalkSmall
import Derived.Laws.Pointers
import Derived.Deep.DeepMust
import Derived.Shelf.Strings.Prefix
import Derived.StillTactics
import Derived.ScopeJumps
import Derived.Laws.Shifts
import Derived.Laws.ShiftsVarLaws
import Derived.Lib.EndianBits
import Derived.Laws.BitsAllLaws
/- Both sealers are made. -/
namespace Go.Proofs.YtndicjikjcifaaaDoor
open Go.RowKit Go.Proofs.YtndicjikjcifaaaDoorW.PrintWords Go.Proofs.YtndicjikjcifaaaDoorW.PrintLast
set_option linter.unusedVariables false
set_option linter.unusedSimpArgs false
set_option maxRecDepth 100000
def SealOk (a s t : Int) : Prop := 0 ≤ a ∧ a ≤ 6 ∧ 1 ≤ s ∧ s ≤ 16 ∧ 1 ≤ t ∧ t ≤ 1000
def SealNew (T : TypeId) (a s t : Int) (w : World) (e : Ending) (W : World) : Prop :=
  (SealOk a s t → ∃ g, e = .returned (.tuple #[.pointer (some ⟨g, 0, none⟩), .int .i64 0]) ∧ w.heap.size ≤ g ∧ W.heap[g]? = some (.cells #[.int .i64 a, .int .i64 s, .int .i64 t, .slice none 0 0, .int .i64 0, .int .i64 0] T (0, 0)) ∧ Below w.heap.size w W)
  ∧ (¬ SealOk a s t → e = .returned (.tuple #[.pointer none, .int .i64 2]) ∧ Below w.heap.size w W)
theorem new_calls (a0 s0 t0 : Int) (w : World) : Calls Tryd.prog 16 #[.int .i64 a0, .int .i64 s0, .int .i64 t0] w (SealNew 72 a0 s0 t0 w) := by
  refine c_enter2 (args := [.int .i64 a0, .int .i64 s0, .int .i64 t0]) (S := (fun _ => False)) (R := (fun _ => True)) (M := []) Tryd.func16 (by kernel_rfl) 35 Tryd.ntmps16 (Nat.le_of_ble_eq_true rfl) (St.first w (fun _ => False) (fun _ => True)) (fun a W F H => ?_)
  have F := F.less [(0, .int .i64 a0), (1, .int .i64 s0), (2, .int .i64 t0)] (subc rfl (subc rfl (subc rfl sub0)))
  refine c_seq (by kernel_rfl) ?_
  refine c_text (id := 0) (by kernel_rfl) [(0, 2), (1, 2)] (by kernel_rfl) ?_
  refine q2 (o_s 6 (.assign (.const (.pointer none))) 23 (by kernel_rfl)) F (by decide) (v := .pointer none) (x_assign rfl) (fun a F => ?_)
  refine q2 (o_s 7 (.assign (.const (.int .i64 0))) 24 (by kernel_rfl)) F (by decide) (v := .int .i64 0) (x_assign rfl) (fun a F => ?_)
  unfold wpSeq
  have H : St w (fun _ => False) (fun _ => True) [] W := H
  refine t_normal ?_
  refine c_seq (by kernel_rfl) ?_
  refine c_seq (by kernel_rfl) ?_
  refine c_text (id := 1) (by kernel_rfl) [(0, 2), (1, 2), (2, 2), (3, 2), (4, 2), (5, 2), (6, 2), (7, 2), (8, 2), (9, 2), (10, 2), (11, 2), (12, 2), (13, 2), (14, 2), (15, 2), (16, 2), (17, 2), (18, 2), (19, 2), (20, 2), (21, 2)] (by kernel_rfl) ?_
  refine q2 (o_s 8 (.move (.tmp 0)) 3 (by kernel_rfl)) F (by decide) (x_move (F.slot rfl)) (fun a F => ?_)
  refine q2 (o_s 9 (.binOp .lss 3 (.tmp 8) (.const (.int .i64 0)) 3) 4 (by kernel_rfl)) F (by decide) (v := .bool (decide (a0 < (0 : Int)))) (x_int (F.slot rfl) rfl rfl) (fun a F => ?_)
  refine q2 (o_s 10 (.move (.tmp 9)) 4 (by kernel_rfl)) F (by decide) (x_move (F.slot rfl)) (fun a F => ?_)
  rcases bool_or (decide (a0 < (0 : Int))) with hb1 | hb1
  · have hb1d := of_decide_eq_true hb1
    have F := F.at 10 rfl (v' := .bool true) (congrArg Value.bool hb1)
    refine sqoff2 (e := 10) (o_g 11 (.move (.tmp 0)) 3 2 false (by kernel_rfl)) (by kernel_rfl) (.inl rfl) F (by decide) (trivial) (fun a F => ?_)
    refine sqoff2 (e := 10) (o_g 12 (.binOp .gtr 3 (.tmp 11) (.const (.int .i64 6)) 3) 4 2 false (by kernel_rfl)) (by kernel_rfl) (.inl rfl) F (by decide) (trivial) (fun a F => ?_)
    refine q2 (o_s 13 (.pick (.tmp 10) (.const (.bool true)) (.tmp 12)) 4 (by kernel_rfl)) F (by decide) (v := .bool true) (x_pickT (F.slot rfl) rfl) (fun a F => ?_)
    refine q2 (o_s 14 (.move (.tmp 13)) 4 (by kernel_rfl)) F (by decide) (x_move (F.slot rfl)) (fun a F => ?_)
    refine sqoff2 (e := 14) (o_g 15 (.move (.tmp 1)) 3 6 false (by kernel_rfl)) (by kernel_rfl) (.inl rfl) F (by decide) (trivial) (fun a F => ?_)
    refine sqoff2 (e := 14) (o_g 16 (.binOp .lss 3 (.tmp 15) (.const (.int .i64 1)) 3) 4 6 false (by kernel_rfl)) (by kernel_rfl) (.inl rfl) F (by decide) (trivial) (fun a F => ?_)
    refine q2 (o_s 17 (.pick (.tmp 14) (.const (.bool true)) (.tmp 16)) 4 (by kernel_rfl)) F (by decide) (v := .bool true) (x_pickT (F.slot rfl) rfl) (fun a F => ?_)
    refine q2 (o_s 18 (.move (.tmp 17)) 4 (by kernel_rfl)) F (by decide) (x_move (F.slot rfl)) (fun a F => ?_)
    refine sqoff2 (e := 18) (o_g 19 (.move (.tmp 1)) 3 10 false (by kernel_rfl)) (by kernel_rfl) (.inl rfl) F (by decide) (trivial) (fun a F => ?_)
    refine sqoff2 (e := 18) (o_g 20 (.binOp .gtr 3 (.tmp 19) (.const (.int .i64 16)) 3) 4 10 false (by kernel_rfl)) (by kernel_rfl) (.inl rfl) F (by decide) (trivial) (fun a F => ?_)
    refine q2 (o_s 21 (.pick (.tmp 18) (.const (.bool true)) (.tmp 20)) 4 (by kernel_rfl)) F (by decide) (v := .bool true) (x_pickT (F.slot rfl) rfl) (fun a F => ?_)
    refine q2 (o_s 22 (.move (.tmp 21)) 4 (by kernel_rfl)) F (by decide) (x_move (F.slot rfl)) (fun a F => ?_)
    refine sqoff2 (e := 22) (o_g 23 (.move (.tmp 2)) 3 14 false (by kernel_rfl)) (by kernel_rfl) (.inl rfl) F (by decide) (trivial) (fun a F => ?_)
    refine sqoff2 (e := 22) (o_g 24 (.binOp .lss 3 (.tmp 23) (.const (.int .i64 1)) 3) 4 14 false (by kernel_rfl)) (by kernel_rfl) (.inl rfl) F (by decide) (trivial) (fun a F => ?_)
    refine q2 (o_s 25 (.pick (.tmp 22) (.const (.bool true)) (.tmp 24)) 4 (by kernel_rfl)) F (by decide) (v := .bool true) (x_pickT (F.slot rfl) rfl) (fun a F => ?_)
    refine q2 (o_s 26 (.move (.tmp 25)) 4 (by kernel_rfl)) F (by decide) (x_move (F.slot rfl)) (fun a F => ?_)
    refine sqoff2 (e := 26) (o_g 27 (.move (.tmp 2)) 3 18 false (by kernel_rfl)) (by kernel_rfl) (.inl rfl) F (by decide) (trivial) (fun a F => ?_)
    refine sqoff2 (e := 26) (o_g 28 (.binOp .gtr 3 (.tmp 27) (.const (.int .i64 1000)) 3) 4 18 false (by kernel_rfl)) (by kernel_rfl) (.inl rfl) F (by decide) (trivial) (fun a F => ?_)
    refine q2 (o_s 29 (.pick (.tmp 26) (.const (.bool true)) (.tmp 28)) 4 (by kernel_rfl)) F (by decide) (v := .bool true) (x_pickT (F.slot rfl) rfl) (fun a F => ?_)
    unfold wpSeq
    refine t_normal ?_
    refine c_yes (c := .tmp 29) (by kernel_rfl) (F.slot rfl) ?_
    refine c_seq (by kernel_rfl) ?_
    refine c_text (id := 2) (by kernel_rfl) [(0, 2), (1, 2)] (by kernel_rfl) ?_
    refine q2 (o_s 6 (.assign (.const (.pointer none))) 23 (by kernel_rfl)) F (by decide) (v := .pointer none) (x_assign rfl) (fun a F => ?_)
    refine q2 (o_s 7 (.assign (.const (.int .i64 2))) 24 (by kernel_rfl)) F (by decide) (v := .int .i64 2) (x_assign rfl) (fun a F => ?_)
    unfold wpSeq
    refine t_normal ?_
    refine c_ret (by kernel_rfl) ?_
    refine t_ret ?_
    refine p_list (rs := [.tmp 6, .tmp 7]) (vs := [.pointer none, .int .i64 2]) Tryd.results16 (by simp) F (Vals.tmp' F rfl (Vals.tmp' F rfl .nil)) ?_
    exact ⟨fun h => absurd h (by unfold SealOk; omega), fun _ => ⟨rfl, H.ends⟩⟩
  · have hb1d := of_decide_eq_false hb1
    have F := F.at 10 rfl (v' := .bool false) (congrArg Value.bool hb1)
    refine sq2 (W' := W) (o_g 11 (.move (.tmp 0)) 3 2 false (by kernel_rfl)) ⟨10, by kernel_rfl, rfl⟩ F (by decide) (v := .int .i64 a0) (x_move (F.slot rfl)) (fun _ => trivial) (fun a F => ?_)
    refine sq2 (W' := W) (o_g 12 (.binOp .gtr 3 (.tmp 11) (.const (.int .i64 6)) 3) 4 2 false (by kernel_rfl)) ⟨10, by kernel_rfl, rfl⟩ F (by decide) (v := .bool (decide (a0 > (6 : Int)))) (x_int (F.slot rfl) rfl rfl) (fun _ => trivial) (fun a F => ?_)
    refine q2 (o_s 13 (.pick (.tmp 10) (.const (.bool true)) (.tmp 12)) 4 (by kernel_rfl)) F (by decide) (v := .bool (decide (a0 > (6 : Int)))) (x_pickF (F.slot rfl) (F.slot rfl)) (fun a F => ?_)
    refine q2 (o_s 14 (.move (.tmp 13)) 4 (by kernel_rfl)) F (by decide) (x_move (F.slot rfl)) (fun a F => ?_)
    rcases bool_or (decide (a0 > (6 : Int))) with hb2 | hb2
    · have hb2d := of_decide_eq_true hb2
      have F := F.at 14 rfl (v' := .bool true) (congrArg Value.bool hb2)
      refine sqoff2 (e := 14) (o_g 15 (.move (.tmp 1)) 3 6 false (by kernel_rfl)) (by kernel_rfl) (.inl rfl) F (by decide) (trivial) (fun a F => ?_)
      refine sqoff2 (e := 14) (o_g 16 (.binOp .lss 3 (.tmp 15) (.const (.int .i64 1)) 3) 4 6 false (by kernel_rfl)) (by kernel_rfl) (.inl rfl) F (by decide) (trivial) (fun a F => ?_)
      refine q2 (o_s 17 (.pick (.tmp 14) (.const (.bool true)) (.tmp 16)) 4 (by kernel_rfl)) F (by decide) (v := .bool true) (x_pickT (F.slot rfl) rfl) (fun a F => ?_)
      refine q2 (o_s 18 (.move (.tmp 17)) 4 (by kernel_rfl)) F (by decide) (x_move (F.slot rfl)) (fun a F => ?_)
      refine sqoff2 (e := 18) (o_g 19 (.move (.tmp 1)) 3 10 false (by kernel_rfl)) (by kernel_rfl) (.inl rfl) F (by decide) (trivial) (fun a F => ?_)
      refine sqoff2 (e := 18) (o_g 20 (.binOp .gtr 3 (.tmp 19) (.const (.int .i64 16)) 3) 4 10 false (by kernel_rfl)) (by kernel_rfl) (.inl rfl) F (by decide) (trivial) (fun a F => ?_)
      refine q2 (o_s 21 (.pick (.tmp 18) (.const (.bool true)) (.tmp 20)) 4 (by kernel_rfl)) F (by decide) (v := .bool true) (x_pickT (F.slot rfl) rfl) (fun a F => ?_)
      refine q2 (o_s 22 (.move (.tmp 21)) 4 (by kernel_rfl)) F (by decide) (x_move (F.slot rfl)) (fun a F => ?_)
      refine sqoff2 (e := 22) (o_g 23 (.move (.tmp 2)) 3 14 false (by kernel_rfl)) (by kernel_rfl) (.inl rfl) F (by decide) (trivial) (fun a F => ?_)
      refine sqoff2 (e := 22) (o_g 24 (.binOp .lss 3 (.tmp 23) (.const (.int .i64 1)) 3) 4 14 false (by kernel_rfl)) (by kernel_rfl) (.inl rfl) F (by decide) (trivial) (fun a F => ?_)
      refine q2 (o_s 25 (.pick (.tmp 22) (.const (.bool true)) (.tmp 24)) 4 (by kernel_rfl)) F (by decide) (v := .bool true) (x_pickT (F.slot rfl) rfl) (fun a F => ?_)
      refine q2 (o_s 26 (.move (.tmp 25)) 4 (by kernel_rfl)) F (by decide) (x_move (F.slot rfl)) (fun a F => ?_)
      refine sqoff2 (e := 26) (o_g 27 (.move (.tmp 2)) 3 18 false (by kernel_rfl)) (by kernel_rfl) (.inl rfl) F (by decide) (trivial) (fun a F => ?_)
      refine sqoff2 (e := 26) (o_g 28 (.binOp .gtr 3 (.tmp 27) (.const (.int .i64 1000)) 3) 4 18 false (by kernel_rfl)) (by kernel_rfl) (.inl rfl) F (by decide) (trivial) (fun a F => ?_)
      refine q2 (o_s 29 (.pick (.tmp 26) (.const (.bool true)) (.tmp 28)) 4 (by kernel_rfl)) F (by decide) (v := .bool true) (x_pickT (F.slot rfl) rfl) (fun a F => ?_)
      unfold wpSeq
      refine t_normal ?_
      refine c_yes (c := .tmp 29) (by kernel_rfl) (F.slot rfl) ?_
      refine c_seq (by kernel_rfl) ?_
      refine c_text (id := 2) (by kernel_rfl) [(0, 2), (1, 2)] (by kernel_rfl) ?_
      refine q2 (o_s 6 (.assign (.const (.pointer none))) 23 (by kernel_rfl)) F (by decide) (v := .pointer none) (x_assign rfl) (fun a F => ?_)
      refine q2 (o_s 7 (.assign (.const (.int .i64 2))) 24 (by kernel_rfl)) F (by decide) (v := .int .i64 2) (x_assign rfl) (fun a F => ?_)
      unfold wpSeq
      refine t_normal ?_
      refine c_ret (by kernel_rfl) ?_
      refine t_ret ?_
      refine p_list (rs := [.tmp 6, .tmp 7]) (vs := [.pointer none, .int .i64 2]) Tryd.results16 (by simp) F (Vals.tmp' F rfl (Vals.tmp' F rfl .nil)) ?_
      exact ⟨fun h => absurd h (by unfold SealOk; omega), fun _ => ⟨rfl, H.ends⟩⟩
    · have hb2d := of_decide_eq_false hb2
      have F := F.at 14 rfl (v' := .bool false) (congrArg Value.bool hb2)
      refine sq2 (W' := W) (o_g 15 (.move (.tmp 1)) 3 6 false (by kernel_rfl)) ⟨14, by kernel_rfl, rfl⟩ F (by decide) (v := .int .i64 s0) (x_move (F.slot rfl)) (fun _ => trivial) (fun a F => ?_)
      refine sq2 (W' := W) (o_g 16 (.binOp .lss 3 (.tmp 15) (.const (.int .i64 1)) 3) 4 6 false (by kernel_rfl)) ⟨14, by kernel_rfl, rfl⟩ F (by decide) (v := .bool (decide (s0 < (1 : Int)))) (x_int (F.slot rfl) rfl rfl) (fun _ => trivial) (fun a F => ?_)
      refine q2 (o_s 17 (.pick (.tmp 14) (.const (.bool true)) (.tmp 16)) 4 (by kernel_rfl)) F (by decide) (v := .bool (decide (s0 < (1 : Int)))) (x_pickF (F.slot rfl) (F.slot rfl)) (fun a F => ?_)
      refine q2 (o_s 18 (.move (.tmp 17)) 4 (by kernel_rfl)) F (by decide) (x_move (F.slot rfl)) (fun a F => ?_)
      rcases bool_or (decide (s0 < (1 : Int))) with hb3 | hb3
      · have hb3d := of_decide_eq_true hb3
        have F := F.at 18 rfl (v' := .bool true) (congrArg Value.bool hb3)
        refine sqoff2 (e := 18) (o_g 19 (.move (.tmp 1)) 3 10 false (by kernel_rfl)) (by kernel_rfl) (.inl rfl) F (by decide) (trivial) (fun a F => ?_)
        refine sqoff2 (e := 18) (o_g 20 (.binOp .gtr 3 (.tmp 19) (.const (.int .i64 16)) 3) 4 10 false (by kernel_rfl)) (by kernel_rfl) (.inl rfl) F (by decide) (trivial) (fun a F => ?_)
        refine q2 (o_s 21 (.pick (.tmp 18) (.const (.bool true)) (.tmp 20)) 4 (by kernel_rfl)) F (by decide) (v := .bool true) (x_pickT (F.slot rfl) rfl) (fun a F => ?_)
        refine q2 (o_s 22 (.move (.tmp 21)) 4 (by kernel_rfl)) F (by decide) (x_move (F.slot rfl)) (fun a F => ?_)
        refine sqoff2 (e := 22) (o_g 23 (.move (.tmp 2)) 3 14 false (by kernel_rfl)) (by kernel_rfl) (.inl rfl) F (by decide) (trivial) (fun a F => ?_)
        refine sqoff2 (e := 22) (o_g 24 (.binOp .lss 3 (.tmp 23) (.const (.int .i64 1)) 3) 4 14 false (by kernel_rfl)) (by kernel_rfl) (.inl rfl) F (by decide) (trivial) (fun a F => ?_)
        refine q2 (o_s 25 (.pick (.tmp 22) (.const (.bool true)) (.tmp 24)) 4 (by kernel_rfl)) F (by decide) (v := .bool true) (x_pickT (F.slot rfl) rfl) (fun a F => ?_)
        refine q2 (o_s 26 (.move (.tmp 25)) 4 (by kernel_rfl)) F (by decide) (x_move (F.slot rfl)) (fun a F => ?_)
        refine sqoff2 (e := 26) (o_g 27 (.move (.tmp 2)) 3 18 false (by kernel_rfl)) (by kernel_rfl) (.inl rfl) F (by decide) (trivial) (fun a F => ?_)
        refine sqoff2 (e := 26) (o_g 28 (.binOp .gtr 3 (.tmp 27) (.const (.int .i64 1000)) 3) 4 18 false (by kernel_rfl)) (by kernel_rfl) (.inl rfl) F (by decide) (trivial) (fun a F => ?_)
        refine q2 (o_s 29 (.pick (.tmp 26) (.const (.bool true)) (.tmp 28)) 4 (by kernel_rfl)) F (by decide) (v := .bool true) (x_pickT (F.slot rfl) rfl) (fun a F => ?_)
        unfold wpSeq
        refine t_normal ?_
        refine c_yes (c := .tmp 29) (by kernel_rfl) (F.slot rfl) ?_
        refine c_seq (by kernel_rfl) ?_
        refine c_text (id := 2) (by kernel_rfl) [(0, 2), (1, 2)] (by kernel_rfl) ?_
        refine q2 (o_s 6 (.assign (.const (.pointer none))) 23 (by kernel_rfl)) F (by decide) (v := .pointer none) (x_assign rfl) (fun a F => ?_)
        refine q2 (o_s 7 (.assign (.const (.int .i64 2))) 24 (by kernel_rfl)) F (by decide) (v := .int .i64 2) (x_assign rfl) (fun a F => ?_)
        unfold wpSeq
        refine t_normal ?_
        refine c_ret (by kernel_rfl) ?_
        refine t_ret ?_
        refine p_list (rs := [.tmp 6, .tmp 7]) (vs := [.pointer none, .int .i64 2]) Tryd.results16 (by simp) F (Vals.tmp' F rfl (Vals.tmp' F rfl .nil)) ?_
        exact ⟨fun h => absurd h (by unfold SealOk; omega), fun _ => ⟨rfl, H.ends⟩⟩
      · have hb3d := of_decide_eq_false hb3
        have F := F.at 18 rfl (v' := .bool false) (congrArg Value.bool hb3)
        refine sq2 (W' := W) (o_g 19 (.move (.tmp 1)) 3 10 false (by kernel_rfl)) ⟨18, by kernel_rfl, rfl⟩ F (by decide) (v := .int .i64 s0) (x_move (F.slot rfl)) (fun _ => trivial) (fun a F => ?_)
        refine sq2 (W' := W) (o_g 20 (.binOp .gtr 3 (.tmp 19) (.const (.int .i64 16)) 3) 4 10 false (by kernel_rfl)) ⟨18, by kernel_rfl, rfl⟩ F (by decide) (v := .bool (decide (s0 > (16 : Int)))) (x_int (F.slot rfl) rfl rfl) (fun _ => trivial) (fun a F => ?_)
        refine q2 (o_s 21 (.pick (.tmp 18) (.const (.bool true)) (.tmp 20)) 4 (by kernel_rfl)) F (by decide) (v := .bool (decide (s0 > (16 : Int)))) (x_pickF (F.slot rfl) (F.slot rfl)) (fun a F => ?_)
        refine q2 (o_s 22 (.move (.tmp 21)) 4 (by kernel_rfl)) F (by decide) (x_move (F.slot rfl)) (fun a F => ?_)
        rcases bool_or (decide (s0 > (16 : Int))) with hb4 | hb4
        · have hb4d := of_decide_eq_true hb4
          have F := F.at 22 rfl (v' := .bool true) (congrArg Value.bool hb4)
          refine sqoff2 (e := 22) (o_g 23 (.move (.tmp 2)) 3 14 false (by kernel_rfl)) (by kernel_rfl) (.inl rfl) F (by decide) (trivial) (fun a F => ?_)
          refine sqoff2 (e := 22) (o_g 24 (.binOp .lss 3 (.tmp 23) (.const (.int .i64 1)) 3) 4 14 false (by kernel_rfl)) (by kernel_rfl) (.inl rfl) F (by decide) (trivial) (fun a F => ?_)
          refine q2 (o_s 25 (.pick (.tmp 22) (.const (.bool true)) (.tmp 24)) 4 (by kernel_rfl)) F (by decide) (v := .bool true) (x_pickT (F.slot rfl) rfl) (fun a F => ?_)
          refine q2 (o_s 26 (.move (.tmp 25)) 4 (by kernel_rfl)) F (by decide) (x_move (F.slot rfl)) (fun a F => ?_)
          refine sqoff2 (e := 26) (o_g 27 (.move (.tmp 2)) 3 18 false (by kernel_rfl)) (by kernel_rfl) (.inl rfl) F (by decide) (trivial) (fun a F => ?_)
          refine sqoff2 (e := 26) (o_g 28 (.binOp .gtr 3 (.tmp 27) (.const (.int .i64 1000)) 3) 4 18 false (by kernel_rfl)) (by kernel_rfl) (.inl rfl) F (by decide) (trivial) (fun a F => ?_)
          refine q2 (o_s 29 (.pick (.tmp 26) (.const (.bool true)) (.tmp 28)) 4 (by kernel_rfl)) F (by decide) (v := .bool true) (x_pickT (F.slot rfl) rfl) (fun a F => ?_)
          unfold wpSeq
          refine t_normal ?_
          refine c_yes (c := .tmp 29) (by kernel_rfl) (F.slot rfl) ?_
          refine c_seq (by kernel_rfl) ?_
          refine c_text (id := 2) (by kernel_rfl) [(0, 2), (1, 2)] (by kernel_rfl) ?_
          refine q2 (o_s 6 (.assign (.const (.pointer none))) 23 (by kernel_rfl)) F (by decide) (v := .pointer none) (x_assign rfl) (fun a F => ?_)
          refine q2 (o_s 7 (.assign (.const (.int .i64 2))) 24 (by kernel_rfl)) F (by decide) (v := .int .i64 2) (x_assign rfl) (fun a F => ?_)
          unfold wpSeq
          refine t_normal ?_
          refine c_ret (by kernel_rfl) ?_
          refine t_ret ?_
          refine p_list (rs := [.tmp 6, .tmp 7]) (vs := [.pointer none, .int .i64 2]) Tryd.results16 (by simp) F (Vals.tmp' F rfl (Vals.tmp' F rfl .nil)) ?_
          exact ⟨fun h => absurd h (by unfold SealOk; omega), fun _ => ⟨rfl, H.ends⟩⟩
        · have hb4d := of_decide_eq_false hb4
          have F := F.at 22 rfl (v' := .bool false) (congrArg Value.bool hb4)
          refine sq2 (W' := W) (o_g 23 (.move (.tmp 2)) 3 14 false (by kernel_rfl)) ⟨22, by kernel_rfl, rfl⟩ F (by decide) (v := .int .i64 t0) (x_move (F.slot rfl)) (fun _ => trivial) (fun a F => ?_)
          refine sq2 (W' := W) (o_g 24 (.binOp .lss 3 (.tmp 23) (.const (.int .i64 1)) 3) 4 14 false (by kernel_rfl)) ⟨22, by kernel_rfl, rfl⟩ F (by decide) (v := .bool (decide (t0 < (1 : Int)))) (x_int (F.slot rfl) rfl rfl) (fun _ => trivial) (fun a F => ?_)
          refine q2 (o_s 25 (.pick (.tmp 22) (.const (.bool true)) (.tmp 24)) 4 (by kernel_rfl)) F (by decide) (v := .bool (decide (t0 < (1 : Int)))) (x_pickF (F.slot rfl) (F.slot rfl)) (fun a F => ?_)
          refine q2 (o_s 26 (.move (.tmp 25)) 4 (by kernel_rfl)) F (by decide) (x_move (F.slot rfl)) (fun a F => ?_)
          rcases bool_or (decide (t0 < (1 : Int))) with hb5 | hb5
          · have hb5d := of_decide_eq_true hb5
            have F := F.at 26 rfl (v' := .bool true) (congrArg Value.bool hb5)
            refine sqoff2 (e := 26) (o_g 27 (.move (.tmp 2)) 3 18 false (by kernel_rfl)) (by kernel_rfl) (.inl rfl) F (by decide) (trivial) (fun a F => ?_)
            refine sqoff2 (e := 26) (o_g 28 (.binOp .gtr 3 (.tmp 27) (.const (.int .i64 1000)) 3) 4 18 false (by kernel_rfl)) (by kernel_rfl) (.inl rfl) F (by decide) (trivial) (fun a F => ?_)
            refine q2 (o_s 29 (.pick (.tmp 26) (.const (.bool true)) (.tmp 28)) 4 (by kernel_rfl)) F (by decide) (v := .bool true) (x_pickT (F.slot rfl) rfl) (fun a F => ?_)
            unfold wpSeq
            refine t_normal ?_
            refine c_yes (c := .tmp 29) (by kernel_rfl) (F.slot rfl) ?_
            refine c_seq (by kernel_rfl) ?_
            refine c_text (id := 2) (by kernel_rfl) [(0, 2), (1, 2)] (by kernel_rfl) ?_
            refine q2 (o_s 6 (.assign (.const (.pointer none))) 23 (by kernel_rfl)) F (by decide) (v := .pointer none) (x_assign rfl) (fun a F => ?_)
            refine q2 (o_s 7 (.assign (.const (.int .i64 2))) 24 (by kernel_rfl)) F (by decide) (v := .int .i64 2) (x_assign rfl) (fun a F => ?_)
            unfold wpSeq
            refine t_normal ?_
            refine c_ret (by kernel_rfl) ?_
            refine t_ret ?_
            refine p_list (rs := [.tmp 6, .tmp 7]) (vs := [.pointer none, .int .i64 2]) Tryd.results16 (by simp) F (Vals.tmp' F rfl (Vals.tmp' F rfl .nil)) ?_
            exact ⟨fun h => absurd h (by unfold SealOk; omega), fun _ => ⟨rfl, H.ends⟩⟩
          · have hb5d := of_decide_eq_false hb5
            have F := F.at 26 rfl (v' := .bool false) (congrArg Value.bool hb5)
            refine sq2 (W' := W) (o_g 27 (.move (.tmp 2)) 3 18 false (by kernel_rfl)) ⟨26, by kernel_rfl, rfl⟩ F (by decide) (v := .int .i64 t0) (x_move (F.slot rfl)) (fun _ => trivial) (fun a F => ?_)
            refine sq2 (W' := W) (o_g 28 (.binOp .gtr 3 (.tmp 27) (.const (.int .i64 1000)) 3) 4 18 false (by kernel_rfl)) ⟨26, by kernel_rfl, rfl⟩ F (by decide) (v := .bool (decide (t0 > (1000 : Int)))) (x_int (F.slot rfl) rfl rfl) (fun _ => trivial) (fun a F => ?_)
            refine q2 (o_s 29 (.pick (.tmp 26) (.const (.bool true)) (.tmp 28)) 4 (by kernel_rfl)) F (by decide) (v := .bool (decide (t0 > (1000 : Int)))) (x_pickF (F.slot rfl) (F.slot rfl)) (fun a F => ?_)
            unfold wpSeq
            refine t_normal ?_
            rcases bool_or (decide (t0 > (1000 : Int))) with hb6 | hb6
            · have hb6d := of_decide_eq_true hb6
              have F := F.at 29 rfl (v' := .bool true) (congrArg Value.bool hb6)
              refine c_yes (c := .tmp 29) (by kernel_rfl) (F.slot rfl) ?_
              refine c_seq (by kernel_rfl) ?_
              refine c_text (id := 2) (by kernel_rfl) [(0, 2), (1, 2)] (by kernel_rfl) ?_
              refine q2 (o_s 6 (.assign (.const (.pointer none))) 23 (by kernel_rfl)) F (by decide) (v := .pointer none) (x_assign rfl) (fun a F => ?_)
              refine q2 (o_s 7 (.assign (.const (.int .i64 2))) 24 (by kernel_rfl)) F (by decide) (v := .int .i64 2) (x_assign rfl) (fun a F => ?_)
              unfold wpSeq
              refine t_normal ?_
              refine c_ret (by kernel_rfl) ?_
              refine t_ret ?_
              refine p_list (rs := [.tmp 6, .tmp 7]) (vs := [.pointer none, .int .i64 2]) Tryd.results16 (by simp) F (Vals.tmp' F rfl (Vals.tmp' F rfl .nil)) ?_
              exact ⟨fun h => absurd h (by unfold SealOk; omega), fun _ => ⟨rfl, H.ends⟩⟩
            · have hb6d := of_decide_eq_false hb6
              have F := F.at 29 rfl (v' := .bool false) (congrArg Value.bool hb6)
              refine c_no (c := .tmp 29) (by kernel_rfl) (F.slot rfl) ?_
              refine c_skip (by kernel_rfl) ?_
              refine t_normal ?_
              refine c_seq (by kernel_rfl) ?_
              refine c_text (id := 3) (by kernel_rfl) [(0, 2), (1, 2), (2, 2), (3, 2), (4, 2), (5, 2), (6, 2)] (by kernel_rfl) ?_
              refine q2 (o_s 30 (.move (.tmp 0)) 3 (by kernel_rfl)) F (by decide) (x_move (F.slot rfl)) (fun a F => ?_)
              refine q2 (o_s 31 (.move (.tmp 1)) 3 (by kernel_rfl)) F (by decide) (x_move (F.slot rfl)) (fun a F => ?_)
              refine q2 (o_s 32 (.move (.tmp 2)) 3 (by kernel_rfl)) F (by decide) (x_move (F.slot rfl)) (fun a F => ?_)
              refine q2 (o_s 33 (.build 72 #[(0, (.tmp 30)), (1, (.tmp 31)), (2, (.tmp 32))]) 72 (by kernel_rfl)) F (by decide) (v := .agg #[.int .i64 a0, .int .i64 s0, .int .i64 t0, .slice none 0 0, .int .i64 0, .int .i64 0]) (by simp [ex, execOp, Instr.build, Tryd.zeroValue72, run_underlying Tryd.underlying72, Instr.fill, Value.cells, F.slot (i := 30) rfl, F.slot (i := 31) rfl, F.slot (i := 32) rfl, Tryd.sizeOf3, Tryd.sizeOf38]) (fun a F => ?_)
              refine sq_new (o_s 34 (.box 72 (.tmp 33)) 23 (by kernel_rfl)) trivial F (by decide) H [.int .i64 a0, .int .i64 s0, .int .i64 t0, .slice none 0 0, .int .i64 0, .int .i64 0] 72 (x_box (F.slot rfl) rfl) ?_
              intro g7 W a hg7 H F
              refine ⟨(fun _ => trivial), ?_⟩
              refine q2 (o_s 6 (.assign (.tmp 34)) 23 (by kernel_rfl)) F (by decide) (v := .pointer (some ⟨g7, 0, none⟩)) (x_assign (F.slot rfl)) (fun a F => ?_)
              refine q2 (o_s 7 (.assign (.const (.int .i64 0))) 24 (by kernel_rfl)) F (by decide) (v := .int .i64 0) (x_assign rfl) (fun a F => ?_)
              unfold wpSeq
              have H : St w (fun _ => False) (fun _ => True) [Asn.blk g7 [.int .i64 a0, .int .i64 s0, .int .i64 t0, .slice none 0 0, .int .i64 0, .int .i64 0] 72] W := H
              refine t_normal ?_
              refine c_ret (by kernel_rfl) ?_
              refine p_list (rs := [.tmp 6, .tmp 7]) (vs := [.pointer (some ⟨g7, 0, none⟩), .int .i64 0]) Tryd.results16 (by simp) F (Vals.tmp' F rfl (Vals.tmp' F rfl .nil)) ?_
              exact ⟨fun _ => ⟨g7, rfl, hg7, H.blk 0 rfl, H.ends⟩, fun h => absurd (show SealOk a0 s0 t0 by unfold SealOk; omega) h⟩
end Go.Proofs.YtndicjikjcifaaaDoor

/- '<=' on strings, told by '<'. -/
namespace Go.Proofs.YtndicjikjcifaaaDoor
open Go
end Go.Proofs.YtndicjikjcifaaaDoor

/-! ### 56. Four, five, six operations that may come up next, in any order -/
namespace Go.Proofs.YtndicjikjcifaaaDoorW.PrintLast
section
variable {P : Program} {ops : Array Oper} {Q : Exit → Act → World → Prop} {md : Region.Mode} {S : World → Prop} {ds : List Nat} {T : Bool × List (List Nat × List Nat)}
end
end Go.Proofs.YtndicjikjcifaaaDoorW.PrintLast

/-! ### 52. A row that stays read whatever happens to a block (a set of blocks) doesn't lie there -/
namespace Go.Proofs.YtndicjikjcifaaaDoorW.PrintWords
open Go.RowKit
namespace Kd
section
variable {α : Type} {d : Kd α} {W : World} {g n : Nat} {S ok : Nat → Prop} {A : Option Addr} {ad : Addr} {xs : List α}
end
end Kd
end Go.Proofs.YtndicjikjcifaaaDoorW.PrintWords

/-! ### 54. Behind orders that were drawn quietly: the same facts at the world's new name; a flat row's foot -/
namespace Go.Proofs.YtndicjikjcifaaaDoorW.PrintWords
open Go.RowKit
section
variable {w w' u : World} {m B g : Nat} {o : Obj} {row : Option Nat} {S : Nat → Prop} {a : Addr} {v : Value}
end
namespace Kd
section
variable {α : Type} {d : Kd α} {e base n m : Nat} {ok : Nat → Prop} {w w' : World} {v : Value} {A : Option Addr} {xs : List α}
end
end Kd
end Go.Proofs.YtndicjikjcifaaaDoorW.PrintWords

/-! ### 53. '==' of structs as_ one Bool -/
namespace Go.Proofs.YtndicjikjcifaaaDoorW.PrintWords
open Go.RowKit
section
variable {P : Program} {d : Nat} {xs ys : Array Value} {f : Field} {fs : List Field} {a b : Value} {r s : Bool} {w : World}
end
end Go.Proofs.YtndicjikjcifaaaDoorW.PrintWords

/-! ### 55. Reps told from the front, no append: for rows of one-cell elements and of wider ones -/
namespace Go.Proofs.YtndicjikjcifaaaDoorW.PrintWords
theorem Reps.one {α : Type} {R : α → List Value → Prop} {ps : List α} {cs : List Value} {p : α} {v : Value} (hp : R p [v]) (h : Reps R 1 ps cs) : Reps R 1 (p :: ps) (v :: cs) := by
  refine ⟨by simp [h.1], fun j q hq => ?_⟩
  cases j with
  | zero =>
    simp only [List.getElem?_cons_zero, Option.some.injEq] at hq
    subst hq
    simpa using hp
  | succ j =>
    simp only [List.getElem?_cons_succ] at hq
    have h1 := h.2 j q hq
    simpa [Nat.mul_one] using h1
theorem Reps.front {α : Type} {R : α → List Value → Prop} {size : Nat} {ps : List α} {cs c all : List Value} {p : α} (hp : R p c) (hc : c.length = size) (h : Reps R size ps cs) (ha : c ++ cs = all) : Reps R size (p :: ps) all := by
  subst ha
  refine ⟨by rw [List.length_append, hc, h.1, List.length_cons, Nat.succ_mul, Nat.add_comm], fun j q hq => ?_⟩
  cases j with
  | zero =>
    simp only [List.getElem?_cons_zero, Option.some.injEq] at hq
    subst hq
    rw [Nat.zero_mul, List.drop_zero, List.take_append_of_le_length (by omega), List.take_of_length_le (by omega)]
    exact hp
  | succ j =>
    simp only [List.getElem?_cons_succ] at hq
    have h1 := h.2 j q hq
    rw [Nat.succ_mul, List.drop_append, List.drop_of_length_le (by rw [hc]; exact Nat.le_add_left _ _), List.nil_append, hc, Nat.add_sub_cancel]
    exact h1
theorem Reps.c2 {α : Type} {R : α → List Value → Prop} {ps : List α} {cs : List Value} {p : α} {va vb : Value} (hp : R p [va, vb]) (h : Reps R 2 ps cs) : Reps R 2 (p :: ps) (va :: vb :: cs) := Reps.front hp rfl h rfl
theorem Reps.c3 {α : Type} {R : α → List Value → Prop} {ps : List α} {cs : List Value} {p : α} {va vb vc : Value} (hp : R p [va, vb, vc]) (h : Reps R 3 ps cs) : Reps R 3 (p :: ps) (va :: vb :: vc :: cs) := Reps.front hp rfl h rfl
theorem Reps.c4 {α : Type} {R : α → List Value → Prop} {ps : List α} {cs : List Value} {p : α} {va vb vc vd : Value} (hp : R p [va, vb, vc, vd]) (h : Reps R 4 ps cs) : Reps R 4 (p :: ps) (va :: vb :: vc :: vd :: cs) := Reps.front hp rfl h rfl
theorem Reps.c5 {α : Type} {R : α → List Value → Prop} {ps : List α} {cs : List Value} {p : α} {va vb vc vd ve : Value} (hp : R p [va, vb, vc, vd, ve]) (h : Reps R 5 ps cs) : Reps R 5 (p :: ps) (va :: vb :: vc :: vd :: ve :: cs) := Reps.front hp rfl h rfl
theorem Reps.c6 {α : Type} {R : α → List Value → Prop} {ps : List α} {cs : List Value} {p : α} {va vb vc vd ve vf : Value} (hp : R p [va, vb, vc, vd, ve, vf]) (h : Reps R 6 ps cs) : Reps R 6 (p :: ps) (va :: vb :: vc :: vd :: ve :: vf :: cs) := Reps.front hp rfl h rfl
theorem Reps.c7 {α : Type} {R : α → List Value → Prop} {ps : List α} {cs : List Value} {p : α} {va vb vc vd ve vf vg : Value} (hp : R p [va, vb, vc, vd, ve, vf, vg]) (h : Reps R 7 ps cs) : Reps R 7 (p :: ps) (va :: vb :: vc :: vd :: ve :: vf :: vg :: cs) := Reps.front hp rfl h rfl
theorem Reps.c8 {α : Type} {R : α → List Value → Prop} {ps : List α} {cs : List Value} {p : α} {va vb vc vd ve vf vg vh : Value} (hp : R p [va, vb, vc, vd, ve, vf, vg, vh]) (h : Reps R 8 ps cs) : Reps R 8 (p :: ps) (va :: vb :: vc :: vd :: ve :: vf :: vg :: vh :: cs) := Reps.front hp rfl h rfl
theorem Reps.c10 {α : Type} {R : α → List Value → Prop} {ps : List α} {cs : List Value} {p : α} {va vb vc vd ve vf vg vh vi vj : Value} (hp : R p [va, vb, vc, vd, ve, vf, vg, vh, vi, vj]) (h : Reps R 10 ps cs) : Reps R 10 (p :: ps) (va :: vb :: vc :: vd :: ve :: vf :: vg :: vh :: vi :: vj :: cs) := Reps.front hp rfl h rfl
end Go.Proofs.YtndicjikjcifaaaDoorW.PrintWords

/-! ### 57. A region of open order by ONE relation over what is listed so far: each operation is shown once, whatever came up before it -/
namespace Go.Proofs.YtndicjikjcifaaaDoorW.PrintLast
def up (b : Nat → Bool) (i : Nat) : Nat → Bool := fun j => if j = i then true else b j
section
variable {P : Program} {ops : Array Oper} {Q : Exit → Act → World → Prop} {md : Region.Mode} {T : Bool × List (List Nat × List Nat)} {B : List Nat} {O : List Nat} {b : Nat → Bool} {i j n : Nat}
/-! The frame: what is listed has its destination filled. -/
end
end Go.Proofs.YtndicjikjcifaaaDoorW.PrintLast

namespace Go.Proofs.YtndicjikjcifaaaDoorW.PrintWords
open Go.RowKit
end Go.Proofs.YtndicjikjcifaaaDoorW.PrintWords
namespace Go.Proofs.YtndicjikjcifaaaDoorW.PrintLast
section
variable {ops : Array Oper} {a : Act} {o og : Oper} {g : Nat} {t : Tmp} {u : Bool}
end
end Go.Proofs.YtndicjikjcifaaaDoorW.PrintLast

/-! ### 58. A guarded operation whose guard is known to want it: the same goal without the guard -/
namespace Go.Proofs.YtndicjikjcifaaaDoorW.PrintWords
open Go.RowKit
section
variable {P : Program} {ops : Array Oper} {rest : List Oper} {o : Oper} {a : Act} {Q : Exit → Act → World → Prop} {W : World}
end
end Go.Proofs.YtndicjikjcifaaaDoorW.PrintWords

namespace Go.Proofs.YtndicjikjcifaaaDoor.PB
open Go.RowKit Go.Proofs.YtndicjikjcifaaaDoorW.PrintWords Go.Proofs.YtndicjikjcifaaaDoorW.PrintLast Go.Proofs.YtndicjikjcifaaaDoorW.PrintMore
attribute [local go_sem] max2_int min2_int max_two min_two max_three min_three max_four min_four   -- for this text's walks alone
set_option linter.unusedVariables false
set_option linter.unusedSimpArgs false
def errW : Option Int → Value
  | none => .nilIface
  | some c => .iface 0 (.int .i64 c)
theorem errW_none : errW none = .nilIface := rfl
theorem errW_some (c : Int) : errW (some c) = .iface 0 (.int .i64 c) := rfl
theorem info9 : (Tryd.prog.info? 9).map (fun i => (i.zero, i.size, i.bytes)) = some (some (.string ⟨#[]⟩), 1, 16) := by kernel_rfl
theorem info33 : (Tryd.prog.info? 33).map (fun i => (i.zero, i.size, i.bytes)) = some (some (.agg #[(.int .i64 0), (.string ⟨#[]⟩), (.string ⟨#[]⟩), (.int .u64 0), (.int .u64 0), (.string ⟨#[]⟩), (.string ⟨#[]⟩), (.slice none 0 0), (.slice none 0 0)]), 9, 136) := by kernel_rfl
-- the values' own types
/-! #### struct type 33 -/
structure S33 where
  f0 : Int
  f1 : ByteArray
  f2 : ByteArray
  f3 : Int
  f4 : Int
  f5 : ByteArray
  f6 : ByteArray
  f7 : (List ByteArray)
  f8 : (List ByteArray)
def z33 : S33 := ⟨(0 : Int), (⟨#[]⟩ : ByteArray), (⟨#[]⟩ : ByteArray), (0 : Int), (0 : Int), (⟨#[]⟩ : ByteArray), (⟨#[]⟩ : ByteArray), ([] : List ByteArray), ([] : List ByteArray)⟩
def k33 : Kd S33 := Kd.iso (Kd.pair (Kd.int .i64) (Kd.pair Kd.string (Kd.pair Kd.string (Kd.pair (Kd.int .u64) (Kd.pair (Kd.int .u64) (Kd.pair Kd.string (Kd.pair Kd.string (Kd.pair (Kd.slice 9 Kd.string) (Kd.slice 9 Kd.string))))))))) (fun x : S33 => (x.f0, x.f1, x.f2, x.f3, x.f4, x.f5, x.f6, x.f7, x.f8))
theorem k33_open {w : World} {x : S33} {cs : List Value} (h : k33.K w x cs) : ∃ A7 c7 A8 c8, cs = [.int .i64 x.f0, .string x.f1, .string x.f2, .int .u64 x.f3, .int .u64 x.f4, .string x.f5, .string x.f6, .slice A7 x.f7.length c7, .slice A8 x.f8.length c8] ∧ x.f7.length ≤ c7 ∧ Kd.string.C w A7 x.f7.length x.f7 ∧ x.f8.length ≤ c8 ∧ Kd.string.C w A8 x.f8.length x.f8 := by
  obtain ⟨_, _, rfl, rfl, ⟨_, _, rfl, rfl, ⟨_, _, rfl, rfl, ⟨_, _, rfl, rfl, ⟨_, _, rfl, rfl, ⟨_, _, rfl, rfl, ⟨_, _, rfl, rfl, ⟨_, _, rfl, ⟨A7, c7, rfl, l7, g7⟩, ⟨A8, c8, rfl, l8, g8⟩⟩⟩⟩⟩⟩⟩⟩⟩ := h
  exact ⟨A7, c7, A8, c8, rfl, l7, g7, l8, g8⟩
theorem k33_mk (w : World) (x : S33) {A7 : Option Addr} {c7 : Nat} (l7 : x.f7.length ≤ c7) (g7 : Kd.string.C w A7 x.f7.length x.f7) {A8 : Option Addr} {c8 : Nat} (l8 : x.f8.length ≤ c8) (g8 : Kd.string.C w A8 x.f8.length x.f8) : k33.K w x [.int .i64 x.f0, .string x.f1, .string x.f2, .int .u64 x.f3, .int .u64 x.f4, .string x.f5, .string x.f6, .slice A7 x.f7.length c7, .slice A8 x.f8.length c8] := ⟨[.int .i64 x.f0], [.string x.f1, .string x.f2, .int .u64 x.f3, .int .u64 x.f4, .string x.f5, .string x.f6, .slice A7 x.f7.length c7, .slice A8 x.f8.length c8], rfl, rfl, ⟨[.string x.f1], [.string x.f2, .int .u64 x.f3, .int .u64 x.f4, .string x.f5, .string x.f6, .slice A7 x.f7.length c7, .slice A8 x.f8.length c8], rfl, rfl, ⟨[.string x.f2], [.int .u64 x.f3, .int .u64 x.f4, .string x.f5, .string x.f6, .slice A7 x.f7.length c7, .slice A8 x.f8.length c8], rfl, rfl, ⟨[.int .u64 x.f3], [.int .u64 x.f4, .string x.f5, .string x.f6, .slice A7 x.f7.length c7, .slice A8 x.f8.length c8], rfl, rfl, ⟨[.int .u64 x.f4], [.string x.f5, .string x.f6, .slice A7 x.f7.length c7, .slice A8 x.f8.length c8], rfl, rfl, ⟨[.string x.f5], [.string x.f6, .slice A7 x.f7.length c7, .slice A8 x.f8.length c8], rfl, rfl, ⟨[.string x.f6], [.slice A7 x.f7.length c7, .slice A8 x.f8.length c8], rfl, rfl, ⟨[.slice A7 x.f7.length c7], [.slice A8 x.f8.length c8], rfl, ⟨A7, c7, rfl, l7, g7⟩, ⟨A8, c8, rfl, l8, g8⟩⟩⟩⟩⟩⟩⟩⟩⟩
def rd_T33 (xs : List S33) (i : Int) : S33 := xs.getD i.toNat z33
end Go.Proofs.YtndicjikjcifaaaDoor.PB

/- A queue of transactions in memory: the cells are owned, what the cells lead to is read. No program's text in sight. -/
namespace Go.Proofs.YtndicjikjcifaaaDoor
open Go.RowKit Go.Proofs.YtndicjikjcifaaaDoorW.PrintWords Go.Proofs.YtndicjikjcifaaaDoorW.PrintLast
open PB (S33 k33)
abbrev txc (t : S33) (A : Option Addr) (c : Nat) (B : Option Addr) (d : Nat) : List Value := [.int .i64 t.f0, .string t.f1, .string t.f2, .int .u64 t.f3, .int .u64 t.f4, .string t.f5, .string t.f6, .slice A t.f7.length c, .slice B t.f8.length d]
set_option linter.unusedVariables false
set_option linter.unusedSimpArgs false
def TQ (X : List Nat) (base : Nat) (w : World) (v : Value) (xs : List S33) : Prop :=
  ∃ cs : List (List Value), Kd.Q (Kd.raw 9) 33 w base (fun k => k ∉ X) v cs ∧ cs.length = xs.length ∧
    ∀ (j : Nat) (t : S33) (c : List Value), xs[j]? = some t → cs[j]? = some c → Kd.FK k33 w (fun k => k ∉ X ∧ some k ≠ v.ownBlock) t c
section
variable {X Y : List Nat} {base : Nat} {w w1 : World} {v : Value} {xs : List S33}
theorem TQ.nil (X : List Nat) (base : Nat) (w : World) : TQ X base w (.slice none 0 0) [] := ⟨[], Kd.Q_nil _ _ _ _ _, rfl, fun j t c h => by simp at h⟩
theorem TQ.step (h : TQ X base w v xs) (hm : ∀ k, k ∉ X → k < w.heap.size → w1.heap[k]? = w.heap[k]?) : TQ X base w1 v xs := by
  obtain ⟨cs, h1, h2, h3⟩ := h
  exact ⟨cs, Kd.Q_step h1 hm, h2, fun j t c a b => Kd.FK_step (h3 j t c a b) (fun k hk => hm k hk.1)⟩
theorem TQ.below (h : TQ X base w v xs) (hb : Below w.heap.size w w1) : TQ X base w1 v xs := h.step (fun k _ hk => hb.block k hk)
theorem TQ.only (h : TQ X base w v xs) {S : Nat → Prop} (ho : Only S w w1) (hS : ∀ k, S k → k ∈ X) : TQ X base w1 v xs := h.step (fun k hk hl => ho.block k hl (fun hs => hk (hS k hs)))
theorem TQ.set (h : TQ X base w v xs) {g : Nat} (hg : g ∈ X) (j : Nat) (u : Value) : TQ X base (w.setCell ⟨g, j, none⟩ u) v xs := h.step (fun k hk _ => Below.heap_setCell _ _ _ _ (fun e => hk (e ▸ hg)))
theorem TQ.less (h : TQ X base w v xs) (hs : ∀ k, k ∈ Y → k ∈ X) : TQ Y base w v xs := by
  obtain ⟨cs, h1, h2, h3⟩ := h
  exact ⟨cs, Kd.Q_mono h1 (fun k hk hy => hk (hs k hy)), h2, fun j t c a b => Kd.FK_mono (h3 j t c a b) (fun k hk => ⟨fun hy => hk.1 (hs k hy), hk.2⟩)⟩
theorem TQ.more (h : TQ X base w v xs) (hs : ∀ k, k ∈ Y → k ∈ X ∨ w.heap.size ≤ k) : TQ Y base w v xs := by
  obtain ⟨cs, h1, h2, h3⟩ := h
  refine ⟨cs, Kd.Q_mono (Kd.Q_bound h1) (fun k hk hy => ?_), h2, fun j t c a b => Kd.FK_mono (Kd.FK_bound (h3 j t c a b)) (fun k hk => ⟨fun hy => ?_, hk.1.2⟩)⟩
  · rcases hs k hy with e | e
    · exact hk.1 e
    · exact absurd hk.2.2.1 (by omega)
  · rcases hs k hy with e | e
    · exact hk.1.1 e
    · exact absurd hk.2 (by omega)
theorem TQ.form (h : TQ X base w v xs) : ∃ A c, v = .slice A xs.length c ∧ xs.length ≤ c := by
  obtain ⟨cs, h1, h2, h3⟩ := h
  obtain ⟨A, c, e, l⟩ := Kd.Q_slice h1
  exact ⟨A, c, by rw [e, h2], by omega⟩
theorem TQ.apart (h : TQ X base w v xs) : ∀ k, v.ownBlock = some k → k ∉ X := by
  obtain ⟨cs, h1, h2, h3⟩ := h
  exact h1.1
theorem TQ.lt (h : TQ X base w v xs) : ∀ k, v.ownBlock = some k → base ≤ k ∧ k < w.heap.size := by
  obtain ⟨cs, h1, h2, h3⟩ := h
  exact fun k hk => ⟨Kd.Q_base h1 k hk, Kd.Q_lt h1 k hk⟩
theorem C_cells {A : Option Addr} {n : Nat} {cs : List (List Value)} (h : (Kd.raw 9).C w A n cs) (hl : cs.length = xs.length)
    (hK : ∀ (j : Nat) (t : S33) (c : List Value), xs[j]? = some t → cs[j]? = some c → k33.K w t c) : k33.C w A n xs := by
  obtain ⟨h1, h2, h3⟩ := h
  refine ⟨by omega, h2, fun hp => ?_⟩
  obtain ⟨ad, ha, hc⟩ := h3 hp
  refine ⟨ad, ha, fun j p hj => ?_⟩
  have hjl := (List.getElem?_eq_some_iff.1 hj).1
  have hcj : cs[j]? = some cs[j] := List.getElem?_eq_getElem (by omega)
  obtain ⟨c, c1, ⟨rfl, c2, c3⟩, c4⟩ := hc j _ hcj
  exact ⟨_, c2, hK j p _ hj hcj, c4⟩
theorem TQ.read {A : Option Addr} {n c : Nat} (h : TQ X base w (.slice A n c) xs) : n = xs.length ∧ n ≤ c ∧ k33.C w A xs.length xs := by
  obtain ⟨cs, h1, h2, h3⟩ := h
  obtain ⟨q1, q2, q3⟩ := Kd.Q_reads' h1
  refine ⟨by omega, q2, ?_⟩
  rw [h2] at q3
  exact C_cells q3 h2 (fun j t c a b => Kd.FK_now (h3 j t c a b))
theorem TQ.drop {A : Option Addr} {k n c : Nat} (h : TQ X base w (.slice A n c) xs) (hk : k ≤ xs.length) : TQ X base w (.slice (if c = k then A else A.map (·.add (k * 9))) (n - k) (c - k)) (xs.drop k) := by
  obtain ⟨cs, h1, h2, h3⟩ := h
  have hb : (Value.slice (if c = k then A else A.map (·.add (k * 9))) (n - k) (c - k)).ownBlock = (Value.slice A n c).ownBlock := by
    split
    · cases A <;> rfl
    · cases A with
      | none => rfl
      | some a => simp [Value.ownBlock]; unfold Addr.add; split <;> rfl
  refine ⟨cs.drop k, Kd.Q_drop h1 (by omega), by simp [h2], fun j t c a b => ?_⟩
  rw [hb]
  rw [List.getElem?_drop] at a b
  exact h3 _ t c a b
theorem fk_tx {ok : Nat → Prop} (t : S33) {A B : Option Addr} {c d : Nat} (h1 : t.f7.length ≤ c) (g1 : Kd.F Kd.string w ok A t.f7.length t.f7) (h2 : t.f8.length ≤ d) (g2 : Kd.F Kd.string w ok B t.f8.length t.f8) :
    Kd.FK k33 w ok t [.int .i64 t.f0, .string t.f1, .string t.f2, .int .u64 t.f3, .int .u64 t.f4, .string t.f5, .string t.f6, .slice A t.f7.length c, .slice B t.f8.length d] :=
  fun W hW => PB.k33_mk W t h1 (g1 W hW) h2 (g2 W hW)
end
section
variable {P : Program} {ops : Array Oper} {rest : List Oper} {o : Oper} {a : Act} {Q' : Exit → Act → World → Prop} {Kc : Act → World → Prop}
end
end Go.Proofs.YtndicjikjcifaaaDoor

/-
  DERIVED: THE SHELF's CONTRACTS AT THIS DUMP, IN PLAIN WORDS (tools/lay-plain.mjs out of 'YtndicjikjcifaaaDoorLays0.lean', which tools/lay-shelf.mjs wrote): THE SAME DECLARATIONS UNDER THE SAME NAMES: 'import', 'namespace', 'open', 'def', 'theorem' AND NOTHING ELSE: no command of the shelf's: FOR A HAND-IN. Each laying: the table of numbers ('.._ren') and one theorem, a field a fact of the dump's own or the kernel's comparison; each contract: ONE APPLICATION.
-/
namespace Go.Proofs
open Go.Shelf
def Tryd.lays160_ren : Go.Shelf.Ren := ⟨fun | 160 => 90 | 232 => 104 | 231 => 103 | 227 => 105 | 234 => 107 | 233 => 106 | 236 => 109 | 235 => 108 | 228 => 128 | 271 => 131 | 151 => 130 | 197 => 129 | 120 => 143 | 152 => 142 | 260 => 141 | 137 => 145 | 119 => 146 | 224 => 147 | 225 => 148 | 217 => 149 | 266 => 150 | n => n, fun | 9 => 9 | 4 => 4 | 3 => 3 | 5 => 5 | 117 => 136 | 116 => 135 | 0 => 0 | 124 => 139 | 21 => 21 | 105 => 165 | 46 => 105 | 119 => 178 | 139 => 181 | 138 => 180 | n => n, fun | 3 => 3 | 4 => 4 | n => n⟩
theorem Tryd.lays160 : Go.Proofs.Lays.n160 Tryd.prog Tryd.lays160_ren := {
  mixed := by kernel_rfl
  f119 := Tryd.func146.trans (congrArg some (by kernel_rfl))
  f120 := Tryd.func143.trans (congrArg some (by kernel_rfl))
  f137 := Tryd.func145.trans (congrArg some (by kernel_rfl))
  f151 := Tryd.func130.trans (congrArg some (by kernel_rfl))
  f152 := Tryd.func142.trans (congrArg some (by kernel_rfl))
  f160 := Tryd.func90.trans (congrArg some (by kernel_rfl))
  f197 := Tryd.func129.trans (congrArg some (by kernel_rfl))
  f217 := Tryd.func149.trans (congrArg some (by kernel_rfl))
  f224 := Tryd.func147.trans (congrArg some (by kernel_rfl))
  f225 := Tryd.func148.trans (congrArg some (by kernel_rfl))
  f227 := Tryd.func105.trans (congrArg some (by kernel_rfl))
  f228 := Tryd.func128.trans (congrArg some (by kernel_rfl))
  f231 := Tryd.func103.trans (congrArg some (by kernel_rfl))
  f232 := Tryd.func104.trans (congrArg some (by kernel_rfl))
  f233 := Tryd.func106.trans (congrArg some (by kernel_rfl))
  f234 := Tryd.func107.trans (congrArg some (by kernel_rfl))
  f235 := Tryd.func108.trans (congrArg some (by kernel_rfl))
  f236 := Tryd.func109.trans (congrArg some (by kernel_rfl))
  f260 := Tryd.func141.trans (congrArg some (by kernel_rfl))
  f266 := Tryd.func150.trans (congrArg some (by kernel_rfl))
  f271 := Tryd.func131.trans (congrArg some (by kernel_rfl))
  t0 := Tryd.underlying0
  a0 := Tryd.isAgg0
  z0 := Tryd.sizeOf0
  v0 := Tryd.zeroValue0
  t3 := Tryd.underlying3
  a3 := Tryd.isAgg3
  z3 := Tryd.sizeOf3
  v3 := Tryd.zeroValue3
  t4 := Tryd.underlying4
  a4 := Tryd.isAgg4
  z4 := Tryd.sizeOf4
  v4 := Tryd.zeroValue4
  t5 := Tryd.underlying5
  a5 := Tryd.isAgg5
  z5 := Tryd.sizeOf5
  v5 := Tryd.zeroValue5
  t9 := Tryd.underlying9
  a9 := Tryd.isAgg9
  z9 := Tryd.sizeOf9
  v9 := Tryd.zeroValue9
  t21 := Tryd.underlying21
  a21 := Tryd.isAgg21
  z21 := Tryd.sizeOf21
  v21 := Tryd.zeroValue21
  t46 := Tryd.underlying105
  a46 := Tryd.isAgg105
  z46 := Tryd.sizeOf105
  v46 := Tryd.zeroValue105
  t105 := Tryd.underlying165
  a105 := Tryd.isAgg165
  z105 := Tryd.sizeOf165
  v105 := Tryd.zeroValue165
  t116 := Tryd.underlying135
  a116 := Tryd.isAgg135
  z116 := Tryd.sizeOf135
  t117 := Tryd.underlying136
  a117 := Tryd.isAgg136
  z117 := Tryd.sizeOf136
  v117 := Tryd.zeroValue136
  t119 := Tryd.underlying178
  a119 := Tryd.isAgg178
  z119 := Tryd.sizeOf178
  t124 := Tryd.underlying139
  a124 := Tryd.isAgg139
  z124 := Tryd.sizeOf139
  v124 := Tryd.zeroValue139
  t138 := Tryd.underlying180
  a138 := Tryd.isAgg180
  z138 := Tryd.sizeOf180
  v138 := Tryd.zeroValue180
  t139 := Tryd.underlying181
  a139 := Tryd.isAgg181
  z139 := Tryd.sizeOf181
  v139 := Tryd.zeroValue181
  g3 := by kernel_rfl
  g4 := by kernel_rfl }
def Tryd.lays206_ren : Go.Shelf.Ren := ⟨fun | 206 => 132 | n => n, fun | 9 => 9 | 4 => 4 | 3 => 3 | n => n, fun | n => n⟩
theorem Tryd.lays206 : Go.Proofs.Lays.n206 Tryd.prog Tryd.lays206_ren := {
  mixed := by kernel_rfl
  f206 := Tryd.func132.trans (congrArg some (by kernel_rfl))
  t3 := Tryd.underlying3
  a3 := Tryd.isAgg3
  z3 := Tryd.sizeOf3
  v3 := Tryd.zeroValue3
  t4 := Tryd.underlying4
  a4 := Tryd.isAgg4
  z4 := Tryd.sizeOf4
  v4 := Tryd.zeroValue4
  t9 := Tryd.underlying9
  a9 := Tryd.isAgg9
  z9 := Tryd.sizeOf9
  v9 := Tryd.zeroValue9 }
def Tryd.lays156_ren : Go.Shelf.Ren := ⟨fun | 156 => 69 | 165 => 89 | 166 => 84 | 169 => 85 | 240 => 96 | 241 => 102 | 276 => 122 | 277 => 127 | n => n, fun | 31 => 31 | 9 => 9 | 3 => 3 | 4 => 4 | 0 => 0 | 20 => 20 | 72 => 108 | 76 => 111 | 70 => 106 | 37 => 104 | 75 => 110 | 127 => 123 | 164 => 151 | 5 => 5 | 80 => 79 | n => n, fun | n => n⟩
theorem Tryd.lays156 : Go.Proofs.Lays.n156 Tryd.prog Tryd.lays156_ren := {
  mixed := by kernel_rfl
  f156 := Tryd.func69.trans (congrArg some (by kernel_rfl))
  f165 := Tryd.func89.trans (congrArg some (by kernel_rfl))
  f166 := Tryd.func84.trans (congrArg some (by kernel_rfl))
  f169 := Tryd.func85.trans (congrArg some (by kernel_rfl))
  f240 := Tryd.func96.trans (congrArg some (by kernel_rfl))
  f241 := Tryd.func102.trans (congrArg some (by kernel_rfl))
  f276 := Tryd.func122.trans (congrArg some (by kernel_rfl))
  f277 := Tryd.func127.trans (congrArg some (by kernel_rfl))
  t0 := Tryd.underlying0
  a0 := Tryd.isAgg0
  z0 := Tryd.sizeOf0
  v0 := Tryd.zeroValue0
  t3 := Tryd.underlying3
  a3 := Tryd.isAgg3
  z3 := Tryd.sizeOf3
  v3 := Tryd.zeroValue3
  t4 := Tryd.underlying4
  a4 := Tryd.isAgg4
  z4 := Tryd.sizeOf4
  v4 := Tryd.zeroValue4
  t9 := Tryd.underlying9
  a9 := Tryd.isAgg9
  z9 := Tryd.sizeOf9
  v9 := Tryd.zeroValue9
  t20 := Tryd.underlying20
  a20 := Tryd.isAgg20
  z20 := Tryd.sizeOf20
  v20 := Tryd.zeroValue20
  t31 := Tryd.underlying31
  a31 := Tryd.isAgg31
  z31 := Tryd.sizeOf31
  v31 := Tryd.zeroValue31
  t37 := Tryd.underlying104
  a37 := Tryd.isAgg104
  z37 := Tryd.sizeOf104
  v37 := Tryd.zeroValue104
  t70 := Tryd.underlying106
  a70 := Tryd.isAgg106
  z70 := Tryd.sizeOf106
  v70 := Tryd.zeroValue106
  t72 := Tryd.underlying108
  a72 := Tryd.isAgg108
  z72 := Tryd.sizeOf108
  v72 := Tryd.zeroValue108
  t75 := Tryd.underlying110
  a75 := Tryd.isAgg110
  z75 := Tryd.sizeOf110
  v75 := Tryd.zeroValue110
  t76 := Tryd.underlying111
  a76 := Tryd.isAgg111
  z76 := Tryd.sizeOf111
  v76 := Tryd.zeroValue111
  t127 := Tryd.underlying123
  a127 := Tryd.isAgg123
  z127 := Tryd.sizeOf123
  v127 := Tryd.zeroValue123
  t164 := Tryd.underlying151
  a164 := Tryd.isAgg151
  z164 := Tryd.sizeOf151
  v164 := Tryd.zeroValue151 }
def Tryd.lays169_ren : Go.Shelf.Ren := ⟨fun | 169 => 85 | n => n, fun | 70 => 106 | 9 => 9 | 0 => 0 | 72 => 108 | 37 => 104 | 127 => 123 | 3 => 3 | 5 => 5 | n => n, fun | n => n⟩
theorem Tryd.lays169 : Go.Proofs.Lays.n169 Tryd.prog Tryd.lays169_ren := {
  mixed := by kernel_rfl
  f169 := Tryd.func85.trans (congrArg some (by kernel_rfl))
  t0 := Tryd.underlying0
  a0 := Tryd.isAgg0
  z0 := Tryd.sizeOf0
  v0 := Tryd.zeroValue0
  t3 := Tryd.underlying3
  a3 := Tryd.isAgg3
  z3 := Tryd.sizeOf3
  v3 := Tryd.zeroValue3
  t9 := Tryd.underlying9
  a9 := Tryd.isAgg9
  z9 := Tryd.sizeOf9
  v9 := Tryd.zeroValue9
  t37 := Tryd.underlying104
  a37 := Tryd.isAgg104
  z37 := Tryd.sizeOf104
  v37 := Tryd.zeroValue104
  t70 := Tryd.underlying106
  a70 := Tryd.isAgg106
  z70 := Tryd.sizeOf106
  v70 := Tryd.zeroValue106
  t72 := Tryd.underlying108
  a72 := Tryd.isAgg108
  z72 := Tryd.sizeOf108
  v72 := Tryd.zeroValue108
  t127 := Tryd.underlying123
  a127 := Tryd.isAgg123
  z127 := Tryd.sizeOf123
  v127 := Tryd.zeroValue123 }
end Go.Proofs

/- tx.check, tx.caught, tx.name, tx.key: what is thrown, and what a name is. -/
namespace Go.Proofs
open Go.Shelf
end Go.Proofs
namespace Go.Proofs.YtndicjikjcifaaaDoor
open Go.RowKit Go.Shelf Go.Lib Go.Proofs.YtndicjikjcifaaaDoorW.PrintWords Go.Proofs.YtndicjikjcifaaaDoorW.PrintLast
set_option linter.unusedVariables false
set_option linter.unusedSimpArgs false
def thr (x : Int) : Ending := .panicked [{ v := .iface 24 (.int .i64 x), recovered := false }]
def okOr (x : Int) : Ending := if x = 0 then .returned (.tuple #[]) else thr x
theorem check_ok (x : Int) (w : World) : Calls Tryd.prog 55 #[.bool true, .int .i64 x] w fun e w' => e = .returned (.tuple #[]) ∧ w' = w := by
  go_enter Tryd.func55, Tryd.ntmps55
  go_wp2
  go_end0
  exact ⟨rfl, rfl⟩
theorem check_no (x : Int) (w : World) : Calls Tryd.prog 55 #[.bool false, .int .i64 x] w fun e w' => e = .panicked [{ v := .iface 24 (.int .i64 x), recovered := false }] ∧ w' = w := by
  go_enter Tryd.func55, Tryd.ntmps55
  go_wp2
  exact ⟨rfl, rfl, rfl⟩
theorem assert_yes (W : World) (x : Int) : (Instr.typeAssert (.iface 24 (.int .i64 x)) 20 24 true).run Tryd.prog W = .ok (.tuple #[.int .i64 x, .bool true]) W := by kernel_rfl
set_option maxHeartbeats 2000000 in
set_option maxRecDepth 100000 in
theorem caught_panicking (p : Addr) (x0 x : Int) (older : List PanicEntry) (w : World) (hc : w.cell? p = some (.int .i64 x0)) (hz : w.frozen? p = false) :
    CallsD Tryd.prog 51 #[.pointer (some p)] (.panicking ({ v := .iface 24 (.int .i64 x), recovered := false } :: older)) w fun e u' w' =>
      e = .returned (.tuple #[]) ∧ u' = .panicking ({ v := .iface 24 (.int .i64 x), recovered := true } :: older) ∧ w' = w.setCell p (.int .i64 x) := by
  have ha := fun W => assert_yes W x
  refine callsD_of_wpS Tryd.func51 rfl fun c₀ cs hu => ?_
  apply wpS_seq
  apply wpS_region
  simp [wpOpsS, go_sem, recoverD, hu, Tryd.ntmps51, Exit.thenS]
  refine wpS_of_wp ?_
  go_wp2
  cases c₀
  simp_all [bodyPostS, results, Tryd.results51]
theorem caught_idle (p : Addr) (w : World) :
    CallsD Tryd.prog 51 #[.pointer (some p)] .returning w fun e u' w' => e = .returned (.tuple #[]) ∧ u' = .returning ∧ w' = w := by
  refine callsD_of_wpS Tryd.func51 rfl fun c₀ cs hu => ?_
  apply wpS_seq
  apply wpS_region
  simp [wpOpsS, go_sem, recoverD, hu, Tryd.ntmps51, Exit.thenS]
  refine wpS_of_wp ?_
  simp only [Array.replicate]
  go_wp2
  cases c₀
  simp_all [bodyPostS, results, Tryd.results51]
def cutset : List UInt8 := [97, 98, 99, 100, 101, 102, 103, 104, 105, 106, 107, 108, 109, 110, 111, 112, 113, 114, 115, 116, 117, 118, 119, 120, 121, 122, 48, 49, 50, 51, 52, 53, 54, 55, 56, 57]
set_option maxRecDepth 10000 in
theorem cut_ascii : cutset.toArray.toList.all (fun b => decide (b.toNat < 128)) = true := by decide
def nm (s : ByteArray) : Bool := decide (s.size ≠ 0 ∧ s.size ≤ 32 ∧ Lib.trimS s.data.toList cutset = [])
theorem name_calls (s : ByteArray) (w : World) :
    Calls Tryd.prog 71 #[.string s] w fun e w' => e = .returned (.bool (nm s)) ∧ Below w.heap.size w w' := by
  go_enter Tryd.func71, Tryd.ntmps71
  by_cases h0 : s.size = 0
  · have e1 : nm s = false := by simp [nm, h0]
    have e2 : s.toList.isEmpty = true := by
      have : s = ⟨#[]⟩ := ByteArray.size_eq_zero_iff.1 h0
      rw [this, ByteArray.toList_eq]; rfl
    rw [e1]
    clear e1 h0
    go_wp2
    go_ret
    exact ⟨rfl, Below.refl _ _⟩
  have e2 : s.toList.isEmpty = false := by
    rw [ByteArray.toList_eq]
    cases h : s.data.toList with
    | nil => exact absurd (show s.size = 0 from by have := congrArg List.length h; rw [Array.length_toList] at this; exact this) h0
    | cons => rfl
  by_cases h1 : s.size ≤ 32
  · have e3 : decide ((s.size : Int) ≤ 32) = true := by simp; omega
    have hcon := Any.strings_Trim_laid Tryd.lays160 (by kernel_rfl) s ⟨cutset.toArray⟩ w (by omega) (by decide) (ascii_of_all cut_ascii)
    change Calls Tryd.prog 90 _ _ (fun e w' => e = .returned (.string ⟨(Lib.trimS s.data.toList cutset).toArray⟩) ∧ Below w.heap.size w w') at hcon
    have e4 : (Lib.trimS s.data.toList cutset = []) ↔ nm s = true := by
      unfold nm
      rw [decide_eq_true_iff]
      exact ⟨fun h => ⟨h0, h1, h⟩, fun h => h.2.2⟩
    have e5 : (⟨(Lib.trimS s.data.toList cutset).toArray⟩ : ByteArray).toList.isEmpty = nm s := by
      rw [Bool.eq_iff_iff, ← e4, ByteArray.toList_eq]
      exact List.isEmpty_iff
    generalize (⟨(Lib.trimS s.data.toList cutset).toArray⟩ : ByteArray) = r at hcon e5
    clear e4 h0 h1
    generalize nm s = q at e5 ⊢
    go_wp2_with (go_at_call 90; go_must (refine hcon.mono ?_); rintro e w' ⟨rfl, hB⟩)
    go_ret
    exact ⟨rfl, hB⟩
  · have e3 : decide ((s.size : Int) ≤ 32) = false := by simp; omega
    have e1 : nm s = false := by simp [nm, h1]
    rw [e1]
    clear e1 h0 h1
    go_wp2
    go_ret
    exact ⟨rfl, Below.refl _ _⟩
end Go.Proofs.YtndicjikjcifaaaDoor
/- tx.key, tx.keys: what a key is; what is wrong with a row of keys. -/
namespace Go.Proofs
open Go.Shelf
end Go.Proofs
namespace Go.Proofs.YtndicjikjcifaaaDoor
open Go.RowKit Go.Shelf Go.Lib Go.Proofs.YtndicjikjcifaaaDoorW.PrintWords Go.Proofs.YtndicjikjcifaaaDoorW.PrintLast
set_option linter.unusedVariables false
set_option linter.unusedSimpArgs false
theorem hasPrefix_calls (s p : ByteArray) (w : World) :
    Calls Tryd.prog 110 #[.string s, .string p] w fun e w' => e = .returned (.bool (Lib.hasPrefix s.data.toList p.data.toList)) ∧ w' = w := by
  have hcon := Any.stringslite_HasPrefix Tryd.lays206 s p w
  change Calls Tryd.prog 132 _ _ _ at hcon
  generalize Lib.hasPrefix s.data.toList p.data.toList = r at hcon ⊢
  go_enter Tryd.func110, Tryd.ntmps110
  go_wp2_with (go_at_call 132; go_must (refine hcon.mono ?_); rintro e w' ⟨rfl, rfl⟩)
  go_ret
  exact ⟨rfl, rfl⟩
def ky (s : ByteArray) : Bool := decide (2 < s.size) && (Lib.hasPrefix s.data.toList [97, 58] || Lib.hasPrefix s.data.toList [107, 58]) && nm (s.extract 2 s.size)
set_option maxHeartbeats 4000000 in
theorem key_calls (s : ByteArray) (w : World) :
    Calls Tryd.prog 91 #[.string s] w fun e w' => e = .returned (.bool (ky s)) ∧ Below w.heap.size w w' := by
  have hA := hasPrefix_calls s ⟨#[97, 58]⟩ w
  have hK := hasPrefix_calls s ⟨#[107, 58]⟩ w
  have hN := name_calls (s.extract 2 s.size) w
  have E : ky s = (decide (2 < s.size) && (Lib.hasPrefix s.data.toList [97, 58] || Lib.hasPrefix s.data.toList [107, 58]) && nm (s.extract 2 s.size)) := rfl
  change Calls _ _ _ _ (fun e w' => e = .returned (.bool (Lib.hasPrefix s.data.toList [97, 58])) ∧ w' = w) at hA
  change Calls _ _ _ _ (fun e w' => e = .returned (.bool (Lib.hasPrefix s.data.toList [107, 58])) ∧ w' = w) at hK
  generalize Lib.hasPrefix s.data.toList [97, 58] = pa at hA E
  generalize Lib.hasPrefix s.data.toList [107, 58] = pk at hK E
  generalize nm (s.extract 2 s.size) = pn at hN E
  rw [E]
  clear E
  go_enter Tryd.func91, Tryd.ntmps91
  by_cases h0 : 2 < s.size
  · have e1 : decide ((2 : Int) < (s.size : Int)) = true := by simp; omega
    have e2 : (2 : Int) ≤ s.size := by omega
    rw [decide_eq_true h0]
    cases pa <;> cases pk <;> simp only [Bool.true_and, Bool.or_true, Bool.or_false, Bool.true_or, Bool.false_or, Bool.false_and]
    all_goals
      go_wp2_with (first | (go_at_call 110; (first | with_reducible refine hA.mono ?_ | with_reducible refine hK.mono ?_); rintro e w' ⟨rfl, rfl⟩) | (go_at_call 71; go_must (refine hN.mono ?_); rintro e w' ⟨rfl, hB⟩))
      go_ret
      first | exact ⟨rfl, hB⟩ | exact ⟨rfl, Below.refl _ _⟩
  · have e1 : decide ((2 : Int) < (s.size : Int)) = false := by simp; omega
    rw [decide_eq_false h0]
    clear h0
    go_wp2
    go_ret
    exact ⟨rfl, Below.refl _ _⟩
def lts (a b : ByteArray) : Bool := Op.bytesLess a.toList b.toList
def keL : Option ByteArray → List ByteArray → Int
  | _, [] => 0
  | p, s :: r => if ky s = false then 3 else if (match p with | none => true | some q => lts q s) = false then 9 else keL (some s) r
def ke (xs : List ByteArray) : Int := if xs.length ≤ 8 then keL none xs else 8
def prv (xs : List ByteArray) : Nat → Option ByteArray
  | 0 => none
  | j + 1 => some (rdOf ByteArray.empty xs (j : Int))
theorem rdOf_nat (xs : List ByteArray) (j : Nat) (hj : j < xs.length) : xs.drop j = rdOf ByteArray.empty xs (j : Int) :: xs.drop (j + 1) := by
  rw [List.drop_eq_getElem_cons hj]
  congr 1
  simp [rdOf, hj]
set_option maxHeartbeats 8000000 in
set_option maxRecDepth 100000 in
theorem keys_calls (A : Option Addr) (c : Nat) (xs : List ByteArray) (w : World) (hr : Kd.C Kd.string w A xs.length xs) (hc : xs.length ≤ c) :
    Calls Tryd.prog 72 #[.slice A xs.length c] w fun e w' => e = okOr (ke xs) ∧ Below w.heap.size w w' := by
  by_cases h8 : xs.length ≤ 8
  · have hE : keL none xs = ke xs := by rw [ke, if_pos h8]
    generalize ke xs = E at hE ⊢
    have e1 : decide ((xs.length : Int) ≤ 8) = true := by simp; omega
    have HR := Lib.hid hr
    clear hr
    go_enter Tryd.func72, Tryd.ntmps72
    go_wp2_with (first | (go_at_call 55; go_must (refine (check_ok _ _).mono ?_); rintro e w' ⟨rfl, hw⟩; have hw := hw.symm; subst hw))
    go_loopg [10] xs.length (fun q v10 wr => ∃ j : Nat, v10 = .int .i64 j ∧ j ≤ xs.length ∧ q + j = xs.length ∧ Hid (Below w.heap.size w wr) ∧ Hid (keL (prv xs j) (xs.drop j) = E))
    case atStart => exact ⟨0, rfl, by omega, by omega, Below.refl _ _, hE⟩
    case round =>
      obtain ⟨j, rfl, hj, hq, HB, HE⟩ := hrel
      rcases Nat.eq_or_lt_of_le hj with hj | hj
      · have e2 : decide ((j : Int) < (xs.length : Int)) = false := by simp; omega
        have hE : E = 0 := by rw [← HE, hj, List.drop_length]; rfl
        clear HE
        subst hE
        go_wp2
        go_end0
        exact ⟨rfl, HB⟩
      · have e2 : decide ((j : Int) < (xs.length : Int)) = true := by simp; omega
        have p1 := eq_true (show 0 ≤ (j : Int) by omega)
        have q1 := eq_true (show (j : Int) < (xs.length : Int) by omega)
        obtain ⟨ad, rfl, hx⟩ := Kd.at_string HR j (by omega) (by omega)
        have hx : wr.cell? (ad.add j) = some (.string (rdOf ByteArray.empty xs (j : Int))) := (HB.out.cell (World.block_lt_of_cell? w _ hx)).trans hx
        rw [rdOf_nat xs j hj] at HE
        generalize hs : rdOf ByteArray.empty xs (j : Int) = s at hx HE
        have hy := key_calls s wr
        cases hk : ky s with
        | false =>
          have hE : E = 3 := by have := HE; simp [keL, hk] at this; exact this.symm
          subst hE
          rw [hk] at hy
          clear HE
          go_wp2_with (first | (go_at_call 91; go_must (refine hy.mono ?_); rintro e w' ⟨rfl, hB⟩) | (go_at_call 55; go_must (refine (check_no _ _).mono ?_); rintro e w'' ⟨rfl, hw⟩; have hw := hw.symm; subst hw))
          exact ⟨rfl, rfl, below_then HB.out HB.out.size hB⟩
        | true =>
          rw [hk] at hy
          by_cases hj0 : j = 0
          · have d3 : ((j : Int) == 0) = true := by simp; omega
            have HE : Hid (keL (some s) (xs.drop (j + 1)) = E) := by have := HE; subst hj0; simpa [keL, hk, prv] using this
            clear hj0
            go_wp2_with (first | (go_at_call 91; go_must (refine hy.mono ?_); rintro e w2 ⟨rfl, hB⟩; have HB2 := Lib.hid (below_then HB.out HB.out.size hB); clear hB) | (go_at_call 55; go_must (refine (check_ok _ _).mono ?_); rintro e w'' ⟨rfl, hw⟩; have hw := hw.symm; subst hw))
            go_roundg (xs.length - (j + 1))
            case measure => omega
            case rel => exact ⟨j + 1, rfl, by omega, by omega, HB2, by rw [prv, hs]; exact HE⟩
          · obtain ⟨m, hm⟩ : ∃ m, j = m + 1 := ⟨j - 1, by omega⟩
            have d3 : ((j : Int) == 0) = false := by simp; omega
            obtain ⟨ad2, e2', hx2⟩ := Kd.at_string HR.out (m : Int) (by omega) (by omega)
            cases e2'
            have hx2 : w.cell? (ad.add m) = some (.string (rdOf ByteArray.empty xs (m : Int))) := hx2
            have hlt2 := World.block_lt_of_cell? w _ hx2
            have p2 := eq_true (show 0 ≤ (m : Int) by omega)
            have q2 := eq_true (show (m : Int) < (xs.length : Int) by omega)
            generalize hs2 : rdOf ByteArray.empty xs (m : Int) = s2 at hx2
            have hz : IntKind.i64.wrap ((j : Int) - 1) = (m : Int) := by rw [IntKind.wrap_i64]; omega
            cases hl : lts s2 s with
            | true =>
              have HE : Hid (keL (some s) (xs.drop (j + 1)) = E) := by have := HE; subst hm; simpa [keL, hk, prv, hs2, hl] using this
              have hl' : Op.bytesLess s2.toList s.toList = true := hl
              clear hj0 hm
              go_wp2_with (first | (go_at_call 91; go_must (refine hy.mono ?_); rintro e w2 ⟨rfl, hB⟩; have HB2 := Lib.hid (below_then HB.out HB.out.size hB); clear hB; have hx3 := (HB2.out.cell hlt2).trans hx2) | (go_at_call 55; go_must (refine (check_ok _ _).mono ?_); rintro e w'' ⟨rfl, hw⟩; have hw := hw.symm; subst hw))
              go_roundg (xs.length - (j + 1))
              case measure => omega
              case rel => exact ⟨j + 1, rfl, by omega, by omega, HB2, by rw [prv, hs]; exact HE⟩
            | false =>
              have hE : E = 9 := by have := HE; subst hm; simp [keL, hk, prv, hs2, hl] at this; exact this.symm
              subst hE
              have hl' : Op.bytesLess s2.toList s.toList = false := hl
              clear HE hj0 hm
              go_wp2_with (first | (go_at_call 91; go_must (refine hy.mono ?_); rintro e w2 ⟨rfl, hB⟩; have HB2 := Lib.hid (below_then HB.out HB.out.size hB); clear hB; have hx3 := (HB2.out.cell hlt2).trans hx2) | (go_at_call 55; first | (with_reducible refine (check_ok _ _).mono ?_; rintro e w'' ⟨rfl, hw⟩; have hw := hw.symm; subst hw) | (with_reducible refine (check_no _ _).mono ?_; rintro e w'' ⟨rfl, hw⟩; have hw := hw.symm; subst hw)))
              exact ⟨rfl, rfl, HB2⟩
  · have hE : ke xs = 8 := by rw [ke, if_neg h8]
    have e1 : decide ((xs.length : Int) ≤ 8) = false := by simp; omega
    rw [hE]
    go_enter Tryd.func72, Tryd.ntmps72
    go_wp2_with (first | (go_at_call 55; go_must (refine (check_no _ _).mono ?_); rintro e w' ⟨rfl, hw⟩; have hw := hw.symm; subst hw))
    exact ⟨rfl, rfl, Below.refl _ _⟩
end Go.Proofs.YtndicjikjcifaaaDoor
/- tx.Check: what is wrong with a transaction. -/
namespace Go.Proofs.YtndicjikjcifaaaDoor
open Go.RowKit Go.Shelf Go.Lib Go.Proofs.YtndicjikjcifaaaDoorW.PrintWords Go.Proofs.YtndicjikjcifaaaDoorW.PrintLast
set_option linter.unusedVariables false
set_option linter.unusedSimpArgs false
def chF (k : Int) (f t ky' vl : ByteArray) (am : Int) : Int :=
  if k = 1 then (if (nm f && nm t && ky'.toList.isEmpty && vl.toList.isEmpty) = true then 0 else 3)
  else if k = 2 then (if (nm f && nm ky' && decide (vl.size ≤ 64) && t.toList.isEmpty && decide (am = 0)) = true then 0 else 3)
  else 5
def chR (am nc : Int) (rs ws : List ByteArray) : Int :=
  if am ≤ 4611686018427387903 ∧ nc ≤ 4611686018427387903 then (if ke rs = 0 then ke ws else ke rs) else 2
def ch (k : Int) (f t : ByteArray) (am nc : Int) (ky' vl : ByteArray) (rs ws : List ByteArray) : Int :=
  if chF k f t ky' vl am = 0 then chR am nc rs ws else chF k f t ky' vl am
theorem keys_ok (A : Option Addr) (c : Nat) (xs : List ByteArray) (w : World) (h0 : ke xs = 0) (hr : Kd.C Kd.string w A xs.length xs) (hc : xs.length ≤ c) :
    Calls Tryd.prog 72 #[.slice A xs.length c] w fun e w' => e = .returned (.tuple #[]) ∧ Below w.heap.size w w' := by
  have := keys_calls A c xs w hr hc
  rw [okOr, if_pos h0] at this
  exact this
theorem keys_no (A : Option Addr) (c : Nat) (xs : List ByteArray) (w : World) (h0 : ke xs ≠ 0) (hr : Kd.C Kd.string w A xs.length xs) (hc : xs.length ≤ c) :
    Calls Tryd.prog 72 #[.slice A xs.length c] w fun e w' => e = .panicked [{ v := .iface 24 (.int .i64 (ke xs)), recovered := false }] ∧ Below w.heap.size w w' := by
  have := keys_calls A c xs w hr hc
  rw [okOr, if_neg h0] at this
  exact this
structure Bx (w : World) (bs : Array Value) (W : World) : Prop where
  low : Below w.heap.size w W
  box : W.heap[w.heap.size]? = some (.cells bs 33 (0, 0))
  res : W.heap[w.heap.size + 1]? = some (.cells #[.int .i64 0] 24 (0, 0))
theorem Bx.size {w W : World} {bs : Array Value} (h : Bx w bs W) : w.heap.size + 1 < W.heap.size := by
  have := h.res
  rcases Nat.lt_or_ge (w.heap.size + 1) W.heap.size with h | h
  · exact h
  · rw [Array.getElem?_eq_none h] at this; cases this
theorem Bx.step {w W W' : World} {bs : Array Value} (h : Bx w bs W) (hb : Below W.heap.size W W') : Bx w bs W' :=
  ⟨below_then h.low h.low.size hb, (hb.block _ (by have := h.size; omega)).trans h.box, (hb.block _ h.size).trans h.res⟩
theorem Bx.first (w : World) (bs : Array Value) : Bx w bs ((w.alloc (.cells bs 33)).alloc (.cells #[.int .i64 0] 24)) :=
  ⟨((Below.refl _ w).alloc (Nat.le_refl _) _).alloc (by simp) _, blk_alloc (blk_new _ _) _, blk_newAt _ _ (by simp)⟩
theorem Bx.resr {w W : World} {bs : Array Value} (h : Bx w bs W) (v : Value) : (W.setCell ⟨w.heap.size + 1, 0, none⟩ v).cell? ⟨w.heap.size + 1, 0, none⟩ = some v := by
  have := blk_cell (blk_set h.res 0 v) 0
  simpa using this
theorem Bx.setr {w W : World} {bs : Array Value} (h : Bx w bs W) (v : Value) : Below w.heap.size w (W.setCell ⟨w.heap.size + 1, 0, none⟩ v) :=
  h.low.setCell (by simp) v
set_option maxHeartbeats 8000000 in
set_option maxRecDepth 100000 in
theorem chk_calls (k : Int) (f t : ByteArray) (am nc : Int) (ky' vl : ByteArray) (A B : Option Addr) (c d : Nat) (rs ws : List ByteArray) (w : World)
    (hr : Kd.C Kd.string w A rs.length rs) (hc : rs.length ≤ c) (hs : Kd.C Kd.string w B ws.length ws) (hd : ws.length ≤ d) :
    Calls Tryd.prog 41 #[.agg #[.int .i64 k, .string f, .string t, .int .u64 am, .int .u64 nc, .string ky', .string vl, .slice A rs.length c, .slice B ws.length d]] w
      fun e w' => e = .returned (.int .i64 (ch k f t am nc ky' vl rs ws)) ∧ Below w.heap.size w w' := by
  have HR := Lib.hid hr
  have HC := Lib.hid hc
  have HS := Lib.hid hs
  have HD := Lib.hid hd
  clear hr hc hs hd
  go_enter_defers Tryd.func41, Tryd.ntmps41
  by_cases h5 : chF k f t ky' vl am = 5
  · have hE : ch k f t am nc ky' vl rs ws = 5 := by rw [ch, h5]; rfl
    have e1 : (k == 1) = false := by
      cases h : (k == 1)
      · rfl
      · simp at h; subst h; simp [chF] at h5; split at h5 <;> cases h5
    have e2 : (k == 2) = false := by
      cases h : (k == 2)
      · rfl
      · simp at h; subst h; simp [chF] at h5; split at h5 <;> cases h5
    rw [hE]
    clear hE h5
    go_wp2
    refine leaves_cons (f := 51) (args := #[.pointer (some ⟨w.heap.size + 1, 0, none⟩)]) (by simp) (by simp [go_sem]) ?_
    refine (caught_idle ⟨w.heap.size + 1, 0, none⟩ _).mono ?_
    rintro e u' w'' ⟨rfl, rfl, rfl⟩
    simp [Leaves, settle, results, Tryd.results41, go_sem]
    exact ((Below.refl _ w).alloc (Nat.le_refl _) _).alloc (by simp) _
  have HX := Lib.hid (Bx.first w #[.int .i64 k, .string f, .string t, .int .u64 am, .int .u64 nc, .string ky', .string vl, .slice A rs.length c, .slice B ws.length d])
  have hnil : ∀ s : ByteArray, s.toList.isEmpty = true ∨ s.toList.isEmpty = false := fun s => by cases s.toList.isEmpty <;> simp
  rcases (show k = 1 ∨ k = 2 by
    by_cases h1 : k = 1
    · exact .inl h1
    · by_cases h2 : k = 2
      · exact .inr h2
      · exact absurd (by simp [chF, h1, h2]) h5) with rfl | rfl
  · clear h5
    cases h1 : nm f with
    | false =>
      have hE : ch 1 f t am nc ky' vl rs ws = 3 := by simp [ch, chF, h1]
      rw [hE]
      clear hE hnil
      go_wp2_with (first
        | (go_at_call 71
           go_must (refine (name_calls _ _).mono ?_)
           rintro e w2 ⟨rfl, hB⟩
           have HX := Lib.hid (HX.out.step hB)
           clear hB
           have c1 : w2.cell? ⟨w.heap.size, 1, none⟩ = some (.string f) := blk_cell HX.out.box 1
           have c2 : w2.cell? ⟨w.heap.size, 2, none⟩ = some (.string t) := blk_cell HX.out.box 2
           have c3 : w2.cell? ⟨w.heap.size, 3, none⟩ = some (.int .u64 am) := blk_cell HX.out.box 3
           have c4 : w2.cell? ⟨w.heap.size, 4, none⟩ = some (.int .u64 nc) := blk_cell HX.out.box 4
           have c5 : w2.cell? ⟨w.heap.size, 5, none⟩ = some (.string ky') := blk_cell HX.out.box 5
           have c6 : w2.cell? ⟨w.heap.size, 6, none⟩ = some (.string vl) := blk_cell HX.out.box 6
           have c7 : w2.cell? ⟨w.heap.size, 7, none⟩ = some (.slice A rs.length c) := blk_cell HX.out.box 7
           have c8 : w2.cell? ⟨w.heap.size, 8, none⟩ = some (.slice B ws.length d) := blk_cell HX.out.box 8
           have r0 : w2.cell? ⟨w.heap.size + 1, 0, none⟩ = some (.int .i64 0) := blk_cell HX.out.res 0
           have z0 := blk_frozen HX.out.res 0
           skip)
        | (go_at_call 55; first | (with_reducible refine (check_ok _ _).mono ?_; rintro e w'' ⟨rfl, hw⟩; have hw := hw.symm; subst hw) | (with_reducible refine (check_no _ _).mono ?_; rintro e w'' ⟨rfl, hw⟩; have hw := hw.symm; subst hw))
        | (go_at_call 72
           first
             | (with_reducible refine (keys_ok A c rs _ k1.out (Kd.C_below HR.out HX.out.low) HC.out).mono ?_)
             | (with_reducible refine (keys_no A c rs _ k1.out (Kd.C_below HR.out HX.out.low) HC.out).mono ?_)
             | (with_reducible refine (keys_ok B d ws _ k2.out (Kd.C_below HS.out HX.out.low) HD.out).mono ?_)
             | (with_reducible refine (keys_no B d ws _ k2.out (Kd.C_below HS.out HX.out.low) HD.out).mono ?_)
           rintro e w2 ⟨rfl, hB⟩
           have HX := Lib.hid (HX.out.step hB)
           clear hB
           have c1 : w2.cell? ⟨w.heap.size, 1, none⟩ = some (.string f) := blk_cell HX.out.box 1
           have c2 : w2.cell? ⟨w.heap.size, 2, none⟩ = some (.string t) := blk_cell HX.out.box 2
           have c3 : w2.cell? ⟨w.heap.size, 3, none⟩ = some (.int .u64 am) := blk_cell HX.out.box 3
           have c4 : w2.cell? ⟨w.heap.size, 4, none⟩ = some (.int .u64 nc) := blk_cell HX.out.box 4
           have c5 : w2.cell? ⟨w.heap.size, 5, none⟩ = some (.string ky') := blk_cell HX.out.box 5
           have c6 : w2.cell? ⟨w.heap.size, 6, none⟩ = some (.string vl) := blk_cell HX.out.box 6
           have c7 : w2.cell? ⟨w.heap.size, 7, none⟩ = some (.slice A rs.length c) := blk_cell HX.out.box 7
           have c8 : w2.cell? ⟨w.heap.size, 8, none⟩ = some (.slice B ws.length d) := blk_cell HX.out.box 8
           have r0 : w2.cell? ⟨w.heap.size + 1, 0, none⟩ = some (.int .i64 0) := blk_cell HX.out.res 0
           have z0 := blk_frozen HX.out.res 0
           skip))
      refine leaves_cons (f := 51) (args := #[.pointer (some ⟨w.heap.size + 1, 0, none⟩)]) (by simp) (by simp [go_sem]) ?_
      refine (caught_panicking ⟨w.heap.size + 1, 0, none⟩ 0 3 [] _ (blk_cell HX.out.res 0) (blk_frozen HX.out.res 0)).mono ?_
      rintro e u' w'' ⟨rfl, rfl, rfl⟩
      have hq := HX.out.resr (.int .i64 3)
      simp [Leaves, settle, results, Tryd.results41, go_sem, hq]
      exact HX.out.setr _
    | true =>
      cases h2 : nm t with
      | false =>
        have hE : ch 1 f t am nc ky' vl rs ws = 3 := by simp [ch, chF, h1, h2]
        rw [hE]
        clear hE hnil
        go_wp2_with (first
          | (go_at_call 71
             go_must (refine (name_calls _ _).mono ?_)
             rintro e w2 ⟨rfl, hB⟩
             have HX := Lib.hid (HX.out.step hB)
             clear hB
             have c1 : w2.cell? ⟨w.heap.size, 1, none⟩ = some (.string f) := blk_cell HX.out.box 1
             have c2 : w2.cell? ⟨w.heap.size, 2, none⟩ = some (.string t) := blk_cell HX.out.box 2
             have c3 : w2.cell? ⟨w.heap.size, 3, none⟩ = some (.int .u64 am) := blk_cell HX.out.box 3
             have c4 : w2.cell? ⟨w.heap.size, 4, none⟩ = some (.int .u64 nc) := blk_cell HX.out.box 4
             have c5 : w2.cell? ⟨w.heap.size, 5, none⟩ = some (.string ky') := blk_cell HX.out.box 5
             have c6 : w2.cell? ⟨w.heap.size, 6, none⟩ = some (.string vl) := blk_cell HX.out.box 6
             have c7 : w2.cell? ⟨w.heap.size, 7, none⟩ = some (.slice A rs.length c) := blk_cell HX.out.box 7
             have c8 : w2.cell? ⟨w.heap.size, 8, none⟩ = some (.slice B ws.length d) := blk_cell HX.out.box 8
             have r0 : w2.cell? ⟨w.heap.size + 1, 0, none⟩ = some (.int .i64 0) := blk_cell HX.out.res 0
             have z0 := blk_frozen HX.out.res 0
             skip)
          | (go_at_call 55; first | (with_reducible refine (check_ok _ _).mono ?_; rintro e w'' ⟨rfl, hw⟩; have hw := hw.symm; subst hw) | (with_reducible refine (check_no _ _).mono ?_; rintro e w'' ⟨rfl, hw⟩; have hw := hw.symm; subst hw))
          | (go_at_call 72
             first
               | (with_reducible refine (keys_ok A c rs _ k1.out (Kd.C_below HR.out HX.out.low) HC.out).mono ?_)
               | (with_reducible refine (keys_no A c rs _ k1.out (Kd.C_below HR.out HX.out.low) HC.out).mono ?_)
               | (with_reducible refine (keys_ok B d ws _ k2.out (Kd.C_below HS.out HX.out.low) HD.out).mono ?_)
               | (with_reducible refine (keys_no B d ws _ k2.out (Kd.C_below HS.out HX.out.low) HD.out).mono ?_)
             rintro e w2 ⟨rfl, hB⟩
             have HX := Lib.hid (HX.out.step hB)
             clear hB
             have c1 : w2.cell? ⟨w.heap.size, 1, none⟩ = some (.string f) := blk_cell HX.out.box 1
             have c2 : w2.cell? ⟨w.heap.size, 2, none⟩ = some (.string t) := blk_cell HX.out.box 2
             have c3 : w2.cell? ⟨w.heap.size, 3, none⟩ = some (.int .u64 am) := blk_cell HX.out.box 3
             have c4 : w2.cell? ⟨w.heap.size, 4, none⟩ = some (.int .u64 nc) := blk_cell HX.out.box 4
             have c5 : w2.cell? ⟨w.heap.size, 5, none⟩ = some (.string ky') := blk_cell HX.out.box 5
             have c6 : w2.cell? ⟨w.heap.size, 6, none⟩ = some (.string vl) := blk_cell HX.out.box 6
             have c7 : w2.cell? ⟨w.heap.size, 7, none⟩ = some (.slice A rs.length c) := blk_cell HX.out.box 7
             have c8 : w2.cell? ⟨w.heap.size, 8, none⟩ = some (.slice B ws.length d) := blk_cell HX.out.box 8
             have r0 : w2.cell? ⟨w.heap.size + 1, 0, none⟩ = some (.int .i64 0) := blk_cell HX.out.res 0
             have z0 := blk_frozen HX.out.res 0
             skip))
        refine leaves_cons (f := 51) (args := #[.pointer (some ⟨w.heap.size + 1, 0, none⟩)]) (by simp) (by simp [go_sem]) ?_
        refine (caught_panicking ⟨w.heap.size + 1, 0, none⟩ 0 3 [] _ (blk_cell HX.out.res 0) (blk_frozen HX.out.res 0)).mono ?_
        rintro e u' w'' ⟨rfl, rfl, rfl⟩
        have hq := HX.out.resr (.int .i64 3)
        simp [Leaves, settle, results, Tryd.results41, go_sem, hq]
        exact HX.out.setr _
      | true =>
        rcases hnil ky' with h3 | h3
        · rcases hnil vl with h4 | h4
          ·
            by_cases a1 : am ≤ 4611686018427387903
            · have d1 : decide (am ≤ 4611686018427387903) = true := by simp; omega
              by_cases a2 : nc ≤ 4611686018427387903
              · have d2 : decide (nc ≤ 4611686018427387903) = true := by simp; omega
                by_cases k1 : ke rs = 0
                · by_cases k2 : ke ws = 0
                  · have hE : ch 1 f t am nc ky' vl rs ws = 0 := by simp [ch, chF, chR, h1, h2, h3, h4, a1, a2, k1, k2]
                    rw [hE]
                    have k1 := Lib.hid k1
                    have k2 := Lib.hid k2
                    clear hE hnil a1 a2
                    go_wp2_with (first
                      | (go_at_call 71
                         go_must (refine (name_calls _ _).mono ?_)
                         rintro e w2 ⟨rfl, hB⟩
                         have HX := Lib.hid (HX.out.step hB)
                         clear hB
                         have c1 : w2.cell? ⟨w.heap.size, 1, none⟩ = some (.string f) := blk_cell HX.out.box 1
                         have c2 : w2.cell? ⟨w.heap.size, 2, none⟩ = some (.string t) := blk_cell HX.out.box 2
                         have c3 : w2.cell? ⟨w.heap.size, 3, none⟩ = some (.int .u64 am) := blk_cell HX.out.box 3
                         have c4 : w2.cell? ⟨w.heap.size, 4, none⟩ = some (.int .u64 nc) := blk_cell HX.out.box 4
                         have c5 : w2.cell? ⟨w.heap.size, 5, none⟩ = some (.string ky') := blk_cell HX.out.box 5
                         have c6 : w2.cell? ⟨w.heap.size, 6, none⟩ = some (.string vl) := blk_cell HX.out.box 6
                         have c7 : w2.cell? ⟨w.heap.size, 7, none⟩ = some (.slice A rs.length c) := blk_cell HX.out.box 7
                         have c8 : w2.cell? ⟨w.heap.size, 8, none⟩ = some (.slice B ws.length d) := blk_cell HX.out.box 8
                         have r0 : w2.cell? ⟨w.heap.size + 1, 0, none⟩ = some (.int .i64 0) := blk_cell HX.out.res 0
                         have z0 := blk_frozen HX.out.res 0
                         skip)
                      | (go_at_call 55; first | (with_reducible refine (check_ok _ _).mono ?_; rintro e w'' ⟨rfl, hw⟩; have hw := hw.symm; subst hw) | (with_reducible refine (check_no _ _).mono ?_; rintro e w'' ⟨rfl, hw⟩; have hw := hw.symm; subst hw))
                      | (go_at_call 72
                         first
                           | (with_reducible refine (keys_ok A c rs _ k1.out (Kd.C_below HR.out HX.out.low) HC.out).mono ?_)
                           | (with_reducible refine (keys_no A c rs _ k1.out (Kd.C_below HR.out HX.out.low) HC.out).mono ?_)
                           | (with_reducible refine (keys_ok B d ws _ k2.out (Kd.C_below HS.out HX.out.low) HD.out).mono ?_)
                           | (with_reducible refine (keys_no B d ws _ k2.out (Kd.C_below HS.out HX.out.low) HD.out).mono ?_)
                         rintro e w2 ⟨rfl, hB⟩
                         have HX := Lib.hid (HX.out.step hB)
                         clear hB
                         have c1 : w2.cell? ⟨w.heap.size, 1, none⟩ = some (.string f) := blk_cell HX.out.box 1
                         have c2 : w2.cell? ⟨w.heap.size, 2, none⟩ = some (.string t) := blk_cell HX.out.box 2
                         have c3 : w2.cell? ⟨w.heap.size, 3, none⟩ = some (.int .u64 am) := blk_cell HX.out.box 3
                         have c4 : w2.cell? ⟨w.heap.size, 4, none⟩ = some (.int .u64 nc) := blk_cell HX.out.box 4
                         have c5 : w2.cell? ⟨w.heap.size, 5, none⟩ = some (.string ky') := blk_cell HX.out.box 5
                         have c6 : w2.cell? ⟨w.heap.size, 6, none⟩ = some (.string vl) := blk_cell HX.out.box 6
                         have c7 : w2.cell? ⟨w.heap.size, 7, none⟩ = some (.slice A rs.length c) := blk_cell HX.out.box 7
                         have c8 : w2.cell? ⟨w.heap.size, 8, none⟩ = some (.slice B ws.length d) := blk_cell HX.out.box 8
                         have r0 : w2.cell? ⟨w.heap.size + 1, 0, none⟩ = some (.int .i64 0) := blk_cell HX.out.res 0
                         have z0 := blk_frozen HX.out.res 0
                         skip))
                    refine leaves_cons (f := 51) (args := #[.pointer (some ⟨w.heap.size + 1, 0, none⟩)]) (by simp) (by simp [go_sem]) ?_
                    refine (caught_idle ⟨w.heap.size + 1, 0, none⟩ _).mono ?_
                    rintro e u' w'' ⟨rfl, rfl, rfl⟩
                    have hq := HX.out.resr (.int .i64 0)
                    simp [Leaves, settle, results, Tryd.results41, go_sem, hq]
                    exact HX.out.setr _
                  · have hE : ch 1 f t am nc ky' vl rs ws = ke ws := by simp [ch, chF, chR, h1, h2, h3, h4, a1, a2, k1]
                    rw [hE]
                    have k1 := Lib.hid k1
                    have k2 := Lib.hid k2
                    clear hE hnil a1 a2
                    go_wp2_with (first
                      | (go_at_call 71
                         go_must (refine (name_calls _ _).mono ?_)
                         rintro e w2 ⟨rfl, hB⟩
                         have HX := Lib.hid (HX.out.step hB)
                         clear hB
                         have c1 : w2.cell? ⟨w.heap.size, 1, none⟩ = some (.string f) := blk_cell HX.out.box 1
                         have c2 : w2.cell? ⟨w.heap.size, 2, none⟩ = some (.string t) := blk_cell HX.out.box 2
                         have c3 : w2.cell? ⟨w.heap.size, 3, none⟩ = some (.int .u64 am) := blk_cell HX.out.box 3
                         have c4 : w2.cell? ⟨w.heap.size, 4, none⟩ = some (.int .u64 nc) := blk_cell HX.out.box 4
                         have c5 : w2.cell? ⟨w.heap.size, 5, none⟩ = some (.string ky') := blk_cell HX.out.box 5
                         have c6 : w2.cell? ⟨w.heap.size, 6, none⟩ = some (.string vl) := blk_cell HX.out.box 6
                         have c7 : w2.cell? ⟨w.heap.size, 7, none⟩ = some (.slice A rs.length c) := blk_cell HX.out.box 7
                         have c8 : w2.cell? ⟨w.heap.size, 8, none⟩ = some (.slice B ws.length d) := blk_cell HX.out.box 8
                         have r0 : w2.cell? ⟨w.heap.size + 1, 0, none⟩ = some (.int .i64 0) := blk_cell HX.out.res 0
                         have z0 := blk_frozen HX.out.res 0
                         skip)
                      | (go_at_call 55; first | (with_reducible refine (check_ok _ _).mono ?_; rintro e w'' ⟨rfl, hw⟩; have hw := hw.symm; subst hw) | (with_reducible refine (check_no _ _).mono ?_; rintro e w'' ⟨rfl, hw⟩; have hw := hw.symm; subst hw))
                      | (go_at_call 72
                         first
                           | (with_reducible refine (keys_ok A c rs _ k1.out (Kd.C_below HR.out HX.out.low) HC.out).mono ?_)
                           | (with_reducible refine (keys_no A c rs _ k1.out (Kd.C_below HR.out HX.out.low) HC.out).mono ?_)
                           | (with_reducible refine (keys_ok B d ws _ k2.out (Kd.C_below HS.out HX.out.low) HD.out).mono ?_)
                           | (with_reducible refine (keys_no B d ws _ k2.out (Kd.C_below HS.out HX.out.low) HD.out).mono ?_)
                         rintro e w2 ⟨rfl, hB⟩
                         have HX := Lib.hid (HX.out.step hB)
                         clear hB
                         have c1 : w2.cell? ⟨w.heap.size, 1, none⟩ = some (.string f) := blk_cell HX.out.box 1
                         have c2 : w2.cell? ⟨w.heap.size, 2, none⟩ = some (.string t) := blk_cell HX.out.box 2
                         have c3 : w2.cell? ⟨w.heap.size, 3, none⟩ = some (.int .u64 am) := blk_cell HX.out.box 3
                         have c4 : w2.cell? ⟨w.heap.size, 4, none⟩ = some (.int .u64 nc) := blk_cell HX.out.box 4
                         have c5 : w2.cell? ⟨w.heap.size, 5, none⟩ = some (.string ky') := blk_cell HX.out.box 5
                         have c6 : w2.cell? ⟨w.heap.size, 6, none⟩ = some (.string vl) := blk_cell HX.out.box 6
                         have c7 : w2.cell? ⟨w.heap.size, 7, none⟩ = some (.slice A rs.length c) := blk_cell HX.out.box 7
                         have c8 : w2.cell? ⟨w.heap.size, 8, none⟩ = some (.slice B ws.length d) := blk_cell HX.out.box 8
                         have r0 : w2.cell? ⟨w.heap.size + 1, 0, none⟩ = some (.int .i64 0) := blk_cell HX.out.res 0
                         have z0 := blk_frozen HX.out.res 0
                         skip))
                    refine leaves_cons (f := 51) (args := #[.pointer (some ⟨w.heap.size + 1, 0, none⟩)]) (by simp) (by simp [go_sem]) ?_
                    refine (caught_panicking ⟨w.heap.size + 1, 0, none⟩ 0 (ke ws) [] _ (blk_cell HX.out.res 0) (blk_frozen HX.out.res 0)).mono ?_
                    rintro e u' w'' ⟨rfl, rfl, rfl⟩
                    have hq := HX.out.resr (.int .i64 (ke ws))
                    simp [Leaves, settle, results, Tryd.results41, go_sem, hq]
                    exact HX.out.setr _
                · have hE : ch 1 f t am nc ky' vl rs ws = ke rs := by simp [ch, chF, chR, h1, h2, h3, h4, a1, a2, k1]
                  rw [hE]
                  have k1 := Lib.hid k1
                  clear hE hnil a1 a2
                  go_wp2_with (first
                    | (go_at_call 71
                       go_must (refine (name_calls _ _).mono ?_)
                       rintro e w2 ⟨rfl, hB⟩
                       have HX := Lib.hid (HX.out.step hB)
                       clear hB
                       have c1 : w2.cell? ⟨w.heap.size, 1, none⟩ = some (.string f) := blk_cell HX.out.box 1
                       have c2 : w2.cell? ⟨w.heap.size, 2, none⟩ = some (.string t) := blk_cell HX.out.box 2
                       have c3 : w2.cell? ⟨w.heap.size, 3, none⟩ = some (.int .u64 am) := blk_cell HX.out.box 3
                       have c4 : w2.cell? ⟨w.heap.size, 4, none⟩ = some (.int .u64 nc) := blk_cell HX.out.box 4
                       have c5 : w2.cell? ⟨w.heap.size, 5, none⟩ = some (.string ky') := blk_cell HX.out.box 5
                       have c6 : w2.cell? ⟨w.heap.size, 6, none⟩ = some (.string vl) := blk_cell HX.out.box 6
                       have c7 : w2.cell? ⟨w.heap.size, 7, none⟩ = some (.slice A rs.length c) := blk_cell HX.out.box 7
                       have c8 : w2.cell? ⟨w.heap.size, 8, none⟩ = some (.slice B ws.length d) := blk_cell HX.out.box 8
                       have r0 : w2.cell? ⟨w.heap.size + 1, 0, none⟩ = some (.int .i64 0) := blk_cell HX.out.res 0
                       have z0 := blk_frozen HX.out.res 0
                       skip)
                    | (go_at_call 55; first | (with_reducible refine (check_ok _ _).mono ?_; rintro e w'' ⟨rfl, hw⟩; have hw := hw.symm; subst hw) | (with_reducible refine (check_no _ _).mono ?_; rintro e w'' ⟨rfl, hw⟩; have hw := hw.symm; subst hw))
                    | (go_at_call 72
                       first
                         | (with_reducible refine (keys_ok A c rs _ k1.out (Kd.C_below HR.out HX.out.low) HC.out).mono ?_)
                         | (with_reducible refine (keys_no A c rs _ k1.out (Kd.C_below HR.out HX.out.low) HC.out).mono ?_)
                         | (with_reducible refine (keys_ok B d ws _ k2.out (Kd.C_below HS.out HX.out.low) HD.out).mono ?_)
                         | (with_reducible refine (keys_no B d ws _ k2.out (Kd.C_below HS.out HX.out.low) HD.out).mono ?_)
                       rintro e w2 ⟨rfl, hB⟩
                       have HX := Lib.hid (HX.out.step hB)
                       clear hB
                       have c1 : w2.cell? ⟨w.heap.size, 1, none⟩ = some (.string f) := blk_cell HX.out.box 1
                       have c2 : w2.cell? ⟨w.heap.size, 2, none⟩ = some (.string t) := blk_cell HX.out.box 2
                       have c3 : w2.cell? ⟨w.heap.size, 3, none⟩ = some (.int .u64 am) := blk_cell HX.out.box 3
                       have c4 : w2.cell? ⟨w.heap.size, 4, none⟩ = some (.int .u64 nc) := blk_cell HX.out.box 4
                       have c5 : w2.cell? ⟨w.heap.size, 5, none⟩ = some (.string ky') := blk_cell HX.out.box 5
                       have c6 : w2.cell? ⟨w.heap.size, 6, none⟩ = some (.string vl) := blk_cell HX.out.box 6
                       have c7 : w2.cell? ⟨w.heap.size, 7, none⟩ = some (.slice A rs.length c) := blk_cell HX.out.box 7
                       have c8 : w2.cell? ⟨w.heap.size, 8, none⟩ = some (.slice B ws.length d) := blk_cell HX.out.box 8
                       have r0 : w2.cell? ⟨w.heap.size + 1, 0, none⟩ = some (.int .i64 0) := blk_cell HX.out.res 0
                       have z0 := blk_frozen HX.out.res 0
                       skip))
                  refine leaves_cons (f := 51) (args := #[.pointer (some ⟨w.heap.size + 1, 0, none⟩)]) (by simp) (by simp [go_sem]) ?_
                  refine (caught_panicking ⟨w.heap.size + 1, 0, none⟩ 0 (ke rs) [] _ (blk_cell HX.out.res 0) (blk_frozen HX.out.res 0)).mono ?_
                  rintro e u' w'' ⟨rfl, rfl, rfl⟩
                  have hq := HX.out.resr (.int .i64 (ke rs))
                  simp [Leaves, settle, results, Tryd.results41, go_sem, hq]
                  exact HX.out.setr _
              · have d2 : decide (nc ≤ 4611686018427387903) = false := by simp; omega
                have hE : ch 1 f t am nc ky' vl rs ws = 2 := by simp [ch, chF, chR, h1, h2, h3, h4, a2]
                rw [hE]
                clear hE hnil a1 a2
                go_wp2_with (first
                  | (go_at_call 71
                     go_must (refine (name_calls _ _).mono ?_)
                     rintro e w2 ⟨rfl, hB⟩
                     have HX := Lib.hid (HX.out.step hB)
                     clear hB
                     have c1 : w2.cell? ⟨w.heap.size, 1, none⟩ = some (.string f) := blk_cell HX.out.box 1
                     have c2 : w2.cell? ⟨w.heap.size, 2, none⟩ = some (.string t) := blk_cell HX.out.box 2
                     have c3 : w2.cell? ⟨w.heap.size, 3, none⟩ = some (.int .u64 am) := blk_cell HX.out.box 3
                     have c4 : w2.cell? ⟨w.heap.size, 4, none⟩ = some (.int .u64 nc) := blk_cell HX.out.box 4
                     have c5 : w2.cell? ⟨w.heap.size, 5, none⟩ = some (.string ky') := blk_cell HX.out.box 5
                     have c6 : w2.cell? ⟨w.heap.size, 6, none⟩ = some (.string vl) := blk_cell HX.out.box 6
                     have c7 : w2.cell? ⟨w.heap.size, 7, none⟩ = some (.slice A rs.length c) := blk_cell HX.out.box 7
                     have c8 : w2.cell? ⟨w.heap.size, 8, none⟩ = some (.slice B ws.length d) := blk_cell HX.out.box 8
                     have r0 : w2.cell? ⟨w.heap.size + 1, 0, none⟩ = some (.int .i64 0) := blk_cell HX.out.res 0
                     have z0 := blk_frozen HX.out.res 0
                     skip)
                  | (go_at_call 55; first | (with_reducible refine (check_ok _ _).mono ?_; rintro e w'' ⟨rfl, hw⟩; have hw := hw.symm; subst hw) | (with_reducible refine (check_no _ _).mono ?_; rintro e w'' ⟨rfl, hw⟩; have hw := hw.symm; subst hw))
                  | (go_at_call 72
                     first
                       | (with_reducible refine (keys_ok A c rs _ k1.out (Kd.C_below HR.out HX.out.low) HC.out).mono ?_)
                       | (with_reducible refine (keys_no A c rs _ k1.out (Kd.C_below HR.out HX.out.low) HC.out).mono ?_)
                       | (with_reducible refine (keys_ok B d ws _ k2.out (Kd.C_below HS.out HX.out.low) HD.out).mono ?_)
                       | (with_reducible refine (keys_no B d ws _ k2.out (Kd.C_below HS.out HX.out.low) HD.out).mono ?_)
                     rintro e w2 ⟨rfl, hB⟩
                     have HX := Lib.hid (HX.out.step hB)
                     clear hB
                     have c1 : w2.cell? ⟨w.heap.size, 1, none⟩ = some (.string f) := blk_cell HX.out.box 1
                     have c2 : w2.cell? ⟨w.heap.size, 2, none⟩ = some (.string t) := blk_cell HX.out.box 2
                     have c3 : w2.cell? ⟨w.heap.size, 3, none⟩ = some (.int .u64 am) := blk_cell HX.out.box 3
                     have c4 : w2.cell? ⟨w.heap.size, 4, none⟩ = some (.int .u64 nc) := blk_cell HX.out.box 4
                     have c5 : w2.cell? ⟨w.heap.size, 5, none⟩ = some (.string ky') := blk_cell HX.out.box 5
                     have c6 : w2.cell? ⟨w.heap.size, 6, none⟩ = some (.string vl) := blk_cell HX.out.box 6
                     have c7 : w2.cell? ⟨w.heap.size, 7, none⟩ = some (.slice A rs.length c) := blk_cell HX.out.box 7
                     have c8 : w2.cell? ⟨w.heap.size, 8, none⟩ = some (.slice B ws.length d) := blk_cell HX.out.box 8
                     have r0 : w2.cell? ⟨w.heap.size + 1, 0, none⟩ = some (.int .i64 0) := blk_cell HX.out.res 0
                     have z0 := blk_frozen HX.out.res 0
                     skip))
                refine leaves_cons (f := 51) (args := #[.pointer (some ⟨w.heap.size + 1, 0, none⟩)]) (by simp) (by simp [go_sem]) ?_
                refine (caught_panicking ⟨w.heap.size + 1, 0, none⟩ 0 2 [] _ (blk_cell HX.out.res 0) (blk_frozen HX.out.res 0)).mono ?_
                rintro e u' w'' ⟨rfl, rfl, rfl⟩
                have hq := HX.out.resr (.int .i64 2)
                simp [Leaves, settle, results, Tryd.results41, go_sem, hq]
                exact HX.out.setr _
            · have d1 : decide (am ≤ 4611686018427387903) = false := by simp; omega
              have hE : ch 1 f t am nc ky' vl rs ws = 2 := by simp [ch, chF, chR, h1, h2, h3, h4, a1]
              rw [hE]
              clear hE hnil a1
              go_wp2_with (first
                | (go_at_call 71
                   go_must (refine (name_calls _ _).mono ?_)
                   rintro e w2 ⟨rfl, hB⟩
                   have HX := Lib.hid (HX.out.step hB)
                   clear hB
                   have c1 : w2.cell? ⟨w.heap.size, 1, none⟩ = some (.string f) := blk_cell HX.out.box 1
                   have c2 : w2.cell? ⟨w.heap.size, 2, none⟩ = some (.string t) := blk_cell HX.out.box 2
                   have c3 : w2.cell? ⟨w.heap.size, 3, none⟩ = some (.int .u64 am) := blk_cell HX.out.box 3
                   have c4 : w2.cell? ⟨w.heap.size, 4, none⟩ = some (.int .u64 nc) := blk_cell HX.out.box 4
                   have c5 : w2.cell? ⟨w.heap.size, 5, none⟩ = some (.string ky') := blk_cell HX.out.box 5
                   have c6 : w2.cell? ⟨w.heap.size, 6, none⟩ = some (.string vl) := blk_cell HX.out.box 6
                   have c7 : w2.cell? ⟨w.heap.size, 7, none⟩ = some (.slice A rs.length c) := blk_cell HX.out.box 7
                   have c8 : w2.cell? ⟨w.heap.size, 8, none⟩ = some (.slice B ws.length d) := blk_cell HX.out.box 8
                   have r0 : w2.cell? ⟨w.heap.size + 1, 0, none⟩ = some (.int .i64 0) := blk_cell HX.out.res 0
                   have z0 := blk_frozen HX.out.res 0
                   skip)
                | (go_at_call 55; first | (with_reducible refine (check_ok _ _).mono ?_; rintro e w'' ⟨rfl, hw⟩; have hw := hw.symm; subst hw) | (with_reducible refine (check_no _ _).mono ?_; rintro e w'' ⟨rfl, hw⟩; have hw := hw.symm; subst hw))
                | (go_at_call 72
                   first
                     | (with_reducible refine (keys_ok A c rs _ k1.out (Kd.C_below HR.out HX.out.low) HC.out).mono ?_)
                     | (with_reducible refine (keys_no A c rs _ k1.out (Kd.C_below HR.out HX.out.low) HC.out).mono ?_)
                     | (with_reducible refine (keys_ok B d ws _ k2.out (Kd.C_below HS.out HX.out.low) HD.out).mono ?_)
                     | (with_reducible refine (keys_no B d ws _ k2.out (Kd.C_below HS.out HX.out.low) HD.out).mono ?_)
                   rintro e w2 ⟨rfl, hB⟩
                   have HX := Lib.hid (HX.out.step hB)
                   clear hB
                   have c1 : w2.cell? ⟨w.heap.size, 1, none⟩ = some (.string f) := blk_cell HX.out.box 1
                   have c2 : w2.cell? ⟨w.heap.size, 2, none⟩ = some (.string t) := blk_cell HX.out.box 2
                   have c3 : w2.cell? ⟨w.heap.size, 3, none⟩ = some (.int .u64 am) := blk_cell HX.out.box 3
                   have c4 : w2.cell? ⟨w.heap.size, 4, none⟩ = some (.int .u64 nc) := blk_cell HX.out.box 4
                   have c5 : w2.cell? ⟨w.heap.size, 5, none⟩ = some (.string ky') := blk_cell HX.out.box 5
                   have c6 : w2.cell? ⟨w.heap.size, 6, none⟩ = some (.string vl) := blk_cell HX.out.box 6
                   have c7 : w2.cell? ⟨w.heap.size, 7, none⟩ = some (.slice A rs.length c) := blk_cell HX.out.box 7
                   have c8 : w2.cell? ⟨w.heap.size, 8, none⟩ = some (.slice B ws.length d) := blk_cell HX.out.box 8
                   have r0 : w2.cell? ⟨w.heap.size + 1, 0, none⟩ = some (.int .i64 0) := blk_cell HX.out.res 0
                   have z0 := blk_frozen HX.out.res 0
                   skip))
              refine leaves_cons (f := 51) (args := #[.pointer (some ⟨w.heap.size + 1, 0, none⟩)]) (by simp) (by simp [go_sem]) ?_
              refine (caught_panicking ⟨w.heap.size + 1, 0, none⟩ 0 2 [] _ (blk_cell HX.out.res 0) (blk_frozen HX.out.res 0)).mono ?_
              rintro e u' w'' ⟨rfl, rfl, rfl⟩
              have hq := HX.out.resr (.int .i64 2)
              simp [Leaves, settle, results, Tryd.results41, go_sem, hq]
              exact HX.out.setr _
          ·
            have hE : ch 1 f t am nc ky' vl rs ws = 3 := by simp [ch, chF, h1, h2, h3, h4]
            rw [hE]
            clear hE hnil
            go_wp2_with (first
              | (go_at_call 71
                 go_must (refine (name_calls _ _).mono ?_)
                 rintro e w2 ⟨rfl, hB⟩
                 have HX := Lib.hid (HX.out.step hB)
                 clear hB
                 have c1 : w2.cell? ⟨w.heap.size, 1, none⟩ = some (.string f) := blk_cell HX.out.box 1
                 have c2 : w2.cell? ⟨w.heap.size, 2, none⟩ = some (.string t) := blk_cell HX.out.box 2
                 have c3 : w2.cell? ⟨w.heap.size, 3, none⟩ = some (.int .u64 am) := blk_cell HX.out.box 3
                 have c4 : w2.cell? ⟨w.heap.size, 4, none⟩ = some (.int .u64 nc) := blk_cell HX.out.box 4
                 have c5 : w2.cell? ⟨w.heap.size, 5, none⟩ = some (.string ky') := blk_cell HX.out.box 5
                 have c6 : w2.cell? ⟨w.heap.size, 6, none⟩ = some (.string vl) := blk_cell HX.out.box 6
                 have c7 : w2.cell? ⟨w.heap.size, 7, none⟩ = some (.slice A rs.length c) := blk_cell HX.out.box 7
                 have c8 : w2.cell? ⟨w.heap.size, 8, none⟩ = some (.slice B ws.length d) := blk_cell HX.out.box 8
                 have r0 : w2.cell? ⟨w.heap.size + 1, 0, none⟩ = some (.int .i64 0) := blk_cell HX.out.res 0
                 have z0 := blk_frozen HX.out.res 0
                 skip)
              | (go_at_call 55; first | (with_reducible refine (check_ok _ _).mono ?_; rintro e w'' ⟨rfl, hw⟩; have hw := hw.symm; subst hw) | (with_reducible refine (check_no _ _).mono ?_; rintro e w'' ⟨rfl, hw⟩; have hw := hw.symm; subst hw))
              | (go_at_call 72
                 first
                   | (with_reducible refine (keys_ok A c rs _ k1.out (Kd.C_below HR.out HX.out.low) HC.out).mono ?_)
                   | (with_reducible refine (keys_no A c rs _ k1.out (Kd.C_below HR.out HX.out.low) HC.out).mono ?_)
                   | (with_reducible refine (keys_ok B d ws _ k2.out (Kd.C_below HS.out HX.out.low) HD.out).mono ?_)
                   | (with_reducible refine (keys_no B d ws _ k2.out (Kd.C_below HS.out HX.out.low) HD.out).mono ?_)
                 rintro e w2 ⟨rfl, hB⟩
                 have HX := Lib.hid (HX.out.step hB)
                 clear hB
                 have c1 : w2.cell? ⟨w.heap.size, 1, none⟩ = some (.string f) := blk_cell HX.out.box 1
                 have c2 : w2.cell? ⟨w.heap.size, 2, none⟩ = some (.string t) := blk_cell HX.out.box 2
                 have c3 : w2.cell? ⟨w.heap.size, 3, none⟩ = some (.int .u64 am) := blk_cell HX.out.box 3
                 have c4 : w2.cell? ⟨w.heap.size, 4, none⟩ = some (.int .u64 nc) := blk_cell HX.out.box 4
                 have c5 : w2.cell? ⟨w.heap.size, 5, none⟩ = some (.string ky') := blk_cell HX.out.box 5
                 have c6 : w2.cell? ⟨w.heap.size, 6, none⟩ = some (.string vl) := blk_cell HX.out.box 6
                 have c7 : w2.cell? ⟨w.heap.size, 7, none⟩ = some (.slice A rs.length c) := blk_cell HX.out.box 7
                 have c8 : w2.cell? ⟨w.heap.size, 8, none⟩ = some (.slice B ws.length d) := blk_cell HX.out.box 8
                 have r0 : w2.cell? ⟨w.heap.size + 1, 0, none⟩ = some (.int .i64 0) := blk_cell HX.out.res 0
                 have z0 := blk_frozen HX.out.res 0
                 skip))
            refine leaves_cons (f := 51) (args := #[.pointer (some ⟨w.heap.size + 1, 0, none⟩)]) (by simp) (by simp [go_sem]) ?_
            refine (caught_panicking ⟨w.heap.size + 1, 0, none⟩ 0 3 [] _ (blk_cell HX.out.res 0) (blk_frozen HX.out.res 0)).mono ?_
            rintro e u' w'' ⟨rfl, rfl, rfl⟩
            have hq := HX.out.resr (.int .i64 3)
            simp [Leaves, settle, results, Tryd.results41, go_sem, hq]
            exact HX.out.setr _
        ·
          have hE : ch 1 f t am nc ky' vl rs ws = 3 := by simp [ch, chF, h1, h2, h3]
          rw [hE]
          clear hE hnil
          go_wp2_with (first
            | (go_at_call 71
               go_must (refine (name_calls _ _).mono ?_)
               rintro e w2 ⟨rfl, hB⟩
               have HX := Lib.hid (HX.out.step hB)
               clear hB
               have c1 : w2.cell? ⟨w.heap.size, 1, none⟩ = some (.string f) := blk_cell HX.out.box 1
               have c2 : w2.cell? ⟨w.heap.size, 2, none⟩ = some (.string t) := blk_cell HX.out.box 2
               have c3 : w2.cell? ⟨w.heap.size, 3, none⟩ = some (.int .u64 am) := blk_cell HX.out.box 3
               have c4 : w2.cell? ⟨w.heap.size, 4, none⟩ = some (.int .u64 nc) := blk_cell HX.out.box 4
               have c5 : w2.cell? ⟨w.heap.size, 5, none⟩ = some (.string ky') := blk_cell HX.out.box 5
               have c6 : w2.cell? ⟨w.heap.size, 6, none⟩ = some (.string vl) := blk_cell HX.out.box 6
               have c7 : w2.cell? ⟨w.heap.size, 7, none⟩ = some (.slice A rs.length c) := blk_cell HX.out.box 7
               have c8 : w2.cell? ⟨w.heap.size, 8, none⟩ = some (.slice B ws.length d) := blk_cell HX.out.box 8
               have r0 : w2.cell? ⟨w.heap.size + 1, 0, none⟩ = some (.int .i64 0) := blk_cell HX.out.res 0
               have z0 := blk_frozen HX.out.res 0
               skip)
            | (go_at_call 55; first | (with_reducible refine (check_ok _ _).mono ?_; rintro e w'' ⟨rfl, hw⟩; have hw := hw.symm; subst hw) | (with_reducible refine (check_no _ _).mono ?_; rintro e w'' ⟨rfl, hw⟩; have hw := hw.symm; subst hw))
            | (go_at_call 72
               first
                 | (with_reducible refine (keys_ok A c rs _ k1.out (Kd.C_below HR.out HX.out.low) HC.out).mono ?_)
                 | (with_reducible refine (keys_no A c rs _ k1.out (Kd.C_below HR.out HX.out.low) HC.out).mono ?_)
                 | (with_reducible refine (keys_ok B d ws _ k2.out (Kd.C_below HS.out HX.out.low) HD.out).mono ?_)
                 | (with_reducible refine (keys_no B d ws _ k2.out (Kd.C_below HS.out HX.out.low) HD.out).mono ?_)
               rintro e w2 ⟨rfl, hB⟩
               have HX := Lib.hid (HX.out.step hB)
               clear hB
               have c1 : w2.cell? ⟨w.heap.size, 1, none⟩ = some (.string f) := blk_cell HX.out.box 1
               have c2 : w2.cell? ⟨w.heap.size, 2, none⟩ = some (.string t) := blk_cell HX.out.box 2
               have c3 : w2.cell? ⟨w.heap.size, 3, none⟩ = some (.int .u64 am) := blk_cell HX.out.box 3
               have c4 : w2.cell? ⟨w.heap.size, 4, none⟩ = some (.int .u64 nc) := blk_cell HX.out.box 4
               have c5 : w2.cell? ⟨w.heap.size, 5, none⟩ = some (.string ky') := blk_cell HX.out.box 5
               have c6 : w2.cell? ⟨w.heap.size, 6, none⟩ = some (.string vl) := blk_cell HX.out.box 6
               have c7 : w2.cell? ⟨w.heap.size, 7, none⟩ = some (.slice A rs.length c) := blk_cell HX.out.box 7
               have c8 : w2.cell? ⟨w.heap.size, 8, none⟩ = some (.slice B ws.length d) := blk_cell HX.out.box 8
               have r0 : w2.cell? ⟨w.heap.size + 1, 0, none⟩ = some (.int .i64 0) := blk_cell HX.out.res 0
               have z0 := blk_frozen HX.out.res 0
               skip))
          refine leaves_cons (f := 51) (args := #[.pointer (some ⟨w.heap.size + 1, 0, none⟩)]) (by simp) (by simp [go_sem]) ?_
          refine (caught_panicking ⟨w.heap.size + 1, 0, none⟩ 0 3 [] _ (blk_cell HX.out.res 0) (blk_frozen HX.out.res 0)).mono ?_
          rintro e u' w'' ⟨rfl, rfl, rfl⟩
          have hq := HX.out.resr (.int .i64 3)
          simp [Leaves, settle, results, Tryd.results41, go_sem, hq]
          exact HX.out.setr _
  · clear h5
    cases h1 : nm f with
    | false =>
      have hE : ch 2 f t am nc ky' vl rs ws = 3 := by simp [ch, chF, h1]
      rw [hE]
      clear hE hnil
      go_wp2_with (first
        | (go_at_call 71
           go_must (refine (name_calls _ _).mono ?_)
           rintro e w2 ⟨rfl, hB⟩
           have HX := Lib.hid (HX.out.step hB)
           clear hB
           have c1 : w2.cell? ⟨w.heap.size, 1, none⟩ = some (.string f) := blk_cell HX.out.box 1
           have c2 : w2.cell? ⟨w.heap.size, 2, none⟩ = some (.string t) := blk_cell HX.out.box 2
           have c3 : w2.cell? ⟨w.heap.size, 3, none⟩ = some (.int .u64 am) := blk_cell HX.out.box 3
           have c4 : w2.cell? ⟨w.heap.size, 4, none⟩ = some (.int .u64 nc) := blk_cell HX.out.box 4
           have c5 : w2.cell? ⟨w.heap.size, 5, none⟩ = some (.string ky') := blk_cell HX.out.box 5
           have c6 : w2.cell? ⟨w.heap.size, 6, none⟩ = some (.string vl) := blk_cell HX.out.box 6
           have c7 : w2.cell? ⟨w.heap.size, 7, none⟩ = some (.slice A rs.length c) := blk_cell HX.out.box 7
           have c8 : w2.cell? ⟨w.heap.size, 8, none⟩ = some (.slice B ws.length d) := blk_cell HX.out.box 8
           have r0 : w2.cell? ⟨w.heap.size + 1, 0, none⟩ = some (.int .i64 0) := blk_cell HX.out.res 0
           have z0 := blk_frozen HX.out.res 0
           skip)
        | (go_at_call 55; first | (with_reducible refine (check_ok _ _).mono ?_; rintro e w'' ⟨rfl, hw⟩; have hw := hw.symm; subst hw) | (with_reducible refine (check_no _ _).mono ?_; rintro e w'' ⟨rfl, hw⟩; have hw := hw.symm; subst hw))
        | (go_at_call 72
           first
             | (with_reducible refine (keys_ok A c rs _ k1.out (Kd.C_below HR.out HX.out.low) HC.out).mono ?_)
             | (with_reducible refine (keys_no A c rs _ k1.out (Kd.C_below HR.out HX.out.low) HC.out).mono ?_)
             | (with_reducible refine (keys_ok B d ws _ k2.out (Kd.C_below HS.out HX.out.low) HD.out).mono ?_)
             | (with_reducible refine (keys_no B d ws _ k2.out (Kd.C_below HS.out HX.out.low) HD.out).mono ?_)
           rintro e w2 ⟨rfl, hB⟩
           have HX := Lib.hid (HX.out.step hB)
           clear hB
           have c1 : w2.cell? ⟨w.heap.size, 1, none⟩ = some (.string f) := blk_cell HX.out.box 1
           have c2 : w2.cell? ⟨w.heap.size, 2, none⟩ = some (.string t) := blk_cell HX.out.box 2
           have c3 : w2.cell? ⟨w.heap.size, 3, none⟩ = some (.int .u64 am) := blk_cell HX.out.box 3
           have c4 : w2.cell? ⟨w.heap.size, 4, none⟩ = some (.int .u64 nc) := blk_cell HX.out.box 4
           have c5 : w2.cell? ⟨w.heap.size, 5, none⟩ = some (.string ky') := blk_cell HX.out.box 5
           have c6 : w2.cell? ⟨w.heap.size, 6, none⟩ = some (.string vl) := blk_cell HX.out.box 6
           have c7 : w2.cell? ⟨w.heap.size, 7, none⟩ = some (.slice A rs.length c) := blk_cell HX.out.box 7
           have c8 : w2.cell? ⟨w.heap.size, 8, none⟩ = some (.slice B ws.length d) := blk_cell HX.out.box 8
           have r0 : w2.cell? ⟨w.heap.size + 1, 0, none⟩ = some (.int .i64 0) := blk_cell HX.out.res 0
           have z0 := blk_frozen HX.out.res 0
           skip))
      refine leaves_cons (f := 51) (args := #[.pointer (some ⟨w.heap.size + 1, 0, none⟩)]) (by simp) (by simp [go_sem]) ?_
      refine (caught_panicking ⟨w.heap.size + 1, 0, none⟩ 0 3 [] _ (blk_cell HX.out.res 0) (blk_frozen HX.out.res 0)).mono ?_
      rintro e u' w'' ⟨rfl, rfl, rfl⟩
      have hq := HX.out.resr (.int .i64 3)
      simp [Leaves, settle, results, Tryd.results41, go_sem, hq]
      exact HX.out.setr _
    | true =>
      cases h2 : nm ky' with
      | false =>
        have hE : ch 2 f t am nc ky' vl rs ws = 3 := by simp [ch, chF, h1, h2]
        rw [hE]
        clear hE hnil
        go_wp2_with (first
          | (go_at_call 71
             go_must (refine (name_calls _ _).mono ?_)
             rintro e w2 ⟨rfl, hB⟩
             have HX := Lib.hid (HX.out.step hB)
             clear hB
             have c1 : w2.cell? ⟨w.heap.size, 1, none⟩ = some (.string f) := blk_cell HX.out.box 1
             have c2 : w2.cell? ⟨w.heap.size, 2, none⟩ = some (.string t) := blk_cell HX.out.box 2
             have c3 : w2.cell? ⟨w.heap.size, 3, none⟩ = some (.int .u64 am) := blk_cell HX.out.box 3
             have c4 : w2.cell? ⟨w.heap.size, 4, none⟩ = some (.int .u64 nc) := blk_cell HX.out.box 4
             have c5 : w2.cell? ⟨w.heap.size, 5, none⟩ = some (.string ky') := blk_cell HX.out.box 5
             have c6 : w2.cell? ⟨w.heap.size, 6, none⟩ = some (.string vl) := blk_cell HX.out.box 6
             have c7 : w2.cell? ⟨w.heap.size, 7, none⟩ = some (.slice A rs.length c) := blk_cell HX.out.box 7
             have c8 : w2.cell? ⟨w.heap.size, 8, none⟩ = some (.slice B ws.length d) := blk_cell HX.out.box 8
             have r0 : w2.cell? ⟨w.heap.size + 1, 0, none⟩ = some (.int .i64 0) := blk_cell HX.out.res 0
             have z0 := blk_frozen HX.out.res 0
             skip)
          | (go_at_call 55; first | (with_reducible refine (check_ok _ _).mono ?_; rintro e w'' ⟨rfl, hw⟩; have hw := hw.symm; subst hw) | (with_reducible refine (check_no _ _).mono ?_; rintro e w'' ⟨rfl, hw⟩; have hw := hw.symm; subst hw))
          | (go_at_call 72
             first
               | (with_reducible refine (keys_ok A c rs _ k1.out (Kd.C_below HR.out HX.out.low) HC.out).mono ?_)
               | (with_reducible refine (keys_no A c rs _ k1.out (Kd.C_below HR.out HX.out.low) HC.out).mono ?_)
               | (with_reducible refine (keys_ok B d ws _ k2.out (Kd.C_below HS.out HX.out.low) HD.out).mono ?_)
               | (with_reducible refine (keys_no B d ws _ k2.out (Kd.C_below HS.out HX.out.low) HD.out).mono ?_)
             rintro e w2 ⟨rfl, hB⟩
             have HX := Lib.hid (HX.out.step hB)
             clear hB
             have c1 : w2.cell? ⟨w.heap.size, 1, none⟩ = some (.string f) := blk_cell HX.out.box 1
             have c2 : w2.cell? ⟨w.heap.size, 2, none⟩ = some (.string t) := blk_cell HX.out.box 2
             have c3 : w2.cell? ⟨w.heap.size, 3, none⟩ = some (.int .u64 am) := blk_cell HX.out.box 3
             have c4 : w2.cell? ⟨w.heap.size, 4, none⟩ = some (.int .u64 nc) := blk_cell HX.out.box 4
             have c5 : w2.cell? ⟨w.heap.size, 5, none⟩ = some (.string ky') := blk_cell HX.out.box 5
             have c6 : w2.cell? ⟨w.heap.size, 6, none⟩ = some (.string vl) := blk_cell HX.out.box 6
             have c7 : w2.cell? ⟨w.heap.size, 7, none⟩ = some (.slice A rs.length c) := blk_cell HX.out.box 7
             have c8 : w2.cell? ⟨w.heap.size, 8, none⟩ = some (.slice B ws.length d) := blk_cell HX.out.box 8
             have r0 : w2.cell? ⟨w.heap.size + 1, 0, none⟩ = some (.int .i64 0) := blk_cell HX.out.res 0
             have z0 := blk_frozen HX.out.res 0
             skip))
        refine leaves_cons (f := 51) (args := #[.pointer (some ⟨w.heap.size + 1, 0, none⟩)]) (by simp) (by simp [go_sem]) ?_
        refine (caught_panicking ⟨w.heap.size + 1, 0, none⟩ 0 3 [] _ (blk_cell HX.out.res 0) (blk_frozen HX.out.res 0)).mono ?_
        rintro e u' w'' ⟨rfl, rfl, rfl⟩
        have hq := HX.out.resr (.int .i64 3)
        simp [Leaves, settle, results, Tryd.results41, go_sem, hq]
        exact HX.out.setr _
      | true =>
        by_cases h3 : vl.size ≤ 64
        · have b3 : decide ((vl.size : Int) ≤ 64) = true := by simp; omega
          rcases hnil t with h4 | h4
          · by_cases h5 : am = 0
            · have b5 : (am == 0) = true := by simp [h5]
              have d1 : decide (am ≤ 4611686018427387903) = true := by simp; omega
              have hk : ∀ x, chR am nc rs ws = x → ch 2 f t am nc ky' vl rs ws = x := fun x h => by simp [ch, chF, h1, h2, h3, h4, h5]; rw [← h5]; exact h
              have a1 : am ≤ 4611686018427387903 := by omega
              clear h5
              clear h3
              by_cases a2 : nc ≤ 4611686018427387903
              · have d2 : decide (nc ≤ 4611686018427387903) = true := by simp; omega
                by_cases k1 : ke rs = 0
                · by_cases k2 : ke ws = 0
                  · rw [hk 0 (by simp [chR, a1, a2, k1, k2])]
                    have k1 := Lib.hid k1
                    have k2 := Lib.hid k2
                    clear hk hnil a1 a2
                    go_wp2_with (first
                      | (go_at_call 71
                         go_must (refine (name_calls _ _).mono ?_)
                         rintro e w2 ⟨rfl, hB⟩
                         have HX := Lib.hid (HX.out.step hB)
                         clear hB
                         have c1 : w2.cell? ⟨w.heap.size, 1, none⟩ = some (.string f) := blk_cell HX.out.box 1
                         have c2 : w2.cell? ⟨w.heap.size, 2, none⟩ = some (.string t) := blk_cell HX.out.box 2
                         have c3 : w2.cell? ⟨w.heap.size, 3, none⟩ = some (.int .u64 am) := blk_cell HX.out.box 3
                         have c4 : w2.cell? ⟨w.heap.size, 4, none⟩ = some (.int .u64 nc) := blk_cell HX.out.box 4
                         have c5 : w2.cell? ⟨w.heap.size, 5, none⟩ = some (.string ky') := blk_cell HX.out.box 5
                         have c6 : w2.cell? ⟨w.heap.size, 6, none⟩ = some (.string vl) := blk_cell HX.out.box 6
                         have c7 : w2.cell? ⟨w.heap.size, 7, none⟩ = some (.slice A rs.length c) := blk_cell HX.out.box 7
                         have c8 : w2.cell? ⟨w.heap.size, 8, none⟩ = some (.slice B ws.length d) := blk_cell HX.out.box 8
                         have r0 : w2.cell? ⟨w.heap.size + 1, 0, none⟩ = some (.int .i64 0) := blk_cell HX.out.res 0
                         have z0 := blk_frozen HX.out.res 0
                         skip)
                      | (go_at_call 55; first | (with_reducible refine (check_ok _ _).mono ?_; rintro e w'' ⟨rfl, hw⟩; have hw := hw.symm; subst hw) | (with_reducible refine (check_no _ _).mono ?_; rintro e w'' ⟨rfl, hw⟩; have hw := hw.symm; subst hw))
                      | (go_at_call 72
                         first
                           | (with_reducible refine (keys_ok A c rs _ k1.out (Kd.C_below HR.out HX.out.low) HC.out).mono ?_)
                           | (with_reducible refine (keys_no A c rs _ k1.out (Kd.C_below HR.out HX.out.low) HC.out).mono ?_)
                           | (with_reducible refine (keys_ok B d ws _ k2.out (Kd.C_below HS.out HX.out.low) HD.out).mono ?_)
                           | (with_reducible refine (keys_no B d ws _ k2.out (Kd.C_below HS.out HX.out.low) HD.out).mono ?_)
                         rintro e w2 ⟨rfl, hB⟩
                         have HX := Lib.hid (HX.out.step hB)
                         clear hB
                         have c1 : w2.cell? ⟨w.heap.size, 1, none⟩ = some (.string f) := blk_cell HX.out.box 1
                         have c2 : w2.cell? ⟨w.heap.size, 2, none⟩ = some (.string t) := blk_cell HX.out.box 2
                         have c3 : w2.cell? ⟨w.heap.size, 3, none⟩ = some (.int .u64 am) := blk_cell HX.out.box 3
                         have c4 : w2.cell? ⟨w.heap.size, 4, none⟩ = some (.int .u64 nc) := blk_cell HX.out.box 4
                         have c5 : w2.cell? ⟨w.heap.size, 5, none⟩ = some (.string ky') := blk_cell HX.out.box 5
                         have c6 : w2.cell? ⟨w.heap.size, 6, none⟩ = some (.string vl) := blk_cell HX.out.box 6
                         have c7 : w2.cell? ⟨w.heap.size, 7, none⟩ = some (.slice A rs.length c) := blk_cell HX.out.box 7
                         have c8 : w2.cell? ⟨w.heap.size, 8, none⟩ = some (.slice B ws.length d) := blk_cell HX.out.box 8
                         have r0 : w2.cell? ⟨w.heap.size + 1, 0, none⟩ = some (.int .i64 0) := blk_cell HX.out.res 0
                         have z0 := blk_frozen HX.out.res 0
                         skip))
                    refine leaves_cons (f := 51) (args := #[.pointer (some ⟨w.heap.size + 1, 0, none⟩)]) (by simp) (by simp [go_sem]) ?_
                    refine (caught_idle ⟨w.heap.size + 1, 0, none⟩ _).mono ?_
                    rintro e u' w'' ⟨rfl, rfl, rfl⟩
                    have hq := HX.out.resr (.int .i64 0)
                    simp [Leaves, settle, results, Tryd.results41, go_sem, hq]
                    exact HX.out.setr _
                  · rw [hk (ke ws) (by simp [chR, a1, a2, k1])]
                    have k1 := Lib.hid k1
                    have k2 := Lib.hid k2
                    clear hk hnil a1 a2
                    go_wp2_with (first
                      | (go_at_call 71
                         go_must (refine (name_calls _ _).mono ?_)
                         rintro e w2 ⟨rfl, hB⟩
                         have HX := Lib.hid (HX.out.step hB)
                         clear hB
                         have c1 : w2.cell? ⟨w.heap.size, 1, none⟩ = some (.string f) := blk_cell HX.out.box 1
                         have c2 : w2.cell? ⟨w.heap.size, 2, none⟩ = some (.string t) := blk_cell HX.out.box 2
                         have c3 : w2.cell? ⟨w.heap.size, 3, none⟩ = some (.int .u64 am) := blk_cell HX.out.box 3
                         have c4 : w2.cell? ⟨w.heap.size, 4, none⟩ = some (.int .u64 nc) := blk_cell HX.out.box 4
                         have c5 : w2.cell? ⟨w.heap.size, 5, none⟩ = some (.string ky') := blk_cell HX.out.box 5
                         have c6 : w2.cell? ⟨w.heap.size, 6, none⟩ = some (.string vl) := blk_cell HX.out.box 6
                         have c7 : w2.cell? ⟨w.heap.size, 7, none⟩ = some (.slice A rs.length c) := blk_cell HX.out.box 7
                         have c8 : w2.cell? ⟨w.heap.size, 8, none⟩ = some (.slice B ws.length d) := blk_cell HX.out.box 8
                         have r0 : w2.cell? ⟨w.heap.size + 1, 0, none⟩ = some (.int .i64 0) := blk_cell HX.out.res 0
                         have z0 := blk_frozen HX.out.res 0
                         skip)
                      | (go_at_call 55; first | (with_reducible refine (check_ok _ _).mono ?_; rintro e w'' ⟨rfl, hw⟩; have hw := hw.symm; subst hw) | (with_reducible refine (check_no _ _).mono ?_; rintro e w'' ⟨rfl, hw⟩; have hw := hw.symm; subst hw))
                      | (go_at_call 72
                         first
                           | (with_reducible refine (keys_ok A c rs _ k1.out (Kd.C_below HR.out HX.out.low) HC.out).mono ?_)
                           | (with_reducible refine (keys_no A c rs _ k1.out (Kd.C_below HR.out HX.out.low) HC.out).mono ?_)
                           | (with_reducible refine (keys_ok B d ws _ k2.out (Kd.C_below HS.out HX.out.low) HD.out).mono ?_)
                           | (with_reducible refine (keys_no B d ws _ k2.out (Kd.C_below HS.out HX.out.low) HD.out).mono ?_)
                         rintro e w2 ⟨rfl, hB⟩
                         have HX := Lib.hid (HX.out.step hB)
                         clear hB
                         have c1 : w2.cell? ⟨w.heap.size, 1, none⟩ = some (.string f) := blk_cell HX.out.box 1
                         have c2 : w2.cell? ⟨w.heap.size, 2, none⟩ = some (.string t) := blk_cell HX.out.box 2
                         have c3 : w2.cell? ⟨w.heap.size, 3, none⟩ = some (.int .u64 am) := blk_cell HX.out.box 3
                         have c4 : w2.cell? ⟨w.heap.size, 4, none⟩ = some (.int .u64 nc) := blk_cell HX.out.box 4
                         have c5 : w2.cell? ⟨w.heap.size, 5, none⟩ = some (.string ky') := blk_cell HX.out.box 5
                         have c6 : w2.cell? ⟨w.heap.size, 6, none⟩ = some (.string vl) := blk_cell HX.out.box 6
                         have c7 : w2.cell? ⟨w.heap.size, 7, none⟩ = some (.slice A rs.length c) := blk_cell HX.out.box 7
                         have c8 : w2.cell? ⟨w.heap.size, 8, none⟩ = some (.slice B ws.length d) := blk_cell HX.out.box 8
                         have r0 : w2.cell? ⟨w.heap.size + 1, 0, none⟩ = some (.int .i64 0) := blk_cell HX.out.res 0
                         have z0 := blk_frozen HX.out.res 0
                         skip))
                    refine leaves_cons (f := 51) (args := #[.pointer (some ⟨w.heap.size + 1, 0, none⟩)]) (by simp) (by simp [go_sem]) ?_
                    refine (caught_panicking ⟨w.heap.size + 1, 0, none⟩ 0 (ke ws) [] _ (blk_cell HX.out.res 0) (blk_frozen HX.out.res 0)).mono ?_
                    rintro e u' w'' ⟨rfl, rfl, rfl⟩
                    have hq := HX.out.resr (.int .i64 (ke ws))
                    simp [Leaves, settle, results, Tryd.results41, go_sem, hq]
                    exact HX.out.setr _
                · rw [hk (ke rs) (by simp [chR, a1, a2, k1])]
                  have k1 := Lib.hid k1
                  clear hk hnil a1 a2
                  go_wp2_with (first
                    | (go_at_call 71
                       go_must (refine (name_calls _ _).mono ?_)
                       rintro e w2 ⟨rfl, hB⟩
                       have HX := Lib.hid (HX.out.step hB)
                       clear hB
                       have c1 : w2.cell? ⟨w.heap.size, 1, none⟩ = some (.string f) := blk_cell HX.out.box 1
                       have c2 : w2.cell? ⟨w.heap.size, 2, none⟩ = some (.string t) := blk_cell HX.out.box 2
                       have c3 : w2.cell? ⟨w.heap.size, 3, none⟩ = some (.int .u64 am) := blk_cell HX.out.box 3
                       have c4 : w2.cell? ⟨w.heap.size, 4, none⟩ = some (.int .u64 nc) := blk_cell HX.out.box 4
                       have c5 : w2.cell? ⟨w.heap.size, 5, none⟩ = some (.string ky') := blk_cell HX.out.box 5
                       have c6 : w2.cell? ⟨w.heap.size, 6, none⟩ = some (.string vl) := blk_cell HX.out.box 6
                       have c7 : w2.cell? ⟨w.heap.size, 7, none⟩ = some (.slice A rs.length c) := blk_cell HX.out.box 7
                       have c8 : w2.cell? ⟨w.heap.size, 8, none⟩ = some (.slice B ws.length d) := blk_cell HX.out.box 8
                       have r0 : w2.cell? ⟨w.heap.size + 1, 0, none⟩ = some (.int .i64 0) := blk_cell HX.out.res 0
                       have z0 := blk_frozen HX.out.res 0
                       skip)
                    | (go_at_call 55; first | (with_reducible refine (check_ok _ _).mono ?_; rintro e w'' ⟨rfl, hw⟩; have hw := hw.symm; subst hw) | (with_reducible refine (check_no _ _).mono ?_; rintro e w'' ⟨rfl, hw⟩; have hw := hw.symm; subst hw))
                    | (go_at_call 72
                       first
                         | (with_reducible refine (keys_ok A c rs _ k1.out (Kd.C_below HR.out HX.out.low) HC.out).mono ?_)
                         | (with_reducible refine (keys_no A c rs _ k1.out (Kd.C_below HR.out HX.out.low) HC.out).mono ?_)
                         | (with_reducible refine (keys_ok B d ws _ k2.out (Kd.C_below HS.out HX.out.low) HD.out).mono ?_)
                         | (with_reducible refine (keys_no B d ws _ k2.out (Kd.C_below HS.out HX.out.low) HD.out).mono ?_)
                       rintro e w2 ⟨rfl, hB⟩
                       have HX := Lib.hid (HX.out.step hB)
                       clear hB
                       have c1 : w2.cell? ⟨w.heap.size, 1, none⟩ = some (.string f) := blk_cell HX.out.box 1
                       have c2 : w2.cell? ⟨w.heap.size, 2, none⟩ = some (.string t) := blk_cell HX.out.box 2
                       have c3 : w2.cell? ⟨w.heap.size, 3, none⟩ = some (.int .u64 am) := blk_cell HX.out.box 3
                       have c4 : w2.cell? ⟨w.heap.size, 4, none⟩ = some (.int .u64 nc) := blk_cell HX.out.box 4
                       have c5 : w2.cell? ⟨w.heap.size, 5, none⟩ = some (.string ky') := blk_cell HX.out.box 5
                       have c6 : w2.cell? ⟨w.heap.size, 6, none⟩ = some (.string vl) := blk_cell HX.out.box 6
                       have c7 : w2.cell? ⟨w.heap.size, 7, none⟩ = some (.slice A rs.length c) := blk_cell HX.out.box 7
                       have c8 : w2.cell? ⟨w.heap.size, 8, none⟩ = some (.slice B ws.length d) := blk_cell HX.out.box 8
                       have r0 : w2.cell? ⟨w.heap.size + 1, 0, none⟩ = some (.int .i64 0) := blk_cell HX.out.res 0
                       have z0 := blk_frozen HX.out.res 0
                       skip))
                  refine leaves_cons (f := 51) (args := #[.pointer (some ⟨w.heap.size + 1, 0, none⟩)]) (by simp) (by simp [go_sem]) ?_
                  refine (caught_panicking ⟨w.heap.size + 1, 0, none⟩ 0 (ke rs) [] _ (blk_cell HX.out.res 0) (blk_frozen HX.out.res 0)).mono ?_
                  rintro e u' w'' ⟨rfl, rfl, rfl⟩
                  have hq := HX.out.resr (.int .i64 (ke rs))
                  simp [Leaves, settle, results, Tryd.results41, go_sem, hq]
                  exact HX.out.setr _
              · have d2 : decide (nc ≤ 4611686018427387903) = false := by simp; omega
                rw [hk 2 (by simp [chR, a2])]
                clear hk hnil a1 a2
                go_wp2_with (first
                  | (go_at_call 71
                     go_must (refine (name_calls _ _).mono ?_)
                     rintro e w2 ⟨rfl, hB⟩
                     have HX := Lib.hid (HX.out.step hB)
                     clear hB
                     have c1 : w2.cell? ⟨w.heap.size, 1, none⟩ = some (.string f) := blk_cell HX.out.box 1
                     have c2 : w2.cell? ⟨w.heap.size, 2, none⟩ = some (.string t) := blk_cell HX.out.box 2
                     have c3 : w2.cell? ⟨w.heap.size, 3, none⟩ = some (.int .u64 am) := blk_cell HX.out.box 3
                     have c4 : w2.cell? ⟨w.heap.size, 4, none⟩ = some (.int .u64 nc) := blk_cell HX.out.box 4
                     have c5 : w2.cell? ⟨w.heap.size, 5, none⟩ = some (.string ky') := blk_cell HX.out.box 5
                     have c6 : w2.cell? ⟨w.heap.size, 6, none⟩ = some (.string vl) := blk_cell HX.out.box 6
                     have c7 : w2.cell? ⟨w.heap.size, 7, none⟩ = some (.slice A rs.length c) := blk_cell HX.out.box 7
                     have c8 : w2.cell? ⟨w.heap.size, 8, none⟩ = some (.slice B ws.length d) := blk_cell HX.out.box 8
                     have r0 : w2.cell? ⟨w.heap.size + 1, 0, none⟩ = some (.int .i64 0) := blk_cell HX.out.res 0
                     have z0 := blk_frozen HX.out.res 0
                     skip)
                  | (go_at_call 55; first | (with_reducible refine (check_ok _ _).mono ?_; rintro e w'' ⟨rfl, hw⟩; have hw := hw.symm; subst hw) | (with_reducible refine (check_no _ _).mono ?_; rintro e w'' ⟨rfl, hw⟩; have hw := hw.symm; subst hw))
                  | (go_at_call 72
                     first
                       | (with_reducible refine (keys_ok A c rs _ k1.out (Kd.C_below HR.out HX.out.low) HC.out).mono ?_)
                       | (with_reducible refine (keys_no A c rs _ k1.out (Kd.C_below HR.out HX.out.low) HC.out).mono ?_)
                       | (with_reducible refine (keys_ok B d ws _ k2.out (Kd.C_below HS.out HX.out.low) HD.out).mono ?_)
                       | (with_reducible refine (keys_no B d ws _ k2.out (Kd.C_below HS.out HX.out.low) HD.out).mono ?_)
                     rintro e w2 ⟨rfl, hB⟩
                     have HX := Lib.hid (HX.out.step hB)
                     clear hB
                     have c1 : w2.cell? ⟨w.heap.size, 1, none⟩ = some (.string f) := blk_cell HX.out.box 1
                     have c2 : w2.cell? ⟨w.heap.size, 2, none⟩ = some (.string t) := blk_cell HX.out.box 2
                     have c3 : w2.cell? ⟨w.heap.size, 3, none⟩ = some (.int .u64 am) := blk_cell HX.out.box 3
                     have c4 : w2.cell? ⟨w.heap.size, 4, none⟩ = some (.int .u64 nc) := blk_cell HX.out.box 4
                     have c5 : w2.cell? ⟨w.heap.size, 5, none⟩ = some (.string ky') := blk_cell HX.out.box 5
                     have c6 : w2.cell? ⟨w.heap.size, 6, none⟩ = some (.string vl) := blk_cell HX.out.box 6
                     have c7 : w2.cell? ⟨w.heap.size, 7, none⟩ = some (.slice A rs.length c) := blk_cell HX.out.box 7
                     have c8 : w2.cell? ⟨w.heap.size, 8, none⟩ = some (.slice B ws.length d) := blk_cell HX.out.box 8
                     have r0 : w2.cell? ⟨w.heap.size + 1, 0, none⟩ = some (.int .i64 0) := blk_cell HX.out.res 0
                     have z0 := blk_frozen HX.out.res 0
                     skip))
                refine leaves_cons (f := 51) (args := #[.pointer (some ⟨w.heap.size + 1, 0, none⟩)]) (by simp) (by simp [go_sem]) ?_
                refine (caught_panicking ⟨w.heap.size + 1, 0, none⟩ 0 2 [] _ (blk_cell HX.out.res 0) (blk_frozen HX.out.res 0)).mono ?_
                rintro e u' w'' ⟨rfl, rfl, rfl⟩
                have hq := HX.out.resr (.int .i64 2)
                simp [Leaves, settle, results, Tryd.results41, go_sem, hq]
                exact HX.out.setr _
            · have b5 : (am == 0) = false := by simp [h5]
              have hE : ch 2 f t am nc ky' vl rs ws = 3 := by simp [ch, chF, h1, h2, h3, h4, h5]
              rw [hE]
              clear hE hnil
              try clear h3
              try clear h5
              go_wp2_with (first
                | (go_at_call 71
                   go_must (refine (name_calls _ _).mono ?_)
                   rintro e w2 ⟨rfl, hB⟩
                   have HX := Lib.hid (HX.out.step hB)
                   clear hB
                   have c1 : w2.cell? ⟨w.heap.size, 1, none⟩ = some (.string f) := blk_cell HX.out.box 1
                   have c2 : w2.cell? ⟨w.heap.size, 2, none⟩ = some (.string t) := blk_cell HX.out.box 2
                   have c3 : w2.cell? ⟨w.heap.size, 3, none⟩ = some (.int .u64 am) := blk_cell HX.out.box 3
                   have c4 : w2.cell? ⟨w.heap.size, 4, none⟩ = some (.int .u64 nc) := blk_cell HX.out.box 4
                   have c5 : w2.cell? ⟨w.heap.size, 5, none⟩ = some (.string ky') := blk_cell HX.out.box 5
                   have c6 : w2.cell? ⟨w.heap.size, 6, none⟩ = some (.string vl) := blk_cell HX.out.box 6
                   have c7 : w2.cell? ⟨w.heap.size, 7, none⟩ = some (.slice A rs.length c) := blk_cell HX.out.box 7
                   have c8 : w2.cell? ⟨w.heap.size, 8, none⟩ = some (.slice B ws.length d) := blk_cell HX.out.box 8
                   have r0 : w2.cell? ⟨w.heap.size + 1, 0, none⟩ = some (.int .i64 0) := blk_cell HX.out.res 0
                   have z0 := blk_frozen HX.out.res 0
                   skip)
                | (go_at_call 55; first | (with_reducible refine (check_ok _ _).mono ?_; rintro e w'' ⟨rfl, hw⟩; have hw := hw.symm; subst hw) | (with_reducible refine (check_no _ _).mono ?_; rintro e w'' ⟨rfl, hw⟩; have hw := hw.symm; subst hw))
                | (go_at_call 72
                   first
                     | (with_reducible refine (keys_ok A c rs _ k1.out (Kd.C_below HR.out HX.out.low) HC.out).mono ?_)
                     | (with_reducible refine (keys_no A c rs _ k1.out (Kd.C_below HR.out HX.out.low) HC.out).mono ?_)
                     | (with_reducible refine (keys_ok B d ws _ k2.out (Kd.C_below HS.out HX.out.low) HD.out).mono ?_)
                     | (with_reducible refine (keys_no B d ws _ k2.out (Kd.C_below HS.out HX.out.low) HD.out).mono ?_)
                   rintro e w2 ⟨rfl, hB⟩
                   have HX := Lib.hid (HX.out.step hB)
                   clear hB
                   have c1 : w2.cell? ⟨w.heap.size, 1, none⟩ = some (.string f) := blk_cell HX.out.box 1
                   have c2 : w2.cell? ⟨w.heap.size, 2, none⟩ = some (.string t) := blk_cell HX.out.box 2
                   have c3 : w2.cell? ⟨w.heap.size, 3, none⟩ = some (.int .u64 am) := blk_cell HX.out.box 3
                   have c4 : w2.cell? ⟨w.heap.size, 4, none⟩ = some (.int .u64 nc) := blk_cell HX.out.box 4
                   have c5 : w2.cell? ⟨w.heap.size, 5, none⟩ = some (.string ky') := blk_cell HX.out.box 5
                   have c6 : w2.cell? ⟨w.heap.size, 6, none⟩ = some (.string vl) := blk_cell HX.out.box 6
                   have c7 : w2.cell? ⟨w.heap.size, 7, none⟩ = some (.slice A rs.length c) := blk_cell HX.out.box 7
                   have c8 : w2.cell? ⟨w.heap.size, 8, none⟩ = some (.slice B ws.length d) := blk_cell HX.out.box 8
                   have r0 : w2.cell? ⟨w.heap.size + 1, 0, none⟩ = some (.int .i64 0) := blk_cell HX.out.res 0
                   have z0 := blk_frozen HX.out.res 0
                   skip))
              refine leaves_cons (f := 51) (args := #[.pointer (some ⟨w.heap.size + 1, 0, none⟩)]) (by simp) (by simp [go_sem]) ?_
              refine (caught_panicking ⟨w.heap.size + 1, 0, none⟩ 0 3 [] _ (blk_cell HX.out.res 0) (blk_frozen HX.out.res 0)).mono ?_
              rintro e u' w'' ⟨rfl, rfl, rfl⟩
              have hq := HX.out.resr (.int .i64 3)
              simp [Leaves, settle, results, Tryd.results41, go_sem, hq]
              exact HX.out.setr _
          ·
            have hE : ch 2 f t am nc ky' vl rs ws = 3 := by simp [ch, chF, h1, h2, h3, h4]
            rw [hE]
            clear hE hnil
            try clear h3
            try clear h5
            go_wp2_with (first
              | (go_at_call 71
                 go_must (refine (name_calls _ _).mono ?_)
                 rintro e w2 ⟨rfl, hB⟩
                 have HX := Lib.hid (HX.out.step hB)
                 clear hB
                 have c1 : w2.cell? ⟨w.heap.size, 1, none⟩ = some (.string f) := blk_cell HX.out.box 1
                 have c2 : w2.cell? ⟨w.heap.size, 2, none⟩ = some (.string t) := blk_cell HX.out.box 2
                 have c3 : w2.cell? ⟨w.heap.size, 3, none⟩ = some (.int .u64 am) := blk_cell HX.out.box 3
                 have c4 : w2.cell? ⟨w.heap.size, 4, none⟩ = some (.int .u64 nc) := blk_cell HX.out.box 4
                 have c5 : w2.cell? ⟨w.heap.size, 5, none⟩ = some (.string ky') := blk_cell HX.out.box 5
                 have c6 : w2.cell? ⟨w.heap.size, 6, none⟩ = some (.string vl) := blk_cell HX.out.box 6
                 have c7 : w2.cell? ⟨w.heap.size, 7, none⟩ = some (.slice A rs.length c) := blk_cell HX.out.box 7
                 have c8 : w2.cell? ⟨w.heap.size, 8, none⟩ = some (.slice B ws.length d) := blk_cell HX.out.box 8
                 have r0 : w2.cell? ⟨w.heap.size + 1, 0, none⟩ = some (.int .i64 0) := blk_cell HX.out.res 0
                 have z0 := blk_frozen HX.out.res 0
                 skip)
              | (go_at_call 55; first | (with_reducible refine (check_ok _ _).mono ?_; rintro e w'' ⟨rfl, hw⟩; have hw := hw.symm; subst hw) | (with_reducible refine (check_no _ _).mono ?_; rintro e w'' ⟨rfl, hw⟩; have hw := hw.symm; subst hw))
              | (go_at_call 72
                 first
                   | (with_reducible refine (keys_ok A c rs _ k1.out (Kd.C_below HR.out HX.out.low) HC.out).mono ?_)
                   | (with_reducible refine (keys_no A c rs _ k1.out (Kd.C_below HR.out HX.out.low) HC.out).mono ?_)
                   | (with_reducible refine (keys_ok B d ws _ k2.out (Kd.C_below HS.out HX.out.low) HD.out).mono ?_)
                   | (with_reducible refine (keys_no B d ws _ k2.out (Kd.C_below HS.out HX.out.low) HD.out).mono ?_)
                 rintro e w2 ⟨rfl, hB⟩
                 have HX := Lib.hid (HX.out.step hB)
                 clear hB
                 have c1 : w2.cell? ⟨w.heap.size, 1, none⟩ = some (.string f) := blk_cell HX.out.box 1
                 have c2 : w2.cell? ⟨w.heap.size, 2, none⟩ = some (.string t) := blk_cell HX.out.box 2
                 have c3 : w2.cell? ⟨w.heap.size, 3, none⟩ = some (.int .u64 am) := blk_cell HX.out.box 3
                 have c4 : w2.cell? ⟨w.heap.size, 4, none⟩ = some (.int .u64 nc) := blk_cell HX.out.box 4
                 have c5 : w2.cell? ⟨w.heap.size, 5, none⟩ = some (.string ky') := blk_cell HX.out.box 5
                 have c6 : w2.cell? ⟨w.heap.size, 6, none⟩ = some (.string vl) := blk_cell HX.out.box 6
                 have c7 : w2.cell? ⟨w.heap.size, 7, none⟩ = some (.slice A rs.length c) := blk_cell HX.out.box 7
                 have c8 : w2.cell? ⟨w.heap.size, 8, none⟩ = some (.slice B ws.length d) := blk_cell HX.out.box 8
                 have r0 : w2.cell? ⟨w.heap.size + 1, 0, none⟩ = some (.int .i64 0) := blk_cell HX.out.res 0
                 have z0 := blk_frozen HX.out.res 0
                 skip))
            refine leaves_cons (f := 51) (args := #[.pointer (some ⟨w.heap.size + 1, 0, none⟩)]) (by simp) (by simp [go_sem]) ?_
            refine (caught_panicking ⟨w.heap.size + 1, 0, none⟩ 0 3 [] _ (blk_cell HX.out.res 0) (blk_frozen HX.out.res 0)).mono ?_
            rintro e u' w'' ⟨rfl, rfl, rfl⟩
            have hq := HX.out.resr (.int .i64 3)
            simp [Leaves, settle, results, Tryd.results41, go_sem, hq]
            exact HX.out.setr _
        · have b3 : decide ((vl.size : Int) ≤ 64) = false := by simp; omega
          have hE : ch 2 f t am nc ky' vl rs ws = 3 := by simp [ch, chF, h1, h2, h3]
          rw [hE]
          clear hE hnil
          try clear h3
          try clear h5
          go_wp2_with (first
            | (go_at_call 71
               go_must (refine (name_calls _ _).mono ?_)
               rintro e w2 ⟨rfl, hB⟩
               have HX := Lib.hid (HX.out.step hB)
               clear hB
               have c1 : w2.cell? ⟨w.heap.size, 1, none⟩ = some (.string f) := blk_cell HX.out.box 1
               have c2 : w2.cell? ⟨w.heap.size, 2, none⟩ = some (.string t) := blk_cell HX.out.box 2
               have c3 : w2.cell? ⟨w.heap.size, 3, none⟩ = some (.int .u64 am) := blk_cell HX.out.box 3
               have c4 : w2.cell? ⟨w.heap.size, 4, none⟩ = some (.int .u64 nc) := blk_cell HX.out.box 4
               have c5 : w2.cell? ⟨w.heap.size, 5, none⟩ = some (.string ky') := blk_cell HX.out.box 5
               have c6 : w2.cell? ⟨w.heap.size, 6, none⟩ = some (.string vl) := blk_cell HX.out.box 6
               have c7 : w2.cell? ⟨w.heap.size, 7, none⟩ = some (.slice A rs.length c) := blk_cell HX.out.box 7
               have c8 : w2.cell? ⟨w.heap.size, 8, none⟩ = some (.slice B ws.length d) := blk_cell HX.out.box 8
               have r0 : w2.cell? ⟨w.heap.size + 1, 0, none⟩ = some (.int .i64 0) := blk_cell HX.out.res 0
               have z0 := blk_frozen HX.out.res 0
               skip)
            | (go_at_call 55; first | (with_reducible refine (check_ok _ _).mono ?_; rintro e w'' ⟨rfl, hw⟩; have hw := hw.symm; subst hw) | (with_reducible refine (check_no _ _).mono ?_; rintro e w'' ⟨rfl, hw⟩; have hw := hw.symm; subst hw))
            | (go_at_call 72
               first
                 | (with_reducible refine (keys_ok A c rs _ k1.out (Kd.C_below HR.out HX.out.low) HC.out).mono ?_)
                 | (with_reducible refine (keys_no A c rs _ k1.out (Kd.C_below HR.out HX.out.low) HC.out).mono ?_)
                 | (with_reducible refine (keys_ok B d ws _ k2.out (Kd.C_below HS.out HX.out.low) HD.out).mono ?_)
                 | (with_reducible refine (keys_no B d ws _ k2.out (Kd.C_below HS.out HX.out.low) HD.out).mono ?_)
               rintro e w2 ⟨rfl, hB⟩
               have HX := Lib.hid (HX.out.step hB)
               clear hB
               have c1 : w2.cell? ⟨w.heap.size, 1, none⟩ = some (.string f) := blk_cell HX.out.box 1
               have c2 : w2.cell? ⟨w.heap.size, 2, none⟩ = some (.string t) := blk_cell HX.out.box 2
               have c3 : w2.cell? ⟨w.heap.size, 3, none⟩ = some (.int .u64 am) := blk_cell HX.out.box 3
               have c4 : w2.cell? ⟨w.heap.size, 4, none⟩ = some (.int .u64 nc) := blk_cell HX.out.box 4
               have c5 : w2.cell? ⟨w.heap.size, 5, none⟩ = some (.string ky') := blk_cell HX.out.box 5
               have c6 : w2.cell? ⟨w.heap.size, 6, none⟩ = some (.string vl) := blk_cell HX.out.box 6
               have c7 : w2.cell? ⟨w.heap.size, 7, none⟩ = some (.slice A rs.length c) := blk_cell HX.out.box 7
               have c8 : w2.cell? ⟨w.heap.size, 8, none⟩ = some (.slice B ws.length d) := blk_cell HX.out.box 8
               have r0 : w2.cell? ⟨w.heap.size + 1, 0, none⟩ = some (.int .i64 0) := blk_cell HX.out.res 0
               have z0 := blk_frozen HX.out.res 0
               skip))
          refine leaves_cons (f := 51) (args := #[.pointer (some ⟨w.heap.size + 1, 0, none⟩)]) (by simp) (by simp [go_sem]) ?_
          refine (caught_panicking ⟨w.heap.size + 1, 0, none⟩ 0 3 [] _ (blk_cell HX.out.res 0) (blk_frozen HX.out.res 0)).mono ?_
          rintro e u' w'' ⟨rfl, rfl, rfl⟩
          have hq := HX.out.resr (.int .i64 3)
          simp [Leaves, settle, results, Tryd.results41, go_sem, hq]
          exact HX.out.setr _
def tx_Check.f (a0_0 : Int) (a0_1 a0_2 : ByteArray) (a0_3 a0_4 : Int) (a0_5 a0_6 : ByteArray) (l0_7 l0_8 : List ByteArray) : Option Int := some (ch a0_0 a0_1 a0_2 a0_3 a0_4 a0_5 a0_6 l0_7 l0_8)
theorem tx_Check.calls (a0_0 : Int) (a0_1 a0_2 : ByteArray) (a0_3 a0_4 : Int) (a0_5 a0_6 : ByteArray) (A0_7 : Option Addr) (c0_7 : Nat) (l0_7 : List ByteArray) (A0_8 : Option Addr) (c0_8 : Nat) (l0_8 : List ByteArray) (r : Int) (w : World) (hr0_7 : Kd.C Kd.string w A0_7 l0_7.length l0_7) (hc0_7 : l0_7.length ≤ c0_7) (hr0_8 : Kd.C Kd.string w A0_8 l0_8.length l0_8) (hc0_8 : l0_8.length ≤ c0_8) (h : tx_Check.f a0_0 a0_1 a0_2 a0_3 a0_4 a0_5 a0_6 l0_7 l0_8 = some r) :
    Calls Tryd.prog 41 #[.agg #[.int .i64 a0_0, .string a0_1, .string a0_2, .int .u64 a0_3, .int .u64 a0_4, .string a0_5, .string a0_6, .slice A0_7 l0_7.length c0_7, .slice A0_8 l0_8.length c0_8]] w fun e w' => e = .returned (.int .i64 r) ∧ Below w.heap.size w w' := by
  obtain rfl := Option.some.inj h
  exact chk_calls a0_0 a0_1 a0_2 a0_3 a0_4 a0_5 a0_6 A0_7 A0_8 c0_7 c0_8 l0_7 l0_8 w hr0_7 hc0_7 hr0_8 hc0_8
end Go.Proofs.YtndicjikjcifaaaDoor

namespace Go.Proofs.YtndicjikjcifaaaDoor.PWi
open Go.RowKit Go.Proofs.YtndicjikjcifaaaDoorW.PrintWords Go.Proofs.YtndicjikjcifaaaDoorW.PrintLast Go.Proofs.YtndicjikjcifaaaDoorW.PrintMore
attribute [local go_sem] max2_int min2_int max_two min_two max_three min_three max_four min_four   -- for this text's walks alone
set_option linter.unusedVariables false
set_option linter.unusedSimpArgs false
def errW : Option Int → Value
  | none => .nilIface
  | some c => .iface 0 (.int .i64 c)
theorem errW_none : errW none = .nilIface := rfl
theorem errW_some (c : Int) : errW (some c) = .iface 0 (.int .i64 c) := rfl
theorem info9 : (Tryd.prog.info? 9).map (fun i => (i.zero, i.size, i.bytes)) = some (some (.string ⟨#[]⟩), 1, 16) := by kernel_rfl
-- the values' own types
end Go.Proofs.YtndicjikjcifaaaDoor.PWi

/- wire.Int, wire.GetInt: the numbers. -/
namespace Go.Proofs.YtndicjikjcifaaaDoor
open Go.RowKit Go.Proofs.YtndicjikjcifaaaDoorW.PrintWords Go.Proofs.YtndicjikjcifaaaDoorW.PrintLast Go.Proofs.YtndicjikjcifaaaDoorW.PrintMore
set_option linter.unusedVariables false
set_option linter.unusedSimpArgs false
theorem wp_scope_once {P : Program} {a : Act} {w : World} {Q : Exit → Act → World → Prop} {c rest : Code} (l : Nat) (J : Act → World → Prop) (μ : Act → World → Nat) (hf : findLabel c l = some (Code.skip.seq rest))
    (pass : ∀ a w, J a w → rest.wp P (Exit.jump l (fun a' w' => J a' w' ∧ μ a' w' < μ a w) Q) a w)
    (first : (∀ a w, J a w → rest.wp P (Exit.jump l J Q) a w) → c.wp P (Exit.jump l J Q) a w) : (Code.scope c).wp P Q a w :=
  wp_scope_jumps l J μ hf (first fun a w h => wp_mono (pass a w h) (fun e a' w' h' => by
    cases e <;> first | exact h' | exact ⟨h'.1, h'.2.1⟩)) (fun a w h => wp_seq (wp_skip (pass a w h)))
def bn (s : ByteArray) (i : Nat) : Nat := if h : i < s.size then (s[i]'h).toNat else 0
theorem bn_lt (s : ByteArray) (i : Nat) : bn s i < 256 := by
  by_cases h : i < s.size
  · simp only [bn, dif_pos h]; exact UInt8.toNat_lt _
  · simp only [bn, dif_neg h]; omega
theorem b_low (c : Nat) (hc : c < 256) : bits .andNot .u8 (c : Int) 128 = ((c % 128 : Nat) : Int) := by
  have := u8_andNot_nat c 128 hc (by omega)
  rw [show (((128 : Nat)) : Int) = 128 from rfl] at this
  rw [this, show 255 - 128 = 127 from rfl, nat_mask7]
set_option maxRecDepth 10000 in
theorem b_or (c : Nat) (hc : c < 256) : bits .or .u8 (c : Int) 128 = ((c % 128 + 128 : Nat) : Int) := by
  have := u8_or_nat c 128 hc (by omega)
  rw [show (((128 : Nat)) : Int) = 128 from rfl] at this
  rw [this]
  have h : ∀ c : Fin 256, c.val ||| 128 = c.val % 128 + 128 := by decide
  exact congrArg _ (h ⟨c, hc⟩)
theorem b_top (c : Nat) (hc : c < 256) : bits .and .u8 (c : Int) 128 = if c < 128 then 0 else 128 := by
  have := u8_and_nat c 128 hc (by omega)
  rw [show (((128 : Nat)) : Int) = 128 from rfl] at this
  rw [this, show (128 : Nat) = 2 ^ 7 from rfl, nat_bit 7 c]
  by_cases h : c < 2 ^ 7
  · rw [if_pos h, Nat.div_eq_of_lt h]; rfl
  · rw [if_neg h]
    have : c / 2 ^ 7 = 1 := by omega
    rw [this]; rfl
theorem b_pow (i m : Nat) (hi : i ≤ 8) (hm : m < 128) : m * 2 ^ (7 * i) < 9223372036854775808 ∧ 2 ^ (7 * i) * 128 ≤ 9223372036854775808 := by
  have h1 : 2 ^ (7 * i) ≤ 2 ^ 56 := Nat.pow_le_pow_right (by omega) (by omega)
  have h2 : m * 2 ^ (7 * i) ≤ 127 * 2 ^ (7 * i) := Nat.mul_le_mul_right _ (by omega)
  constructor <;> omega
theorem b_sum (n i m : Nat) (hm : m < 128) (hn : n < 2 ^ (7 * i)) : n + m * 2 ^ (7 * i) < 2 ^ (7 * (i + 1)) := by
  have h2 : m * 2 ^ (7 * i) ≤ 127 * 2 ^ (7 * i) := Nat.mul_le_mul_right _ (by omega)
  have h3 : 2 ^ (7 * (i + 1)) = 2 ^ (7 * i) * 2 ^ 7 := by rw [← Nat.pow_add]; congr 1
  omega
theorem b_join (n i m : Nat) (hi : i ≤ 8) (hm : m < 128) (hn : n < 2 ^ (7 * i)) : bits .or .u64 (n : Int) ((m * 2 ^ (7 * i) : Nat) : Int) = ((n + m * 2 ^ (7 * i) : Nat) : Int) := by
  have := b_pow i m hi hm
  rw [u64_or_nat n _ (by omega) (by omega), Nat.or_comm, nat_join (7 * i) _ _ (by simp) hn, Nat.add_comm]
def gi (s : ByteArray) : Nat → Nat → Nat → Int × Int × Int
  | 0, _, _ => (0, 0, 2)
  | k + 1, i, n => if i = s.size then (0, 0, 1) else
    if bn s i < 128 then
      (if n + bn s i * 2 ^ (7 * i) > 4611686018427387903 then (0, 0, 2)
       else if bn s i = 0 ∧ 0 < i then (0, 0, 3) else (((n + bn s i * 2 ^ (7 * i) : Nat) : Int), ((i + 1 : Nat) : Int), 0))
    else gi s k (i + 1) (n + (bn s i - 128) * 2 ^ (7 * i))
def wire_GetInt.f (a0 : ByteArray) : Option (Int × Int × Int) := some (gi a0 9 0 0)
set_option maxHeartbeats 8000000 in
set_option maxRecDepth 100000 in
theorem wire_GetInt.calls (a0 : ByteArray) (r1 r2 r3 : Int) (w : World) (h : wire_GetInt.f a0 = some (r1, r2, r3)) :
    Calls Tryd.prog 60 #[.string a0] w fun e w' => e = .returned (.tuple #[.int .i64 r1, .int .i64 r2, .int .i64 r3]) ∧ Drawn0 w w' := by
  have HR := Lib.hid (Option.some.inj h)
  clear h
  go_enter Tryd.func60, Tryd.ntmps60
  go_wp2
  refine wp_scope_once 0 (fun a' w' => Drawn0 w w' ∧ ∃ (i n : Nat) (u7 u8 u9 u10 u11 u12 u13 u14 u15 u16 u17 u18 u19 u20 u21 u22 u23 u24 u25 u26 u27 u28 u29 u30 u31 u32 u33 u34 u35 u36 u37 u38 u39 u40 u41 u42 u43 u44 : Value), a' = { tmps := #[.string a0, undef, .int .i64 0, .int .i64 0, .int .i64 0, .int .u64 n, .int .i64 i, u7, u8, u9, u10, u11, u12, u13, u14, u15, u16, u17, u18, u19, u20, u21, u22, u23, u24, u25, u26, u27, u28, u29, u30, u31, u32, u33, u34, u35, u36, u37, u38, u39, u40, u41, u42, u43, u44], defers := [] } ∧ i ≤ 9 ∧ i ≤ a0.size ∧ n < 2 ^ (7 * i) ∧ gi a0 (9 - i) i n = (r1, r2, r3)) (fun a' _ => 9 - (match a'.tmps.getD 6 undef with | .int _ q => q.toNat | _ => 0)) rfl ?_ ?_
  · rintro a' w' ⟨⟨nd, rfl⟩, i, n, u7, u8, u9, u10, u11, u12, u13, u14, u15, u16, u17, u18, u19, u20, u21, u22, u23, u24, u25, u26, u27, u28, u29, u30, u31, u32, u33, u34, u35, u36, u37, u38, u39, u40, u41, u42, u43, u44, rfl, hi, his, hn, HG⟩
    have HN := Lib.hid hn
    clear hn HR
    rcases Nat.eq_or_lt_of_le hi with h9 | h9
    · subst h9
      have E := HG
      simp [gi] at E
      obtain ⟨rfl, rfl, rfl⟩ := E
      clear HG
      go_wp2
      simp only [Exit.jump]
      go_ret3
      exact ⟨rfl, ⟨nd, rfl⟩⟩
    obtain ⟨k, hk⟩ : ∃ k, 9 - i = k + 1 := ⟨8 - i, by omega⟩
    rw [hk, gi] at HG
    have b9 : ((i : Int) == 9) = false := by simp; omega
    by_cases hs : i = a0.size
    · rw [if_pos hs] at HG
      have bs : ((i : Int) == (a0.size : Int)) = true := by simp [hs]
      injection HG with e1 e2
      injection e2 with e2 e3
      subst e1 e2 e3
      clear hs
      go_wp2
      simp only [Exit.jump]
      go_ret3
      exact ⟨rfl, ⟨nd, rfl⟩⟩
    · rw [if_neg hs] at HG
      have bs : ((i : Int) == (a0.size : Int)) = false := by simp; omega
      have HG' := Lib.hid HG
      clear HG
      have p6 := eq_true (show 0 ≤ (i : Int) by omega)
      have hlt : i < a0.size := by omega
      · have q6 := eq_true (show (i : Int) < (a0.size : Int) by omega)
        have hc := bn_lt a0 i
        have hx6 : ∀ h : i < a0.size, (a0[i]'h).toNat = bn a0 i := fun h => by simp [bn, h]
        generalize bn a0 i = c at hx6 hc HG'
        obtain ⟨m, hm⟩ : ∃ m, m = c % 128 := ⟨_, rfl⟩
        have hm1 : m < 128 := by omega
        have e1 := b_low c hc
        rw [← hm] at e1
        have e2 : IntKind.u64.wrap (m : Int) = m := wraps_u64 _ (by omega) (by omega)
        have e3 : IntKind.u64.wrap ((m : Int) * 2 ^ (7 * i)) = ((m * 2 ^ (7 * i) : Nat) : Int) := by
          have := b_pow i m (by omega) hm1
          rw [show (m : Int) * 2 ^ (7 * i) = ((m * 2 ^ (7 * i) : Nat) : Int) by simp]
          exact wraps_u64 _ (by omega) (by omega)
        have e4 := b_join n i m (by omega) hm1 HN
        have hs1 := b_sum n i m hm1 HN
        have hs2 := (b_pow i m (by omega) hm1).2
        generalize hM : m * 2 ^ (7 * i) = M at e3 e4 hs1
        have e5 := b_top c hc
        by_cases ht : c < 128
        · rw [if_pos ht] at e5
          have HG := HG'
          rw [if_pos ht] at HG
          have hcm : c = m := by omega
          rw [hcm, hM] at HG
          subst hcm
          have HS1 := Lib.hid hs1
          clear hm
          by_cases hbig : n + M > 4611686018427387903
          · rw [if_pos hbig] at HG
            injection HG with g1 g2
            injection g2 with g2 g3
            subst g1 g2 g3
            have d1 : decide (4611686018427387903 < (n : Int) + (M : Int)) = true := by simp; omega
            clear hbig hs1 hs2 HG' hM ht
            go_wp2
            simp only [Exit.jump]
            go_ret3
            exact ⟨rfl, ⟨nd, rfl⟩⟩
          · rw [if_neg hbig] at HG
            have d1 : decide (4611686018427387903 < (n : Int) + (M : Int)) = false := by simp; omega
            have e7 : wrap64 ((n : Int) + (M : Int)) = ((n + M : Nat) : Int) := by rw [wrap64]; omega
            clear hbig hs1 hs2 HG' hM ht
            by_cases hz : c = 0 ∧ 0 < i
            · rw [if_pos hz] at HG
              injection HG with g1 g2
              injection g2 with g2 g3
              subst g1 g2 g3
              have d2 : ((c : Int) == 0) = true := by simp; omega
              have d3 : decide (1 < (i : Int) + 1) = true := by simp; omega
              clear hz
              go_wp2
              simp only [Exit.jump]
              go_ret3
              exact ⟨rfl, ⟨nd, rfl⟩⟩
            · rw [if_neg hz] at HG
              injection HG with g1 g2
              injection g2 with g2 g3
              subst g1 g2 g3
              by_cases hz0 : c = 0
              · have d2 : ((c : Int) == 0) = true := by simp; omega
                have d3 : decide (1 < (i : Int) + 1) = false := by simp; omega
                clear hz hz0
                go_wp2
                simp only [Exit.jump]
                go_ret3
                exact ⟨rfl, ⟨nd, rfl⟩⟩
              · have d2 : ((c : Int) == 0) = false := by simp; omega
                clear hz hz0
                go_wp2
                simp only [Exit.jump]
                go_ret3
                exact ⟨rfl, ⟨nd, rfl⟩⟩
        · rw [if_neg ht] at e5
          have HG := HG'
          rw [if_neg ht, show c - 128 = m by omega, hM] at HG
          have HS1 := Lib.hid hs1
          have HX := Lib.hid HG
          clear hs1 hs2 HG HG' hM hm
          go_wp2
          refine wp_goto ?_
          refine ⟨rfl, ⟨⟨nd, rfl⟩, i + 1, n + M, _, _, _, _, _, _, _, _, _, _, _, _, _, _, _, _, _, _, _, _, _, _, _, _, _, _, _, _, _, _, _, _, _, _, _, _, _, _, rfl, by omega, by omega, HS1, ?_⟩, ?_⟩
          · rw [show 9 - (i + 1) = k by omega]; exact HX
          · simp; omega
  · intro go
    go_wp2
    refine wp_label ?_
    rename_i hK
    refine hK _ _ (go _ _ ⟨Drawn0.refl _, 0, 0, _, _, _, _, _, _, _, _, _, _, _, _, _, _, _, _, _, _, _, _, _, _, _, _, _, _, _, _, _, _, _, _, _, _, _, _, _, _, rfl, by omega, by omega, by omega, HR⟩)
def vints (n : Nat) : List Int := if h : n < 128 then [(n : Int)] else ((n % 128 + 128 : Nat) : Int) :: vints (n / 128)
termination_by n
def wire_Int.f (a0 : Int) : Option ByteArray := some (if a0 < 0 ∨ a0 > 4611686018427387903 then ⟨#[]⟩ else strOfNums (vints a0.toNat))
def c8 (x : Int) : List Value := [.int .u8 x]
theorem c8_one (x : Int) : ∀ u ∈ c8 x, u.oneCell' = true := by simp [c8, Value.oneCell']
theorem c8_nums {e base : Nat} {w : World} {v : Value} {xs : List Int} (h : FR c8 1 e base w v xs) : w.ownsRow base e 1 v xs.length (nums .u8 xs) := by
  have : xs.flatMap c8 = nums .u8 xs := by
    clear h
    induction xs with
    | nil => rfl
    | cons x xs ih => rw [List.flatMap_cons, ih]; rfl
  rw [← this]; exact h
set_option maxHeartbeats 8000000 in
set_option maxRecDepth 100000 in
theorem wire_Int.calls (a0 : Int) (r : ByteArray) (w : World) (h : wire_Int.f a0 = some r) :
    Calls Tryd.prog 62 #[.int .i64 a0] w fun e w' => e = .returned (.string r) ∧ Below w.heap.size w w' := by
  have HR := Lib.hid (Option.some.inj h)
  clear h
  go_enter Tryd.func62, Tryd.ntmps62
  go_wp2
  refine wp_scope_once 0 (fun a' w' => Below w.heap.size w w' ∧ ∃ (m : Nat) (acc : List Int) (v u1 u4 u5 u6 u7 u8 u9 u10 u11 u12 u13 u14 u15 u16 u17 u18 u19 u20 u21 u22 u23 u24 u25 : Value), a' = { tmps := #[.int .i64 m, u1, .string ⟨#[]⟩, v, u4, u5, u6, u7, u8, u9, u10, u11, u12, u13, u14, u15, u16, u17, u18, u19, u20, u21, u22, u23, u24, u25], defers := [] } ∧ FR c8 1 5 w.heap.size w' v acc ∧ acc.length ≤ 8 ∧ m < 2 ^ (63 - 7 * acc.length) ∧ strOfNums (acc ++ vints m) = r) (fun a' _ => (match a'.tmps.getD 0 undef with | .int _ q => q.toNat | _ => 0)) rfl ?_ ?_
  · rintro a' w' ⟨HB, m, acc, v, u1, u4, u5, u6, u7, u8, u9, u10, u11, u12, u13, u14, u15, u16, u17, u18, u19, u20, u21, u22, u23, u24, u25, rfl, HF, hl, hm, HV⟩
    have HB := Lib.hid HB
    have HF := Lib.hid HF
    by_cases h1 : m < 128
    · have d1 : decide ((128 : Int) ≤ (m : Int)) = false := by simp; omega
      have e1 : IntKind.u8.wrap (m : Int) = m := by rw [IntKind.wrap_u8]; omega
      go_wp2_with (first | (
        (with_reducible refine gate_dst (N := 24) rfl ?_)
        refine fr_app_list (c := c8) rfl (w0 := w') w.heap.size (.tmp 20) (.tmp 23) 104 5 (.int .u8 0) 1 1 rfl Tryd.underlying104 (by kernel_rfl) rfl (by decide) v acc (m : Int) (by simp [Act.eval]) (w'.heap.size) (by simp [Act.eval]) 5 (0, 0) (blk_new _ _) rfl (c8_one _) HF.out ((Below.refl _ w').alloc (Nat.le_refl _) _) HB.out.size (by unfold maxLen; omega) (by omega) ?_
        intro g1 cap w1 HR1 hO hbg hat
        have hcv := own_string (P := Tryd.prog) (src := 104) (dst := 9) Tryd.underlying104 Tryd.underlying5 Tryd.underlying9 (c8_nums HR1)
        have HO := Lib.hid hO
        clear HR1 hO hat))
      simp only [Exit.jump]
      go_ret
      rw [vints, dif_pos h1] at HV
      exact ⟨by rw [← HV]; rfl, (HB.out.alloc HB.out.size _).trans (HO.out.below (by simp; have := HB.out.size; omega) (fun k hk => (HF.out.lt k hk).1))⟩
    · have d1 : decide ((128 : Int) ≤ (m : Int)) = true := by simp; omega
      obtain ⟨q, hq⟩ : ∃ q, q = m % 256 := ⟨_, rfl⟩
      obtain ⟨b, hb⟩ : ∃ b, b = m % 128 + 128 := ⟨_, rfl⟩
      have e1 : IntKind.u8.wrap (m : Int) = (q : Int) := by rw [IntKind.wrap_u8]; omega
      have e2 : bits .or .u8 (q : Int) 128 = (b : Int) := by rw [b_or q (by omega)]; omega
      have hL : acc.length + 1 ≤ 8 := by
        rcases Nat.lt_or_ge acc.length 8 with h | h
        · omega
        · rw [show acc.length = 8 by omega] at hm; omega
      have hm' : m / 128 < 2 ^ (63 - 7 * (acc.length + 1)) := by
        rw [Nat.div_lt_iff_lt_mul (by omega), show (128 : Nat) = 2 ^ 7 from rfl, ← Nat.pow_add, show 63 - 7 * (acc.length + 1) + 7 = 63 - 7 * acc.length by omega]
        exact hm
      rw [vints, dif_neg h1] at HV
      rw [← hb] at HV
      have HM' := Lib.hid hm'
      have HV' := Lib.hid HV
      clear hm' HV hm hb hq
      go_wp2_with (first | (
        (with_reducible refine gate_dst (N := 17) rfl ?_)
        refine fr_app_list (c := c8) rfl (w0 := w') w.heap.size (.tmp 12) (.tmp 16) 104 5 (.int .u8 0) 1 1 rfl Tryd.underlying104 (by kernel_rfl) rfl (by decide) v acc (b : Int) (by simp [Act.eval]) (w'.heap.size) (by simp [Act.eval]) 5 (0, 0) (blk_new _ _) rfl (c8_one _) HF.out ((Below.refl _ w').alloc (Nat.le_refl _) _) HB.out.size (by unfold maxLen; omega) (by omega) ?_
        intro g1 cap w1 HR1 hO hbg hat
        have HF1 := Lib.hid HR1
        have HO := Lib.hid hO
        clear HR1 hO hat))
      refine wp_goto ?_
      refine ⟨rfl, ⟨(HB.out.alloc HB.out.size _).trans (HO.out.below (by simp; have := HB.out.size; omega) (fun k hk => (HF.out.lt k hk).1)), m / 128, acc ++ [(b : Int)], _, _, _, _, _, _, _, _, _, _, _, _, _, _, _, _, _, _, _, _, _, _, _, _, rfl, by simpa using HF1.out, by simpa using hL, by simpa using HM'.out, by simpa using HV'.out⟩, ?_⟩
      simp
      omega
  · intro go
    by_cases h0 : a0 < 0 ∨ a0 > 4611686018427387903
    · have HX := HR
      rw [if_pos h0] at HX
      have HX := Lib.hid HX
      clear HR
      by_cases h1 : a0 < 0
      · have d1 : decide (a0 < 0) = true := by simp; omega
        clear h0 h1 go
        go_wp2
        simp only [Exit.jump]
        go_ret
        exact ⟨by rw [← HX.out.out]; rfl, Below.refl _ w⟩
      · have d1 : decide (a0 < 0) = false := by simp; omega
        have d2 : decide (4611686018427387903 < a0) = true := by simp; omega
        clear h0 h1 go
        go_wp2
        simp only [Exit.jump]
        go_ret
        exact ⟨by rw [← HX.out.out]; rfl, Below.refl _ w⟩
    have HX := HR
    rw [if_neg h0] at HX
    have HX := Lib.hid HX
    clear HR
    obtain ⟨n, rfl⟩ : ∃ n : Nat, a0 = n := ⟨a0.toNat, by omega⟩
    have d1 : decide ((n : Int) < 0) = false := by simp
    have d2 : decide (4611686018427387903 < (n : Int)) = false := by simp; omega
    go_wp2
    refine wp_label ?_
    rename_i hK
    refine hK _ _ (go _ _ ⟨Below.refl _ _, n, [], _, _, _, _, _, _, _, _, _, _, _, _, _, _, _, _, _, _, _, _, _, _, _, _, rfl, FR.nil _ _ _ _ _, by simp, by simp; omega, HX.out⟩)
end Go.Proofs.YtndicjikjcifaaaDoor

namespace Go.Proofs.YtndicjikjcifaaaDoor.PWi
open Go.RowKit Go.Proofs.YtndicjikjcifaaaDoorW.PrintWords Go.Proofs.YtndicjikjcifaaaDoorW.PrintLast Go.Proofs.YtndicjikjcifaaaDoorW.PrintMore
attribute [local go_sem] max2_int min2_int max_two min_two max_three min_three max_four min_four   -- for this text's walks alone
set_option linter.unusedVariables false
set_option linter.unusedSimpArgs false
/-! ### wire_GetInt: function 60 -/
-- IMPORT Derived.Test.YtndicjikjcifaaaDoorInts
/-! ### wire_GetText: function 80 -/
def wire_GetText.f (a0 : ByteArray) : Option (ByteArray × Int × Int) := (wire_GetInt.f a0).bind fun bt101 => (if bt101.2.2 = 0 then (if bt101.1 > 65536 then (some ((⟨#[]⟩ : ByteArray), 0, 8)) else (if bt101.1 > (wrap64 ((a0.size : Int) - bt101.2.1)) then (some ((⟨#[]⟩ : ByteArray), 0, 1)) else (if 0 ≤ bt101.2.1 then (if bt101.2.1 ≤ (wrap64 (bt101.2.1 + bt101.1)) then (if (wrap64 (bt101.2.1 + bt101.1)) ≤ (a0.size : Int) then (some (a0.extract (bt101.2.1 : Int).toNat ((wrap64 (bt101.2.1 + bt101.1)) : Int).toNat, wrap64 (bt101.2.1 + bt101.1), 0)) else (none)) else (none)) else (none)))) else (some ((⟨#[]⟩ : ByteArray), 0, bt101.2.2)))
set_option maxHeartbeats 8000000 in
set_option maxRecDepth 100000 in
theorem wire_GetText.calls (a0 : ByteArray) (r1 : ByteArray) (r2 : Int) (r3 : Int) (w : World) (h : wire_GetText.f a0 = some (r1, r2, r3)) :
    Calls Tryd.prog 80 #[.string a0] w fun e w' => e = .returned (.tuple #[.string r1, .int .i64 r2, .int .i64 r3]) ∧ Drawn0 w w' := by
  have H : ((wire_GetInt.f a0).bind fun bt101 => (if bt101.2.2 = 0 then (if bt101.1 > 65536 then (some ((⟨#[]⟩ : ByteArray), 0, 8)) else (if bt101.1 > (wrap64 ((a0.size : Int) - bt101.2.1)) then (some ((⟨#[]⟩ : ByteArray), 0, 1)) else (if 0 ≤ bt101.2.1 then (if bt101.2.1 ≤ (wrap64 (bt101.2.1 + bt101.1)) then (if (wrap64 (bt101.2.1 + bt101.1)) ≤ (a0.size : Int) then (some (a0.extract (bt101.2.1 : Int).toNat ((wrap64 (bt101.2.1 + bt101.1)) : Int).toNat, wrap64 (bt101.2.1 + bt101.1), 0)) else (none)) else (none)) else (none)))) else (some ((⟨#[]⟩ : ByteArray), 0, bt101.2.2)))) = some (r1, r2, r3) := h
  clear h
  replace H := Option.bind_eq_some_iff.mp H
  obtain ⟨⟨t101, t102, t103⟩, A20, H⟩ := H
  replace H : (if t103 = 0 then (if t101 > 65536 then (some ((⟨#[]⟩ : ByteArray), 0, 8)) else (if t101 > (wrap64 ((a0.size : Int) - t102)) then (some ((⟨#[]⟩ : ByteArray), 0, 1)) else (if 0 ≤ t102 then (if t102 ≤ (wrap64 (t102 + t101)) then (if (wrap64 (t102 + t101)) ≤ (a0.size : Int) then (some (a0.extract (t102 : Int).toNat ((wrap64 (t102 + t101)) : Int).toNat, wrap64 (t102 + t101), 0)) else (none)) else (none)) else (none)))) else (some ((⟨#[]⟩ : ByteArray), 0, t103))) = some (r1, r2, r3) := H
  have A2 := Aside0.mk A20
  clear A20
  by_cases c3 : t103 = 0
  · rw [if_pos c3] at H
    have c3b0 : (t103 == 0) = true := beq_iff_eq.mpr c3
    have c3b1 : (t103 != 0) = false := bne_eq_false_iff_eq.mpr c3
    clear c3
    by_cases c4 : t101 > 65536
    · rw [if_pos c4] at H
      have c4b0 : decide (65536 < t101) = true := decide_eq_true c4
      clear c4
      simp only [Option.some.injEq, Prod.mk.injEq] at H
      obtain ⟨rfl, rfl, rfl⟩ := H
      go_enter Tryd.func80, Tryd.ntmps80
      go_wp2_with (first | ((with_reducible refine gate_callee (f := 60) rfl ?_); refine goesL_ (some 11) rfl rfl Tryd.func60 (by kernel_rfl) rfl #[.string a0] rfl (by (try simp only [List.map_toArray, List.map_cons, List.map_nil]); first | done | rfl | (simp only [List.length_drop, List.length_take]; rfl)) ?_; (with_reducible refine (wire_GetInt.calls a0 t101 t102 t103 _ A2.out).mono ?_); rintro e w' ⟨rfl, ⟨nd, rfl⟩⟩; refine ⟨_, rfl, ?_⟩))
      go_ret3
      exact ⟨by first | rfl | (simp; done) | (simp [*]; done), by repeat (first | exact Drawn0.refl _ | apply Drawn0.step)⟩
    · rw [if_neg c4] at H
      have c4b0 : decide (65536 < t101) = false := decide_eq_false c4
      clear c4
      by_cases c5 : t101 > (wrap64 ((a0.size : Int) - t102))
      · rw [if_pos c5] at H
        have c5b0 : decide ((wrap64 ((a0.size : Int) - t102)) < t101) = true := decide_eq_true c5
        clear c5
        simp only [Option.some.injEq, Prod.mk.injEq] at H
        obtain ⟨rfl, rfl, rfl⟩ := H
        go_enter Tryd.func80, Tryd.ntmps80
        go_wp2_with (first | ((with_reducible refine gate_callee (f := 60) rfl ?_); refine goesL_ (some 11) rfl rfl Tryd.func60 (by kernel_rfl) rfl #[.string a0] rfl (by (try simp only [List.map_toArray, List.map_cons, List.map_nil]); first | done | rfl | (simp only [List.length_drop, List.length_take]; rfl)) ?_; (with_reducible refine (wire_GetInt.calls a0 t101 t102 t103 _ A2.out).mono ?_); rintro e w' ⟨rfl, ⟨nd, rfl⟩⟩; refine ⟨_, rfl, ?_⟩))
        go_ret3
        exact ⟨by first | rfl | (simp; done) | (simp [*]; done), by repeat (first | exact Drawn0.refl _ | apply Drawn0.step)⟩
      · rw [if_neg c5] at H
        have c5b0 : decide ((wrap64 ((a0.size : Int) - t102)) < t101) = false := decide_eq_false c5
        clear c5
        by_cases c6 : 0 ≤ t102
        · rw [if_pos c6] at H
          have c6b0 := eq_true c6
          have c6b1 : decide (0 ≤ t102) = true := decide_eq_true c6
          clear c6
          by_cases c7 : t102 ≤ (wrap64 (t102 + t101))
          · rw [if_pos c7] at H
            have c7b0 := eq_true c7
            have c7b1 : decide (t102 ≤ (wrap64 (t102 + t101))) = true := decide_eq_true c7
            by_cases c8 : (wrap64 (t102 + t101)) ≤ (a0.size : Int)
            · rw [if_pos c8] at H
              have c8b0 := eq_true c8
              have c8b1 : decide ((wrap64 (t102 + t101)) ≤ (a0.size : Int)) = true := decide_eq_true c8
              simp only [Option.some.injEq, Prod.mk.injEq] at H
              obtain ⟨rfl, rfl, rfl⟩ := H
              go_enter Tryd.func80, Tryd.ntmps80
              go_wp2_with (first | ((with_reducible refine gate_callee (f := 60) rfl ?_); refine goesL_ (some 11) rfl rfl Tryd.func60 (by kernel_rfl) rfl #[.string a0] rfl (by (try simp only [List.map_toArray, List.map_cons, List.map_nil]); first | done | rfl | (simp only [List.length_drop, List.length_take]; rfl)) ?_; (with_reducible refine (wire_GetInt.calls a0 t101 t102 t103 _ A2.out).mono ?_); rintro e w' ⟨rfl, ⟨nd, rfl⟩⟩; refine ⟨_, rfl, ?_⟩))
              go_ret3
              exact ⟨by first | rfl | (simp; done) | (simp [*]; done), by repeat (first | exact Drawn0.refl _ | apply Drawn0.step)⟩
            · rw [if_neg c8] at H
              exact absurd H (by simp)
          · rw [if_neg c7] at H
            exact absurd H (by simp)
        · rw [if_neg c6] at H
          exact absurd H (by simp)
  · rw [if_neg c3] at H
    have c3b0 : (t103 == 0) = false := beq_eq_false_iff_ne.mpr c3
    have c3b1 : (t103 != 0) = true := bne_iff_ne.mpr c3
    simp only [Option.some.injEq, Prod.mk.injEq] at H
    obtain ⟨rfl, rfl, rfl⟩ := H
    go_enter Tryd.func80, Tryd.ntmps80
    go_wp2_with (first | ((with_reducible refine gate_callee (f := 60) rfl ?_); refine goesL_ (some 11) rfl rfl Tryd.func60 (by kernel_rfl) rfl #[.string a0] rfl (by (try simp only [List.map_toArray, List.map_cons, List.map_nil]); first | done | rfl | (simp only [List.length_drop, List.length_take]; rfl)) ?_; (with_reducible refine (wire_GetInt.calls a0 t101 t102 t103 _ A2.out).mono ?_); rintro e w' ⟨rfl, ⟨nd, rfl⟩⟩; refine ⟨_, rfl, ?_⟩))
    go_ret3
    exact ⟨by first | rfl | (simp; done) | (simp [*]; done), by repeat (first | exact Drawn0.refl _ | apply Drawn0.step)⟩
/-! ### wire_GetList: function 61 -/
def wire_GetList.l0 : Nat → ByteArray → Int → List ByteArray → Int → Int → Option (List ByteArray × Int × Int)
  | 0, _, _, _, _, _ => none
  | k + 1, x0, x8, x10, x28, x29 => if x29 < x28 then (if 0 ≤ x8 then (if x8 ≤ (x0.size : Int) then ((wire_GetText.f (x0.extract (x8 : Int).toNat x0.size)).bind fun bt107 => (if bt107.2.2 = 0 then (if x10.length < 8796093022208 then (wire_GetList.l0 k x0 (wrap64 (x8 + bt107.2.1)) (x10 ++ [bt107.1]) x28 (wrap64 (x29 + 1))) else (none)) else (some (([] : List ByteArray), 0, bt107.2.2)))) else (none)) else (none)) else (some (x10, x8, 0))
def wire_GetList.f (k : Nat) (a0 : ByteArray) (a1 : Int) : Option (List ByteArray × Int × Int) := (wire_GetInt.f a0).bind fun bt104 => (if bt104.2.2 = 0 then (if bt104.1 > a1 then (some (([] : List ByteArray), 0, 8)) else (wire_GetList.l0 k a0 bt104.2.1 ([] : List ByteArray) bt104.1 0)) else (some (([] : List ByteArray), 0, bt104.2.2)))
theorem wire_GetList.mono_l : ∀ k, (∀ y0 y1 y2 y3 y4, LeO (wire_GetList.l0 k y0 y1 y2 y3 y4) (wire_GetList.l0 (k + 1) y0 y1 y2 y3 y4))
  | 0 => fun _ _ _ _ _ r h => by simp [wire_GetList.l0] at h
  | k + 1 => by
    have ih0 := wire_GetList.mono_l k
    · intro y0 y1 y2 y3 y4
      unfold wire_GetList.l0
      repeat' first
      | (with_reducible exact ih0 _ _ _ _ _)
      | (with_reducible exact LeO.refl _)
      | (with_reducible exact LeO.none _)
      | (with_reducible refine LeO.ite ?_ ?_)
      | (with_reducible refine LeO.bind ?_ (fun _ => ?_))
      | exact ih0 _ _ _ _ _
      | exact LeO.none _
      | refine LeO.ite ?_ ?_
      | refine LeO.bind ?_ (fun _ => ?_)
theorem wire_GetList.mono : ∀ a0 a1 k, LeO (wire_GetList.f k a0 a1) (wire_GetList.f (k + 1) a0 a1) := by
  intro a0 a1 k
  have ih0 := wire_GetList.mono_l k
  unfold wire_GetList.f
  repeat' first
      | (with_reducible exact ih0 _ _ _ _ _)
      | (with_reducible exact LeO.refl _)
      | (with_reducible exact LeO.none _)
      | (with_reducible refine LeO.ite ?_ ?_)
      | (with_reducible refine LeO.bind ?_ (fun _ => ?_))
      | exact ih0 _ _ _ _ _
      | exact LeO.none _
      | refine LeO.ite ?_ ?_
      | refine LeO.bind ?_ (fun _ => ?_)
set_option maxHeartbeats 8000000 in
set_option maxRecDepth 100000 in
theorem wire_GetList.calls (k : Nat) (a0 : ByteArray) (a1 : Int) (r1 : List ByteArray) (r2 : Int) (r3 : Int) (w : World) (h : wire_GetList.f k a0 a1 = some (r1, r2, r3)) :
    Calls Tryd.prog 61 #[.string a0, .int .i64 a1] w fun e w' => ∃ v0_ : Value, e = .returned (.tuple #[v0_, .int .i64 r2, .int .i64 r3]) ∧ Kd.R Kd.string 9 w' w.heap.size (fun _ => True) v0_ r1 ∧ Below w.heap.size w w' := by
  have HB := Aside0.mk (Below.refl w.heap.size w)
  have H : ((wire_GetInt.f a0).bind fun bt104 => (if bt104.2.2 = 0 then (if bt104.1 > a1 then (some (([] : List ByteArray), 0, 8)) else (wire_GetList.l0 k a0 bt104.2.1 ([] : List ByteArray) bt104.1 0)) else (some (([] : List ByteArray), 0, bt104.2.2)))) = some (r1, r2, r3) := h
  clear h
  replace H := Option.bind_eq_some_iff.mp H
  obtain ⟨⟨t104, t105, t106⟩, A30, H⟩ := H
  replace H : (if t106 = 0 then (if t104 > a1 then (some (([] : List ByteArray), 0, 8)) else (wire_GetList.l0 k a0 t105 ([] : List ByteArray) t104 0)) else (some (([] : List ByteArray), 0, t106))) = some (r1, r2, r3) := H
  have A3 := Aside0.mk A30
  clear A30
  by_cases c4 : t106 = 0
  · rw [if_pos c4] at H
    have c4b0 : (t106 == 0) = true := beq_iff_eq.mpr c4
    have c4b1 : (t106 != 0) = false := bne_eq_false_iff_eq.mpr c4
    clear c4
    by_cases c5 : t104 > a1
    · rw [if_pos c5] at H
      have c5b0 : decide (a1 < t104) = true := decide_eq_true c5
      clear c5
      simp only [Option.some.injEq, Prod.mk.injEq] at H
      obtain ⟨rfl, rfl, rfl⟩ := H
      go_enter Tryd.func61, Tryd.ntmps61
      go_wp2_with (first | ((with_reducible refine gate_callee (f := 60) rfl ?_); refine goesL_ (some 16) rfl rfl Tryd.func60 (by kernel_rfl) rfl #[.string a0] rfl (by (try simp only [List.map_toArray, List.map_cons, List.map_nil]); first | done | rfl | (simp only [List.length_drop, List.length_take]; rfl)) ?_; (with_reducible refine (wire_GetInt.calls a0 t104 t105 t106 _ A3.out).mono ?_); rintro e w' ⟨rfl, ⟨nd, rfl⟩⟩; refine ⟨_, rfl, ?_⟩))
      go_ret3
      exact ⟨_, by first | rfl | (simp [errW_none, errW_some] <;> rfl) | (simp [*, errW_none, errW_some] <;> rfl), by first | exact Kd.R_nil _ _ _ _ _ | exact Kd.N_nil _ _ _ _ _ | exact Kd.V_nil _ _ _ _ _ | exact Kd.Q_nil _ _ _ _ _ | exact Kd.S_nil _ _ _ _ _, by repeat (first | (with_reducible first | exact HB.out | apply below_alloc | apply pw_below_drewN | apply below_drew1) | exact HB.out)⟩
    · rw [if_neg c5] at H
      have c5b0 : decide (a1 < t104) = false := decide_eq_false c5
      clear c5
      have H' := Aside0.mk H
      clear H
      go_enter Tryd.func61, Tryd.ntmps61
      go_wp2_with (first | ((with_reducible refine gate_callee (f := 60) rfl ?_); refine goesL_ (some 16) rfl rfl Tryd.func60 (by kernel_rfl) rfl #[.string a0] rfl (by (try simp only [List.map_toArray, List.map_cons, List.map_nil]); first | done | rfl | (simp only [List.length_drop, List.length_take]; rfl)) ?_; (with_reducible refine (wire_GetInt.calls a0 t104 t105 t106 _ A3.out).mono ?_); rintro e w' ⟨rfl, ⟨nd, rfl⟩⟩; refine ⟨_, rfl, ?_⟩))
      go_loopg [8, 10, 29] k (fun kq v8 v10 v29 w' => ∃ (x8_1 : Int) (x10_1 : List ByteArray) (x29_1 : Int), v8 = .int .i64 x8_1 ∧ v29 = .int .i64 x29_1 ∧ Aside0 (wire_GetList.l0 kq a0 x8_1 x10_1 t104 x29_1 = some (r1, r2, r3)) ∧ Aside0 (kq ≤ k) ∧ Aside0 (Kd.R Kd.string 9 w' w.heap.size (fun _ => True) v10 x10_1) ∧ Aside0 (Below w.heap.size w w'))
      case atStart => exact ⟨(t105), (([] : List ByteArray)), (0), (by first | rfl | (simp; done) | (simp [*]; done)), (by first | rfl | (simp; done) | (simp [*]; done)), H', ⟨Nat.le_refl _⟩, ⟨by first | exact Kd.R_nil _ _ _ _ _ | exact Kd.N_nil _ _ _ _ _ | exact Kd.V_nil _ _ _ _ _ | exact Kd.Q_nil _ _ _ _ _ | exact Kd.S_nil _ _ _ _ _⟩, ⟨by repeat (first | (with_reducible first | exact HB.out | apply below_alloc | apply pw_below_drewN | apply below_drew1) | exact HB.out)⟩⟩
      case round =>
        clear H'
        try clear p2
        try clear c4
        try clear c4b0
        try clear c4b1
        try clear c5
        try clear c5b0
        obtain ⟨x8_1, x10_1, x29_1, rfl, rfl, HA, HK1, HO_10, HB⟩ := hrel
        cases gk with
        | zero => exact absurd HA.out (by simp [wire_GetList.l0])
        | succ k1 =>
          have H := HA.out
          clear HA
          simp only [wire_GetList.l0] at H
          by_cases c6 : x29_1 < t104
          · rw [if_pos c6] at H
            have c6b0 : decide (x29_1 < t104) = true := decide_eq_true c6
            clear c6
            by_cases c7 : 0 ≤ x8_1
            · rw [if_pos c7] at H
              have c7b0 := eq_true c7
              have c7b1 : decide (0 ≤ x8_1) = true := decide_eq_true c7
              clear c7
              by_cases c8 : x8_1 ≤ (a0.size : Int)
              · rw [if_pos c8] at H
                have c8b0 := eq_true c8
                have c8b1 : decide (x8_1 ≤ (a0.size : Int)) = true := decide_eq_true c8
                clear c8
                replace H := Option.bind_eq_some_iff.mp H
                obtain ⟨⟨t107, t108, t109⟩, A90, H⟩ := H
                replace H : (if t109 = 0 then (if x10_1.length < 8796093022208 then (wire_GetList.l0 k1 a0 (wrap64 (x8_1 + t108)) (x10_1 ++ [t107]) t104 (wrap64 (x29_1 + 1))) else (none)) else (some (([] : List ByteArray), 0, t109))) = some (r1, r2, r3) := H
                have A9 := Aside0.mk A90
                clear A90
                by_cases c10 : t109 = 0
                · rw [if_pos c10] at H
                  have c10b0 : (t109 == 0) = true := beq_iff_eq.mpr c10
                  have c10b1 : (t109 != 0) = false := bne_eq_false_iff_eq.mpr c10
                  clear c10
                  by_cases c11 : x10_1.length < 8796093022208
                  · rw [if_pos c11] at H
                    have LMc11 := Aside0.mk c11
                    clear c11
                    obtain ⟨y110, hy110⟩ : ∃ y_ : List ByteArray, y_ = (x10_1 ++ [t107]) := ⟨_, rfl⟩
                    replace H : (wire_GetList.l0 k1 a0 (wrap64 (x8_1 + t108)) y110 t104 (wrap64 (x29_1 + 1))) = some (r1, r2, r3) := by first | (rw [hy110]; with_reducible exact H) | (have H2_ := (Option.bind_some _ _).symm.trans H; rw [hy110]; with_reducible exact H2_) | (have H2_ := (Option.bind_some _ _).symm.trans H; with_reducible exact H2_) | with_reducible exact H | (rw [hy110]; exact H) | exact H
                    have Ny110 := Aside0.mk hy110
                    clear hy110
                    have H' := Aside0.mk H
                    clear H
                    go_wp2_with (first | ((with_reducible refine gate_callee (f := 80) rfl ?_); refine goesL_ (some 35) rfl rfl Tryd.func80 (by kernel_rfl) rfl #[.string (a0.extract (x8_1 : Int).toNat a0.size)] rfl (by (try simp only [List.map_toArray, List.map_cons, List.map_nil]); first | done | rfl | (simp only [List.length_drop, List.length_take]; rfl)) ?_; (with_reducible refine (wire_GetText.calls (a0.extract (x8_1 : Int).toNat a0.size) t107 t108 t109 _ A9.out).mono ?_); rintro e w' ⟨rfl, ⟨nd, rfl⟩⟩; refine ⟨_, rfl, ?_⟩) | ((with_reducible refine gate_builtin (b := .append) (xs := #[.tmp 42, .tmp 44]) rfl ?_); at_builtin; refine Kd.R_append Kd.string (w0 := w) w.heap.size rfl (.tmp 42) (.tmp 44) 31 9 (.string ⟨#[]⟩) 16 rfl Tryd.underlying31 info9 rfl (by decide) (by omega) u10 x10_1 t107 [.string t107] (fun _ => True) (fun _ => False) rfl rfl ?aP (fun _ hk => hk.elim) ?aF ?aO ?aB ?aS ?aL ?_; (case aP => exact rfl); (case aB => exact (by repeat (first | (with_reducible first | exact HB.out | apply below_alloc | apply pw_below_drewN | apply below_drew1) | exact HB.out))); (case aF => exact (fun _ _ => trivial)); (case aO => exact (by (with_reducible repeat (first | apply Kd.R_alloc | apply Kd.R_drewN | apply Kd.R_drew)); exact HO_10.out)); (case aS => exact (below_size (by repeat (first | (with_reducible first | exact HB.out | apply below_alloc | apply pw_below_drewN | apply below_drew1) | exact HB.out)))); (case aL => have := LMc11.out; omega); intro v111 w12 ho hb hg hat; rw [← Ny110.out] at ho; have n0_ := Aside0.mk (hb); have n1_ := Aside0.mk (ho); clear HB; clear HO_10; have HB := n0_; have HO112 := n1_; clear n0_ n1_; clear ho hb hg hat))
                    go_roundg k1
                    case measure => have := HK1.out; omega
                    case rel => exact ⟨(wrap64 (x8_1 + t108)), (y110), (wrap64 (x29_1 + 1)), (by first | rfl | (simp; done) | (simp [*]; done)), (by first | rfl | (simp; done) | (simp [*]; done)), H', ⟨by have := HK1.out; omega⟩, ⟨by (with_reducible repeat (first | apply Kd.R_alloc | apply Kd.R_drewN | apply Kd.R_drew)); exact HO112.out⟩, ⟨by repeat (first | (with_reducible first | exact HB.out | apply below_alloc | apply pw_below_drewN | apply below_drew1) | exact HB.out)⟩⟩
                  · rw [if_neg c11] at H
                    exact absurd H (by simp)
                · rw [if_neg c10] at H
                  have c10b0 : (t109 == 0) = false := beq_eq_false_iff_ne.mpr c10
                  have c10b1 : (t109 != 0) = true := bne_iff_ne.mpr c10
                  simp only [Option.some.injEq, Prod.mk.injEq] at H
                  obtain ⟨rfl, rfl, rfl⟩ := H
                  go_wp2_with (first | ((with_reducible refine gate_callee (f := 80) rfl ?_); refine goesL_ (some 35) rfl rfl Tryd.func80 (by kernel_rfl) rfl #[.string (a0.extract (x8_1 : Int).toNat a0.size)] rfl (by (try simp only [List.map_toArray, List.map_cons, List.map_nil]); first | done | rfl | (simp only [List.length_drop, List.length_take]; rfl)) ?_; (with_reducible refine (wire_GetText.calls (a0.extract (x8_1 : Int).toNat a0.size) t107 t108 t109 _ A9.out).mono ?_); rintro e w' ⟨rfl, ⟨nd, rfl⟩⟩; refine ⟨_, rfl, ?_⟩))
                  go_ret3
                  exact ⟨_, by first | rfl | (simp [errW_none, errW_some] <;> rfl) | (simp [*, errW_none, errW_some] <;> rfl), by first | exact Kd.R_nil _ _ _ _ _ | exact Kd.N_nil _ _ _ _ _ | exact Kd.V_nil _ _ _ _ _ | exact Kd.Q_nil _ _ _ _ _ | exact Kd.S_nil _ _ _ _ _, by repeat (first | (with_reducible first | exact HB.out | apply below_alloc | apply pw_below_drewN | apply below_drew1) | exact HB.out)⟩
              · rw [if_neg c8] at H
                exact absurd H (by simp)
            · rw [if_neg c7] at H
              exact absurd H (by simp)
          · rw [if_neg c6] at H
            have c6b0 : decide (x29_1 < t104) = false := decide_eq_false c6
            clear c6
            simp only [Option.some.injEq, Prod.mk.injEq] at H
            obtain ⟨rfl, rfl, rfl⟩ := H
            go_wp2
            go_ret3
            exact ⟨_, by first | rfl | (simp [errW_none, errW_some] <;> rfl) | (simp [*, errW_none, errW_some] <;> rfl), by (with_reducible repeat (first | apply Kd.R_alloc | apply Kd.R_drewN | apply Kd.R_drew)); exact HO_10.out, by repeat (first | (with_reducible first | exact HB.out | apply below_alloc | apply pw_below_drewN | apply below_drew1) | exact HB.out)⟩
  · rw [if_neg c4] at H
    have c4b0 : (t106 == 0) = false := beq_eq_false_iff_ne.mpr c4
    have c4b1 : (t106 != 0) = true := bne_iff_ne.mpr c4
    simp only [Option.some.injEq, Prod.mk.injEq] at H
    obtain ⟨rfl, rfl, rfl⟩ := H
    go_enter Tryd.func61, Tryd.ntmps61
    go_wp2_with (first | ((with_reducible refine gate_callee (f := 60) rfl ?_); refine goesL_ (some 16) rfl rfl Tryd.func60 (by kernel_rfl) rfl #[.string a0] rfl (by (try simp only [List.map_toArray, List.map_cons, List.map_nil]); first | done | rfl | (simp only [List.length_drop, List.length_take]; rfl)) ?_; (with_reducible refine (wire_GetInt.calls a0 t104 t105 t106 _ A3.out).mono ?_); rintro e w' ⟨rfl, ⟨nd, rfl⟩⟩; refine ⟨_, rfl, ?_⟩))
    go_ret3
    exact ⟨_, by first | rfl | (simp [errW_none, errW_some] <;> rfl) | (simp [*, errW_none, errW_some] <;> rfl), by first | exact Kd.R_nil _ _ _ _ _ | exact Kd.N_nil _ _ _ _ _ | exact Kd.V_nil _ _ _ _ _ | exact Kd.Q_nil _ _ _ _ _ | exact Kd.S_nil _ _ _ _ _, by repeat (first | (with_reducible first | exact HB.out | apply below_alloc | apply pw_below_drewN | apply below_drew1) | exact HB.out)⟩
/-! ### wire_Int: function 62 -/
-- IMPORT Derived.Test.YtndicjikjcifaaaDoorInts
/-! ### wire_Text: function 68 -/
def wire_Text.f (a0 : ByteArray) : Option (ByteArray) := (wire_Int.f (a0.size : Int)).bind fun t113 => (if t113.size + a0.size ≤ 9223372036854775807 then (some (t113 ++ a0)) else (none))
set_option maxHeartbeats 8000000 in
set_option maxRecDepth 100000 in
theorem wire_Text.calls (a0 : ByteArray) (r : ByteArray) (w : World) (h : wire_Text.f a0 = some r) :
    Calls Tryd.prog 68 #[.string a0] w fun e w' => e = .returned (.string r) ∧ Below w.heap.size w w' := by
  have HB := Aside0.mk (Below.refl w.heap.size w)
  have H : ((wire_Int.f (a0.size : Int)).bind fun t113 => (if t113.size + a0.size ≤ 9223372036854775807 then (some (t113 ++ a0)) else (none))) = some r := h
  clear h
  replace H := Option.bind_eq_some_iff.mp H
  obtain ⟨t113, A20, H⟩ := H
  replace H : (if t113.size + a0.size ≤ 9223372036854775807 then (some (t113 ++ a0)) else (none)) = some r := H
  have A2 := Aside0.mk A20
  clear A20
  by_cases c3 : t113.size + a0.size ≤ 9223372036854775807
  · rw [if_pos c3] at H
    have c3b0 := eq_true c3
    have c3b1 : decide (t113.size + a0.size ≤ 9223372036854775807) = true := decide_eq_true c3
    try have c3b2 : (9223372036854775807 < t113.size + a0.size) = False := eq_false (Nat.not_lt.2 c3)
    obtain rfl := Option.some.inj H
    go_enter Tryd.func68, Tryd.ntmps68
    go_wp2_with (first | ((with_reducible refine gate_callee (f := 62) rfl ?_); refine goesL_ (some 5) rfl rfl Tryd.func62 (by kernel_rfl) rfl #[.int .i64 (a0.size : Int)] rfl (by (try simp only [List.map_toArray, List.map_cons, List.map_nil]); first | done | rfl | (simp only [List.length_drop, List.length_take]; rfl)) ?_; (with_reducible refine (wire_Int.calls (a0.size : Int) t113 _ A2.out).mono ?_); rintro e w4 ⟨rfl, hb⟩; refine ⟨_, rfl, ?_⟩; have n0_ := Aside0.mk (below_step (by repeat (first | (with_reducible first | exact HB.out | apply below_alloc | apply pw_below_drewN | apply below_drew1) | exact HB.out)) hb); clear HB; have HB := n0_; clear n0_; (try clear hb); (try clear hb2); (try clear hk); (try clear hi)))
    go_ret
    exact ⟨by first | rfl | (simp [errW_none, errW_some] <;> rfl) | (simp [*, errW_none, errW_some] <;> rfl), by repeat (first | (with_reducible first | exact HB.out | apply below_alloc | apply pw_below_drewN | apply below_drew1) | exact HB.out)⟩
  · rw [if_neg c3] at H
    exact absurd H (by simp)
/-! ### tuskref01_GetInt: function 81 -/
mutual
def tuskref01_GetInt.j1 : Nat → ByteArray → Int → Option (Int × Int × Int)
  | 0, _, _ => none
  | k + 1, x0, x5 => if x5 = 9 then (some (0, 0, 2)) else (if x5 = (x0.size : Int) then (some (0, 0, 1)) else (tuskref01_GetInt.l1 k x0 x5 0 x5))
def tuskref01_GetInt.l1 : Nat → ByteArray → Int → Int → Int → Option (Int × Int × Int)
  | 0, _, _, _, _ => none
  | k + 1, x0, x5, x6, x7 => if x7 ≥ 0 then (if 0 ≤ x7 then (if x7 < (x0.size : Int) then (if (wrap64 ((wrap64 (128 * x6)) + (wrap64 (Int.tmod (bt x0 x7) 128)))) > 4611686018427387903 then (some (0, 0, 2)) else (tuskref01_GetInt.l1 k x0 x5 (wrap64 ((wrap64 (128 * x6)) + (wrap64 (Int.tmod (bt x0 x7) 128)))) (wrap64 (x7 - 1)))) else (none)) else (none)) else (if x5 > 0 then (if 0 ≤ x5 then (if x5 < (x0.size : Int) then (if (bt x0 x5) = 0 then (some (0, 0, 3)) else (some (x6, wrap64 (x5 + 1), 0))) else (none)) else (none)) else (some (x6, wrap64 (x5 + 1), 0)))
def tuskref01_GetInt.l0 : Nat → ByteArray → Int → Option (Int × Int × Int)
  | 0, _, _ => none
  | k + 1, x0, x5 => if x5 < (x0.size : Int) then (if x5 < 9 then (if 0 ≤ x5 then (if (bt x0 x5) ≥ 128 then (tuskref01_GetInt.l0 k x0 (wrap64 (x5 + 1))) else (tuskref01_GetInt.j1 k x0 x5)) else (none)) else (tuskref01_GetInt.j1 k x0 x5)) else (tuskref01_GetInt.j1 k x0 x5)
end
def tuskref01_GetInt.f (k : Nat) (a0 : ByteArray) : Option (Int × Int × Int) := tuskref01_GetInt.l0 k a0 0
theorem tuskref01_GetInt.mono_l : ∀ k, (∀ y0 y1, LeO (tuskref01_GetInt.j1 k y0 y1) (tuskref01_GetInt.j1 (k + 1) y0 y1)) ∧ (∀ y0 y1 y2 y3, LeO (tuskref01_GetInt.l1 k y0 y1 y2 y3) (tuskref01_GetInt.l1 (k + 1) y0 y1 y2 y3)) ∧ (∀ y0 y1, LeO (tuskref01_GetInt.l0 k y0 y1) (tuskref01_GetInt.l0 (k + 1) y0 y1))
  | 0 => ⟨fun _ _ r h => by simp [tuskref01_GetInt.j1] at h, fun _ _ _ _ r h => by simp [tuskref01_GetInt.l1] at h, fun _ _ r h => by simp [tuskref01_GetInt.l0] at h⟩
  | k + 1 => by
    obtain ⟨ih0, ih1, ih2⟩ := tuskref01_GetInt.mono_l k
    refine ⟨?_, ?_, ?_⟩
    · intro y0 y1
      unfold tuskref01_GetInt.j1
      repeat' first
      | (with_reducible exact ih0 _ _)
      | (with_reducible exact ih1 _ _ _ _)
      | (with_reducible exact ih2 _ _)
      | (with_reducible exact LeO.refl _)
      | (with_reducible exact LeO.none _)
      | (with_reducible refine LeO.ite ?_ ?_)
      | (with_reducible refine LeO.bind ?_ (fun _ => ?_))
      | exact ih0 _ _
      | exact ih1 _ _ _ _
      | exact ih2 _ _
      | exact LeO.none _
      | refine LeO.ite ?_ ?_
      | refine LeO.bind ?_ (fun _ => ?_)
    · intro y0 y1 y2 y3
      unfold tuskref01_GetInt.l1
      repeat' first
      | (with_reducible exact ih0 _ _)
      | (with_reducible exact ih1 _ _ _ _)
      | (with_reducible exact ih2 _ _)
      | (with_reducible exact LeO.refl _)
      | (with_reducible exact LeO.none _)
      | (with_reducible refine LeO.ite ?_ ?_)
      | (with_reducible refine LeO.bind ?_ (fun _ => ?_))
      | exact ih0 _ _
      | exact ih1 _ _ _ _
      | exact ih2 _ _
      | exact LeO.none _
      | refine LeO.ite ?_ ?_
      | refine LeO.bind ?_ (fun _ => ?_)
    · intro y0 y1
      unfold tuskref01_GetInt.l0
      repeat' first
      | (with_reducible exact ih0 _ _)
      | (with_reducible exact ih1 _ _ _ _)
      | (with_reducible exact ih2 _ _)
      | (with_reducible exact LeO.refl _)
      | (with_reducible exact LeO.none _)
      | (with_reducible refine LeO.ite ?_ ?_)
      | (with_reducible refine LeO.bind ?_ (fun _ => ?_))
      | exact ih0 _ _
      | exact ih1 _ _ _ _
      | exact ih2 _ _
      | exact LeO.none _
      | refine LeO.ite ?_ ?_
      | refine LeO.bind ?_ (fun _ => ?_)
theorem tuskref01_GetInt.mono : ∀ a0 k, LeO (tuskref01_GetInt.f k a0) (tuskref01_GetInt.f (k + 1) a0) := by
  intro a0 k
  obtain ⟨ih0, ih1, ih2⟩ := tuskref01_GetInt.mono_l k
  unfold tuskref01_GetInt.f
  repeat' first
      | (with_reducible exact ih0 _ _)
      | (with_reducible exact ih1 _ _ _ _)
      | (with_reducible exact ih2 _ _)
      | (with_reducible exact LeO.refl _)
      | (with_reducible exact LeO.none _)
      | (with_reducible refine LeO.ite ?_ ?_)
      | (with_reducible refine LeO.bind ?_ (fun _ => ?_))
      | exact ih0 _ _
      | exact ih1 _ _ _ _
      | exact ih2 _ _
      | exact LeO.none _
      | refine LeO.ite ?_ ?_
      | refine LeO.bind ?_ (fun _ => ?_)
/-! ### tuskref01_GetText: function 82 -/
def tuskref01_GetText.f (k : Nat) (a0 : ByteArray) : Option (ByteArray × Int × Int) := (tuskref01_GetInt.f k a0).bind fun bt114 => (if bt114.2.2 = 0 then (if bt114.1 > 65536 then (some ((⟨#[]⟩ : ByteArray), 0, 8)) else (if (wrap64 ((a0.size : Int) - bt114.2.1)) < bt114.1 then (some ((⟨#[]⟩ : ByteArray), 0, 1)) else (if 0 ≤ bt114.2.1 then (if bt114.2.1 ≤ (wrap64 (bt114.2.1 + bt114.1)) then (if (wrap64 (bt114.2.1 + bt114.1)) ≤ (a0.size : Int) then (some (a0.extract (bt114.2.1 : Int).toNat ((wrap64 (bt114.2.1 + bt114.1)) : Int).toNat, wrap64 (bt114.2.1 + bt114.1), 0)) else (none)) else (none)) else (none)))) else (some ((⟨#[]⟩ : ByteArray), 0, bt114.2.2)))
theorem tuskref01_GetText.mono : ∀ a0 k, LeO (tuskref01_GetText.f k a0) (tuskref01_GetText.f (k + 1) a0) := by
  intro a0 k
  unfold tuskref01_GetText.f
  repeat' first
      | (with_reducible exact tuskref01_GetInt.mono _ _)
      | (with_reducible exact LeO.refl _)
      | (with_reducible exact LeO.none _)
      | (with_reducible refine LeO.ite ?_ ?_)
      | (with_reducible refine LeO.bind ?_ (fun _ => ?_))
      | exact tuskref01_GetInt.mono _ _
      | exact LeO.none _
      | refine LeO.ite ?_ ?_
      | refine LeO.bind ?_ (fun _ => ?_)
/-! ### tuskref01_GetList: function 83 -/
def tuskref01_GetList.l0 : Nat → ByteArray → Int → Int → List ByteArray → Int → Option (List ByteArray × Int × Int)
  | 0, _, _, _, _, _ => none
  | k + 1, x0, x7, x8, x10, x11 => if x11 < x7 then (if 0 ≤ x8 then (if x8 ≤ (x0.size : Int) then ((tuskref01_GetText.f k (x0.extract (x8 : Int).toNat x0.size)).bind fun bt120 => (if bt120.2.2 = 0 then (if x10.length < 8796093022208 then (tuskref01_GetList.l0 k x0 x7 (wrap64 (x8 + bt120.2.1)) (x10 ++ [bt120.1]) (wrap64 (x11 + 1))) else (none)) else (some (([] : List ByteArray), 0, bt120.2.2)))) else (none)) else (none)) else (some (x10, x8, 0))
def tuskref01_GetList.f (k : Nat) (a0 : ByteArray) (a1 : Int) : Option (List ByteArray × Int × Int) := (tuskref01_GetInt.f k a0).bind fun bt117 => (if bt117.2.2 = 0 then (if bt117.1 > a1 then (some (([] : List ByteArray), 0, 8)) else (tuskref01_GetList.l0 k a0 bt117.1 bt117.2.1 ([] : List ByteArray) 0)) else (some (([] : List ByteArray), 0, bt117.2.2)))
theorem tuskref01_GetList.mono_l : ∀ k, (∀ y0 y1 y2 y3 y4, LeO (tuskref01_GetList.l0 k y0 y1 y2 y3 y4) (tuskref01_GetList.l0 (k + 1) y0 y1 y2 y3 y4))
  | 0 => fun _ _ _ _ _ r h => by simp [tuskref01_GetList.l0] at h
  | k + 1 => by
    have ih0 := tuskref01_GetList.mono_l k
    · intro y0 y1 y2 y3 y4
      unfold tuskref01_GetList.l0
      repeat' first
      | (with_reducible exact ih0 _ _ _ _ _)
      | (with_reducible exact tuskref01_GetInt.mono _ _)
      | (with_reducible exact tuskref01_GetText.mono _ _)
      | (with_reducible exact LeO.refl _)
      | (with_reducible exact LeO.none _)
      | (with_reducible refine LeO.ite ?_ ?_)
      | (with_reducible refine LeO.bind ?_ (fun _ => ?_))
      | exact ih0 _ _ _ _ _
      | exact tuskref01_GetInt.mono _ _
      | exact tuskref01_GetText.mono _ _
      | exact LeO.none _
      | refine LeO.ite ?_ ?_
      | refine LeO.bind ?_ (fun _ => ?_)
theorem tuskref01_GetList.mono : ∀ a0 a1 k, LeO (tuskref01_GetList.f k a0 a1) (tuskref01_GetList.f (k + 1) a0 a1) := by
  intro a0 a1 k
  have ih0 := tuskref01_GetList.mono_l k
  unfold tuskref01_GetList.f
  repeat' first
      | (with_reducible exact ih0 _ _ _ _ _)
      | (with_reducible exact tuskref01_GetInt.mono _ _)
      | (with_reducible exact tuskref01_GetText.mono _ _)
      | (with_reducible exact LeO.refl _)
      | (with_reducible exact LeO.none _)
      | (with_reducible refine LeO.ite ?_ ?_)
      | (with_reducible refine LeO.bind ?_ (fun _ => ?_))
      | exact ih0 _ _ _ _ _
      | exact tuskref01_GetInt.mono _ _
      | exact tuskref01_GetText.mono _ _
      | exact LeO.none _
      | refine LeO.ite ?_ ?_
      | refine LeO.bind ?_ (fun _ => ?_)
end Go.Proofs.YtndicjikjcifaaaDoor.PWi

/- The plain law of numbers in bytes: the program's reading of a number is the document's. -/
namespace Go.Proofs.YtndicjikjcifaaaDoor
open Go.RowKit Go.Proofs.YtndicjikjcifaaaDoorW.PrintWords Go.Proofs.YtndicjikjcifaaaDoorW.PrintLast
set_option linter.unusedVariables false
set_option linter.unusedSimpArgs false
theorem gi_ok (s : ByteArray) : ∀ k i n, i ≤ s.size → (gi s k i n).2.2 = 0 → 0 ≤ (gi s k i n).1 ∧ (gi s k i n).1 ≤ 4611686018427387903 ∧ (i : Int) + 1 ≤ (gi s k i n).2.1 ∧ (gi s k i n).2.1 ≤ s.size
  | 0, i, n, hi, h => by simp [gi] at h
  | k + 1, i, n, hi, h => by
    rw [gi] at h ⊢
    by_cases h1 : i = s.size
    · rw [if_pos h1] at h; simp at h
    rw [if_neg h1] at h ⊢
    by_cases h2 : bn s i < 128
    · rw [if_pos h2] at h ⊢
      by_cases h3 : n + bn s i * 2 ^ (7 * i) > 4611686018427387903
      · rw [if_pos h3] at h; simp at h
      rw [if_neg h3] at h ⊢
      by_cases h4 : bn s i = 0 ∧ 0 < i
      · rw [if_pos h4] at h; simp at h
      rw [if_neg h4]
      generalize bn s i * 2 ^ (7 * i) = M at h3 ⊢
      refine ⟨?_, ?_, ?_, ?_⟩ <;> simp <;> omega
    · rw [if_neg h2] at h ⊢
      have := gi_ok s k (i + 1) _ (by omega) h
      omega
def bval (s : ByteArray) (k : Nat) : Nat → Nat → Nat
  | 0, _ => 0
  | f + 1, j => bn s j % 128 + 128 * bval s k f (j + 1)
def fin (s : ByteArray) (k V : Nat) : Int × Int × Int :=
  if V > 4611686018427387903 then (0, 0, 2) else if bn s k = 0 ∧ 0 < k then (0, 0, 3) else ((V : Int), ((k + 1 : Nat) : Int), 0)
theorem gi_val (s : ByteArray) (k : Nat) (hk : k < s.size) (hl : bn s k < 128) : ∀ d i n, i + d = k → k ≤ 8 → (∀ j, i ≤ j → j < k → 128 ≤ bn s j) → gi s (9 - i) i n = fin s k (n + 2 ^ (7 * i) * bval s k (d + 1) i)
  | 0, i, n, hd, h8, hb => by
    obtain rfl : i = k := by omega
    obtain ⟨m, hm⟩ : ∃ m, 9 - i = m + 1 := ⟨8 - i, by omega⟩
    rw [hm, gi, if_neg (by omega), if_pos hl, fin]
    simp only [bval, Nat.mul_zero, Nat.add_zero, Nat.mod_eq_of_lt hl, Nat.mul_comm (bn s i)]
  | d + 1, i, n, hd, h8, hb => by
    obtain ⟨m, hm⟩ : ∃ m, 9 - i = m + 1 := ⟨8 - i, by omega⟩
    have hi := hb i (by omega) (by omega)
    have h256 := bn_lt s i
    rw [hm, gi, if_neg (by omega), if_neg (by omega)]
    have := gi_val s k hk hl d (i + 1) (n + (bn s i - 128) * 2 ^ (7 * i)) (by omega) h8 (fun j h1 h2 => hb j (by omega) h2)
    rw [show 9 - (i + 1) = m by omega] at this
    rw [this]
    congr 1
    show _ = n + 2 ^ (7 * i) * (bn s i % 128 + 128 * bval s k (d + 1) (i + 1))
    rw [show bn s i % 128 = bn s i - 128 by omega]
    have e : 2 ^ (7 * (i + 1)) = 2 ^ (7 * i) * 128 := by rw [show 7 * (i + 1) = 7 * i + 7 by omega, Nat.pow_add]
    rw [e, Nat.mul_add, Nat.mul_comm (bn s i - 128), Nat.mul_assoc]
    omega
theorem w64 (x : Int) (h0 : 0 ≤ x) (h1 : x < 9223372036854775808) : wrap64 x = x := by rw [wrap64]; omega
end Go.Proofs.YtndicjikjcifaaaDoor
/- The plain law of texts and lists in bytes: the program's reading is the document's. -/
namespace Go.Proofs.YtndicjikjcifaaaDoor
open Go.RowKit Go.Proofs.YtndicjikjcifaaaDoorW.PrintWords Go.Proofs.YtndicjikjcifaaaDoorW.PrintLast
set_option linter.unusedVariables false
set_option linter.unusedSimpArgs false
def gt (a : ByteArray) : ByteArray × Int × Int :=
  if (gi a 9 0 0).2.2 = 0 then
    if (gi a 9 0 0).1 > 65536 then (⟨#[]⟩, 0, 8)
    else if (gi a 9 0 0).1 > (a.size : Int) - (gi a 9 0 0).2.1 then (⟨#[]⟩, 0, 1)
    else (a.extract (gi a 9 0 0).2.1.toNat ((gi a 9 0 0).2.1 + (gi a 9 0 0).1).toNat, (gi a 9 0 0).2.1 + (gi a 9 0 0).1, 0)
  else (⟨#[]⟩, 0, (gi a 9 0 0).2.2)
theorem gt_ok (a : ByteArray) (h : (gt a).2.2 = 0) : 1 ≤ (gt a).2.1 ∧ (gt a).2.1 ≤ a.size := by
  have g := gi_ok a 9 0 0 (by omega)
  unfold gt at h ⊢
  generalize gi a 9 0 0 = G at h g ⊢
  by_cases h0 : G.2.2 = 0
  · rw [if_pos h0] at h ⊢
    have g := g h0
    by_cases h1 : G.1 > 65536
    · rw [if_pos h1] at h; simp at h
    rw [if_neg h1] at h ⊢
    by_cases h2 : G.1 > (a.size : Int) - G.2.1
    · rw [if_pos h2] at h; simp at h
    rw [if_neg h2]
    constructor <;> simp <;> omega
  · rw [if_neg h0] at h; exact absurd h h0
open PWi in
theorem wire_text (a : ByteArray) (ha : a.size < 4611686018427387904) : wire_GetText.f a = some (gt a) := by
  have g := gi_ok a 9 0 0 (by omega)
  unfold wire_GetText.f wire_GetInt.f gt
  rw [Option.bind_some]
  generalize gi a 9 0 0 = G at g ⊢
  by_cases h0 : G.2.2 = 0
  · have g := g h0
    rw [if_pos h0, if_pos h0]
    by_cases h1 : G.1 > 65536
    · rw [if_pos h1, if_pos h1]
    rw [if_neg h1, if_neg h1, w64 ((a.size : Int) - G.2.1) (by omega) (by omega)]
    by_cases h2 : G.1 > (a.size : Int) - G.2.1
    · rw [if_pos h2, if_pos h2]
    rw [if_neg h2, if_neg h2, w64 (G.2.1 + G.1) (by omega) (by omega), if_pos (by omega), if_pos (by omega), if_pos (by omega)]
  · rw [if_neg h0, if_neg h0]
def glL (a : ByteArray) : Nat → Nat → List ByteArray → List ByteArray × Int × Int
  | 0, p, acc => (acc, p, 0)
  | c + 1, p, acc => if (gt (a.extract p a.size)).2.2 = 0 then glL a c (p + (gt (a.extract p a.size)).2.1.toNat) (acc ++ [(gt (a.extract p a.size)).1]) else ([], 0, (gt (a.extract p a.size)).2.2)
def gl (a : ByteArray) (m : Int) : List ByteArray × Int × Int :=
  if (gi a 9 0 0).2.2 = 0 then if (gi a 9 0 0).1 > m then ([], 0, 8) else glL a (gi a 9 0 0).1.toNat (gi a 9 0 0).2.1.toNat []
  else ([], 0, (gi a 9 0 0).2.2)
theorem glL_ok (a : ByteArray) : ∀ c p acc, p ≤ a.size → (glL a c p acc).2.2 = 0 → (p : Int) ≤ (glL a c p acc).2.1 ∧ (glL a c p acc).2.1 ≤ a.size ∧ (glL a c p acc).1.length = acc.length + c
  | 0, p, acc, hp, h => by simp [glL]; omega
  | c + 1, p, acc, hp, h => by
    rw [glL] at h ⊢
    by_cases h0 : (gt (a.extract p a.size)).2.2 = 0
    · rw [if_pos h0] at h ⊢
      have g := gt_ok _ h0
      rw [ByteArray.size_extract] at g
      have := glL_ok a c _ _ (by omega) h
      simp only [List.length_append, List.length_singleton] at this
      omega
    · rw [if_neg h0] at h; exact absurd h h0
theorem gl_ok (a : ByteArray) (m : Int) (h : (gl a m).2.2 = 0) : 0 ≤ (gl a m).2.1 ∧ (gl a m).2.1 ≤ a.size ∧ ((gl a m).1.length : Int) ≤ m := by
  have g := gi_ok a 9 0 0 (by omega)
  unfold gl at h ⊢
  generalize gi a 9 0 0 = G at h g ⊢
  by_cases h0 : G.2.2 = 0
  · have g := g h0
    rw [if_pos h0] at h ⊢
    by_cases h1 : G.1 > m
    · rw [if_pos h1] at h; simp at h
    · rw [if_neg h1] at h ⊢
      have := glL_ok a G.1.toNat G.2.1.toNat [] (by omega) h
      simp only [List.length_nil] at this
      omega
  · rw [if_neg h0] at h; exact absurd h h0
open PWi in
theorem wire_l0 (a : ByteArray) (ha : a.size < 4611686018427387904) (n : Nat) (hn : n < 1000) : ∀ c i p acc K, i + c = n → p ≤ a.size → acc.length = i → c + 1 ≤ K →
    wire_GetList.l0 K a p acc n i = some (glL a c p acc)
  | 0, i, p, acc, K, hi, hp, hl, hK => by
    obtain ⟨K, rfl⟩ : ∃ m, K = m + 1 := ⟨K - 1, by omega⟩
    rw [wire_GetList.l0, if_neg (by omega)]; rfl
  | c + 1, i, p, acc, K, hi, hp, hl, hK => by
    obtain ⟨K, rfl⟩ : ∃ m, K = m + 1 := ⟨K - 1, by omega⟩
    have hs : (a.extract p a.size).size ≤ a.size := by rw [ByteArray.size_extract]; omega
    rw [wire_GetList.l0, if_pos (by omega), if_pos (by omega), if_pos (by omega), Int.toNat_natCast, wire_text _ (by omega), Option.bind_some, glL]
    by_cases h0 : (gt (a.extract p a.size)).2.2 = 0
    · have g := gt_ok _ h0
      rw [ByteArray.size_extract] at g
      rw [if_pos h0, if_pos h0, if_pos (by omega), w64 _ (by omega) (by omega), w64 ((i : Int) + 1) (by omega) (by omega)]
      have := wire_l0 a ha n hn c (i + 1) (p + (gt (a.extract p a.size)).2.1.toNat) (acc ++ [(gt (a.extract p a.size)).1]) K (by omega) (by omega) (by simp; omega) (by omega)
      rw [← this]
      congr 1
      omega
    · rw [if_neg h0, if_neg h0]
open PWi in
theorem wire_list (a : ByteArray) (ha : a.size < 4611686018427387904) (m : Nat) (hm : m < 1000) (K : Nat) (hK : m + 1 ≤ K) : wire_GetList.f K a m = some (gl a m) := by
  have g := gi_ok a 9 0 0 (by omega)
  unfold wire_GetList.f wire_GetInt.f gl
  rw [Option.bind_some]
  generalize gi a 9 0 0 = G at g ⊢
  by_cases h0 : G.2.2 = 0
  · have g := g h0
    rw [if_pos h0, if_pos h0]
    by_cases h1 : G.1 > m
    · rw [if_pos h1, if_pos h1]
    · rw [if_neg h1, if_neg h1]
      have := wire_l0 a ha G.1.toNat (by omega) G.1.toNat 0 G.2.1.toNat [] K (by omega) (by omega) rfl (by omega)
      rw [Int.toNat_of_nonneg (by omega), Int.toNat_of_nonneg (by omega)] at this
      exact this
  · rw [if_neg h0, if_neg h0]
end Go.Proofs.YtndicjikjcifaaaDoor

namespace Go.Proofs.YtndicjikjcifaaaDoor.PCk
open Go.RowKit Go.Proofs.YtndicjikjcifaaaDoorW.PrintWords Go.Proofs.YtndicjikjcifaaaDoorW.PrintLast Go.Proofs.YtndicjikjcifaaaDoorW.PrintMore
attribute [local go_sem] max2_int min2_int max_two min_two max_three min_three max_four min_four   -- for this text's walks alone
set_option linter.unusedVariables false
set_option linter.unusedSimpArgs false
def errW : Option Int → Value
  | none => .nilIface
  | some c => .iface 0 (.int .i64 c)
theorem errW_none : errW none = .nilIface := rfl
theorem errW_some (c : Int) : errW (some c) = .iface 0 (.int .i64 c) := rfl
-- the values' own types
end Go.Proofs.YtndicjikjcifaaaDoor.PCk

namespace Go.Proofs.YtndicjikjcifaaaDoor.PCk
open Go.RowKit Go.Proofs.YtndicjikjcifaaaDoorW.PrintWords Go.Proofs.YtndicjikjcifaaaDoorW.PrintLast Go.Proofs.YtndicjikjcifaaaDoorW.PrintMore
attribute [local go_sem] max2_int min2_int max_two min_two max_three min_three max_four min_four   -- for this text's walks alone
set_option linter.unusedVariables false
set_option linter.unusedSimpArgs false
/-! ### tuskref04_Name: function 49 -/
def tuskref04_Name.l0 : Nat → ByteArray → Int → Option (Bool)
  | 0, _, _ => none
  | k + 1, x0, x3 => if x3 < (x0.size : Int) then (if 0 ≤ x3 then (if (bt x0 x3) < 97 then (if (bt x0 x3) < 48 then (some false) else (if (bt x0 x3) > 57 then (some false) else (tuskref04_Name.l0 k x0 (wrap64 (x3 + 1))))) else (if (bt x0 x3) > 122 then (if (bt x0 x3) < 48 then (some false) else (if (bt x0 x3) > 57 then (some false) else (tuskref04_Name.l0 k x0 (wrap64 (x3 + 1))))) else (tuskref04_Name.l0 k x0 (wrap64 (x3 + 1))))) else (none)) else (if (x0.size : Int) ≥ 1 then (some (decide ((x0.size : Int) ≤ 32))) else (some false))
def tuskref04_Name.f (k : Nat) (a0 : ByteArray) : Option (Bool) := tuskref04_Name.l0 k a0 0
theorem tuskref04_Name.mono_l : ∀ k, (∀ y0 y1, LeO (tuskref04_Name.l0 k y0 y1) (tuskref04_Name.l0 (k + 1) y0 y1))
  | 0 => fun _ _ r h => by simp [tuskref04_Name.l0] at h
  | k + 1 => by
    have ih0 := tuskref04_Name.mono_l k
    · intro y0 y1
      unfold tuskref04_Name.l0
      repeat' first
      | (with_reducible exact ih0 _ _)
      | (with_reducible exact LeO.refl _)
      | (with_reducible exact LeO.none _)
      | (with_reducible refine LeO.ite ?_ ?_)
      | (with_reducible refine LeO.bind ?_ (fun _ => ?_))
      | exact ih0 _ _
      | exact LeO.none _
      | refine LeO.ite ?_ ?_
      | refine LeO.bind ?_ (fun _ => ?_)
theorem tuskref04_Name.mono : ∀ a0 k, LeO (tuskref04_Name.f k a0) (tuskref04_Name.f (k + 1) a0) := by
  intro a0 k
  have ih0 := tuskref04_Name.mono_l k
  unfold tuskref04_Name.f
  repeat' first
      | (with_reducible exact ih0 _ _)
      | (with_reducible exact LeO.refl _)
      | (with_reducible exact LeO.none _)
      | (with_reducible refine LeO.ite ?_ ?_)
      | (with_reducible refine LeO.bind ?_ (fun _ => ?_))
      | exact ih0 _ _
      | exact LeO.none _
      | refine LeO.ite ?_ ?_
      | refine LeO.bind ?_ (fun _ => ?_)
/-! ### tuskref04_Key: function 92 -/
def tuskref04_Key.f (k : Nat) (a0 : ByteArray) : Option (Bool) := if (a0.size : Int) > 2 then (if 0 ≤ 2 then (if 2 ≤ (a0.size : Int) then (if (a0.extract 0 2).toList = ([97, 58] : List UInt8) then ((tuskref04_Name.f k (a0.extract 2 a0.size)).bind fun t101 => (some t101)) else (if (a0.extract 0 2).toList = ([107, 58] : List UInt8) then ((tuskref04_Name.f k (a0.extract 2 a0.size)).bind fun t102 => (some t102)) else (some false))) else (none)) else (none)) else (some false)
theorem tuskref04_Key.mono : ∀ a0 k, LeO (tuskref04_Key.f k a0) (tuskref04_Key.f (k + 1) a0) := by
  intro a0 k
  unfold tuskref04_Key.f
  repeat' first
      | (with_reducible exact tuskref04_Name.mono _ _)
      | (with_reducible exact LeO.refl _)
      | (with_reducible exact LeO.none _)
      | (with_reducible refine LeO.ite ?_ ?_)
      | (with_reducible refine LeO.bind ?_ (fun _ => ?_))
      | exact tuskref04_Name.mono _ _
      | exact LeO.none _
      | refine LeO.ite ?_ ?_
      | refine LeO.bind ?_ (fun _ => ?_)
/-! ### tuskref04_keys: function 73 -/
def tuskref04_keys.l0 : Nat → List ByteArray → Int → Option (Int)
  | 0, _, _ => none
  | k + 1, x0, x3 => if x3 < (x0.length : Int) then (if 0 ≤ x3 then ((tuskref04_Key.f k (rdOf ByteArray.empty x0 x3)).bind fun t104 => (if t104 = true then (if x3 > 0 then (if 0 ≤ (wrap64 (x3 - 1)) then (if (wrap64 (x3 - 1)) < (x0.length : Int) then (if ((Op.bytesLess ((rdOf ByteArray.empty x0 (wrap64 (x3 - 1))).toList) ((rdOf ByteArray.empty x0 x3).toList)) = true) then (tuskref04_keys.l0 k x0 (wrap64 (x3 + 1))) else (some 9)) else (none)) else (none)) else (tuskref04_keys.l0 k x0 (wrap64 (x3 + 1)))) else (some 3))) else (none)) else (some 0)
def tuskref04_keys.f (k : Nat) (l0 : List ByteArray) : Option (Int) := if (l0.length : Int) > 8 then (some 8) else (tuskref04_keys.l0 k l0 0)
theorem tuskref04_keys.mono_l : ∀ k, (∀ y0 y1, LeO (tuskref04_keys.l0 k y0 y1) (tuskref04_keys.l0 (k + 1) y0 y1))
  | 0 => fun _ _ r h => by simp [tuskref04_keys.l0] at h
  | k + 1 => by
    have ih0 := tuskref04_keys.mono_l k
    · intro y0 y1
      unfold tuskref04_keys.l0
      repeat' first
      | (with_reducible exact ih0 _ _)
      | (with_reducible exact tuskref04_Key.mono _ _)
      | (with_reducible exact LeO.refl _)
      | (with_reducible exact LeO.none _)
      | (with_reducible refine LeO.ite ?_ ?_)
      | (with_reducible refine LeO.bind ?_ (fun _ => ?_))
      | exact ih0 _ _
      | exact tuskref04_Key.mono _ _
      | exact LeO.none _
      | refine LeO.ite ?_ ?_
      | refine LeO.bind ?_ (fun _ => ?_)
theorem tuskref04_keys.mono : ∀ a0 k, LeO (tuskref04_keys.f k a0) (tuskref04_keys.f (k + 1) a0) := by
  intro a0 k
  have ih0 := tuskref04_keys.mono_l k
  unfold tuskref04_keys.f
  repeat' first
      | (with_reducible exact ih0 _ _)
      | (with_reducible exact tuskref04_Key.mono _ _)
      | (with_reducible exact LeO.refl _)
      | (with_reducible exact LeO.none _)
      | (with_reducible refine LeO.ite ?_ ?_)
      | (with_reducible refine LeO.bind ?_ (fun _ => ?_))
      | exact ih0 _ _
      | exact tuskref04_Key.mono _ _
      | exact LeO.none _
      | refine LeO.ite ?_ ?_
      | refine LeO.bind ?_ (fun _ => ?_)
end Go.Proofs.YtndicjikjcifaaaDoor.PCk

/- tx's reader: what it takes away, or what it throws. -/
namespace Go.Proofs.YtndicjikjcifaaaDoor
open Go.RowKit Go.Shelf Go.Lib Go.Proofs.YtndicjikjcifaaaDoorW.PrintWords Go.Proofs.YtndicjikjcifaaaDoorW.PrintLast
set_option linter.unusedVariables false
set_option linter.unusedSimpArgs false
def rest (s : ByteArray) (n : Int) : ByteArray := s.extract n.toNat s.size
theorem skip_ok (p : Nat) (s : ByteArray) (n : Int) (w : World) (h : w.heap[p]? = some (.cells #[.string s] 77 (0, 0))) (h0 : 0 ≤ n) (h1 : n ≤ s.size) :
    Calls Tryd.prog 79 #[.pointer (some ⟨p, 0, none⟩), .int .i64 n, .int .i64 0] w fun e w' =>
      e = .returned (.tuple #[]) ∧ w' = w.setCell ⟨p, 0, none⟩ (.string (rest s n)) := by
  have c0 : w.cell? ⟨p, 0, none⟩ = some (.string s) := blk_cell h 0
  have f0 := blk_frozen h 0
  have HB := Lib.hid h
  clear h
  have E : rest s n = s.extract n.toNat s.size := rfl
  go_enter Tryd.func79, Tryd.ntmps79
  go_wp2_with (first | (go_at_call 55; go_must (refine (check_ok _ _).mono ?_); rintro e w' ⟨rfl, hw⟩; have hw := hw.symm; subst hw))
  go_end0
  exact ⟨rfl, rfl⟩
theorem skip_no (p : Nat) (n x : Int) (hx : x ≠ 0) (w : World) :
    Calls Tryd.prog 79 #[.pointer (some ⟨p, 0, none⟩), .int .i64 n, .int .i64 x] w fun e w' =>
      e = .panicked [{ v := .iface 24 (.int .i64 x), recovered := false }] ∧ w' = w := by
  have hx : (x == 0) = false := by simpa using hx
  go_enter Tryd.func79, Tryd.ntmps79
  go_wp2_with (first | (go_at_call 55; go_must (refine (check_no _ _).mono ?_); rintro e w' ⟨rfl, hw⟩; have hw := hw.symm; subst hw))
  exact ⟨rfl, rfl, rfl⟩
def Rd (p : Nat) (s : ByteArray) (w w' : World) : Prop :=
  ∃ w1 s0, Below w.heap.size w w1 ∧ w1.heap[p]? = some (.cells #[.string s0] 77 (0, 0)) ∧ w' = w1.setCell ⟨p, 0, none⟩ (.string s)
theorem Rd.of_drawn {p : Nat} {s s' : ByteArray} {w w1 : World} (h : w.heap[p]? = some (.cells #[.string s] 77 (0, 0))) (hd : Below w.heap.size w w1) :
    Rd p s' w (w1.setCell ⟨p, 0, none⟩ (.string s')) := by
  have hp : p < w.heap.size := by
    rcases Nat.lt_or_ge p w.heap.size with h' | h'
    · exact h'
    · rw [Array.getElem?_eq_none h'] at h; cases h
  exact ⟨w1, s, hd, (hd.block p hp).trans h, rfl⟩
theorem Rd.box {p : Nat} {s : ByteArray} {w w' : World} (h : Rd p s w w') : w'.heap[p]? = some (.cells #[.string s] 77 (0, 0)) := by
  obtain ⟨w1, s0, _, hb, rfl⟩ := h
  simpa using blk_set hb 0 (.string s)
theorem Rd.blk {p : Nat} {s : ByteArray} {w w' : World} (h : Rd p s w w') {g : Nat} (hg : g ≠ p) (hl : g < w.heap.size) : w'.heap[g]? = w.heap[g]? := by
  obtain ⟨w1, s0, hd, hb, rfl⟩ := h
  exact (Below.heap_setCell _ _ _ _ hg).trans (hd.block g hl)
theorem Rd.below {p : Nat} {s : ByteArray} {w0 w w' : World} (h : Rd p s w w') (hl : Below w0.heap.size w0 w) (hp : w0.heap.size ≤ p) : Below w0.heap.size w0 w' := by
  obtain ⟨w1, s0, hd, hb, rfl⟩ := h
  exact (below_then hl hl.size hd).setCell hp _
theorem Rd.row {p : Nat} {s : ByteArray} {w w' : World} (h : Rd p s w w') {base : Nat} {ok : Nat → Prop} {v : Value} {xs : List ByteArray} (hR : Kd.R Kd.string 9 w base ok v xs) : Kd.R Kd.string 9 w' base ok v xs := by
  obtain ⟨w1, s0, hd, hb, rfl⟩ := h
  exact Kd.R_set (Kd.R_below hR hd) hb (by intro q hq; simp [Kd.string, Kd.scalar] at hq; subst hq; decide) 0 _
theorem drawn_below {w w' : World} (h : Drawn0 w w') : Below w.heap.size w w' := by
  obtain ⟨n, rfl⟩ := h
  exact ⟨rfl, rfl, rfl, Nat.le_refl _, fun _ _ => rfl⟩
theorem int_ok (p : Nat) (s : ByteArray) (w : World) (h : w.heap[p]? = some (.cells #[.string s] 77 (0, 0))) (h0 : (gi s 9 0 0).2.2 = 0) :
    Calls Tryd.prog 52 #[.pointer (some ⟨p, 0, none⟩)] w fun e w' =>
      e = .returned (.int .u64 (gi s 9 0 0).1) ∧ Rd p (rest s (gi s 9 0 0).2.1) w w' := by
  have c0 : w.cell? ⟨p, 0, none⟩ = some (.string s) := blk_cell h 0
  have g := gi_ok s 9 0 0 (by omega) h0
  have HF : wire_GetInt.f s = some (gi s 9 0 0) := rfl
  generalize hG : gi s 9 0 0 = G at h0 g HF ⊢
  obtain ⟨n, k, x⟩ := G
  simp only at h0 g ⊢
  subst h0
  have e1 : IntKind.u64.wrap n = n := wraps_u64 _ (by omega) (by omega)
  have HB := Lib.hid h
  have HF := Lib.hid HF
  have g0 : 0 ≤ k := by omega
  have g1 : k ≤ s.size := by omega
  clear h g hG
  go_enter Tryd.func52, Tryd.ntmps52
  go_wp2_with (first
    | (go_at_call 60; go_must (refine (wire_GetInt.calls s n k 0 _ HF.out).mono ?_); rintro e w1 ⟨rfl, hd⟩
       have HD := Lib.hid (drawn_below hd)
       have HB1 := Lib.hid ((HD.out.block p (by rcases Nat.lt_or_ge p w.heap.size with h' | h'; exact h'; have := HB.out; rw [Array.getElem?_eq_none h'] at this; cases this)).trans HB.out)
       clear hd)
    | (go_at_call 79; go_must (refine (skip_ok p s k _ HB1.out g0 g1).mono ?_); rintro e w2 ⟨rfl, hw⟩
       have HW := Lib.hid hw
       clear hw))
  go_ret
  refine ⟨rfl, ?_⟩
  rw [HW.out]
  exact Rd.of_drawn HB.out HD.out
theorem int_no (p : Nat) (s : ByteArray) (w : World) (h : w.heap[p]? = some (.cells #[.string s] 77 (0, 0))) (h0 : (gi s 9 0 0).2.2 ≠ 0) :
    Calls Tryd.prog 52 #[.pointer (some ⟨p, 0, none⟩)] w fun e w' =>
      e = .panicked [{ v := .iface 24 (.int .i64 (gi s 9 0 0).2.2), recovered := false }] ∧ Below w.heap.size w w' := by
  have c0 : w.cell? ⟨p, 0, none⟩ = some (.string s) := blk_cell h 0
  have HF : wire_GetInt.f s = some (gi s 9 0 0) := rfl
  generalize hG : gi s 9 0 0 = G at h0 HF ⊢
  obtain ⟨n, k, x⟩ := G
  simp only at h0 ⊢
  have HF := Lib.hid HF
  have H0 := Lib.hid h0
  clear h hG h0
  go_enter Tryd.func52, Tryd.ntmps52
  go_wp2_with (first
    | (go_at_call 60; go_must (refine (wire_GetInt.calls s n k x _ HF.out).mono ?_); rintro e w1 ⟨rfl, hd⟩
       have HD := Lib.hid (drawn_below hd)
       clear hd)
    | (go_at_call 79; go_must (refine (skip_no p k x H0.out _).mono ?_); rintro e w2 ⟨rfl, hw⟩; have hw := hw.symm; subst hw))
  exact ⟨rfl, rfl, HD.out⟩
theorem text_ok (p : Nat) (s : ByteArray) (w : World) (hs : s.size < 4611686018427387904) (h : w.heap[p]? = some (.cells #[.string s] 77 (0, 0))) (h0 : (gt s).2.2 = 0) :
    Calls Tryd.prog 53 #[.pointer (some ⟨p, 0, none⟩)] w fun e w' =>
      e = .returned (.string (gt s).1) ∧ Rd p (rest s (gt s).2.1) w w' := by
  have c0 : w.cell? ⟨p, 0, none⟩ = some (.string s) := blk_cell h 0
  have g := gt_ok s h0
  have HF := wire_text s hs
  generalize hG : gt s = G at h0 g HF ⊢
  obtain ⟨n, k, x⟩ := G
  simp only at h0 g ⊢
  subst h0
  have HB := Lib.hid h
  have HF := Lib.hid HF
  have g0 : 0 ≤ k := by omega
  have g1 : k ≤ s.size := by omega
  clear h g hG hs
  go_enter Tryd.func53, Tryd.ntmps53
  go_wp2_with (first
    | (go_at_call 80; go_must (refine (PWi.wire_GetText.calls s n k 0 _ HF.out).mono ?_); rintro e w1 ⟨rfl, hd⟩
       have HD := Lib.hid (drawn_below hd)
       have HB1 := Lib.hid ((HD.out.block p (by rcases Nat.lt_or_ge p w.heap.size with h' | h'; exact h'; have := HB.out; rw [Array.getElem?_eq_none h'] at this; cases this)).trans HB.out)
       clear hd)
    | (go_at_call 79; go_must (refine (skip_ok p s k _ HB1.out g0 g1).mono ?_); rintro e w2 ⟨rfl, hw⟩
       have HW := Lib.hid hw
       clear hw))
  go_ret
  refine ⟨rfl, ?_⟩
  rw [HW.out]
  exact Rd.of_drawn HB.out HD.out
theorem text_no (p : Nat) (s : ByteArray) (w : World) (hs : s.size < 4611686018427387904) (h : w.heap[p]? = some (.cells #[.string s] 77 (0, 0))) (h0 : (gt s).2.2 ≠ 0) :
    Calls Tryd.prog 53 #[.pointer (some ⟨p, 0, none⟩)] w fun e w' =>
      e = .panicked [{ v := .iface 24 (.int .i64 (gt s).2.2), recovered := false }] ∧ Below w.heap.size w w' := by
  have c0 : w.cell? ⟨p, 0, none⟩ = some (.string s) := blk_cell h 0
  have HF := wire_text s hs
  generalize hG : gt s = G at h0 HF ⊢
  obtain ⟨n, k, x⟩ := G
  simp only at h0 ⊢
  have HF := Lib.hid HF
  have H0 := Lib.hid h0
  clear h hG h0 hs
  go_enter Tryd.func53, Tryd.ntmps53
  go_wp2_with (first
    | (go_at_call 80; go_must (refine (PWi.wire_GetText.calls s n k x _ HF.out).mono ?_); rintro e w1 ⟨rfl, hd⟩
       have HD := Lib.hid (drawn_below hd)
       clear hd)
    | (go_at_call 79; go_must (refine (skip_no p k x H0.out _).mono ?_); rintro e w2 ⟨rfl, hw⟩; have hw := hw.symm; subst hw))
  exact ⟨rfl, rfl, HD.out⟩
theorem list_ok (p : Nat) (s : ByteArray) (w : World) (hs : s.size < 4611686018427387904) (h : w.heap[p]? = some (.cells #[.string s] 77 (0, 0))) (h0 : (gl s 8).2.2 = 0) :
    Calls Tryd.prog 54 #[.pointer (some ⟨p, 0, none⟩)] w fun e w' =>
      ∃ v, e = .returned v ∧ Kd.R Kd.string 9 w' w.heap.size (fun _ => True) v (gl s 8).1 ∧ Rd p (rest s (gl s 8).2.1) w w' := by
  have c0 : w.cell? ⟨p, 0, none⟩ = some (.string s) := blk_cell h 0
  have g := gl_ok s 8 h0
  have HF := wire_list s hs 8 (by omega) 9 (by omega)
  change _ = some (gl s 8) at HF
  generalize hG : gl s 8 = G at h0 g HF ⊢
  obtain ⟨n, k, x⟩ := G
  simp only at h0 g ⊢
  subst h0
  have HB := Lib.hid h
  have HF := Lib.hid HF
  have g0 : 0 ≤ k := by omega
  have g1 : k ≤ s.size := by omega
  have hp : p < w.heap.size := by
    rcases Nat.lt_or_ge p w.heap.size with h' | h'
    · exact h'
    · rw [Array.getElem?_eq_none h'] at h; cases h
  clear h g hG hs
  go_enter Tryd.func54, Tryd.ntmps54
  go_wp2_with (first
    | (go_at_call 61; go_must (refine (PWi.wire_GetList.calls 9 s 8 n k 0 _ HF.out).mono ?_); rintro e w1 ⟨v, rfl, hR, hd⟩
       have HD := Lib.hid hd
       have HR := Lib.hid hR
       have HB1 := Lib.hid ((HD.out.block p hp).trans HB.out)
       clear hd hR)
    | (go_at_call 79; go_must (refine (skip_ok p s k _ HB1.out g0 g1).mono ?_); rintro e w2 ⟨rfl, hw⟩
       have HW := Lib.hid hw
       clear hw))
  go_ret
  refine ⟨_, rfl, ?_, ?_⟩
  · rw [HW.out]
    exact Kd.R_set HR.out HB1.out (by intro q hq; simp [Kd.string, Kd.scalar] at hq; subst hq; decide) 0 _
  · rw [HW.out]
    exact Rd.of_drawn HB.out HD.out
theorem list_no (p : Nat) (s : ByteArray) (w : World) (hs : s.size < 4611686018427387904) (h : w.heap[p]? = some (.cells #[.string s] 77 (0, 0))) (h0 : (gl s 8).2.2 ≠ 0) :
    Calls Tryd.prog 54 #[.pointer (some ⟨p, 0, none⟩)] w fun e w' =>
      e = .panicked [{ v := .iface 24 (.int .i64 (gl s 8).2.2), recovered := false }] ∧ Below w.heap.size w w' := by
  have c0 : w.cell? ⟨p, 0, none⟩ = some (.string s) := blk_cell h 0
  have HF := wire_list s hs 8 (by omega) 9 (by omega)
  change _ = some (gl s 8) at HF
  generalize hG : gl s 8 = G at h0 HF ⊢
  obtain ⟨n, k, x⟩ := G
  simp only at h0 ⊢
  have HF := Lib.hid HF
  have H0 := Lib.hid h0
  clear h hG h0 hs
  go_enter Tryd.func54, Tryd.ntmps54
  go_wp2_with (first
    | (go_at_call 61; go_must (refine (PWi.wire_GetList.calls 9 s 8 n k x _ HF.out).mono ?_); rintro e w1 ⟨v, rfl, hR, hd⟩
       have HD := Lib.hid hd
       clear hd hR)
    | (go_at_call 79; go_must (refine (skip_no p k x H0.out _).mono ?_); rintro e w2 ⟨rfl, hw⟩; have hw := hw.symm; subst hw))
  exact ⟨rfl, rfl, HD.out⟩
end Go.Proofs.YtndicjikjcifaaaDoor

/- tuskref04.Name, Key, keys: the same as tx's. -/
namespace Go.Proofs.YtndicjikjcifaaaDoor
open Go.RowKit Go.Shelf Go.Lib Go.Proofs.YtndicjikjcifaaaDoorW.PrintWords Go.Proofs.YtndicjikjcifaaaDoorW.PrintLast
open Go.Proofs.YtndicjikjcifaaaDoor.PCk
set_option linter.unusedVariables false
set_option linter.unusedSimpArgs false
end Go.Proofs.YtndicjikjcifaaaDoor
/- tuskref04.Check: what is wrong with a transaction. -/
namespace Go.Proofs.YtndicjikjcifaaaDoor
open Go.RowKit Go.Shelf Go.Lib Go.Proofs.YtndicjikjcifaaaDoorW.PrintWords Go.Proofs.YtndicjikjcifaaaDoorW.PrintLast
open Go.Proofs.YtndicjikjcifaaaDoor.PCk
set_option linter.unusedVariables false
set_option linter.unusedSimpArgs false
structure Bq (w : World) (bs : Array Value) (W : World) : Prop where
  low : Below w.heap.size w W
  box : W.heap[w.heap.size]? = some (.cells bs 33 (0, 0))
theorem Bq.step {w W W' : World} {bs : Array Value} (h : Bq w bs W) (hb : Below W.heap.size W W') : Bq w bs W' :=
  ⟨below_then h.low h.low.size hb, (hb.block _ (blk_lt h.box)).trans h.box⟩
theorem Bq.first (w : World) (bs : Array Value) : Bq w bs (w.alloc (.cells bs 33)) :=
  ⟨(Below.refl _ w).alloc (Nat.le_refl _) _, blk_new _ _⟩
end Go.Proofs.YtndicjikjcifaaaDoor
/- tuskref04.Check in the printer's form. -/
namespace Go.Proofs.YtndicjikjcifaaaDoor
open Go.RowKit Go.Shelf Go.Lib Go.Proofs.YtndicjikjcifaaaDoorW.PrintWords Go.Proofs.YtndicjikjcifaaaDoorW.PrintLast
def Lim (f t ky' : ByteArray) (rs ws : List ByteArray) : Prop := f.size < 4611686018427387904 ∧ t.size < 4611686018427387904 ∧ ky'.size < 4611686018427387904 ∧ (∀ x ∈ rs, x.size < 4611686018427387904) ∧ (∀ x ∈ ws, x.size < 4611686018427387904)
instance (f t ky' : ByteArray) (rs ws : List ByteArray) : Decidable (Lim f t ky' rs ws) := by unfold Lim; infer_instance
def tuskref04_Check.f (k : Int) (f t : ByteArray) (am nc : Int) (ky' vl : ByteArray) (rs ws : List ByteArray) : Option Int := if Lim f t ky' rs ws then some (ch k f t am nc ky' vl rs ws) else none
def tuskref04_Name.f (s : ByteArray) : Option Bool := if s.size < 4611686018427387904 then some (nm s) else none
end Go.Proofs.YtndicjikjcifaaaDoor

namespace Go.Proofs.YtndicjikjcifaaaDoor.PB
open Go.RowKit Go.Proofs.YtndicjikjcifaaaDoorW.PrintWords Go.Proofs.YtndicjikjcifaaaDoorW.PrintLast Go.Proofs.YtndicjikjcifaaaDoorW.PrintMore
attribute [local go_sem] max2_int min2_int max_two min_two max_three min_three max_four min_four   -- for this text's walks alone
set_option linter.unusedVariables false
set_option linter.unusedSimpArgs false
/-! ### tx_Check: function 41 -/
-- IMPORT Derived.Test.YtndicjikjcifaaaDoorTxchk
/-! ### batch_Check: function 33 -/
mutual
def batch_Check.j0 : Nat → Int → Bool → Int → Int → List (S33) → Option (Int)
  | 0, _, _, _, _, _ => none
  | k + 1, x3, x10, x102000, x102001, x102002 => if x10 = true then (some 2) else (if x3 = 0 then (some 12) else (if x3 > 16 then (some 8) else (batch_Check.l0 k x102002 (x102002.length : Int) 0)))
def batch_Check.l0 : Nat → List (S33) → Int → Int → Option (Int)
  | 0, _, _, _ => none
  | k + 1, x36, x37, x38 => if x38 < x37 then (if 0 ≤ x38 then (if x38 < (x36.length : Int) then ((tx_Check.f ((rd_T33 x36 x38).f0) ((rd_T33 x36 x38).f1) ((rd_T33 x36 x38).f2) ((rd_T33 x36 x38).f3) ((rd_T33 x36 x38).f4) ((rd_T33 x36 x38).f5) ((rd_T33 x36 x38).f6) ((rd_T33 x36 x38).f7) ((rd_T33 x36 x38).f8)).bind fun t104 => (if t104 = 0 then (batch_Check.l0 k x36 x37 (wrap64 (x38 + 1))) else (some t104))) else (none)) else (none)) else (some 0)
end
def batch_Check.f (k : Nat) (a0_0 : Int) (a0_1 : Int) (l0_2 : List (S33)) : Option (Int) := if a0_0 < 0 then (batch_Check.j0 k (l0_2.length : Int) true a0_0 a0_1 l0_2) else (if a0_0 > 6 then (batch_Check.j0 k (l0_2.length : Int) true a0_0 a0_1 l0_2) else (if a0_1 < 1 then (batch_Check.j0 k (l0_2.length : Int) true a0_0 a0_1 l0_2) else (batch_Check.j0 k (l0_2.length : Int) (decide (a0_1 > 4611686018427387903)) a0_0 a0_1 l0_2)))
theorem batch_Check.mono_l : ∀ k, (∀ y0 y1 y2 y3 y4, LeO (batch_Check.j0 k y0 y1 y2 y3 y4) (batch_Check.j0 (k + 1) y0 y1 y2 y3 y4)) ∧ (∀ y0 y1 y2, LeO (batch_Check.l0 k y0 y1 y2) (batch_Check.l0 (k + 1) y0 y1 y2))
  | 0 => ⟨fun _ _ _ _ _ r h => by simp [batch_Check.j0] at h, fun _ _ _ r h => by simp [batch_Check.l0] at h⟩
  | k + 1 => by
    obtain ⟨ih0, ih1⟩ := batch_Check.mono_l k
    refine ⟨?_, ?_⟩
    · intro y0 y1 y2 y3 y4
      unfold batch_Check.j0
      repeat' first
      | (with_reducible exact ih0 _ _ _ _ _)
      | (with_reducible exact ih1 _ _ _)
      | (with_reducible exact LeO.refl _)
      | (with_reducible exact LeO.none _)
      | (with_reducible refine LeO.ite ?_ ?_)
      | (with_reducible refine LeO.bind ?_ (fun _ => ?_))
      | exact ih0 _ _ _ _ _
      | exact ih1 _ _ _
      | exact LeO.none _
      | refine LeO.ite ?_ ?_
      | refine LeO.bind ?_ (fun _ => ?_)
    · intro y0 y1 y2
      unfold batch_Check.l0
      repeat' first
      | (with_reducible exact ih0 _ _ _ _ _)
      | (with_reducible exact ih1 _ _ _)
      | (with_reducible exact LeO.refl _)
      | (with_reducible exact LeO.none _)
      | (with_reducible refine LeO.ite ?_ ?_)
      | (with_reducible refine LeO.bind ?_ (fun _ => ?_))
      | exact ih0 _ _ _ _ _
      | exact ih1 _ _ _
      | exact LeO.none _
      | refine LeO.ite ?_ ?_
      | refine LeO.bind ?_ (fun _ => ?_)
theorem batch_Check.mono : ∀ a0 a1 a2 k, LeO (batch_Check.f k a0 a1 a2) (batch_Check.f (k + 1) a0 a1 a2) := by
  intro a0 a1 a2 k
  obtain ⟨ih0, ih1⟩ := batch_Check.mono_l k
  unfold batch_Check.f
  repeat' first
      | (with_reducible exact ih0 _ _ _ _ _)
      | (with_reducible exact ih1 _ _ _)
      | (with_reducible exact LeO.refl _)
      | (with_reducible exact LeO.none _)
      | (with_reducible refine LeO.ite ?_ ?_)
      | (with_reducible refine LeO.bind ?_ (fun _ => ?_))
      | exact ih0 _ _ _ _ _
      | exact ih1 _ _ _
      | exact LeO.none _
      | refine LeO.ite ?_ ?_
      | refine LeO.bind ?_ (fun _ => ?_)
/-! ### tuskref04_Check: function 42 -/
-- IMPORT Derived.Test.YtndicjikjcifaaaDoorRefchk
/-! ### tuskref05_Check: function 34 -/
mutual
def tuskref05_Check.j0 : Nat → Bool → Int → Int → List (S33) → Option (Int)
  | 0, _, _, _, _ => none
  | k + 1, x5, x106000, x106001, x106002 => if x5 = true then (some 2) else (if (x106002.length : Int) = 0 then (some 12) else (if (x106002.length : Int) > 16 then (some 8) else (tuskref05_Check.l0 k 0 x106000 x106001 x106002)))
def tuskref05_Check.l0 : Nat → Int → Int → Int → List (S33) → Option (Int)
  | 0, _, _, _, _ => none
  | k + 1, x3, x106000, x106001, x106002 => if x3 < (x106002.length : Int) then (if 0 ≤ x3 then ((tuskref04_Check.f ((rd_T33 x106002 x3).f0) ((rd_T33 x106002 x3).f1) ((rd_T33 x106002 x3).f2) ((rd_T33 x106002 x3).f3) ((rd_T33 x106002 x3).f4) ((rd_T33 x106002 x3).f5) ((rd_T33 x106002 x3).f6) ((rd_T33 x106002 x3).f7) ((rd_T33 x106002 x3).f8)).bind fun t107 => (if t107 = 0 then (tuskref05_Check.l0 k (wrap64 (x3 + 1)) x106000 x106001 x106002) else (some t107))) else (none)) else (some 0)
end
def tuskref05_Check.f (k : Nat) (a0_0 : Int) (a0_1 : Int) (l0_2 : List (S33)) : Option (Int) := if a0_0 < 0 then (tuskref05_Check.j0 k true a0_0 a0_1 l0_2) else (if a0_0 > 6 then (tuskref05_Check.j0 k true a0_0 a0_1 l0_2) else (if a0_1 < 1 then (tuskref05_Check.j0 k true a0_0 a0_1 l0_2) else (tuskref05_Check.j0 k (decide (a0_1 > 4611686018427387903)) a0_0 a0_1 l0_2)))
theorem tuskref05_Check.mono_l : ∀ k, (∀ y0 y1 y2 y3, LeO (tuskref05_Check.j0 k y0 y1 y2 y3) (tuskref05_Check.j0 (k + 1) y0 y1 y2 y3)) ∧ (∀ y0 y1 y2 y3, LeO (tuskref05_Check.l0 k y0 y1 y2 y3) (tuskref05_Check.l0 (k + 1) y0 y1 y2 y3))
  | 0 => ⟨fun _ _ _ _ r h => by simp [tuskref05_Check.j0] at h, fun _ _ _ _ r h => by simp [tuskref05_Check.l0] at h⟩
  | k + 1 => by
    obtain ⟨ih0, ih1⟩ := tuskref05_Check.mono_l k
    refine ⟨?_, ?_⟩
    · intro y0 y1 y2 y3
      unfold tuskref05_Check.j0
      repeat' first
      | (with_reducible exact ih0 _ _ _ _)
      | (with_reducible exact ih1 _ _ _ _)
      | (with_reducible exact LeO.refl _)
      | (with_reducible exact LeO.none _)
      | (with_reducible refine LeO.ite ?_ ?_)
      | (with_reducible refine LeO.bind ?_ (fun _ => ?_))
      | exact ih0 _ _ _ _
      | exact ih1 _ _ _ _
      | exact LeO.none _
      | refine LeO.ite ?_ ?_
      | refine LeO.bind ?_ (fun _ => ?_)
    · intro y0 y1 y2 y3
      unfold tuskref05_Check.l0
      repeat' first
      | (with_reducible exact ih0 _ _ _ _)
      | (with_reducible exact ih1 _ _ _ _)
      | (with_reducible exact LeO.refl _)
      | (with_reducible exact LeO.none _)
      | (with_reducible refine LeO.ite ?_ ?_)
      | (with_reducible refine LeO.bind ?_ (fun _ => ?_))
      | exact ih0 _ _ _ _
      | exact ih1 _ _ _ _
      | exact LeO.none _
      | refine LeO.ite ?_ ?_
      | refine LeO.bind ?_ (fun _ => ?_)
theorem tuskref05_Check.mono : ∀ a0 a1 a2 k, LeO (tuskref05_Check.f k a0 a1 a2) (tuskref05_Check.f (k + 1) a0 a1 a2) := by
  intro a0 a1 a2 k
  obtain ⟨ih0, ih1⟩ := tuskref05_Check.mono_l k
  unfold tuskref05_Check.f
  repeat' first
      | (with_reducible exact ih0 _ _ _ _)
      | (with_reducible exact ih1 _ _ _ _)
      | (with_reducible exact LeO.refl _)
      | (with_reducible exact LeO.none _)
      | (with_reducible refine LeO.ite ?_ ?_)
      | (with_reducible refine LeO.bind ?_ (fun _ => ?_))
      | exact ih0 _ _ _ _
      | exact ih1 _ _ _ _
      | exact LeO.none _
      | refine LeO.ite ?_ ?_
      | refine LeO.bind ?_ (fun _ => ?_)
end Go.Proofs.YtndicjikjcifaaaDoor.PB

namespace Go.Proofs.YtndicjikjcifaaaDoor.PB
open Go.RowKit Go.Proofs.YtndicjikjcifaaaDoorW.PrintWords Go.Proofs.YtndicjikjcifaaaDoorW.PrintLast Go.Proofs.YtndicjikjcifaaaDoorW.PrintMore
attribute [local go_sem] max2_int min2_int max_two min_two max_three min_three max_four min_four   -- for this text's walks alone
set_option linter.unusedVariables false
set_option linter.unusedSimpArgs false
/-! ### tuskref01_Same: function 43 -/
def tuskref01_Same.l0 : Nat → List ByteArray → List ByteArray → Int → Option (Bool)
  | 0, _, _, _ => none
  | k + 1, x0, x1, x5 => if x5 < (x0.length : Int) then (if 0 ≤ x5 then (if x5 < (x1.length : Int) then (if (rdOf ByteArray.empty x0 x5).toList = (rdOf ByteArray.empty x1 x5).toList then (tuskref01_Same.l0 k x0 x1 (wrap64 (x5 + 1))) else (some false)) else (none)) else (none)) else (some true)
def tuskref01_Same.f (k : Nat) (l0 : List ByteArray) (l1 : List ByteArray) : Option (Bool) := if (l0.length : Int) = (l1.length : Int) then (tuskref01_Same.l0 k l0 l1 0) else (some false)
theorem tuskref01_Same.mono_l : ∀ k, (∀ y0 y1 y2, LeO (tuskref01_Same.l0 k y0 y1 y2) (tuskref01_Same.l0 (k + 1) y0 y1 y2))
  | 0 => fun _ _ _ r h => by simp [tuskref01_Same.l0] at h
  | k + 1 => by
    have ih0 := tuskref01_Same.mono_l k
    · intro y0 y1 y2
      unfold tuskref01_Same.l0
      repeat' first
      | (with_reducible exact ih0 _ _ _)
      | (with_reducible exact LeO.refl _)
      | (with_reducible exact LeO.none _)
      | (with_reducible refine LeO.ite ?_ ?_)
      | (with_reducible refine LeO.bind ?_ (fun _ => ?_))
      | exact ih0 _ _ _
      | exact LeO.none _
      | refine LeO.ite ?_ ?_
      | refine LeO.bind ?_ (fun _ => ?_)
theorem tuskref01_Same.mono : ∀ a0 a1 k, LeO (tuskref01_Same.f k a0 a1) (tuskref01_Same.f (k + 1) a0 a1) := by
  intro a0 a1 k
  have ih0 := tuskref01_Same.mono_l k
  unfold tuskref01_Same.f
  repeat' first
      | (with_reducible exact ih0 _ _ _)
      | (with_reducible exact LeO.refl _)
      | (with_reducible exact LeO.none _)
      | (with_reducible refine LeO.ite ?_ ?_)
      | (with_reducible refine LeO.bind ?_ (fun _ => ?_))
      | exact ih0 _ _ _
      | exact LeO.none _
      | refine LeO.ite ?_ ?_
      | refine LeO.bind ?_ (fun _ => ?_)
set_option maxHeartbeats 8000000 in
set_option maxRecDepth 100000 in
theorem tuskref01_Same.calls (k : Nat) (A0 : Option Addr) (c0 : Nat) (l0 : List ByteArray) (A1 : Option Addr) (c1 : Nat) (l1 : List ByteArray) (r : Bool) (w : World) (hr0 : Kd.C Kd.string w A0 l0.length l0) (hc0 : l0.length ≤ c0) (hr1 : Kd.C Kd.string w A1 l1.length l1) (hc1 : l1.length ≤ c1) (h : tuskref01_Same.f k l0 l1 = some r) :
    Calls Tryd.prog 43 #[.slice A0 l0.length c0, .slice A1 l1.length c1] w fun e w' => e = .returned (.bool r) ∧ Drawn0 w w' := by
  have HR0 := Aside0.mk hr0
  have HC0 := Aside0.mk hc0
  clear hr0 hc0
  have HR1 := Aside0.mk hr1
  have HC1 := Aside0.mk hc1
  clear hr1 hc1
  have H : (if (l0.length : Int) = (l1.length : Int) then (tuskref01_Same.l0 k l0 l1 0) else (some false)) = some r := h
  clear h
  by_cases c3 : (l0.length : Int) = (l1.length : Int)
  · rw [if_pos c3] at H
    have c3b0 : ((l0.length : Int) == (l1.length : Int)) = true := beq_iff_eq.mpr c3
    have c3b1 : ((l0.length : Int) != (l1.length : Int)) = false := bne_eq_false_iff_eq.mpr c3
    have c3b2 : (l0.length == l1.length) = true := by first | simpa using c3 | (simp at c3 ⊢; omega)
    clear c3
    have H' := Aside0.mk H
    clear H
    go_enter Tryd.func43, Tryd.ntmps43
    go_wp2
    repeat (go_quiet (fail); try go_wp2)
    go_loopg [5] k (fun kq v5 w' => ∃ (x5_1 : Int), v5 = .int .i64 x5_1 ∧ Aside0 (tuskref01_Same.l0 kq l0 l1 x5_1 = some r) ∧ Aside0 (kq ≤ k) ∧ Drawn0 w w')
    case atStart => exact ⟨(0), (by first | rfl | (simp; done) | (simp [*]; done)), H', ⟨Nat.le_refl _⟩, by repeat (first | exact Drawn0.refl _ | apply Drawn0.step)⟩
    case round =>
      clear H'
      try clear c1
      try clear p2
      try clear c3
      try clear c3b0
      try clear c3b1
      try clear c3b2
      obtain ⟨x5_1, rfl, HA, HK1, ⟨m1, rfl⟩⟩ := hrel
      cases gk with
      | zero => exact absurd HA.out (by simp [tuskref01_Same.l0])
      | succ k1 =>
        have H := HA.out
        clear HA
        simp only [tuskref01_Same.l0] at H
        by_cases c4 : x5_1 < (l0.length : Int)
        · rw [if_pos c4] at H
          have c4b0 : decide (x5_1 < (l0.length : Int)) = true := decide_eq_true c4
          clear c4
          by_cases c5 : 0 ≤ x5_1
          · rw [if_pos c5] at H
            have c5b0 : decide (0 ≤ x5_1) = true := decide_eq_true c5
            clear c5
            by_cases c6 : x5_1 < (l1.length : Int)
            · rw [if_pos c6] at H
              have c6b0 : decide (x5_1 < (l1.length : Int)) = true := decide_eq_true c6
              clear c6
              by_cases c7 : (rdOf ByteArray.empty l0 x5_1).toList = (rdOf ByteArray.empty l1 x5_1).toList
              · rw [if_pos c7] at H
                have c7b0 : ((rdOf ByteArray.empty l0 x5_1).toList == (rdOf ByteArray.empty l1 x5_1).toList) = true := beq_iff_eq.mpr c7
                have c7b1 : ((rdOf ByteArray.empty l0 x5_1).toList != (rdOf ByteArray.empty l1 x5_1).toList) = false := bne_eq_false_iff_eq.mpr c7
                clear c7
                have H' := Aside0.mk H
                clear H
                have p108 : 0 ≤ (x5_1 : Int) := of_decide_eq_true (by first | (with_reducible assumption) | assumption)
                have q108 : x5_1 < (l0.length : Int) := of_decide_eq_true (by first | (with_reducible assumption) | assumption)
                obtain ⟨ad108, e108, hx108_0⟩ := Kd.at_string HR0.out x5_1 p108 q108
                cases e108
                replace p108 := eq_true p108
                replace q108 := eq_true q108
                have p109 : 0 ≤ (x5_1 : Int) := of_decide_eq_true (by first | (with_reducible assumption) | assumption)
                have q109 : x5_1 < (l1.length : Int) := of_decide_eq_true (by first | (with_reducible assumption) | assumption)
                obtain ⟨ad109, e109, hx109_0⟩ := Kd.at_string HR1.out x5_1 p109 q109
                cases e109
                replace p109 := eq_true p109
                replace q109 := eq_true q109
                go_wp2
                repeat (go_quiet (fail); try go_wp2)
                go_roundg k1
                case measure => have := HK1.out; omega
                case rel => exact ⟨(wrap64 (x5_1 + 1)), (by first | rfl | (simp; done) | (simp [*]; done)), H', ⟨by have := HK1.out; omega⟩, by repeat (first | exact Drawn0.refl _ | apply Drawn0.step)⟩
              · rw [if_neg c7] at H
                have c7b0 : ((rdOf ByteArray.empty l0 x5_1).toList == (rdOf ByteArray.empty l1 x5_1).toList) = false := beq_eq_false_iff_ne.mpr c7
                have c7b1 : ((rdOf ByteArray.empty l0 x5_1).toList != (rdOf ByteArray.empty l1 x5_1).toList) = true := bne_iff_ne.mpr c7
                obtain rfl := Option.some.inj H
                have p108 : 0 ≤ (x5_1 : Int) := of_decide_eq_true (by first | (with_reducible assumption) | assumption)
                have q108 : x5_1 < (l0.length : Int) := of_decide_eq_true (by first | (with_reducible assumption) | assumption)
                obtain ⟨ad108, e108, hx108_0⟩ := Kd.at_string HR0.out x5_1 p108 q108
                cases e108
                replace p108 := eq_true p108
                replace q108 := eq_true q108
                have p109 : 0 ≤ (x5_1 : Int) := of_decide_eq_true (by first | (with_reducible assumption) | assumption)
                have q109 : x5_1 < (l1.length : Int) := of_decide_eq_true (by first | (with_reducible assumption) | assumption)
                obtain ⟨ad109, e109, hx109_0⟩ := Kd.at_string HR1.out x5_1 p109 q109
                cases e109
                replace p109 := eq_true p109
                replace q109 := eq_true q109
                go_wp2
                repeat (go_quiet (fail); try go_wp2)
                go_ret
                exact ⟨by first | rfl | (simp; done) | (simp [*]; done), by repeat (first | exact Drawn0.refl _ | apply Drawn0.step)⟩
            · rw [if_neg c6] at H
              exact absurd H (by simp)
          · rw [if_neg c5] at H
            exact absurd H (by simp)
        · rw [if_neg c4] at H
          have c4b0 : decide (x5_1 < (l0.length : Int)) = false := decide_eq_false c4
          clear c4
          obtain rfl := Option.some.inj H
          go_wp2
          repeat (go_quiet (fail); try go_wp2)
          go_ret
          exact ⟨by first | rfl | (simp; done) | (simp [*]; done), by repeat (first | exact Drawn0.refl _ | apply Drawn0.step)⟩
  · rw [if_neg c3] at H
    have c3b0 : ((l0.length : Int) == (l1.length : Int)) = false := beq_eq_false_iff_ne.mpr c3
    have c3b1 : ((l0.length : Int) != (l1.length : Int)) = true := bne_iff_ne.mpr c3
    have c3b2 : (l0.length == l1.length) = false := by first | simpa using c3 | (simp at c3 ⊢; omega)
    obtain rfl := Option.some.inj H
    go_enter Tryd.func43, Tryd.ntmps43
    go_wp2
    repeat (go_quiet (fail); try go_wp2)
    go_ret
    exact ⟨by first | rfl | (simp; done) | (simp [*]; done), by repeat (first | exact Drawn0.refl _ | apply Drawn0.step)⟩
/-! ### tuskref04_Same: function 27 -/
def tuskref04_Same.f (k : Nat) (a0_0 : Int) (a0_1 : ByteArray) (a0_2 : ByteArray) (a0_3 : Int) (a0_4 : Int) (a0_5 : ByteArray) (a0_6 : ByteArray) (l0_7 : List ByteArray) (l0_8 : List ByteArray) (a1_0 : Int) (a1_1 : ByteArray) (a1_2 : ByteArray) (a1_3 : Int) (a1_4 : Int) (a1_5 : ByteArray) (a1_6 : ByteArray) (l1_7 : List ByteArray) (l1_8 : List ByteArray) : Option (Bool) := if a0_0 = a1_0 then (if a0_1.toList = a1_1.toList then (if a0_2.toList = a1_2.toList then (if a0_3 = a1_3 then (if a0_4 = a1_4 then (if a0_5.toList = a1_5.toList then (if a0_6.toList = a1_6.toList then ((tuskref01_Same.f k l0_7 l1_7).bind fun t112 => (if t112 = true then ((tuskref01_Same.f k l0_8 l1_8).bind fun t113 => (some t113)) else (some false))) else (some false)) else (some false)) else (some false)) else (some false)) else (some false)) else (some false)) else (some false)
theorem tuskref04_Same.mono : ∀ a0 a1 a2 a3 a4 a5 a6 a7 a8 a9 a10 a11 a12 a13 a14 a15 a16 a17 k, LeO (tuskref04_Same.f k a0 a1 a2 a3 a4 a5 a6 a7 a8 a9 a10 a11 a12 a13 a14 a15 a16 a17) (tuskref04_Same.f (k + 1) a0 a1 a2 a3 a4 a5 a6 a7 a8 a9 a10 a11 a12 a13 a14 a15 a16 a17) := by
  intro a0 a1 a2 a3 a4 a5 a6 a7 a8 a9 a10 a11 a12 a13 a14 a15 a16 a17 k
  unfold tuskref04_Same.f
  repeat' first
      | (with_reducible exact tuskref01_Same.mono _ _ _)
      | (with_reducible exact LeO.refl _)
      | (with_reducible exact LeO.none _)
      | (with_reducible refine LeO.ite ?_ ?_)
      | (with_reducible refine LeO.bind ?_ (fun _ => ?_))
      | exact tuskref01_Same.mono _ _ _
      | exact LeO.none _
      | refine LeO.ite ?_ ?_
      | refine LeO.bind ?_ (fun _ => ?_)
end Go.Proofs.YtndicjikjcifaaaDoor.PB

/- tuskref01.Same of the same texts. -/
namespace Go.Proofs.YtndicjikjcifaaaDoor
open Go.RowKit Go.Proofs.YtndicjikjcifaaaDoorW.PrintWords Go.Proofs.YtndicjikjcifaaaDoorW.PrintLast
open PB (S33 k33)
set_option linter.unusedVariables false
set_option linter.unusedSimpArgs false
theorem bsame1_l (xs : List ByteArray) (hx : xs.length < 4611686018427387904) : ∀ d i K, i + d = xs.length → d + 1 ≤ K → PB.tuskref01_Same.l0 K xs xs i = some true
  | 0, i, 0, hi, hK => by omega
  | 0, i, K + 1, hi, hK => by rw [PB.tuskref01_Same.l0, if_neg (by omega)]
  | d + 1, i, 0, hi, hK => by omega
  | d + 1, i, K + 1, hi, hK => by
    have hw : wrap64 ((i : Int) + 1) = ((i + 1 : Nat) : Int) := by rw [w64 _ (by omega) (by omega)]; push_cast; rfl
    rw [PB.tuskref01_Same.l0, if_pos (by omega), if_pos (by omega), if_pos (by omega), if_pos rfl, hw]
    exact bsame1_l xs hx d (i + 1) K (by omega) (by omega)
theorem bsame1 (xs : List ByteArray) (hx : xs.length < 4611686018427387904) (K : Nat) (hK : xs.length + 1 ≤ K) : PB.tuskref01_Same.f K xs xs = some true := by
  rw [PB.tuskref01_Same.f, if_pos rfl]
  exact bsame1_l xs hx xs.length 0 K (by omega) hK
def LenT (t : S33) : Prop := t.f7.length < 4611686018427387904 ∧ t.f8.length < 4611686018427387904
end Go.Proofs.YtndicjikjcifaaaDoor
