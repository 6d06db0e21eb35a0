/- Texts joined by wip/tools/slim2.py: Radd, Wlist, Txenc, Benc, Batpl, Add, Tick, Rtick, Waits, Txdec, Inref, Refdec, Refdecb, Batpre, Batsame, Txneed, POwx0. -/
import Derived.Test.YtndicjikjcifaaaDoorJ1
import Derived.Test.YtndicjikjcifaaaDoorJ2
import Derived.Test.YtndicjikjcifaaaDoorJ3
import Derived.Shelf.Strings.Builder1
import Derived.Shelf.Strings.OnBuilder
import Derived.Deep.RegionHeld3
import Derived.Test.YtndicjikjcifaaaDoorProg
import Derived.Shelf.Sort.Plain
import Derived.Shelf.Slices.CompactS
import Derived.Shelf.Slices.Turned
import Derived.Below
import Derived.Deep.Draws
import Derived.Deep.AppendLies
import Derived.Maps.AppendAt
import Derived.OwnWalk
import Derived.Laws.BytesArg
import Derived.Laws.MakeOwn
import Derived.Laws.OwnMore
import Derived.Deep.OwnRows
import Derived.Tactics
import Derived.Lib.ConvBytes
import Derived.Laws.Slices
import Derived.WalkKit
import Derived.KernelRfl
import Derived.RowKit3
import Derived.Deep.LoopGhost
import Derived.Deep.QuietTactic
import Derived.BigQuiet
import Derived.WideLaws
import Derived.Deep.DeepCutAuto
import Derived.Deep.CutBlock
import Derived.Laws.Rows
import Derived.Lib.AppendStr
import Derived.ArgAppend
import Derived.Laws.IdiomCopy
import Derived.OrdersHeld
import Derived.Laws.BitsLemmas
import Derived.RowKit
/- The document's sealer: Add. -/
namespace Go.Proofs.YtndicjikjcifaaaDoor
open Go.RowKit Go.Proofs.YtndicjikjcifaaaDoorW.PrintWords Go.Proofs.YtndicjikjcifaaaDoorW.PrintLast
set_option linter.unusedVariables false
set_option linter.unusedSimpArgs false
set_option maxRecDepth 100000
open PB (S33 k33)
theorem k33_parts {w : World} {t : S33} {A7 A8 : Option Addr} {c7 c8 : Nat} (h : k33.K w t [.int .i64 t.f0, .string t.f1, .string t.f2, .int .u64 t.f3, .int .u64 t.f4, .string t.f5, .string t.f6, .slice A7 t.f7.length c7, .slice A8 t.f8.length c8]) : t.f7.length ≤ c7 ∧ Kd.string.C w A7 t.f7.length t.f7 ∧ t.f8.length ≤ c8 ∧ Kd.string.C w A8 t.f8.length t.f8 := by
  obtain ⟨B7, d7, B8, d8, e, l7, g7, l8, g8⟩ := PB.k33_open h
  simp only [List.cons.injEq, Value.slice.injEq, true_and, and_true] at e
  obtain ⟨⟨rfl, rfl⟩, rfl, rfl⟩ := e
  exact ⟨l7, g7, l8, g8⟩
/-- What Add does to a sealer of the type T and answers; z: what the transaction's check says. -/
def Added (T : TypeId) (z : Int) (g : Nat) (a0 s0 t0 k0 n0 : Int) (A : Option Addr) (c : Nat) (xs : List S33) (ok okn : Nat → Prop) (t : S33) (w : World) (Sf Rf : Nat → Prop) (M : List Asn) (e : Ending) (W : World) : Prop :=
  (z ≠ 0 ∧ e = .returned (.int .i64 z) ∧ St w Sf Rf (Asn.blk g [.int .i64 a0, .int .i64 s0, .int .i64 t0, .slice A xs.length c, .int .i64 k0, .int .i64 n0] T :: Asn.qu k33 33 (.slice A xs.length c) xs ok :: M) W) ∨
  (z = 0 ∧ (xs.length : Int) ≥ 4 * s0 ∧ e = .returned (.int .i64 4) ∧ St w Sf Rf (Asn.blk g [.int .i64 a0, .int .i64 s0, .int .i64 t0, .slice A xs.length c, .int .i64 k0, .int .i64 n0] T :: Asn.qu k33 33 (.slice A xs.length c) xs ok :: M) W) ∨
  (z = 0 ∧ ¬ (xs.length : Int) ≥ 4 * s0 ∧ e = .returned (.int .i64 0) ∧ ∃ A' c', St w Sf Rf (Asn.blk g [.int .i64 a0, .int .i64 s0, .int .i64 t0, .slice A' (xs ++ [t]).length c', .int .i64 k0, .int .i64 n0] T :: Asn.qu k33 33 (.slice A' (xs ++ [t]).length c') (xs ++ [t]) (fun k => ok k ∨ okn k) :: M) W)
set_option maxHeartbeats 1000000 in
theorem radd_calls (g : Nat) (a0 s0 t0 k0 n0 : Int) (A : Option Addr) (c : Nat) (xs : List S33) (ok ok2 : Nat → Prop) (t : S33) (A7 A8 : Option Addr) (c7 c8 : Nat) (hL : LimT t) (w : World) {Sf Rf : Nat → Prop} (hs0 : 1 ≤ s0) (hs1 : s0 ≤ 16)
    (H : St w Sf Rf [Asn.blk g [.int .i64 a0, .int .i64 s0, .int .i64 t0, .slice A xs.length c, .int .i64 k0, .int .i64 n0] 46, Asn.qu k33 33 (.slice A xs.length c) xs ok, Asn.fk k33 ok2 t [.int .i64 t.f0, .string t.f1, .string t.f2, .int .u64 t.f3, .int .u64 t.f4, .string t.f5, .string t.f6, .slice A7 t.f7.length c7, .slice A8 t.f8.length c8]] w) : Calls Tryd.prog 20 #[.pointer (some ⟨g, 0, none⟩), .agg #[.int .i64 t.f0, .string t.f1, .string t.f2, .int .u64 t.f3, .int .u64 t.f4, .string t.f5, .string t.f6, .slice A7 t.f7.length c7, .slice A8 t.f8.length c8]] w (Added 46 (chT t) g a0 s0 t0 k0 n0 A c xs ok ok2 t w Sf Rf [Asn.fk k33 ok2 t [.int .i64 t.f0, .string t.f1, .string t.f2, .int .u64 t.f3, .int .u64 t.f4, .string t.f5, .string t.f6, .slice A7 t.f7.length c7, .slice A8 t.f8.length c8]]) := by
  refine c_enter2 (args := [.pointer (some ⟨g, 0, none⟩), .agg #[.int .i64 t.f0, .string t.f1, .string t.f2, .int .u64 t.f3, .int .u64 t.f4, .string t.f5, .string t.f6, .slice A7 t.f7.length c7, .slice A8 t.f8.length c8]]) (S := Sf) (R := Rf) (M := [Asn.blk g [.int .i64 a0, .int .i64 s0, .int .i64 t0, .slice A xs.length c, .int .i64 k0, .int .i64 n0] 46, Asn.qu k33 33 (.slice A xs.length c) xs ok, Asn.fk k33 ok2 t [.int .i64 t.f0, .string t.f1, .string t.f2, .int .u64 t.f3, .int .u64 t.f4, .string t.f5, .string t.f6, .slice A7 t.f7.length c7, .slice A8 t.f8.length c8]]) Tryd.func20 (by kernel_rfl) 32 Tryd.ntmps20 (Nat.le_of_ble_eq_true rfl) (H) (fun a W F H => ?_)
  have F := F.less [(0, .pointer (some ⟨g, 0, none⟩)), (1, .agg #[.int .i64 t.f0, .string t.f1, .string t.f2, .int .u64 t.f3, .int .u64 t.f4, .string t.f5, .string t.f6, .slice A7 t.f7.length c7, .slice A8 t.f8.length c8])] (subc rfl (subc rfl sub0))
  refine c_seq (by kernel_rfl) ?_
  refine c_text (id := 0) (by kernel_rfl) [(0, 2), (1, 2)] (by kernel_rfl) ?_
  refine sq_new (show Eq (α := OSk) _ (some (some 3, (.box 33 (.tmp 1)), 0, none)) by kernel_rfl) trivial F (by decide) H [.int .i64 t.f0, .string t.f1, .string t.f2, .int .u64 t.f3, .int .u64 t.f4, .string t.f5, .string t.f6, .slice A7 t.f7.length c7, .slice A8 t.f8.length c8] 33 (x_box (F.slot rfl) rfl) ?_
  intro g1 W a hg1 H F
  refine ⟨(fun _ => trivial), ?_⟩
  refine sq2 (W' := W) (show Eq (α := OSk) _ (some (some 4, (.assign (.const (.int .i64 0))), 24, none)) by kernel_rfl) trivial F (by decide) (v := .int .i64 0) (x_assign rfl) (fun _ => trivial) (fun a F => ?_)
  unfold wpSeq
  have H : St w Sf Rf [Asn.blk g [.int .i64 a0, .int .i64 s0, .int .i64 t0, .slice A xs.length c, .int .i64 k0, .int .i64 n0] 46, Asn.qu k33 33 (.slice A xs.length c) xs ok, Asn.fk k33 ok2 t [.int .i64 t.f0, .string t.f1, .string t.f2, .int .u64 t.f3, .int .u64 t.f4, .string t.f5, .string t.f6, .slice A7 t.f7.length c7, .slice A8 t.f8.length c8], Asn.blk g1 [.int .i64 t.f0, .string t.f1, .string t.f2, .int .u64 t.f3, .int .u64 t.f4, .string t.f5, .string t.f6, .slice A7 t.f7.length c7, .slice A8 t.f8.length c8] 33] W := H
  refine t_normal ?_
  refine c_seq (by kernel_rfl) ?_
  refine c_text (id := 1) (by kernel_rfl) [(0, 2), (1, 2), (2, 2)] (by kernel_rfl) ?_
  refine sq2 (show Eq (α := OSk) _ (some (some 6, (.load 33 (.tmp 3)), 33, none)) by kernel_rfl) trivial F (by decide) (v := .agg #[.int .i64 t.f0, .string t.f1, .string t.f2, .int .u64 t.f3, .int .u64 t.f4, .string t.f5, .string t.f6, .slice A7 t.f7.length c7, .slice A8 t.f8.length c8]) (x_loadB (Tryd.isAgg33 W) [.int .i64 t.f0, .string t.f1, .string t.f2, .int .u64 t.f3, .int .u64 t.f4, .string t.f5, .string t.f6, .slice A7 t.f7.length c7, .slice A8 t.f8.length c8] (Tryd.sizeOf33 W) (F.slot rfl) (H.blk 3 rfl)) (fun _ => trivial) (fun a F => ?_)
  obtain ⟨l7, g7, l8, g8⟩ := k33_parts (H.rd 2 rfl)
  obtain ⟨z, hz⟩ : ∃ z, chT t = z := ⟨_, rfl⟩
  refine sqc (show Eq (α := OSk) _ (some (some 7, (.call { callee := (.value (.func 42)), args := #[(.tmp 6)], argTypes := #[33] }), 24, none)) by kernel_rfl) trivial F (by decide) (x_call Tryd.func42 (by kernel_rfl) rfl (args_1 (F.slot rfl))) (tuskref04_Check.calls t.f0 t.f1 t.f2 t.f3 t.f4 t.f5 t.f6 A7 c7 t.f7 A8 c8 t.f8 z W g7 l7 g8 l8 ((if_pos hL).trans (congrArg some hz))) ?_
  rintro e W ⟨rfl, hB⟩
  refine ⟨_, rfl, fun a F => ?_⟩
  have H := H.below hB
  refine ⟨(fun _ => trivial), ?_⟩
  refine sq2 (W' := W) (show Eq (α := OSk) _ (some (some 5, (.assign (.tmp 7)), 24, none)) by kernel_rfl) trivial F (by decide) (v := .int .i64 z) (x_assign (F.slot rfl)) (fun _ => trivial) (fun a F => ?_)
  unfold wpSeq
  refine t_normal ?_
  refine c_seq (by kernel_rfl) ?_
  refine c_seq (by kernel_rfl) ?_
  refine c_text (id := 2) (by kernel_rfl) [(0, 2), (1, 2)] (by kernel_rfl) ?_
  refine sq2 (W' := W) (show Eq (α := OSk) _ (some (some 8, (.move (.tmp 5)), 24, none)) by kernel_rfl) trivial F (by decide) (v := .int .i64 z) (x_move (F.slot rfl)) (fun _ => trivial) (fun a F => ?_)
  refine sq2 (W' := W) (show Eq (α := OSk) _ (some (some 9, (.binOp .neq 24 (.tmp 8) (.const (.int .i64 0)) 24), 4, none)) by kernel_rfl) trivial F (by decide) (v := .bool (z != (0 : Int))) (x_int (F.slot rfl) rfl rfl) (fun _ => trivial) (fun a F => ?_)
  unfold wpSeq
  refine t_normal ?_
  rcases bool_or (z != (0 : Int)) with hb2 | hb2
  · have F := F.at 9 rfl (v' := .bool true) (congrArg Value.bool hb2)
    refine c_yes (c := .tmp 9) (by kernel_rfl) (F.slot rfl) ?_
    refine c_seq (by kernel_rfl) ?_
    refine c_text (id := 3) (by kernel_rfl) [(0, 2), (1, 2)] (by kernel_rfl) ?_
    refine sq2 (W' := W) (show Eq (α := OSk) _ (some (some 10, (.move (.tmp 5)), 24, none)) by kernel_rfl) trivial F (by decide) (v := .int .i64 z) (x_move (F.slot rfl)) (fun _ => trivial) (fun a F => ?_)
    refine sq2 (W' := W) (show Eq (α := OSk) _ (some (some 4, (.assign (.tmp 10)), 24, none)) by kernel_rfl) trivial F (by decide) (v := .int .i64 z) (x_assign (F.slot rfl)) (fun _ => trivial) (fun a F => ?_)
    unfold wpSeq
    refine t_normal ?_
    refine c_ret (by kernel_rfl) ?_
    refine t_ret ?_
    refine p_tmp Tryd.results20 F rfl ?_
    exact .inl ⟨by rw [hz]; simpa using hb2, by rw [hz], H.front 3⟩
  · have F := F.at 9 rfl (v' := .bool false) (congrArg Value.bool hb2)
    refine c_no (c := .tmp 9) (by kernel_rfl) (F.slot rfl) ?_
    refine c_skip (by kernel_rfl) ?_
    refine t_normal ?_
    refine c_seq (by kernel_rfl) ?_
    refine c_seq (by kernel_rfl) ?_
    refine c_drawn (id := 4) (by kernel_rfl) (by kernel_rfl) (Vs [Asn.blk g [.int .i64 a0, .int .i64 s0, .int .i64 t0, .slice A xs.length c, .int .i64 k0, .int .i64 n0] 46]) [0, 1, 3, 7, 15, 0, 32, 96, 224, 480, 1023] [] [(0, 0), (1, 0), (2, 0), (5, 0), (6, 0), (7, 0), (3, 1), (4, 0), (8, 1), (9, 0), (10, 0)] (by kernel_rfl) (fun _ _ d _ _ h => by cases d <;> exact h) (Vs.drew ⟨H.get 0 rfl, trivial⟩) ?_
    have H := H.drew
    generalize World.drew W = W at H ⊢
    refine sq0 (show Eq (α := OSk) _ (some (some 11, (.move (.tmp 0)), 27, none)) by kernel_rfl) trivial F (by decide) (v := .pointer (some ⟨g, 0, none⟩)) (fun W_ => x_move (F.slot rfl)) (fun a F => ?_)
    refine sq0 (show Eq (α := OSk) _ (some (some 12, (.nilCheck (.tmp 11)), 0, none)) by kernel_rfl) trivial F (by decide) (v := .pointer (some ⟨g, 0, none⟩)) (fun W_ => x_nil (F.slot rfl)) (fun a F => ?_)
    refine sq0 (show Eq (α := OSk) _ (some (some 13, (.fieldAddr 46 (.tmp 12) 3), 0, none)) by kernel_rfl) trivial F (by decide) (v := .pointer (some ⟨g, 3, none⟩)) (fun W_ => x_field0 Tryd.underlying46 rfl rfl (Tryd.sizeOf38 W_) (F.slot rfl)) (fun a F => ?_)
    refine sq0 (show Eq (α := OSk) _ (some (some 16, (.move (.tmp 0)), 27, none)) by kernel_rfl) trivial F (by decide) (v := .pointer (some ⟨g, 0, none⟩)) (fun W_ => x_move (F.slot rfl)) (fun a F => ?_)
    refine sq0 (show Eq (α := OSk) _ (some (some 17, (.nilCheck (.tmp 16)), 0, none)) by kernel_rfl) trivial F (by decide) (v := .pointer (some ⟨g, 0, none⟩)) (fun W_ => x_nil (F.slot rfl)) (fun a F => ?_)
    refine sq0 (show Eq (α := OSk) _ (some (some 18, (.fieldAddr 46 (.tmp 17) 1), 0, none)) by kernel_rfl) trivial F (by decide) (v := .pointer (some ⟨g, 1, none⟩)) (fun W_ => x_field0 Tryd.underlying46 rfl rfl (Tryd.sizeOf3 W_) (F.slot rfl)) (fun a F => ?_)
    refine sq1 (show Eq (α := OSk) _ (some (some 14, (.load 38 (.tmp 13)), 38, none)) by kernel_rfl) trivial F (by decide) (⟨H.get 0 rfl, trivial⟩) (v := .slice A xs.length c) (fun W_ hV => x_load1 (Tryd.isAgg38 W_) (F.slot rfl) (bcell hV.1 rfl)) (fun a F => ?_)
    refine sq0 (show Eq (α := OSk) _ (some (some 15, (.call { callee := (.builtin .len), args := #[(.tmp 14)], argTypes := #[38] }), 3, none)) by kernel_rfl) trivial F (by decide) (v := .int .i64 (xs.length : Int)) (fun W_ => x_lenL Tryd.underlying38 (F.slot rfl)) (fun a F => ?_)
    refine sq1 (show Eq (α := OSk) _ (some (some 19, (.load 3 (.tmp 18)), 3, none)) by kernel_rfl) trivial F (by decide) (⟨H.get 0 rfl, trivial⟩) (v := .int .i64 s0) (fun W_ hV => x_load1 (Tryd.isAgg3 W_) (F.slot rfl) (bcell hV.1 rfl)) (fun a F => ?_)
    refine sq0 (show Eq (α := OSk) _ (some (some 20, (.binOp .mul 3 (.const (.int .i64 4)) (.tmp 19) 3), 3, none)) by kernel_rfl) trivial F (by decide) (v := .int .i64 (IntKind.i64.wrap (4 * s0))) (fun W_ => x_int rfl (F.slot rfl) rfl) (fun a F => ?_)
    have F := F.conv (v' := .int .i64 (4 * s0)) (congrArg (Value.int .i64) (wrap_i64 _ (by omega) (by omega)))
    refine sq0 (show Eq (α := OSk) _ (some (some 21, (.binOp .geq 3 (.tmp 15) (.tmp 20) 3), 4, none)) by kernel_rfl) trivial F (by decide) (v := .bool (decide ((xs.length : Int) ≥ (4 * s0)))) (fun W_ => x_int (F.slot rfl) (F.slot rfl) rfl) (fun a F => ?_)
    unfold wpSeq
    refine t_normal ?_
    rcases bool_or (decide ((xs.length : Int) ≥ (4 * s0))) with hb4 | hb4
    · have hb4d := of_decide_eq_true hb4
      have F := F.at 21 rfl (v' := .bool true) (congrArg Value.bool hb4)
      refine c_yes (c := .tmp 21) (by kernel_rfl) (F.slot rfl) ?_
      refine c_seq (by kernel_rfl) ?_
      refine c_text (id := 5) (by kernel_rfl) [(0, 2)] (by kernel_rfl) ?_
      refine sq2 (W' := W) (show Eq (α := OSk) _ (some (some 4, (.assign (.const (.int .i64 4))), 24, none)) by kernel_rfl) trivial F (by decide) (v := .int .i64 4) (x_assign rfl) (fun _ => trivial) (fun a F => ?_)
      unfold wpSeq
      refine t_normal ?_
      refine c_ret (by kernel_rfl) ?_
      refine t_ret ?_
      refine p_tmp Tryd.results20 F rfl ?_
      exact .inr (.inl ⟨by rw [hz]; simpa using hb2, by omega, rfl, H.front 3⟩)
    · have hb4d := of_decide_eq_false hb4
      have F := F.at 21 rfl (v' := .bool false) (congrArg Value.bool hb4)
      refine c_no (c := .tmp 21) (by kernel_rfl) (F.slot rfl) ?_
      refine c_skip (by kernel_rfl) ?_
      refine t_normal ?_
      refine c_seq (by kernel_rfl) ?_
      refine c_drawn (id := 6) (by kernel_rfl) (by kernel_rfl) (Vs [Asn.blk g [.int .i64 a0, .int .i64 s0, .int .i64 t0, .slice A xs.length c, .int .i64 k0, .int .i64 n0] 46, Asn.blk g1 [.int .i64 t.f0, .string t.f1, .string t.f2, .int .u64 t.f3, .int .u64 t.f4, .string t.f5, .string t.f6, .slice A7 t.f7.length c7, .slice A8 t.f8.length c8] 33]) [0, 0, 2, 6, 14, 0, 32, 126, 255, 511, 1023] [10] [(0, 0), (1, 0), (2, 0), (3, 0), (4, 1), (5, 1), (6, 2), (7, 2), (8, 0), (9, 0), (10, 2)] (by kernel_rfl) (fun _ _ d _ _ h => by cases d <;> exact h) (Vs.drew ⟨H.get 0 rfl, H.get 3 rfl, trivial⟩) ?_
      have H := H.drew
      generalize World.drew W = W at H ⊢
      refine sq0 (show Eq (α := OSk) _ (some (some 22, (.move (.tmp 0)), 27, none)) by kernel_rfl) trivial F (by decide) (v := .pointer (some ⟨g, 0, none⟩)) (fun W_ => x_move (F.slot rfl)) (fun a F => ?_)
      refine sq0 (show Eq (α := OSk) _ (some (some 23, (.move (.tmp 0)), 27, none)) by kernel_rfl) trivial F (by decide) (v := .pointer (some ⟨g, 0, none⟩)) (fun W_ => x_move (F.slot rfl)) (fun a F => ?_)
      refine sq0 (show Eq (α := OSk) _ (some (some 24, (.nilCheck (.tmp 23)), 0, none)) by kernel_rfl) trivial F (by decide) (v := .pointer (some ⟨g, 0, none⟩)) (fun W_ => x_nil (F.slot rfl)) (fun a F => ?_)
      refine sq0 (show Eq (α := OSk) _ (some (some 25, (.fieldAddr 46 (.tmp 24) 3), 0, none)) by kernel_rfl) trivial F (by decide) (v := .pointer (some ⟨g, 3, none⟩)) (fun W_ => x_field0 Tryd.underlying46 rfl rfl (Tryd.sizeOf38 W_) (F.slot rfl)) (fun a F => ?_)
      refine sq1 (show Eq (α := OSk) _ (some (some 26, (.load 38 (.tmp 25)), 38, none)) by kernel_rfl) trivial F (by decide) (⟨H.get 0 rfl, H.get 3 rfl, trivial⟩) (v := .slice A xs.length c) (fun W_ hV => x_load1 (Tryd.isAgg38 W_) (F.slot rfl) (bcell hV.1 rfl)) (fun a F => ?_)
      refine sq1 (show Eq (α := OSk) _ (some (some 27, (.load 33 (.tmp 3)), 33, none)) by kernel_rfl) trivial F (by decide) (⟨H.get 0 rfl, H.get 3 rfl, trivial⟩) (v := .agg #[.int .i64 t.f0, .string t.f1, .string t.f2, .int .u64 t.f3, .int .u64 t.f4, .string t.f5, .string t.f6, .slice A7 t.f7.length c7, .slice A8 t.f8.length c8]) (fun W_ hV => x_loadB (Tryd.isAgg33 W_) [.int .i64 t.f0, .string t.f1, .string t.f2, .int .u64 t.f3, .int .u64 t.f4, .string t.f5, .string t.f6, .slice A7 t.f7.length c7, .slice A8 t.f8.length c8] (Tryd.sizeOf33 W_) (F.slot rfl) (hV.2.1)) (fun a F => ?_)
      refine sq_bapp k33 1 2 (by decide) (show Eq (α := OSk) _ (some (some 28, (.buildSlice 38 1 #[(0, (.tmp 27))]), 38, none)) by kernel_rfl) trivial (show Eq (α := OSk) _ (some (some 29, (.call { callee := (.builtin .append), args := #[(.tmp 26), (.tmp 28)], argTypes := #[38, 38] }), 38, none)) by kernel_rfl) (fun _ => trivial) F (by decide) (by decide) rfl (fun a F => F.slot rfl) (F.slot rfl) rfl Tryd.underlying38 PB.info33 rfl (by decide) (by decide) (by decide) H rfl rfl (by omega) (fun W H => (fun _ => ⟨H.get 0 rfl, H.get 3 rfl, trivial⟩)) ?_
      intro v_ W a H F
      obtain ⟨A2, c2, rfl, hc2⟩ := (H.qu 1 rfl).form
      have H : St w Sf Rf [Asn.blk g [.int .i64 a0, .int .i64 s0, .int .i64 t0, .slice A xs.length c, .int .i64 k0, .int .i64 n0] 46, Asn.qu k33 33 (.slice A2 (xs ++ [t]).length c2) (xs ++ [t]) _, Asn.fk k33 ok2 t [.int .i64 t.f0, .string t.f1, .string t.f2, .int .u64 t.f3, .int .u64 t.f4, .string t.f5, .string t.f6, .slice A7 t.f7.length c7, .slice A8 t.f8.length c8], Asn.blk g1 [.int .i64 t.f0, .string t.f1, .string t.f2, .int .u64 t.f3, .int .u64 t.f4, .string t.f5, .string t.f6, .slice A7 t.f7.length c7, .slice A8 t.f8.length c8] 33] W := H
      refine ⟨(fun _ => ⟨H.get 0 rfl, H.get 3 rfl, trivial⟩), ?_⟩
      refine sq0 (show Eq (α := OSk) _ (some (some 30, (.nilCheck (.tmp 22)), 0, none)) by kernel_rfl) trivial F (by decide) (v := .pointer (some ⟨g, 0, none⟩)) (fun W_ => x_nil (F.slot rfl)) (fun a F => ?_)
      refine sq0 (show Eq (α := OSk) _ (some (some 31, (.fieldAddr 46 (.tmp 30) 3), 0, none)) by kernel_rfl) trivial F (by decide) (v := .pointer (some ⟨g, 3, none⟩)) (fun W_ => x_field0 Tryd.underlying46 rfl rfl (Tryd.sizeOf38 W_) (F.slot rfl)) (fun a F => ?_)
      refine sq_put (M := [Asn.blk g [.int .i64 a0, .int .i64 s0, .int .i64 t0, .slice A2 ((xs ++ [t]).length) c2, .int .i64 k0, .int .i64 n0] 46, Asn.qu k33 33 (.slice A2 (xs ++ [t]).length c2) (xs ++ [t]) _, Asn.fk k33 ok2 t [.int .i64 t.f0, .string t.f1, .string t.f2, .int .u64 t.f3, .int .u64 t.f4, .string t.f5, .string t.f6, .slice A7 t.f7.length c7, .slice A8 t.f8.length c8], Asn.blk g1 [.int .i64 t.f0, .string t.f1, .string t.f2, .int .u64 t.f3, .int .u64 t.f4, .string t.f5, .string t.f6, .slice A7 t.f7.length c7, .slice A8 t.f8.length c8] 33]) (show Eq (α := OSk) _ (some (none, (.store 38 (.tmp 31) (.tmp 29)), 0, none)) by kernel_rfl) trivial F (x_store H (k := 0) (cs' := [.int .i64 a0, .int .i64 s0, .int .i64 t0, .slice A2 ((xs ++ [t]).length) c2, .int .i64 k0, .int .i64 n0]) rfl (Tryd.sizeOf38 W) (F.slot rfl) (F.slot rfl) rfl (Nat.le_of_ble_eq_true rfl) rfl rfl) ?_
      intro W H
      refine ⟨(fun h => absurd (by decide) h), ?_⟩
      unfold wpSeq
      refine t_normal ?_
      refine c_seq (by kernel_rfl) ?_
      refine c_text (id := 7) (by kernel_rfl) [(0, 2)] (by kernel_rfl) ?_
      refine sq2 (W' := W) (show Eq (α := OSk) _ (some (some 4, (.assign (.const (.int .i64 0))), 24, none)) by kernel_rfl) trivial F (by decide) (v := .int .i64 0) (x_assign rfl) (fun _ => trivial) (fun a F => ?_)
      unfold wpSeq
      refine t_normal ?_
      refine c_ret (by kernel_rfl) ?_
      refine p_tmp Tryd.results20 F rfl ?_
      exact .inr (.inr ⟨by rw [hz]; simpa using hb2, by omega, rfl, _, _, H.front 3⟩)
end Go.Proofs.YtndicjikjcifaaaDoor

/- wire.List: texts as bytes, through a strings.Builder. -/
namespace Go.Proofs
open Go.Shelf
end Go.Proofs
namespace Go.Proofs.YtndicjikjcifaaaDoor
open Go.RowKit Go.Shelf Go.Lib Go.Proofs.YtndicjikjcifaaaDoorW.PrintWords Go.Proofs.YtndicjikjcifaaaDoorW.PrintLast
set_option linter.unusedVariables false
set_option linter.unusedSimpArgs false

/-- A number's bytes; a text's bytes; texts' bytes. -/
def ib (n : Int) : ByteArray := if n < 0 ∨ n > 4611686018427387903 then ⟨#[]⟩ else strOfNums (vints n.toNat)
def tb (s : ByteArray) : ByteArray := ib s.size ++ s
def tbs : List ByteArray → List UInt8
  | [] => []
  | x :: r => (tb x).data.toList ++ tbs r
def lbL (xs : List ByteArray) : List UInt8 := (ib xs.length).data.toList ++ tbs xs
def lb (xs : List ByteArray) : ByteArray := ⟨(lbL xs).toArray⟩
end Go.Proofs.YtndicjikjcifaaaDoor

/- tx.Encode: a transaction's bytes. -/
namespace Go.Proofs
open Go.Shelf
end Go.Proofs
namespace Go.Proofs.YtndicjikjcifaaaDoor
open Go.RowKit Go.Shelf Go.Lib Go.Proofs.YtndicjikjcifaaaDoorW.PrintWords Go.Proofs.YtndicjikjcifaaaDoorW.PrintLast
set_option linter.unusedVariables false
set_option linter.unusedSimpArgs false

theorem nm_size {s : ByteArray} (h : nm s = true) : s.size ≤ 32 := by
  have := of_decide_eq_true h
  exact this.2.1
theorem ky_size {s : ByteArray} (h : ky s = true) : s.size ≤ 34 := by
  unfold ky at h
  rw [Bool.and_eq_true, Bool.and_eq_true] at h
  have h1 := nm_size h.2
  rw [ByteArray.size_extract] at h1
  omega
theorem keL_size : ∀ p xs, keL p xs = 0 → ∀ x ∈ xs, x.size ≤ 34
  | _, [], _, x, hx => by simp at hx
  | p, s :: r, h, x, hx => by
    unfold keL at h
    cases hk : ky s with
    | false => rw [if_pos hk] at h; cases h
    | true =>
      rw [if_neg (by simp [hk])] at h
      have h2 : keL (some s) r = 0 := by
        cases p with
        | none => simpa using h
        | some q =>
          cases hl : lts q s with
          | false => simp [hl] at h
          | true => simpa [hl] using h
      rcases List.mem_cons.1 hx with rfl | hx
      · exact ky_size hk
      · exact keL_size _ _ h2 x hx
theorem ke_zero {xs : List ByteArray} (h : ke xs = 0) : xs.length ≤ 8 ∧ ∀ x ∈ xs, x.size ≤ 34 := by
  unfold ke at h
  split at h
  · exact ⟨by assumption, keL_size _ _ h⟩
  · cases h
theorem empty_size {s : ByteArray} (h : s.toList.isEmpty = true) : s.size = 0 := by
  rw [Lib.toList_data, List.isEmpty_iff] at h
  have : s.data.toList.length = 0 := by rw [h]; rfl
  rw [Array.length_toList] at this
  exact this
/-- What a transaction without fault is. -/
structure Fine (k : Int) (f t : ByteArray) (am nc : Int) (ky' vl : ByteArray) (rs ws : List ByteArray) : Prop where
  k : k = 1 ∨ k = 2
  f : f.size ≤ 32
  t : t.size ≤ 32
  am : am ≤ 4611686018427387903
  nc : nc ≤ 4611686018427387903
  ky : ky'.size ≤ 32
  vl : vl.size ≤ 64
  rs : ke rs = 0
  ws : ke ws = 0
theorem ch_fine {k : Int} {f t : ByteArray} {am nc : Int} {ky' vl : ByteArray} {rs ws : List ByteArray} (h : ch k f t am nc ky' vl rs ws = 0) : Fine k f t am nc ky' vl rs ws := by
  have hF : chF k f t ky' vl am = 0 := by
    unfold ch at h
    split at h
    · assumption
    · exact absurd h (by assumption)
  have hR : chR am nc rs ws = 0 := by rw [ch, if_pos hF] at h; exact h
  have hk : (am ≤ 4611686018427387903 ∧ nc ≤ 4611686018427387903) ∧ ke rs = 0 ∧ ke ws = 0 := by
    unfold chR at hR
    split at hR
    · split at hR
      · exact ⟨by assumption, by assumption, hR⟩
      · exact absurd hR (by assumption)
    · cases hR
  unfold chF at hF
  split at hF
  · split at hF
    · rename_i h1 h2
      simp only [Bool.and_eq_true] at h2
      have e1 := empty_size h2.1.2
      have e2 := empty_size h2.2
      exact ⟨.inl h1, nm_size h2.1.1.1, nm_size h2.1.1.2, hk.1.1, hk.1.2, by omega, by omega, hk.2.1, hk.2.2⟩
    · cases hF
  · split at hF
    · split at hF
      · rename_i h1 h2 h3
        simp only [Bool.and_eq_true, decide_eq_true_eq] at h3
        have e1 := empty_size h3.1.2
        exact ⟨.inr h2, nm_size h3.1.1.1.1, by omega, hk.1.1, hk.1.2, nm_size h3.1.1.1.2, h3.1.1.2, hk.2.1, hk.2.2⟩
      · cases hF
    · cases hF
def encL (k : Int) (f t : ByteArray) (am nc : Int) (ky' vl : ByteArray) (rs ws : List ByteArray) : List ByteArray := [ib k, tb f, tb t, ib am, ib nc, tb ky', tb vl, lb rs, lb ws]
def encB (k : Int) (f t : ByteArray) (am nc : Int) (ky' vl : ByteArray) (rs ws : List ByteArray) : ByteArray := ⟨(Lib.join ((encL k f t am nc ky' vl rs ws).map (·.data.toList)) []).toArray⟩
def enc (k : Int) (f t : ByteArray) (am nc : Int) (ky' vl : ByteArray) (rs ws : List ByteArray) : ByteArray × Int :=
  if ch k f t am nc ky' vl rs ws = 0 then (encB k f t am nc ky' vl rs ws, 0) else (⟨#[]⟩, ch k f t am nc ky' vl rs ws)
end Go.Proofs.YtndicjikjcifaaaDoor

/- batch.Encode. -/
namespace Go.Proofs.YtndicjikjcifaaaDoor
open Go.RowKit Go.Proofs.YtndicjikjcifaaaDoorW.PrintWords Go.Proofs.YtndicjikjcifaaaDoorW.PrintLast
set_option linter.unusedVariables false
set_option linter.unusedSimpArgs false
set_option maxRecDepth 100000
open PB (S33 k33)
theorem k33_heap : Kd.Heap k33 := Kd.heap_iso _ (Kd.heap_pair (Kd.heap_int _) (Kd.heap_pair Kd.heap_string (Kd.heap_pair Kd.heap_string (Kd.heap_pair (Kd.heap_int _) (Kd.heap_pair (Kd.heap_int _) (Kd.heap_pair Kd.heap_string (Kd.heap_pair Kd.heap_string (Kd.heap_pair (Kd.heap_slice _ Kd.heap_string) (Kd.heap_slice _ Kd.heap_string)))))))))
theorem add_add (q : Addr) (x y : Nat) : (q.add x).add y = q.add (x + y) := by
  rcases q with ⟨_, _, _ | _⟩ <;> by_cases hx : x = 0 <;> by_cases hy : y = 0 <;> simp [Addr.add, hx, hy, Nat.add_assoc]
end Go.Proofs.YtndicjikjcifaaaDoor

/- A batch that the check lets pass: what follows for its parts. Plain lemmas. -/
namespace Go.Proofs.YtndicjikjcifaaaDoor
open Go.RowKit Go.Shelf Go.Lib Go.Proofs.YtndicjikjcifaaaDoorW.PrintWords Go.Proofs.YtndicjikjcifaaaDoorW.PrintLast
open PB (S33 k33)
set_option linter.unusedVariables false
set_option linter.unusedSimpArgs false
end Go.Proofs.YtndicjikjcifaaaDoor

/- The program's sealer: Add. -/
namespace Go.Proofs.YtndicjikjcifaaaDoor
open Go.RowKit Go.Proofs.YtndicjikjcifaaaDoorW.PrintWords Go.Proofs.YtndicjikjcifaaaDoorW.PrintLast
set_option linter.unusedVariables false
set_option linter.unusedSimpArgs false
set_option maxRecDepth 100000
open PB (S33 k33)
/-- What Add does to a sealer of the type T and answers; z: what the transaction's check says. -/
def AddP (T : TypeId) (z : Int) (g : Nat) (a0 s0 t0 k0 n0 : Int) (A : Option Addr) (c : Nat) (xs : List S33) (ok : Nat → Prop) (t : S33) (w : World) (Sf Rf : Nat → Prop) (M : List Asn) (e : Ending) (W : World) : Prop :=
  (z ≠ 0 ∧ e = .returned (.int .i64 z) ∧ St w Sf Rf (Asn.blk g [.int .i64 a0, .int .i64 s0, .int .i64 t0, .slice A xs.length c, .int .i64 k0, .int .i64 n0] T :: Asn.qu k33 33 (.slice A xs.length c) xs ok :: M) W) ∨
  (z = 0 ∧ (xs.length : Int) ≥ 4 * s0 ∧ e = .returned (.int .i64 4) ∧ St w Sf Rf (Asn.blk g [.int .i64 a0, .int .i64 s0, .int .i64 t0, .slice A xs.length c, .int .i64 k0, .int .i64 n0] T :: Asn.qu k33 33 (.slice A xs.length c) xs ok :: M) W) ∨
  (z = 0 ∧ ¬ (xs.length : Int) ≥ 4 * s0 ∧ e = .returned (.int .i64 0) ∧ ∃ A' c' ok', St w Sf Rf (Asn.blk g [.int .i64 a0, .int .i64 s0, .int .i64 t0, .slice A' (xs ++ [t]).length c', .int .i64 k0, .int .i64 n0] T :: Asn.qu k33 33 (.slice A' (xs ++ [t]).length c') (xs ++ [t]) ok' :: M) W)
theorem radd_callsP (g : Nat) (a0 s0 t0 k0 n0 : Int) (A : Option Addr) (c : Nat) (xs : List S33) (ok ok2 : Nat → Prop) (t : S33) (A7 A8 : Option Addr) (c7 c8 : Nat) (hL : LimT t) (w : World) {Sf Rf : Nat → Prop} (hs0 : 1 ≤ s0) (hs1 : s0 ≤ 16)
    (H : St w Sf Rf [Asn.blk g [.int .i64 a0, .int .i64 s0, .int .i64 t0, .slice A xs.length c, .int .i64 k0, .int .i64 n0] 46, Asn.qu k33 33 (.slice A xs.length c) xs ok, Asn.fk k33 ok2 t [.int .i64 t.f0, .string t.f1, .string t.f2, .int .u64 t.f3, .int .u64 t.f4, .string t.f5, .string t.f6, .slice A7 t.f7.length c7, .slice A8 t.f8.length c8]] w) : Calls Tryd.prog 20 #[.pointer (some ⟨g, 0, none⟩), .agg #[.int .i64 t.f0, .string t.f1, .string t.f2, .int .u64 t.f3, .int .u64 t.f4, .string t.f5, .string t.f6, .slice A7 t.f7.length c7, .slice A8 t.f8.length c8]] w (AddP 46 (chT t) g a0 s0 t0 k0 n0 A c xs ok t w Sf Rf [Asn.fk k33 ok2 t [.int .i64 t.f0, .string t.f1, .string t.f2, .int .u64 t.f3, .int .u64 t.f4, .string t.f5, .string t.f6, .slice A7 t.f7.length c7, .slice A8 t.f8.length c8]]) :=
  (radd_calls g a0 s0 t0 k0 n0 A c xs ok ok2 t A7 A8 c7 c8 hL w hs0 hs1 H).mono fun e W h => h.imp id (fun h => h.imp id (fun ⟨h1, h2, h3, A', c', h4⟩ => ⟨h1, h2, h3, A', c', _, h4⟩))
set_option maxHeartbeats 1000000 in
theorem add_calls (g : Nat) (a0 s0 t0 k0 n0 : Int) (A : Option Addr) (c : Nat) (xs : List S33) (ok ok2 : Nat → Prop) (t : S33) (A7 A8 : Option Addr) (c7 c8 : Nat) (w : World) {Sf Rf : Nat → Prop} (hs0 : 1 ≤ s0) (hs1 : s0 ≤ 16)
    (H : St w Sf Rf [Asn.blk g [.int .i64 a0, .int .i64 s0, .int .i64 t0, .slice A xs.length c, .int .i64 k0, .int .i64 n0] 72, Asn.qu k33 33 (.slice A xs.length c) xs ok, Asn.fk k33 ok2 t [.int .i64 t.f0, .string t.f1, .string t.f2, .int .u64 t.f3, .int .u64 t.f4, .string t.f5, .string t.f6, .slice A7 t.f7.length c7, .slice A8 t.f8.length c8]] w) : Calls Tryd.prog 18 #[.pointer (some ⟨g, 0, none⟩), .agg #[.int .i64 t.f0, .string t.f1, .string t.f2, .int .u64 t.f3, .int .u64 t.f4, .string t.f5, .string t.f6, .slice A7 t.f7.length c7, .slice A8 t.f8.length c8]] w (AddP 72 (chT t) g a0 s0 t0 k0 n0 A c xs ok t w Sf Rf [Asn.fk k33 ok2 t [.int .i64 t.f0, .string t.f1, .string t.f2, .int .u64 t.f3, .int .u64 t.f4, .string t.f5, .string t.f6, .slice A7 t.f7.length c7, .slice A8 t.f8.length c8]]) := by
  refine c_enter2 (args := [.pointer (some ⟨g, 0, none⟩), .agg #[.int .i64 t.f0, .string t.f1, .string t.f2, .int .u64 t.f3, .int .u64 t.f4, .string t.f5, .string t.f6, .slice A7 t.f7.length c7, .slice A8 t.f8.length c8]]) (S := Sf) (R := Rf) (M := [Asn.blk g [.int .i64 a0, .int .i64 s0, .int .i64 t0, .slice A xs.length c, .int .i64 k0, .int .i64 n0] 72, Asn.qu k33 33 (.slice A xs.length c) xs ok, Asn.fk k33 ok2 t [.int .i64 t.f0, .string t.f1, .string t.f2, .int .u64 t.f3, .int .u64 t.f4, .string t.f5, .string t.f6, .slice A7 t.f7.length c7, .slice A8 t.f8.length c8]]) Tryd.func18 (by kernel_rfl) 42 Tryd.ntmps18 (Nat.le_of_ble_eq_true rfl) (H) (fun a W F H => ?_)
  have F := F.less [(0, .pointer (some ⟨g, 0, none⟩)), (1, .agg #[.int .i64 t.f0, .string t.f1, .string t.f2, .int .u64 t.f3, .int .u64 t.f4, .string t.f5, .string t.f6, .slice A7 t.f7.length c7, .slice A8 t.f8.length c8])] (subc rfl (subc rfl sub0))
  refine c_seq (by kernel_rfl) ?_
  refine c_text (id := 0) (by kernel_rfl) [(0, 2), (1, 2)] (by kernel_rfl) ?_
  refine sq_new (show Eq (α := OSk) _ (some (some 3, (.box 33 (.tmp 1)), 0, none)) by kernel_rfl) trivial F (by decide) H [.int .i64 t.f0, .string t.f1, .string t.f2, .int .u64 t.f3, .int .u64 t.f4, .string t.f5, .string t.f6, .slice A7 t.f7.length c7, .slice A8 t.f8.length c8] 33 (x_box (F.slot rfl) rfl) ?_
  intro g1 W a hg1 H F
  refine ⟨(fun _ => trivial), ?_⟩
  refine sq2 (W' := W) (show Eq (α := OSk) _ (some (some 4, (.assign (.const (.int .i64 0))), 24, none)) by kernel_rfl) trivial F (by decide) (v := .int .i64 0) (x_assign rfl) (fun _ => trivial) (fun a F => ?_)
  unfold wpSeq
  have H : St w Sf Rf [Asn.blk g [.int .i64 a0, .int .i64 s0, .int .i64 t0, .slice A xs.length c, .int .i64 k0, .int .i64 n0] 72, Asn.qu k33 33 (.slice A xs.length c) xs ok, Asn.fk k33 ok2 t [.int .i64 t.f0, .string t.f1, .string t.f2, .int .u64 t.f3, .int .u64 t.f4, .string t.f5, .string t.f6, .slice A7 t.f7.length c7, .slice A8 t.f8.length c8], Asn.blk g1 [.int .i64 t.f0, .string t.f1, .string t.f2, .int .u64 t.f3, .int .u64 t.f4, .string t.f5, .string t.f6, .slice A7 t.f7.length c7, .slice A8 t.f8.length c8] 33] W := H
  refine t_normal ?_
  refine c_seq (by kernel_rfl) ?_
  refine c_seq (by kernel_rfl) ?_
  refine c_text (id := 1) (by kernel_rfl) [(0, 2), (1, 2), (2, 2)] (by kernel_rfl) ?_
  refine sq2 (show Eq (α := OSk) _ (some (some 6, (.load 33 (.tmp 3)), 33, none)) by kernel_rfl) trivial F (by decide) (v := .agg #[.int .i64 t.f0, .string t.f1, .string t.f2, .int .u64 t.f3, .int .u64 t.f4, .string t.f5, .string t.f6, .slice A7 t.f7.length c7, .slice A8 t.f8.length c8]) (x_loadB (Tryd.isAgg33 W) [.int .i64 t.f0, .string t.f1, .string t.f2, .int .u64 t.f3, .int .u64 t.f4, .string t.f5, .string t.f6, .slice A7 t.f7.length c7, .slice A8 t.f8.length c8] (Tryd.sizeOf33 W) (F.slot rfl) (H.blk 3 rfl)) (fun _ => trivial) (fun a F => ?_)
  obtain ⟨l7, g7, l8, g8⟩ := k33_parts (H.rd 2 rfl)
  obtain ⟨z, hz⟩ : ∃ z, chT t = z := ⟨_, rfl⟩
  refine sqc (show Eq (α := OSk) _ (some (some 7, (.call { callee := (.value (.func 41)), args := #[(.tmp 6)], argTypes := #[33] }), 24, none)) by kernel_rfl) trivial F (by decide) (x_call Tryd.func41 (by kernel_rfl) rfl (args_1 (F.slot rfl))) (tx_Check.calls t.f0 t.f1 t.f2 t.f3 t.f4 t.f5 t.f6 A7 c7 t.f7 A8 c8 t.f8 z W g7 l7 g8 l8 (congrArg some hz)) ?_
  rintro e W ⟨rfl, hB⟩
  refine ⟨_, rfl, fun a F => ?_⟩
  have H := H.below hB
  refine ⟨(fun _ => trivial), ?_⟩
  refine sq2 (W' := W) (show Eq (α := OSk) _ (some (some 5, (.assign (.tmp 7)), 24, none)) by kernel_rfl) trivial F (by decide) (v := .int .i64 z) (x_assign (F.slot rfl)) (fun _ => trivial) (fun a F => ?_)
  unfold wpSeq
  refine t_normal ?_
  refine c_seq (by kernel_rfl) ?_
  refine c_text (id := 2) (by kernel_rfl) [(0, 2), (1, 2)] (by kernel_rfl) ?_
  refine sq2 (W' := W) (show Eq (α := OSk) _ (some (some 8, (.move (.tmp 5)), 24, none)) by kernel_rfl) trivial F (by decide) (v := .int .i64 z) (x_move (F.slot rfl)) (fun _ => trivial) (fun a F => ?_)
  refine sq2 (W' := W) (show Eq (α := OSk) _ (some (some 9, (.binOp .neq 24 (.tmp 8) (.const (.int .i64 0)) 24), 4, none)) by kernel_rfl) trivial F (by decide) (v := .bool (z != (0 : Int))) (x_int (F.slot rfl) rfl rfl) (fun _ => trivial) (fun a F => ?_)
  unfold wpSeq
  refine t_normal ?_
  rcases bool_or (z != (0 : Int)) with hb2 | hb2
  · have F := F.at 9 rfl (v' := .bool true) (congrArg Value.bool hb2)
    refine c_yes (c := .tmp 9) (by kernel_rfl) (F.slot rfl) ?_
    refine c_seq (by kernel_rfl) ?_
    refine c_text (id := 3) (by kernel_rfl) [(0, 2), (1, 2)] (by kernel_rfl) ?_
    refine sq2 (W' := W) (show Eq (α := OSk) _ (some (some 10, (.move (.tmp 5)), 24, none)) by kernel_rfl) trivial F (by decide) (v := .int .i64 z) (x_move (F.slot rfl)) (fun _ => trivial) (fun a F => ?_)
    refine sq2 (W' := W) (show Eq (α := OSk) _ (some (some 4, (.assign (.tmp 10)), 24, none)) by kernel_rfl) trivial F (by decide) (v := .int .i64 z) (x_assign (F.slot rfl)) (fun _ => trivial) (fun a F => ?_)
    unfold wpSeq
    refine t_normal ?_
    refine c_ret (by kernel_rfl) ?_
    refine t_ret ?_
    refine p_tmp Tryd.results18 F rfl ?_
    exact .inl ⟨by rw [hz]; simpa using hb2, by rw [hz], H.front 3⟩
  · have F := F.at 9 rfl (v' := .bool false) (congrArg Value.bool hb2)
    refine c_no (c := .tmp 9) (by kernel_rfl) (F.slot rfl) ?_
    refine c_skip (by kernel_rfl) ?_
    refine t_normal ?_
    refine c_seq (by kernel_rfl) ?_
    refine c_seq (by kernel_rfl) ?_
    refine c_drawn (id := 4) (by kernel_rfl) (by kernel_rfl) (Vs [Asn.blk g [.int .i64 a0, .int .i64 s0, .int .i64 t0, .slice A xs.length c, .int .i64 k0, .int .i64 n0] 72]) [0, 1, 3, 7, 15, 0, 32, 96, 224, 480, 1023] [] [(0, 0), (1, 0), (2, 0), (5, 0), (6, 0), (7, 0), (3, 1), (4, 0), (8, 1), (9, 0), (10, 0)] (by kernel_rfl) (fun _ _ d _ _ h => by cases d <;> exact h) (Vs.drew ⟨H.get 0 rfl, trivial⟩) ?_
    have H := H.drew
    generalize World.drew W = W at H ⊢
    refine sq0 (show Eq (α := OSk) _ (some (some 11, (.move (.tmp 0)), 23, none)) by kernel_rfl) trivial F (by decide) (v := .pointer (some ⟨g, 0, none⟩)) (fun W_ => x_move (F.slot rfl)) (fun a F => ?_)
    refine sq0 (show Eq (α := OSk) _ (some (some 12, (.nilCheck (.tmp 11)), 0, none)) by kernel_rfl) trivial F (by decide) (v := .pointer (some ⟨g, 0, none⟩)) (fun W_ => x_nil (F.slot rfl)) (fun a F => ?_)
    refine sq0 (show Eq (α := OSk) _ (some (some 13, (.fieldAddr 72 (.tmp 12) 3), 0, none)) by kernel_rfl) trivial F (by decide) (v := .pointer (some ⟨g, 3, none⟩)) (fun W_ => x_field0 Tryd.underlying72 rfl rfl (Tryd.sizeOf38 W_) (F.slot rfl)) (fun a F => ?_)
    refine sq0 (show Eq (α := OSk) _ (some (some 16, (.move (.tmp 0)), 23, none)) by kernel_rfl) trivial F (by decide) (v := .pointer (some ⟨g, 0, none⟩)) (fun W_ => x_move (F.slot rfl)) (fun a F => ?_)
    refine sq0 (show Eq (α := OSk) _ (some (some 17, (.nilCheck (.tmp 16)), 0, none)) by kernel_rfl) trivial F (by decide) (v := .pointer (some ⟨g, 0, none⟩)) (fun W_ => x_nil (F.slot rfl)) (fun a F => ?_)
    refine sq0 (show Eq (α := OSk) _ (some (some 18, (.fieldAddr 72 (.tmp 17) 1), 0, none)) by kernel_rfl) trivial F (by decide) (v := .pointer (some ⟨g, 1, none⟩)) (fun W_ => x_field0 Tryd.underlying72 rfl rfl (Tryd.sizeOf3 W_) (F.slot rfl)) (fun a F => ?_)
    refine sq1 (show Eq (α := OSk) _ (some (some 14, (.load 38 (.tmp 13)), 38, none)) by kernel_rfl) trivial F (by decide) (⟨H.get 0 rfl, trivial⟩) (v := .slice A xs.length c) (fun W_ hV => x_load1 (Tryd.isAgg38 W_) (F.slot rfl) (bcell hV.1 rfl)) (fun a F => ?_)
    refine sq0 (show Eq (α := OSk) _ (some (some 15, (.call { callee := (.builtin .len), args := #[(.tmp 14)], argTypes := #[38] }), 3, none)) by kernel_rfl) trivial F (by decide) (v := .int .i64 (xs.length : Int)) (fun W_ => x_lenL Tryd.underlying38 (F.slot rfl)) (fun a F => ?_)
    refine sq1 (show Eq (α := OSk) _ (some (some 19, (.load 3 (.tmp 18)), 3, none)) by kernel_rfl) trivial F (by decide) (⟨H.get 0 rfl, trivial⟩) (v := .int .i64 s0) (fun W_ hV => x_load1 (Tryd.isAgg3 W_) (F.slot rfl) (bcell hV.1 rfl)) (fun a F => ?_)
    refine sq0 (show Eq (α := OSk) _ (some (some 20, (.binOp .mul 3 (.const (.int .i64 4)) (.tmp 19) 3), 3, none)) by kernel_rfl) trivial F (by decide) (v := .int .i64 (IntKind.i64.wrap (4 * s0))) (fun W_ => x_int rfl (F.slot rfl) rfl) (fun a F => ?_)
    have F := F.conv (v' := .int .i64 (4 * s0)) (congrArg (Value.int .i64) (wrap_i64 _ (by omega) (by omega)))
    refine sq0 (show Eq (α := OSk) _ (some (some 21, (.binOp .geq 3 (.tmp 15) (.tmp 20) 3), 4, none)) by kernel_rfl) trivial F (by decide) (v := .bool (decide ((xs.length : Int) ≥ (4 * s0)))) (fun W_ => x_int (F.slot rfl) (F.slot rfl) rfl) (fun a F => ?_)
    unfold wpSeq
    refine t_normal ?_
    rcases bool_or (decide ((xs.length : Int) ≥ (4 * s0))) with hb4 | hb4
    · have hb4d := of_decide_eq_true hb4
      have F := F.at 21 rfl (v' := .bool true) (congrArg Value.bool hb4)
      refine c_yes (c := .tmp 21) (by kernel_rfl) (F.slot rfl) ?_
      refine c_seq (by kernel_rfl) ?_
      refine c_text (id := 5) (by kernel_rfl) [(0, 2)] (by kernel_rfl) ?_
      refine sq2 (W' := W) (show Eq (α := OSk) _ (some (some 4, (.assign (.const (.int .i64 4))), 24, none)) by kernel_rfl) trivial F (by decide) (v := .int .i64 4) (x_assign rfl) (fun _ => trivial) (fun a F => ?_)
      unfold wpSeq
      refine t_normal ?_
      refine c_ret (by kernel_rfl) ?_
      refine t_ret ?_
      refine p_tmp Tryd.results18 F rfl ?_
      exact .inr (.inl ⟨by rw [hz]; simpa using hb2, by omega, rfl, H.front 3⟩)
    · have hb4d := of_decide_eq_false hb4
      have F := F.at 21 rfl (v' := .bool false) (congrArg Value.bool hb4)
      refine c_no (c := .tmp 21) (by kernel_rfl) (F.slot rfl) ?_
      refine c_skip (by kernel_rfl) ?_
      refine t_normal ?_
      refine c_cut (by kernel_rfl) (fun a W => ∃ (A6_3 : Option Addr) (c6_3 : Nat) (A6_7 : Option Addr) (c6_7 : Nat), Fr 42 [(0, .pointer (some ⟨g, 0, none⟩)), (1, .agg #[.int .i64 t.f0, .string t.f1, .string t.f2, .int .u64 t.f3, .int .u64 t.f4, .string t.f5, .string t.f6, .slice A7 t.f7.length c7, .slice A8 t.f8.length c8]), (3, .pointer (some ⟨g1, 0, none⟩)), (4, .int .i64 0), (6, .agg #[.int .i64 t.f0, .string t.f1, .string t.f2, .int .u64 t.f3, .int .u64 t.f4, .string t.f5, .string t.f6, .slice A7 t.f7.length c7, .slice A8 t.f8.length c8]), (7, .int .i64 z), (5, .int .i64 z), (8, .int .i64 z), (9, .bool false), (11, .pointer (some ⟨g, 0, none⟩)), (12, .pointer (some ⟨g, 0, none⟩)), (13, .pointer (some ⟨g, 3, none⟩)), (16, .pointer (some ⟨g, 0, none⟩)), (17, .pointer (some ⟨g, 0, none⟩)), (18, .pointer (some ⟨g, 1, none⟩)), (14, .slice A xs.length c), (15, .int .i64 (xs.length : Int)), (19, .int .i64 s0), (20, .int .i64 (4 * s0)), (21, .bool false)] a ∧ St w Sf Rf [Asn.blk g [.int .i64 a0, .int .i64 s0, .int .i64 t0, .slice A xs.length c, .int .i64 k0, .int .i64 n0] 72, Asn.qu k33 33 (.slice A xs.length c) xs ok, Asn.fk k33 ok2 t [.int .i64 t.f0, .string t.f1, .string t.f2, .int .u64 t.f3, .int .u64 t.f4, .string t.f5, .string t.f6, .slice A7 t.f7.length c7, .slice A8 t.f8.length c8], Asn.blk g1 [.int .i64 t.f0, .string t.f1, .string t.f2, .int .u64 t.f3, .int .u64 t.f4, .string t.f5, .string t.f6, .slice A6_3 ((t.f7).length) c6_3, .slice A6_7 ((t.f8).length) c6_7] 33, Asn.rd Kd.string ok2 A7 t.f7.length t.f7, Asn.rd Kd.string ok2 A8 t.f8.length t.f8, Asn.qu Kd.string 9 (.slice A6_3 ((t.f7).length) c6_3) t.f7 (fun _ => False), Asn.qu Kd.string 9 (.slice A6_7 ((t.f8).length) c6_7) t.f8 (fun _ => False)] W ∧ ((t.f7).length ≤ c6_3) ∧ ((t.f8).length ≤ c6_7)) ?_ ?_
      · have hF := ch_fine (show chT t = 0 from hz.trans (by simpa using hb2))
        have hr7 := (ke_zero hF.rs).1
        have hr8 := (ke_zero hF.ws).1
        have H := H.addF1 2 rfl (fun _ h => h) (fun W => Kd.string.C W A7 t.f7.length t.f7) ok2 (fun _ h => h) (Foot.imp (H.get 2 rfl) (fun W' h => (k33_parts h).2.1))
        have H := H.addF1 2 rfl (fun _ h => h) (fun W => Kd.string.C W A8 t.f8.length t.f8) ok2 (fun _ h => h) (Foot.imp (H.get 2 rfl) (fun W' h => (k33_parts h).2.2.2))
        have H : St w Sf Rf [Asn.blk g [.int .i64 a0, .int .i64 s0, .int .i64 t0, .slice A xs.length c, .int .i64 k0, .int .i64 n0] 72, Asn.qu k33 33 (.slice A xs.length c) xs ok, Asn.fk k33 ok2 t [.int .i64 t.f0, .string t.f1, .string t.f2, .int .u64 t.f3, .int .u64 t.f4, .string t.f5, .string t.f6, .slice A7 t.f7.length c7, .slice A8 t.f8.length c8], Asn.blk g1 [.int .i64 t.f0, .string t.f1, .string t.f2, .int .u64 t.f3, .int .u64 t.f4, .string t.f5, .string t.f6, .slice A7 t.f7.length c7, .slice A8 t.f8.length c8] 33, Asn.rd Kd.string ok2 A7 t.f7.length t.f7, Asn.rd Kd.string ok2 A8 t.f8.length t.f8] W := H
        refine c_drawnT (id := 6) (by kernel_rfl) (by kernel_rfl) (Vs [Asn.blk g1 [.int .i64 t.f0, .string t.f1, .string t.f2, .int .u64 t.f3, .int .u64 t.f4, .string t.f5, .string t.f6, .slice A7 t.f7.length c7, .slice A8 t.f8.length c8] 33]) [0, 0, 2, 7, 0, 0, 32, 127, 111, 511, 1023, 2047] [9, 11] (.two [(1, 0), (5, 0), (2, 1), (6, 1)] 0 (.two [] 3 (.line [(8, 0), (4, 2), (7, 2), (9, 2), (10, 0), (11, 2)]) 4 (.line [(3, 2), (8, 0), (7, 2), (9, 2), (10, 0), (11, 2)])) 4 (.line [(0, 2), (3, 2), (8, 0), (7, 2), (9, 2), (10, 0), (11, 2)])) (by kernel_rfl) (fun _ _ d _ _ h => by cases d <;> exact h) (Vs.drew ⟨H.get 3 rfl, trivial⟩) ?_
        have H := H.drew
        generalize World.drew W = W at H ⊢
        refine t_two ?_
        refine sq0 (show Eq (α := OSk) _ (some (some 23, (.fieldAddr 33 (.tmp 3) 7), 0, none)) by kernel_rfl) trivial F (by decide) (v := .pointer (some ⟨g1, 7, none⟩)) (fun W_ => x_field0 Tryd.underlying33 rfl rfl (Tryd.sizeOf31 W_) (F.slot rfl)) (fun a F => ?_)
        refine sq0 (show Eq (α := OSk) _ (some (some 27, (.fieldAddr 33 (.tmp 3) 8), 0, none)) by kernel_rfl) trivial F (by decide) (v := .pointer (some ⟨g1, 8, none⟩)) (fun W_ => x_field0 Tryd.underlying33 rfl rfl (Tryd.sizeOf31 W_) (F.slot rfl)) (fun a F => ?_)
        refine sq1 (show Eq (α := OSk) _ (some (some 24, (.load 31 (.tmp 23)), 31, none)) by kernel_rfl) trivial F (by decide) (⟨H.get 3 rfl, trivial⟩) (v := .slice A7 t.f7.length c7) (fun W_ hV => x_load1 (Tryd.isAgg31 W_) (F.slot rfl) (bcell hV.1 rfl)) (fun a F => ?_)
        refine sq1 (show Eq (α := OSk) _ (some (some 28, (.load 31 (.tmp 27)), 31, none)) by kernel_rfl) trivial F (by decide) (⟨H.get 3 rfl, trivial⟩) (v := .slice A8 t.f8.length c8) (fun W_ hV => x_load1 (Tryd.isAgg31 W_) (F.slot rfl) (bcell hV.1 rfl)) (fun a F => ?_)
        refine sq_nil ?_
        refine f_two ?_ ?_
        · refine sq_lit0 Kd.string (show Eq (α := OSk) _ (some (some 22, (.buildSlice 31 0 #[]), 31, none)) by kernel_rfl) trivial F (by decide) Tryd.underlying31 (show (Tryd.prog.info? 9).map (fun i => (i.zero, i.size, i.bytes)) = some (some (.string ⟨#[]⟩), 1, 16) by kernel_rfl) H ?_
          intro A6_0 W a H F
          refine ⟨(fun _ => ⟨H.get 3 rfl, trivial⟩), ?_⟩
          refine sq_nil ?_
          refine t_normal ?_
          refine t_two ?_
          refine sq_nil ?_
          refine f_two ?_ ?_
          · refine sq_rapp Kd.string 6 4 (by decide) (show Eq (α := OSk) _ (some (some 25, (.call { callee := (.builtin .append), args := #[(.tmp 22), (.tmp 24)], argTypes := #[31, 31] }), 31, none)) by kernel_rfl) trivial F (by decide) (F.slot rfl) (F.slot rfl) (rfl) Tryd.underlying31 (show (Tryd.prog.info? 9).map (fun i => (i.zero, i.size, i.bytes)) = some (some (.string ⟨#[]⟩), 1, 16) by kernel_rfl) rfl (by decide) (by decide) H rfl rfl (by simp only [List.length_nil]; omega) ?_
            intro v_ W a H F
            rw [List.nil_append] at H
            have H := H.quFlat 6 string_flat rfl
            obtain ⟨A6_3, c6_3, rfl, hc6_3⟩ := (H.qu 6 rfl).form
            have H : St w Sf Rf [Asn.blk g [.int .i64 a0, .int .i64 s0, .int .i64 t0, .slice A xs.length c, .int .i64 k0, .int .i64 n0] 72, Asn.qu k33 33 (.slice A xs.length c) xs ok, Asn.fk k33 ok2 t [.int .i64 t.f0, .string t.f1, .string t.f2, .int .u64 t.f3, .int .u64 t.f4, .string t.f5, .string t.f6, .slice A7 t.f7.length c7, .slice A8 t.f8.length c8], Asn.blk g1 [.int .i64 t.f0, .string t.f1, .string t.f2, .int .u64 t.f3, .int .u64 t.f4, .string t.f5, .string t.f6, .slice A7 t.f7.length c7, .slice A8 t.f8.length c8] 33, Asn.rd Kd.string ok2 A7 t.f7.length t.f7, Asn.rd Kd.string ok2 A8 t.f8.length t.f8, Asn.qu Kd.string 9 (.slice A6_3 ((t.f7).length) c6_3) t.f7 (fun _ => False)] W := H
            refine ⟨(fun _ => ⟨H.get 3 rfl, trivial⟩), ?_⟩
            refine sq_nil ?_
            refine t_normal ?_
            refine t_line ?_
            refine sq0 (show Eq (α := OSk) _ (some (some 30, (.fieldAddr 33 (.tmp 3) 7), 0, none)) by kernel_rfl) trivial F (by decide) (v := .pointer (some ⟨g1, 7, none⟩)) (fun W_ => x_field0 Tryd.underlying33 rfl rfl (Tryd.sizeOf31 W_) (F.slot rfl)) (fun a F => ?_)
            refine sq_lit0 Kd.string (show Eq (α := OSk) _ (some (some 26, (.buildSlice 31 0 #[]), 31, none)) by kernel_rfl) trivial F (by decide) Tryd.underlying31 (show (Tryd.prog.info? 9).map (fun i => (i.zero, i.size, i.bytes)) = some (some (.string ⟨#[]⟩), 1, 16) by kernel_rfl) H ?_
            intro A6_4 W a H F
            refine ⟨(fun _ => ⟨H.get 3 rfl, trivial⟩), ?_⟩
            refine sq_rapp Kd.string 7 5 (by decide) (show Eq (α := OSk) _ (some (some 29, (.call { callee := (.builtin .append), args := #[(.tmp 26), (.tmp 28)], argTypes := #[31, 31] }), 31, none)) by kernel_rfl) trivial F (by decide) (F.slot rfl) (F.slot rfl) (rfl) Tryd.underlying31 (show (Tryd.prog.info? 9).map (fun i => (i.zero, i.size, i.bytes)) = some (some (.string ⟨#[]⟩), 1, 16) by kernel_rfl) rfl (by decide) (by decide) H rfl rfl (by simp only [List.length_nil]; omega) ?_
            intro v_ W a H F
            rw [List.nil_append] at H
            have H := H.quFlat 7 string_flat rfl
            obtain ⟨A6_7, c6_7, rfl, hc6_7⟩ := (H.qu 7 rfl).form
            have H : St w Sf Rf [Asn.blk g [.int .i64 a0, .int .i64 s0, .int .i64 t0, .slice A xs.length c, .int .i64 k0, .int .i64 n0] 72, Asn.qu k33 33 (.slice A xs.length c) xs ok, Asn.fk k33 ok2 t [.int .i64 t.f0, .string t.f1, .string t.f2, .int .u64 t.f3, .int .u64 t.f4, .string t.f5, .string t.f6, .slice A7 t.f7.length c7, .slice A8 t.f8.length c8], Asn.blk g1 [.int .i64 t.f0, .string t.f1, .string t.f2, .int .u64 t.f3, .int .u64 t.f4, .string t.f5, .string t.f6, .slice A7 t.f7.length c7, .slice A8 t.f8.length c8] 33, Asn.rd Kd.string ok2 A7 t.f7.length t.f7, Asn.rd Kd.string ok2 A8 t.f8.length t.f8, Asn.qu Kd.string 9 (.slice A6_3 ((t.f7).length) c6_3) t.f7 (fun _ => False), Asn.qu Kd.string 9 (.slice A6_7 ((t.f8).length) c6_7) t.f8 (fun _ => False)] W := H
            refine ⟨(fun _ => ⟨H.get 3 rfl, trivial⟩), ?_⟩
            refine sq_put (M := [Asn.blk g [.int .i64 a0, .int .i64 s0, .int .i64 t0, .slice A xs.length c, .int .i64 k0, .int .i64 n0] 72, Asn.qu k33 33 (.slice A xs.length c) xs ok, Asn.fk k33 ok2 t [.int .i64 t.f0, .string t.f1, .string t.f2, .int .u64 t.f3, .int .u64 t.f4, .string t.f5, .string t.f6, .slice A7 t.f7.length c7, .slice A8 t.f8.length c8], Asn.blk g1 [.int .i64 t.f0, .string t.f1, .string t.f2, .int .u64 t.f3, .int .u64 t.f4, .string t.f5, .string t.f6, .slice A6_3 ((t.f7).length) c6_3, .slice A8 t.f8.length c8] 33, Asn.rd Kd.string ok2 A7 t.f7.length t.f7, Asn.rd Kd.string ok2 A8 t.f8.length t.f8, Asn.qu Kd.string 9 (.slice A6_3 ((t.f7).length) c6_3) t.f7 (fun _ => False), Asn.qu Kd.string 9 (.slice A6_7 ((t.f8).length) c6_7) t.f8 (fun _ => False)]) (show Eq (α := OSk) _ (some (none, (.store 31 (.tmp 30) (.tmp 25)), 0, none)) by kernel_rfl) trivial F (x_store H (k := 3) (cs' := [.int .i64 t.f0, .string t.f1, .string t.f2, .int .u64 t.f3, .int .u64 t.f4, .string t.f5, .string t.f6, .slice A6_3 ((t.f7).length) c6_3, .slice A8 t.f8.length c8]) rfl (Tryd.sizeOf31 W) (F.slot rfl) (F.slot rfl) rfl (Nat.le_of_ble_eq_true rfl) rfl rfl) ?_
            intro W H
            refine ⟨(fun h => absurd (by decide) h), ?_⟩
            refine sq0 (show Eq (α := OSk) _ (some (some 31, (.fieldAddr 33 (.tmp 3) 8), 0, none)) by kernel_rfl) trivial F (by decide) (v := .pointer (some ⟨g1, 8, none⟩)) (fun W_ => x_field0 Tryd.underlying33 rfl rfl (Tryd.sizeOf31 W_) (F.slot rfl)) (fun a F => ?_)
            refine sq_put (M := [Asn.blk g [.int .i64 a0, .int .i64 s0, .int .i64 t0, .slice A xs.length c, .int .i64 k0, .int .i64 n0] 72, Asn.qu k33 33 (.slice A xs.length c) xs ok, Asn.fk k33 ok2 t [.int .i64 t.f0, .string t.f1, .string t.f2, .int .u64 t.f3, .int .u64 t.f4, .string t.f5, .string t.f6, .slice A7 t.f7.length c7, .slice A8 t.f8.length c8], Asn.blk g1 [.int .i64 t.f0, .string t.f1, .string t.f2, .int .u64 t.f3, .int .u64 t.f4, .string t.f5, .string t.f6, .slice A6_3 ((t.f7).length) c6_3, .slice A6_7 ((t.f8).length) c6_7] 33, Asn.rd Kd.string ok2 A7 t.f7.length t.f7, Asn.rd Kd.string ok2 A8 t.f8.length t.f8, Asn.qu Kd.string 9 (.slice A6_3 ((t.f7).length) c6_3) t.f7 (fun _ => False), Asn.qu Kd.string 9 (.slice A6_7 ((t.f8).length) c6_7) t.f8 (fun _ => False)]) (show Eq (α := OSk) _ (some (none, (.store 31 (.tmp 31) (.tmp 29)), 0, none)) by kernel_rfl) trivial F (x_store H (k := 3) (cs' := [.int .i64 t.f0, .string t.f1, .string t.f2, .int .u64 t.f3, .int .u64 t.f4, .string t.f5, .string t.f6, .slice A6_3 ((t.f7).length) c6_3, .slice A6_7 ((t.f8).length) c6_7]) rfl (Tryd.sizeOf31 W) (F.slot rfl) (F.slot rfl) rfl (Nat.le_of_ble_eq_true rfl) rfl rfl) ?_
            intro W H
            refine ⟨(fun h => absurd (by decide) h), ?_⟩
            refine sq_nil ?_
            refine t_normal ?_
            exact ⟨A6_3, c6_3, A6_7, c6_7, F.less _ (subc rfl (subc rfl (subc rfl (subc rfl (subc rfl (subc rfl (subc rfl (subc rfl (subc rfl (subc rfl (subc rfl (subc rfl (subc rfl (subc rfl (subc rfl (subc rfl (subc rfl (subc rfl (subc rfl (subc rfl sub0)))))))))))))))))))), H, hc6_3, hc6_7⟩
          · refine sq_lit0 Kd.string (show Eq (α := OSk) _ (some (some 26, (.buildSlice 31 0 #[]), 31, none)) by kernel_rfl) trivial F (by decide) Tryd.underlying31 (show (Tryd.prog.info? 9).map (fun i => (i.zero, i.size, i.bytes)) = some (some (.string ⟨#[]⟩), 1, 16) by kernel_rfl) H ?_
            intro A6_4 W a H F
            refine ⟨(fun _ => ⟨H.get 3 rfl, trivial⟩), ?_⟩
            refine sq_nil ?_
            refine t_normal ?_
            refine t_line ?_
            refine sq_rapp Kd.string 6 4 (by decide) (show Eq (α := OSk) _ (some (some 25, (.call { callee := (.builtin .append), args := #[(.tmp 22), (.tmp 24)], argTypes := #[31, 31] }), 31, none)) by kernel_rfl) trivial F (by decide) (F.slot rfl) (F.slot rfl) (rfl) Tryd.underlying31 (show (Tryd.prog.info? 9).map (fun i => (i.zero, i.size, i.bytes)) = some (some (.string ⟨#[]⟩), 1, 16) by kernel_rfl) rfl (by decide) (by decide) H rfl rfl (by simp only [List.length_nil]; omega) ?_
            intro v_ W a H F
            rw [List.nil_append] at H
            have H := H.quFlat 6 string_flat rfl
            obtain ⟨A6_3, c6_3, rfl, hc6_3⟩ := (H.qu 6 rfl).form
            have H : St w Sf Rf [Asn.blk g [.int .i64 a0, .int .i64 s0, .int .i64 t0, .slice A xs.length c, .int .i64 k0, .int .i64 n0] 72, Asn.qu k33 33 (.slice A xs.length c) xs ok, Asn.fk k33 ok2 t [.int .i64 t.f0, .string t.f1, .string t.f2, .int .u64 t.f3, .int .u64 t.f4, .string t.f5, .string t.f6, .slice A7 t.f7.length c7, .slice A8 t.f8.length c8], Asn.blk g1 [.int .i64 t.f0, .string t.f1, .string t.f2, .int .u64 t.f3, .int .u64 t.f4, .string t.f5, .string t.f6, .slice A7 t.f7.length c7, .slice A8 t.f8.length c8] 33, Asn.rd Kd.string ok2 A7 t.f7.length t.f7, Asn.rd Kd.string ok2 A8 t.f8.length t.f8, Asn.qu Kd.string 9 (.slice A6_3 ((t.f7).length) c6_3) t.f7 (fun _ => False), Asn.qu Kd.string 9 (.slice A6_4 0 0) [] (fun _ => False)] W := H
            refine ⟨(fun _ => ⟨H.get 3 rfl, trivial⟩), ?_⟩
            refine sq0 (show Eq (α := OSk) _ (some (some 30, (.fieldAddr 33 (.tmp 3) 7), 0, none)) by kernel_rfl) trivial F (by decide) (v := .pointer (some ⟨g1, 7, none⟩)) (fun W_ => x_field0 Tryd.underlying33 rfl rfl (Tryd.sizeOf31 W_) (F.slot rfl)) (fun a F => ?_)
            refine sq_rapp Kd.string 7 5 (by decide) (show Eq (α := OSk) _ (some (some 29, (.call { callee := (.builtin .append), args := #[(.tmp 26), (.tmp 28)], argTypes := #[31, 31] }), 31, none)) by kernel_rfl) trivial F (by decide) (F.slot rfl) (F.slot rfl) (rfl) Tryd.underlying31 (show (Tryd.prog.info? 9).map (fun i => (i.zero, i.size, i.bytes)) = some (some (.string ⟨#[]⟩), 1, 16) by kernel_rfl) rfl (by decide) (by decide) H rfl rfl (by simp only [List.length_nil]; omega) ?_
            intro v_ W a H F
            rw [List.nil_append] at H
            have H := H.quFlat 7 string_flat rfl
            obtain ⟨A6_7, c6_7, rfl, hc6_7⟩ := (H.qu 7 rfl).form
            have H : St w Sf Rf [Asn.blk g [.int .i64 a0, .int .i64 s0, .int .i64 t0, .slice A xs.length c, .int .i64 k0, .int .i64 n0] 72, Asn.qu k33 33 (.slice A xs.length c) xs ok, Asn.fk k33 ok2 t [.int .i64 t.f0, .string t.f1, .string t.f2, .int .u64 t.f3, .int .u64 t.f4, .string t.f5, .string t.f6, .slice A7 t.f7.length c7, .slice A8 t.f8.length c8], Asn.blk g1 [.int .i64 t.f0, .string t.f1, .string t.f2, .int .u64 t.f3, .int .u64 t.f4, .string t.f5, .string t.f6, .slice A7 t.f7.length c7, .slice A8 t.f8.length c8] 33, Asn.rd Kd.string ok2 A7 t.f7.length t.f7, Asn.rd Kd.string ok2 A8 t.f8.length t.f8, Asn.qu Kd.string 9 (.slice A6_3 ((t.f7).length) c6_3) t.f7 (fun _ => False), Asn.qu Kd.string 9 (.slice A6_7 ((t.f8).length) c6_7) t.f8 (fun _ => False)] W := H
            refine ⟨(fun _ => ⟨H.get 3 rfl, trivial⟩), ?_⟩
            refine sq_put (M := [Asn.blk g [.int .i64 a0, .int .i64 s0, .int .i64 t0, .slice A xs.length c, .int .i64 k0, .int .i64 n0] 72, Asn.qu k33 33 (.slice A xs.length c) xs ok, Asn.fk k33 ok2 t [.int .i64 t.f0, .string t.f1, .string t.f2, .int .u64 t.f3, .int .u64 t.f4, .string t.f5, .string t.f6, .slice A7 t.f7.length c7, .slice A8 t.f8.length c8], Asn.blk g1 [.int .i64 t.f0, .string t.f1, .string t.f2, .int .u64 t.f3, .int .u64 t.f4, .string t.f5, .string t.f6, .slice A6_3 ((t.f7).length) c6_3, .slice A8 t.f8.length c8] 33, Asn.rd Kd.string ok2 A7 t.f7.length t.f7, Asn.rd Kd.string ok2 A8 t.f8.length t.f8, Asn.qu Kd.string 9 (.slice A6_3 ((t.f7).length) c6_3) t.f7 (fun _ => False), Asn.qu Kd.string 9 (.slice A6_7 ((t.f8).length) c6_7) t.f8 (fun _ => False)]) (show Eq (α := OSk) _ (some (none, (.store 31 (.tmp 30) (.tmp 25)), 0, none)) by kernel_rfl) trivial F (x_store H (k := 3) (cs' := [.int .i64 t.f0, .string t.f1, .string t.f2, .int .u64 t.f3, .int .u64 t.f4, .string t.f5, .string t.f6, .slice A6_3 ((t.f7).length) c6_3, .slice A8 t.f8.length c8]) rfl (Tryd.sizeOf31 W) (F.slot rfl) (F.slot rfl) rfl (Nat.le_of_ble_eq_true rfl) rfl rfl) ?_
            intro W H
            refine ⟨(fun h => absurd (by decide) h), ?_⟩
            refine sq0 (show Eq (α := OSk) _ (some (some 31, (.fieldAddr 33 (.tmp 3) 8), 0, none)) by kernel_rfl) trivial F (by decide) (v := .pointer (some ⟨g1, 8, none⟩)) (fun W_ => x_field0 Tryd.underlying33 rfl rfl (Tryd.sizeOf31 W_) (F.slot rfl)) (fun a F => ?_)
            refine sq_put (M := [Asn.blk g [.int .i64 a0, .int .i64 s0, .int .i64 t0, .slice A xs.length c, .int .i64 k0, .int .i64 n0] 72, Asn.qu k33 33 (.slice A xs.length c) xs ok, Asn.fk k33 ok2 t [.int .i64 t.f0, .string t.f1, .string t.f2, .int .u64 t.f3, .int .u64 t.f4, .string t.f5, .string t.f6, .slice A7 t.f7.length c7, .slice A8 t.f8.length c8], Asn.blk g1 [.int .i64 t.f0, .string t.f1, .string t.f2, .int .u64 t.f3, .int .u64 t.f4, .string t.f5, .string t.f6, .slice A6_3 ((t.f7).length) c6_3, .slice A6_7 ((t.f8).length) c6_7] 33, Asn.rd Kd.string ok2 A7 t.f7.length t.f7, Asn.rd Kd.string ok2 A8 t.f8.length t.f8, Asn.qu Kd.string 9 (.slice A6_3 ((t.f7).length) c6_3) t.f7 (fun _ => False), Asn.qu Kd.string 9 (.slice A6_7 ((t.f8).length) c6_7) t.f8 (fun _ => False)]) (show Eq (α := OSk) _ (some (none, (.store 31 (.tmp 31) (.tmp 29)), 0, none)) by kernel_rfl) trivial F (x_store H (k := 3) (cs' := [.int .i64 t.f0, .string t.f1, .string t.f2, .int .u64 t.f3, .int .u64 t.f4, .string t.f5, .string t.f6, .slice A6_3 ((t.f7).length) c6_3, .slice A6_7 ((t.f8).length) c6_7]) rfl (Tryd.sizeOf31 W) (F.slot rfl) (F.slot rfl) rfl (Nat.le_of_ble_eq_true rfl) rfl rfl) ?_
            intro W H
            refine ⟨(fun h => absurd (by decide) h), ?_⟩
            refine sq_nil ?_
            refine t_normal ?_
            exact ⟨A6_3, c6_3, A6_7, c6_7, F.less _ (subc rfl (subc rfl (subc rfl (subc rfl (subc rfl (subc rfl (subc rfl (subc rfl (subc rfl (subc rfl (subc rfl (subc rfl (subc rfl (subc rfl (subc rfl (subc rfl (subc rfl (subc rfl (subc rfl (subc rfl sub0)))))))))))))))))))), H, hc6_3, hc6_7⟩
        · refine sq_lit0 Kd.string (show Eq (α := OSk) _ (some (some 26, (.buildSlice 31 0 #[]), 31, none)) by kernel_rfl) trivial F (by decide) Tryd.underlying31 (show (Tryd.prog.info? 9).map (fun i => (i.zero, i.size, i.bytes)) = some (some (.string ⟨#[]⟩), 1, 16) by kernel_rfl) H ?_
          intro A6_4 W a H F
          refine ⟨(fun _ => ⟨H.get 3 rfl, trivial⟩), ?_⟩
          refine sq_nil ?_
          refine t_normal ?_
          refine t_line ?_
          refine sq_lit0 Kd.string (show Eq (α := OSk) _ (some (some 22, (.buildSlice 31 0 #[]), 31, none)) by kernel_rfl) trivial F (by decide) Tryd.underlying31 (show (Tryd.prog.info? 9).map (fun i => (i.zero, i.size, i.bytes)) = some (some (.string ⟨#[]⟩), 1, 16) by kernel_rfl) H ?_
          intro A6_0 W a H F
          refine ⟨(fun _ => ⟨H.get 3 rfl, trivial⟩), ?_⟩
          refine sq_rapp Kd.string 7 4 (by decide) (show Eq (α := OSk) _ (some (some 25, (.call { callee := (.builtin .append), args := #[(.tmp 22), (.tmp 24)], argTypes := #[31, 31] }), 31, none)) by kernel_rfl) trivial F (by decide) (F.slot rfl) (F.slot rfl) (rfl) Tryd.underlying31 (show (Tryd.prog.info? 9).map (fun i => (i.zero, i.size, i.bytes)) = some (some (.string ⟨#[]⟩), 1, 16) by kernel_rfl) rfl (by decide) (by decide) H rfl rfl (by simp only [List.length_nil]; omega) ?_
          intro v_ W a H F
          rw [List.nil_append] at H
          have H := H.quFlat 7 string_flat rfl
          obtain ⟨A6_3, c6_3, rfl, hc6_3⟩ := (H.qu 7 rfl).form
          have H : St w Sf Rf [Asn.blk g [.int .i64 a0, .int .i64 s0, .int .i64 t0, .slice A xs.length c, .int .i64 k0, .int .i64 n0] 72, Asn.qu k33 33 (.slice A xs.length c) xs ok, Asn.fk k33 ok2 t [.int .i64 t.f0, .string t.f1, .string t.f2, .int .u64 t.f3, .int .u64 t.f4, .string t.f5, .string t.f6, .slice A7 t.f7.length c7, .slice A8 t.f8.length c8], Asn.blk g1 [.int .i64 t.f0, .string t.f1, .string t.f2, .int .u64 t.f3, .int .u64 t.f4, .string t.f5, .string t.f6, .slice A7 t.f7.length c7, .slice A8 t.f8.length c8] 33, Asn.rd Kd.string ok2 A7 t.f7.length t.f7, Asn.rd Kd.string ok2 A8 t.f8.length t.f8, Asn.qu Kd.string 9 (.slice A6_4 0 0) [] (fun _ => False), Asn.qu Kd.string 9 (.slice A6_3 ((t.f7).length) c6_3) t.f7 (fun _ => False)] W := H
          refine ⟨(fun _ => ⟨H.get 3 rfl, trivial⟩), ?_⟩
          refine sq0 (show Eq (α := OSk) _ (some (some 30, (.fieldAddr 33 (.tmp 3) 7), 0, none)) by kernel_rfl) trivial F (by decide) (v := .pointer (some ⟨g1, 7, none⟩)) (fun W_ => x_field0 Tryd.underlying33 rfl rfl (Tryd.sizeOf31 W_) (F.slot rfl)) (fun a F => ?_)
          refine sq_rapp Kd.string 6 5 (by decide) (show Eq (α := OSk) _ (some (some 29, (.call { callee := (.builtin .append), args := #[(.tmp 26), (.tmp 28)], argTypes := #[31, 31] }), 31, none)) by kernel_rfl) trivial F (by decide) (F.slot rfl) (F.slot rfl) (rfl) Tryd.underlying31 (show (Tryd.prog.info? 9).map (fun i => (i.zero, i.size, i.bytes)) = some (some (.string ⟨#[]⟩), 1, 16) by kernel_rfl) rfl (by decide) (by decide) H rfl rfl (by simp only [List.length_nil]; omega) ?_
          intro v_ W a H F
          rw [List.nil_append] at H
          have H := H.quFlat 6 string_flat rfl
          obtain ⟨A6_7, c6_7, rfl, hc6_7⟩ := (H.qu 6 rfl).form
          have H : St w Sf Rf [Asn.blk g [.int .i64 a0, .int .i64 s0, .int .i64 t0, .slice A xs.length c, .int .i64 k0, .int .i64 n0] 72, Asn.qu k33 33 (.slice A xs.length c) xs ok, Asn.fk k33 ok2 t [.int .i64 t.f0, .string t.f1, .string t.f2, .int .u64 t.f3, .int .u64 t.f4, .string t.f5, .string t.f6, .slice A7 t.f7.length c7, .slice A8 t.f8.length c8], Asn.blk g1 [.int .i64 t.f0, .string t.f1, .string t.f2, .int .u64 t.f3, .int .u64 t.f4, .string t.f5, .string t.f6, .slice A7 t.f7.length c7, .slice A8 t.f8.length c8] 33, Asn.rd Kd.string ok2 A7 t.f7.length t.f7, Asn.rd Kd.string ok2 A8 t.f8.length t.f8, Asn.qu Kd.string 9 (.slice A6_7 ((t.f8).length) c6_7) t.f8 (fun _ => False), Asn.qu Kd.string 9 (.slice A6_3 ((t.f7).length) c6_3) t.f7 (fun _ => False)] W := H
          refine ⟨(fun _ => ⟨H.get 3 rfl, trivial⟩), ?_⟩
          refine sq_put (M := [Asn.blk g [.int .i64 a0, .int .i64 s0, .int .i64 t0, .slice A xs.length c, .int .i64 k0, .int .i64 n0] 72, Asn.qu k33 33 (.slice A xs.length c) xs ok, Asn.fk k33 ok2 t [.int .i64 t.f0, .string t.f1, .string t.f2, .int .u64 t.f3, .int .u64 t.f4, .string t.f5, .string t.f6, .slice A7 t.f7.length c7, .slice A8 t.f8.length c8], Asn.blk g1 [.int .i64 t.f0, .string t.f1, .string t.f2, .int .u64 t.f3, .int .u64 t.f4, .string t.f5, .string t.f6, .slice A6_3 ((t.f7).length) c6_3, .slice A8 t.f8.length c8] 33, Asn.rd Kd.string ok2 A7 t.f7.length t.f7, Asn.rd Kd.string ok2 A8 t.f8.length t.f8, Asn.qu Kd.string 9 (.slice A6_7 ((t.f8).length) c6_7) t.f8 (fun _ => False), Asn.qu Kd.string 9 (.slice A6_3 ((t.f7).length) c6_3) t.f7 (fun _ => False)]) (show Eq (α := OSk) _ (some (none, (.store 31 (.tmp 30) (.tmp 25)), 0, none)) by kernel_rfl) trivial F (x_store H (k := 3) (cs' := [.int .i64 t.f0, .string t.f1, .string t.f2, .int .u64 t.f3, .int .u64 t.f4, .string t.f5, .string t.f6, .slice A6_3 ((t.f7).length) c6_3, .slice A8 t.f8.length c8]) rfl (Tryd.sizeOf31 W) (F.slot rfl) (F.slot rfl) rfl (Nat.le_of_ble_eq_true rfl) rfl rfl) ?_
          intro W H
          refine ⟨(fun h => absurd (by decide) h), ?_⟩
          refine sq0 (show Eq (α := OSk) _ (some (some 31, (.fieldAddr 33 (.tmp 3) 8), 0, none)) by kernel_rfl) trivial F (by decide) (v := .pointer (some ⟨g1, 8, none⟩)) (fun W_ => x_field0 Tryd.underlying33 rfl rfl (Tryd.sizeOf31 W_) (F.slot rfl)) (fun a F => ?_)
          refine sq_put (M := [Asn.blk g [.int .i64 a0, .int .i64 s0, .int .i64 t0, .slice A xs.length c, .int .i64 k0, .int .i64 n0] 72, Asn.qu k33 33 (.slice A xs.length c) xs ok, Asn.fk k33 ok2 t [.int .i64 t.f0, .string t.f1, .string t.f2, .int .u64 t.f3, .int .u64 t.f4, .string t.f5, .string t.f6, .slice A7 t.f7.length c7, .slice A8 t.f8.length c8], Asn.blk g1 [.int .i64 t.f0, .string t.f1, .string t.f2, .int .u64 t.f3, .int .u64 t.f4, .string t.f5, .string t.f6, .slice A6_3 ((t.f7).length) c6_3, .slice A6_7 ((t.f8).length) c6_7] 33, Asn.rd Kd.string ok2 A7 t.f7.length t.f7, Asn.rd Kd.string ok2 A8 t.f8.length t.f8, Asn.qu Kd.string 9 (.slice A6_7 ((t.f8).length) c6_7) t.f8 (fun _ => False), Asn.qu Kd.string 9 (.slice A6_3 ((t.f7).length) c6_3) t.f7 (fun _ => False)]) (show Eq (α := OSk) _ (some (none, (.store 31 (.tmp 31) (.tmp 29)), 0, none)) by kernel_rfl) trivial F (x_store H (k := 3) (cs' := [.int .i64 t.f0, .string t.f1, .string t.f2, .int .u64 t.f3, .int .u64 t.f4, .string t.f5, .string t.f6, .slice A6_3 ((t.f7).length) c6_3, .slice A6_7 ((t.f8).length) c6_7]) rfl (Tryd.sizeOf31 W) (F.slot rfl) (F.slot rfl) rfl (Nat.le_of_ble_eq_true rfl) rfl rfl) ?_
          intro W H
          refine ⟨(fun h => absurd (by decide) h), ?_⟩
          refine sq_nil ?_
          refine t_normal ?_
          exact ⟨A6_3, c6_3, A6_7, c6_7, F.less _ (subc rfl (subc rfl (subc rfl (subc rfl (subc rfl (subc rfl (subc rfl (subc rfl (subc rfl (subc rfl (subc rfl (subc rfl (subc rfl (subc rfl (subc rfl (subc rfl (subc rfl (subc rfl (subc rfl (subc rfl sub0)))))))))))))))))))), H.perm [0, 1, 2, 3, 4, 5, 7, 6] rfl (by decide), hc6_3, hc6_7⟩
      · rintro a W ⟨A6_3, c6_3, A6_7, c6_7, F, H, hc6_3, hc6_7⟩
        refine c_seq (by kernel_rfl) ?_
        have H := (H.quRd 6 rfl).quRd 7 rfl
        have H := H.addF 6 7 rfl rfl (fun _ h => h) (fun _ h => h) _ (fk_tx t hc6_3 (Foot.mono (H.get 6 rfl) (fun j h => .inl h)) hc6_7 (Foot.mono (H.get 7 rfl) (fun j h => .inr h)))
        have H : St w Sf Rf [Asn.blk g [.int .i64 a0, .int .i64 s0, .int .i64 t0, .slice A xs.length c, .int .i64 k0, .int .i64 n0] 72, Asn.qu k33 33 (.slice A xs.length c) xs ok, Asn.fk k33 ok2 t [.int .i64 t.f0, .string t.f1, .string t.f2, .int .u64 t.f3, .int .u64 t.f4, .string t.f5, .string t.f6, .slice A7 t.f7.length c7, .slice A8 t.f8.length c8], Asn.blk g1 [.int .i64 t.f0, .string t.f1, .string t.f2, .int .u64 t.f3, .int .u64 t.f4, .string t.f5, .string t.f6, .slice A6_3 ((t.f7).length) c6_3, .slice A6_7 ((t.f8).length) c6_7] 33, Asn.rd Kd.string ok2 A7 t.f7.length t.f7, Asn.rd Kd.string ok2 A8 t.f8.length t.f8, Asn.rd Kd.string _ A6_3 ((t.f7).length) t.f7, Asn.rd Kd.string _ A6_7 ((t.f8).length) t.f8, Asn.fk k33 _ t [.int .i64 t.f0, .string t.f1, .string t.f2, .int .u64 t.f3, .int .u64 t.f4, .string t.f5, .string t.f6, .slice A6_3 t.f7.length c6_3, .slice A6_7 t.f8.length c6_7]] W := H
        refine c_drawn (id := 7) (by kernel_rfl) (by kernel_rfl) (Vs [Asn.blk g [.int .i64 a0, .int .i64 s0, .int .i64 t0, .slice A xs.length c, .int .i64 k0, .int .i64 n0] 72, Asn.blk g1 [.int .i64 t.f0, .string t.f1, .string t.f2, .int .u64 t.f3, .int .u64 t.f4, .string t.f5, .string t.f6, .slice A6_3 ((t.f7).length) c6_3, .slice A6_7 ((t.f8).length) c6_7] 33]) [0, 0, 2, 6, 14, 0, 32, 126, 255, 511, 1023] [10] [(0, 0), (1, 0), (2, 0), (3, 0), (4, 1), (5, 1), (6, 2), (7, 2), (8, 0), (9, 0), (10, 2)] (by kernel_rfl) (fun _ _ d _ _ h => by cases d <;> exact h) (Vs.drew ⟨H.get 0 rfl, H.get 3 rfl, trivial⟩) ?_
        have H := H.drew
        generalize World.drew W = W at H ⊢
        refine sq0 (show Eq (α := OSk) _ (some (some 32, (.move (.tmp 0)), 23, none)) by kernel_rfl) trivial F (by decide) (v := .pointer (some ⟨g, 0, none⟩)) (fun W_ => x_move (F.slot rfl)) (fun a F => ?_)
        refine sq0 (show Eq (α := OSk) _ (some (some 33, (.move (.tmp 0)), 23, none)) by kernel_rfl) trivial F (by decide) (v := .pointer (some ⟨g, 0, none⟩)) (fun W_ => x_move (F.slot rfl)) (fun a F => ?_)
        refine sq0 (show Eq (α := OSk) _ (some (some 34, (.nilCheck (.tmp 33)), 0, none)) by kernel_rfl) trivial F (by decide) (v := .pointer (some ⟨g, 0, none⟩)) (fun W_ => x_nil (F.slot rfl)) (fun a F => ?_)
        refine sq0 (show Eq (α := OSk) _ (some (some 35, (.fieldAddr 72 (.tmp 34) 3), 0, none)) by kernel_rfl) trivial F (by decide) (v := .pointer (some ⟨g, 3, none⟩)) (fun W_ => x_field0 Tryd.underlying72 rfl rfl (Tryd.sizeOf38 W_) (F.slot rfl)) (fun a F => ?_)
        refine sq1 (show Eq (α := OSk) _ (some (some 36, (.load 38 (.tmp 35)), 38, none)) by kernel_rfl) trivial F (by decide) (⟨H.get 0 rfl, H.get 3 rfl, trivial⟩) (v := .slice A xs.length c) (fun W_ hV => x_load1 (Tryd.isAgg38 W_) (F.slot rfl) (bcell hV.1 rfl)) (fun a F => ?_)
        refine sq1 (show Eq (α := OSk) _ (some (some 37, (.load 33 (.tmp 3)), 33, none)) by kernel_rfl) trivial F (by decide) (⟨H.get 0 rfl, H.get 3 rfl, trivial⟩) (v := .agg #[.int .i64 t.f0, .string t.f1, .string t.f2, .int .u64 t.f3, .int .u64 t.f4, .string t.f5, .string t.f6, .slice A6_3 ((t.f7).length) c6_3, .slice A6_7 ((t.f8).length) c6_7]) (fun W_ hV => x_loadB (Tryd.isAgg33 W_) [.int .i64 t.f0, .string t.f1, .string t.f2, .int .u64 t.f3, .int .u64 t.f4, .string t.f5, .string t.f6, .slice A6_3 ((t.f7).length) c6_3, .slice A6_7 ((t.f8).length) c6_7] (Tryd.sizeOf33 W_) (F.slot rfl) (hV.2.1)) (fun a F => ?_)
        refine sq_bapp k33 1 8 (by decide) (show Eq (α := OSk) _ (some (some 38, (.buildSlice 38 1 #[(0, (.tmp 37))]), 38, none)) by kernel_rfl) trivial (show Eq (α := OSk) _ (some (some 39, (.call { callee := (.builtin .append), args := #[(.tmp 36), (.tmp 38)], argTypes := #[38, 38] }), 38, none)) by kernel_rfl) (fun _ => trivial) F (by decide) (by decide) rfl (fun a F => F.slot rfl) (F.slot rfl) rfl Tryd.underlying38 PB.info33 rfl (by decide) (by decide) (by decide) H rfl rfl (by omega) (fun W H => (fun _ => ⟨H.get 0 rfl, H.get 3 rfl, trivial⟩)) ?_
        intro v_ W a H F
        obtain ⟨AQ, cQ, rfl, hcQ⟩ := (H.qu 1 rfl).form
        have H : St w Sf Rf [Asn.blk g [.int .i64 a0, .int .i64 s0, .int .i64 t0, .slice A xs.length c, .int .i64 k0, .int .i64 n0] 72, Asn.qu k33 33 (.slice AQ (xs ++ [t]).length cQ) (xs ++ [t]) _, Asn.fk k33 ok2 t [.int .i64 t.f0, .string t.f1, .string t.f2, .int .u64 t.f3, .int .u64 t.f4, .string t.f5, .string t.f6, .slice A7 t.f7.length c7, .slice A8 t.f8.length c8], Asn.blk g1 [.int .i64 t.f0, .string t.f1, .string t.f2, .int .u64 t.f3, .int .u64 t.f4, .string t.f5, .string t.f6, .slice A6_3 ((t.f7).length) c6_3, .slice A6_7 ((t.f8).length) c6_7] 33, Asn.rd Kd.string ok2 A7 t.f7.length t.f7, Asn.rd Kd.string ok2 A8 t.f8.length t.f8, Asn.rd Kd.string _ A6_3 ((t.f7).length) t.f7, Asn.rd Kd.string _ A6_7 ((t.f8).length) t.f8, Asn.fk k33 _ t [.int .i64 t.f0, .string t.f1, .string t.f2, .int .u64 t.f3, .int .u64 t.f4, .string t.f5, .string t.f6, .slice A6_3 t.f7.length c6_3, .slice A6_7 t.f8.length c6_7]] W := H
        refine ⟨(fun _ => ⟨H.get 0 rfl, H.get 3 rfl, trivial⟩), ?_⟩
        refine sq0 (show Eq (α := OSk) _ (some (some 40, (.nilCheck (.tmp 32)), 0, none)) by kernel_rfl) trivial F (by decide) (v := .pointer (some ⟨g, 0, none⟩)) (fun W_ => x_nil (F.slot rfl)) (fun a F => ?_)
        refine sq0 (show Eq (α := OSk) _ (some (some 41, (.fieldAddr 72 (.tmp 40) 3), 0, none)) by kernel_rfl) trivial F (by decide) (v := .pointer (some ⟨g, 3, none⟩)) (fun W_ => x_field0 Tryd.underlying72 rfl rfl (Tryd.sizeOf38 W_) (F.slot rfl)) (fun a F => ?_)
        refine sq_put (M := [Asn.blk g [.int .i64 a0, .int .i64 s0, .int .i64 t0, .slice AQ ((xs ++ [t]).length) cQ, .int .i64 k0, .int .i64 n0] 72, Asn.qu k33 33 (.slice AQ (xs ++ [t]).length cQ) (xs ++ [t]) _, Asn.fk k33 ok2 t [.int .i64 t.f0, .string t.f1, .string t.f2, .int .u64 t.f3, .int .u64 t.f4, .string t.f5, .string t.f6, .slice A7 t.f7.length c7, .slice A8 t.f8.length c8], Asn.blk g1 [.int .i64 t.f0, .string t.f1, .string t.f2, .int .u64 t.f3, .int .u64 t.f4, .string t.f5, .string t.f6, .slice A6_3 ((t.f7).length) c6_3, .slice A6_7 ((t.f8).length) c6_7] 33, Asn.rd Kd.string ok2 A7 t.f7.length t.f7, Asn.rd Kd.string ok2 A8 t.f8.length t.f8, Asn.rd Kd.string _ A6_3 ((t.f7).length) t.f7, Asn.rd Kd.string _ A6_7 ((t.f8).length) t.f8, Asn.fk k33 _ t [.int .i64 t.f0, .string t.f1, .string t.f2, .int .u64 t.f3, .int .u64 t.f4, .string t.f5, .string t.f6, .slice A6_3 t.f7.length c6_3, .slice A6_7 t.f8.length c6_7]]) (show Eq (α := OSk) _ (some (none, (.store 38 (.tmp 41) (.tmp 39)), 0, none)) by kernel_rfl) trivial F (x_store H (k := 0) (cs' := [.int .i64 a0, .int .i64 s0, .int .i64 t0, .slice AQ ((xs ++ [t]).length) cQ, .int .i64 k0, .int .i64 n0]) rfl (Tryd.sizeOf38 W) (F.slot rfl) (F.slot rfl) rfl (Nat.le_of_ble_eq_true rfl) rfl rfl) ?_
        intro W H
        refine ⟨(fun h => absurd (by decide) h), ?_⟩
        unfold wpSeq
        refine t_normal ?_
        refine c_seq (by kernel_rfl) ?_
        refine c_text (id := 8) (by kernel_rfl) [(0, 2)] (by kernel_rfl) ?_
        refine sq2 (W' := W) (show Eq (α := OSk) _ (some (some 4, (.assign (.const (.int .i64 0))), 24, none)) by kernel_rfl) trivial F (by decide) (v := .int .i64 0) (x_assign rfl) (fun _ => trivial) (fun a F => ?_)
        unfold wpSeq
        refine t_normal ?_
        refine c_ret (by kernel_rfl) ?_
        refine p_tmp Tryd.results18 F rfl ?_
        exact .inr (.inr ⟨by rw [hz]; simpa using hb2, by omega, rfl, _, _, _, H.front 3⟩)
end Go.Proofs.YtndicjikjcifaaaDoor

/- The program's sealer: Tick. -/
namespace Go.Proofs.YtndicjikjcifaaaDoor
open Go.RowKit Go.Proofs.YtndicjikjcifaaaDoorW.PrintWords Go.Proofs.YtndicjikjcifaaaDoorW.PrintLast
set_option linter.unusedVariables false
set_option linter.unusedSimpArgs false
set_option maxRecDepth 100000
open PB (S33 k33)
/-- What Tick does to a sealer and answers. -/
def Ticked (g : Nat) (a0 s0 t0 k0 n0 : Int) (A : Option Addr) (c : Nat) (xs : List S33) (ok : Nat → Prop) (w : World) (Sf Rf : Nat → Prop) (e : Ending) (W : World) : Prop :=
  (xs.length = 0 ∧ e = .returned (.tuple #[.agg #[.int .i64 0, .int .i64 0, .slice none 0 0], .bool false]) ∧ St w Sf Rf [Asn.blk g [.int .i64 a0, .int .i64 s0, .int .i64 t0, .slice A xs.length c, .int .i64 k0, .int .i64 n0] 72, Asn.qu k33 33 (.slice A xs.length c) xs ok] W) ∨
  (xs.length ≠ 0 ∧ (xs.length : Int) < s0 ∧ k0 + 1 < t0 ∧ e = .returned (.tuple #[.agg #[.int .i64 0, .int .i64 0, .slice none 0 0], .bool false]) ∧ St w Sf Rf [Asn.blk g [.int .i64 a0, .int .i64 s0, .int .i64 t0, .slice A xs.length c, .int .i64 (k0 + 1), .int .i64 n0] 72, Asn.qu k33 33 (.slice A xs.length c) xs ok] W) ∨
  (xs.length ≠ 0 ∧ ¬ ((xs.length : Int) < s0 ∧ k0 + 1 < t0) ∧ ∃ m : Nat, (m : Int) = min s0 (xs.length : Int) ∧ e = .returned (.tuple #[.agg #[.int .i64 a0, .int .i64 (n0 + 1), .slice A m m], .bool true]) ∧ St w Sf Rf [Asn.blk g [.int .i64 a0, .int .i64 s0, .int .i64 t0, .slice (if c = m then A else A.map (·.add (m * 9))) (xs.length - m) (c - m), .int .i64 0, .int .i64 (n0 + 1)] 72, Asn.qf k33 33 (.slice (if c = m then A else A.map (·.add (m * 9))) (xs.length - m) (c - m)) (xs.drop m) ok A m (xs.take m)] W)
theorem x_min {P : Program} {a : Act} {W : World} {x y : Operand} {ty s : TypeId} {p q : Int} (hx : a.eval x = .int .i64 p) (hy : a.eval y = .int .i64 q) : (ex a (.call { callee := .builtin .min, args := #[x, y], argTypes := #[s, s] }) ty).run P W = .ok (.value (.int .i64 (min p q))) W := by
  have : (Builtin.min2 (.int .i64 p) (.int .i64 q)).run P W = .ok (.int .i64 (min p q)) W := by
    simp only [Builtin.min2]
    have e : (if q < p then q else p) = min p q := by split <;> omega
    rw [e]; rfl
  simp [ex, execOp, resolve, invoke, builtin, hx, hy, Builtin.min_, this]
set_option maxHeartbeats 1000000 in
theorem tick_calls (g : Nat) (a0 s0 t0 k0 n0 : Int) (A : Option Addr) (c : Nat) (xs : List S33) (ok : Nat → Prop) (w : World) {Sf Rf : Nat → Prop} (hs0 : 1 ≤ s0) (hs1 : s0 ≤ 16) (hk0 : 0 ≤ k0) (hk1 : k0 < 4611686018427387904) (hn0 : 0 ≤ n0) (hn1 : n0 < 4611686018427387904) (hxl : xs.length < 4611686018427387904)
    (H : St w Sf Rf [Asn.blk g [.int .i64 a0, .int .i64 s0, .int .i64 t0, .slice A xs.length c, .int .i64 k0, .int .i64 n0] 72, Asn.qu k33 33 (.slice A xs.length c) xs ok] w) : Calls Tryd.prog 21 #[.pointer (some ⟨g, 0, none⟩)] w (Ticked g a0 s0 t0 k0 n0 A c xs ok w Sf Rf) := by
  refine c_enter2 (args := [.pointer (some ⟨g, 0, none⟩)]) (S := Sf) (R := Rf) (M := [Asn.blk g [.int .i64 a0, .int .i64 s0, .int .i64 t0, .slice A xs.length c, .int .i64 k0, .int .i64 n0] 72, Asn.qu k33 33 (.slice A xs.length c) xs ok]) Tryd.func21 (by kernel_rfl) 88 Tryd.ntmps21 (Nat.le_of_ble_eq_true rfl) (H) (fun a W F H => ?_)
  have F := F.less [(0, .pointer (some ⟨g, 0, none⟩))] (subc rfl sub0)
  refine c_seq (by kernel_rfl) ?_
  refine c_text (id := 0) (by kernel_rfl) [(0, 2), (1, 2)] (by kernel_rfl) ?_
  refine sq_new (show Eq (α := OSk) _ (some (some 2, (.alloc 40), 0, none)) by kernel_rfl) trivial F (by decide) H [.int .i64 0, .int .i64 0, .slice none 0 0] 40 (x_alloc Tryd.zeroValue40 rfl) ?_
  intro g1 W a hg1 H F
  refine ⟨(fun _ => trivial), ?_⟩
  refine sq2 (W' := W) (show Eq (α := OSk) _ (some (some 3, (.assign (.const (.bool false))), 4, none)) by kernel_rfl) trivial F (by decide) (v := .bool false) (x_assign rfl) (fun _ => trivial) (fun a F => ?_)
  unfold wpSeq
  have H : St w Sf Rf [Asn.blk g [.int .i64 a0, .int .i64 s0, .int .i64 t0, .slice A xs.length c, .int .i64 k0, .int .i64 n0] 72, Asn.qu k33 33 (.slice A xs.length c) xs ok, Asn.blk g1 [.int .i64 0, .int .i64 0, .slice none 0 0] 40] W := H
  refine t_normal ?_
  refine c_seq (by kernel_rfl) ?_
  refine c_seq (by kernel_rfl) ?_
  refine c_text (id := 1) (by kernel_rfl) [(0, 2), (1, 2), (2, 2), (3, 2), (4, 2), (5, 2)] (by kernel_rfl) ?_
  refine sq2 (W' := W) (show Eq (α := OSk) _ (some (some 6, (.move (.tmp 0)), 23, none)) by kernel_rfl) trivial F (by decide) (v := .pointer (some ⟨g, 0, none⟩)) (x_move (F.slot rfl)) (fun _ => trivial) (fun a F => ?_)
  refine sq2 (W' := W) (show Eq (α := OSk) _ (some (some 7, (.nilCheck (.tmp 6)), 0, none)) by kernel_rfl) trivial F (by decide) (v := .pointer (some ⟨g, 0, none⟩)) (x_nil (F.slot rfl)) (fun _ => trivial) (fun a F => ?_)
  refine sq2 (W' := W) (show Eq (α := OSk) _ (some (some 8, (.fieldAddr 72 (.tmp 7) 3), 0, none)) by kernel_rfl) trivial F (by decide) (v := .pointer (some ⟨g, 3, none⟩)) (x_field0 Tryd.underlying72 rfl rfl (Tryd.sizeOf38 W) (F.slot rfl)) (fun _ => trivial) (fun a F => ?_)
  refine sq2 (show Eq (α := OSk) _ (some (some 9, (.load 38 (.tmp 8)), 38, none)) by kernel_rfl) trivial F (by decide) (v := .slice A xs.length c) (x_load1 (Tryd.isAgg38 W) (F.slot rfl) (H.cell 0 rfl rfl)) (fun _ => trivial) (fun a F => ?_)
  refine sq2 (W' := W) (show Eq (α := OSk) _ (some (some 10, (.call { callee := (.builtin .len), args := #[(.tmp 9)], argTypes := #[38] }), 3, none)) by kernel_rfl) trivial F (by decide) (v := .int .i64 (xs.length : Int)) (x_lenL Tryd.underlying38 (F.slot rfl)) (fun _ => trivial) (fun a F => ?_)
  refine sq2 (W' := W) (show Eq (α := OSk) _ (some (some 11, (.binOp .eql 3 (.tmp 10) (.const (.int .i64 0)) 3), 4, none)) by kernel_rfl) trivial F (by decide) (v := .bool ((xs.length : Int) == (0 : Int))) (x_int (F.slot rfl) rfl rfl) (fun _ => trivial) (fun a F => ?_)
  unfold wpSeq
  refine t_normal ?_
  rcases bool_or ((xs.length : Int) == (0 : Int)) with hb2 | hb2
  · have hb2d := eq_of_beq hb2
    have F := F.at 11 rfl (v' := .bool true) (congrArg Value.bool hb2)
    refine c_yes (c := .tmp 11) (by kernel_rfl) (F.slot rfl) ?_
    refine c_seq (by kernel_rfl) ?_
    refine c_text (id := 2) (by kernel_rfl) [(0, 2), (1, 2), (2, 2)] (by kernel_rfl) ?_
    refine sq2 (W' := W) (show Eq (α := OSk) _ (some (some 12, (.build 40 #[]), 40, none)) by kernel_rfl) trivial F (by decide) (v := .agg #[.int .i64 0, .int .i64 0, .slice none 0 0]) (by simp [ex, execOp, Instr.build, Tryd.zeroValue40, run_underlying Tryd.underlying40, Instr.fill, Value.cells, Tryd.sizeOf3, Tryd.sizeOf38]) (fun _ => trivial) (fun a F => ?_)
    refine sq_put (M := [Asn.blk g [.int .i64 a0, .int .i64 s0, .int .i64 t0, .slice A xs.length c, .int .i64 k0, .int .i64 n0] 72, Asn.qu k33 33 (.slice A xs.length c) xs ok, Asn.blk g1 [.int .i64 0, .int .i64 0, .slice none 0 0] 40]) (show Eq (α := OSk) _ (some (none, (.store 40 (.tmp 2) (.tmp 12)), 0, none)) by kernel_rfl) trivial F (x_store H (k := 2) (cs' := [.int .i64 0, .int .i64 0, .slice none 0 0]) rfl (Tryd.sizeOf40 W) (F.slot rfl) (F.slot rfl) rfl (Nat.le_of_ble_eq_true rfl) rfl rfl) ?_
    intro W H
    refine ⟨(fun _ => trivial), ?_⟩
    refine sq2 (W' := W) (show Eq (α := OSk) _ (some (some 3, (.assign (.const (.bool false))), 4, none)) by kernel_rfl) trivial F (by decide) (v := .bool false) (x_assign rfl) (fun _ => trivial) (fun a F => ?_)
    unfold wpSeq
    refine t_normal ?_
    refine c_ret (by kernel_rfl) ?_
    refine t_ret ?_
    refine p_list (rs := [.cell 2 40, .tmp 3]) (vs := [.agg #[.int .i64 0, .int .i64 0, .slice none 0 0], .bool false]) Tryd.results21 (by simp) F (Vals.cell' F rfl (H.blk 2 rfl) Tryd.underlying40 rfl (by kernel_rfl) (Vals.tmp' F rfl .nil)) ?_
    exact .inl ⟨by omega, rfl, H.front 2⟩
  · have hb2d := ne_of_beq_false hb2
    have F := F.at 11 rfl (v' := .bool false) (congrArg Value.bool hb2)
    refine c_no (c := .tmp 11) (by kernel_rfl) (F.slot rfl) ?_
    refine c_skip (by kernel_rfl) ?_
    refine t_normal ?_
    refine c_seq (by kernel_rfl) ?_
    refine c_text (id := 3) (by kernel_rfl) [(0, 2), (1, 2), (2, 2), (3, 2), (4, 2), (5, 2), (6, 2), (7, 2)] (by kernel_rfl) ?_
    refine sq2 (W' := W) (show Eq (α := OSk) _ (some (some 13, (.move (.tmp 0)), 23, none)) by kernel_rfl) trivial F (by decide) (v := .pointer (some ⟨g, 0, none⟩)) (x_move (F.slot rfl)) (fun _ => trivial) (fun a F => ?_)
    refine sq2 (W' := W) (show Eq (α := OSk) _ (some (some 14, (.nilCheck (.tmp 13)), 0, none)) by kernel_rfl) trivial F (by decide) (v := .pointer (some ⟨g, 0, none⟩)) (x_nil (F.slot rfl)) (fun _ => trivial) (fun a F => ?_)
    refine sq2 (W' := W) (show Eq (α := OSk) _ (some (some 15, (.fieldAddr 72 (.tmp 14) 4), 0, none)) by kernel_rfl) trivial F (by decide) (v := .pointer (some ⟨g, 4, none⟩)) (x_field0 Tryd.underlying72 rfl rfl (Tryd.sizeOf3 W) (F.slot rfl)) (fun _ => trivial) (fun a F => ?_)
    refine sq2 (show Eq (α := OSk) _ (some (some 16, (.load 3 (.tmp 15)), 3, none)) by kernel_rfl) trivial F (by decide) (v := .int .i64 k0) (x_load1 (Tryd.isAgg3 W) (F.slot rfl) (H.cell 0 rfl rfl)) (fun _ => trivial) (fun a F => ?_)
    refine sq2 (W' := W) (show Eq (α := OSk) _ (some (some 17, (.binOp .add 3 (.tmp 16) (.const (.int .i64 1)) 3), 3, none)) by kernel_rfl) trivial F (by decide) (v := .int .i64 (IntKind.i64.wrap (k0 + 1))) (x_int (F.slot rfl) rfl rfl) (fun _ => trivial) (fun a F => ?_)
    have F := F.conv (v' := .int .i64 (k0 + 1)) (congrArg (Value.int .i64) (wrap_i64 _ (by omega) (by omega)))
    refine sq2 (W' := W) (show Eq (α := OSk) _ (some (some 18, (.nilCheck (.tmp 13)), 0, none)) by kernel_rfl) trivial F (by decide) (v := .pointer (some ⟨g, 0, none⟩)) (x_nil (F.slot rfl)) (fun _ => trivial) (fun a F => ?_)
    refine sq2 (W' := W) (show Eq (α := OSk) _ (some (some 19, (.fieldAddr 72 (.tmp 18) 4), 0, none)) by kernel_rfl) trivial F (by decide) (v := .pointer (some ⟨g, 4, none⟩)) (x_field0 Tryd.underlying72 rfl rfl (Tryd.sizeOf3 W) (F.slot rfl)) (fun _ => trivial) (fun a F => ?_)
    refine sq_put (M := [Asn.blk g [.int .i64 a0, .int .i64 s0, .int .i64 t0, .slice A xs.length c, .int .i64 (k0 + 1), .int .i64 n0] 72, Asn.qu k33 33 (.slice A xs.length c) xs ok, Asn.blk g1 [.int .i64 0, .int .i64 0, .slice none 0 0] 40]) (show Eq (α := OSk) _ (some (none, (.store 3 (.tmp 19) (.tmp 17)), 0, none)) by kernel_rfl) trivial F (x_store H (k := 0) (cs' := [.int .i64 a0, .int .i64 s0, .int .i64 t0, .slice A xs.length c, .int .i64 (k0 + 1), .int .i64 n0]) rfl (Tryd.sizeOf3 W) (F.slot rfl) (F.slot rfl) rfl (Nat.le_of_ble_eq_true rfl) rfl rfl) ?_
    intro W H
    refine ⟨(fun _ => trivial), ?_⟩
    unfold wpSeq
    refine t_normal ?_
    refine c_seq (by kernel_rfl) ?_
    refine c_seq (by kernel_rfl) ?_
    refine c_drawn (id := 4) (by kernel_rfl) (by kernel_rfl) (Vs [Asn.blk g [.int .i64 a0, .int .i64 s0, .int .i64 t0, .slice A xs.length c, .int .i64 (k0 + 1), .int .i64 n0] 72]) [0, 1, 3, 7, 15, 0, 32, 96, 224, 511, 1023, 2047, 4095, 8191, 16383, 2047, 34815, 100351, 231423, 524287, 1048575] [] [(0, 0), (1, 0), (2, 0), (5, 0), (6, 0), (7, 0), (3, 1), (4, 0), (8, 1), (9, 0), (10, 0), (11, 0), (12, 0), (13, 0), (15, 0), (16, 0), (17, 0), (14, 1), (18, 1), (19, 0), (20, 0)] (by kernel_rfl) (fun _ _ d _ _ h => by cases d <;> exact h) (Vs.drew ⟨H.get 0 rfl, trivial⟩) ?_
    have H := H.drew
    generalize World.drew W = W at H ⊢
    refine sq0 (show Eq (α := OSk) _ (some (some 20, (.move (.tmp 0)), 23, none)) by kernel_rfl) trivial F (by decide) (v := .pointer (some ⟨g, 0, none⟩)) (fun W_ => x_move (F.slot rfl)) (fun a F => ?_)
    refine sq0 (show Eq (α := OSk) _ (some (some 21, (.nilCheck (.tmp 20)), 0, none)) by kernel_rfl) trivial F (by decide) (v := .pointer (some ⟨g, 0, none⟩)) (fun W_ => x_nil (F.slot rfl)) (fun a F => ?_)
    refine sq0 (show Eq (α := OSk) _ (some (some 22, (.fieldAddr 72 (.tmp 21) 3), 0, none)) by kernel_rfl) trivial F (by decide) (v := .pointer (some ⟨g, 3, none⟩)) (fun W_ => x_field0 Tryd.underlying72 rfl rfl (Tryd.sizeOf38 W_) (F.slot rfl)) (fun a F => ?_)
    refine sq0 (show Eq (α := OSk) _ (some (some 25, (.move (.tmp 0)), 23, none)) by kernel_rfl) trivial F (by decide) (v := .pointer (some ⟨g, 0, none⟩)) (fun W_ => x_move (F.slot rfl)) (fun a F => ?_)
    refine sq0 (show Eq (α := OSk) _ (some (some 26, (.nilCheck (.tmp 25)), 0, none)) by kernel_rfl) trivial F (by decide) (v := .pointer (some ⟨g, 0, none⟩)) (fun W_ => x_nil (F.slot rfl)) (fun a F => ?_)
    refine sq0 (show Eq (α := OSk) _ (some (some 27, (.fieldAddr 72 (.tmp 26) 1), 0, none)) by kernel_rfl) trivial F (by decide) (v := .pointer (some ⟨g, 1, none⟩)) (fun W_ => x_field0 Tryd.underlying72 rfl rfl (Tryd.sizeOf3 W_) (F.slot rfl)) (fun a F => ?_)
    refine sq1 (show Eq (α := OSk) _ (some (some 23, (.load 38 (.tmp 22)), 38, none)) by kernel_rfl) trivial F (by decide) (⟨H.get 0 rfl, trivial⟩) (v := .slice A xs.length c) (fun W_ hV => x_load1 (Tryd.isAgg38 W_) (F.slot rfl) (bcell hV.1 rfl)) (fun a F => ?_)
    refine sq0 (show Eq (α := OSk) _ (some (some 24, (.call { callee := (.builtin .len), args := #[(.tmp 23)], argTypes := #[38] }), 3, none)) by kernel_rfl) trivial F (by decide) (v := .int .i64 (xs.length : Int)) (fun W_ => x_lenL Tryd.underlying38 (F.slot rfl)) (fun a F => ?_)
    refine sq1 (show Eq (α := OSk) _ (some (some 28, (.load 3 (.tmp 27)), 3, none)) by kernel_rfl) trivial F (by decide) (⟨H.get 0 rfl, trivial⟩) (v := .int .i64 s0) (fun W_ hV => x_load1 (Tryd.isAgg3 W_) (F.slot rfl) (bcell hV.1 rfl)) (fun a F => ?_)
    refine sq0 (show Eq (α := OSk) _ (some (some 29, (.binOp .lss 3 (.tmp 24) (.tmp 28) 3), 4, none)) by kernel_rfl) trivial F (by decide) (v := .bool (decide ((xs.length : Int) < s0))) (fun W_ => x_int (F.slot rfl) (F.slot rfl) rfl) (fun a F => ?_)
    refine sq0 (show Eq (α := OSk) _ (some (some 30, (.move (.tmp 29)), 4, none)) by kernel_rfl) trivial F (by decide) (v := .bool (decide ((xs.length : Int) < s0))) (fun W_ => x_move (F.slot rfl)) (fun a F => ?_)
    rcases bool_or (decide ((xs.length : Int) < s0)) with hb4 | hb4
    · have hb4d := of_decide_eq_true hb4
      have F := F.at 30 rfl (v' := .bool true) (congrArg Value.bool hb4)
      refine sq0 (show Eq (α := OSk) _ (some (some 31, (.move (.tmp 0)), 23, some (10, true))) by kernel_rfl) ⟨30, by kernel_rfl, rfl⟩ F (by decide) (v := .pointer (some ⟨g, 0, none⟩)) (fun W_ => x_move (F.slot rfl)) (fun a F => ?_)
      refine sq0 (show Eq (α := OSk) _ (some (some 32, (.nilCheck (.tmp 31)), 0, some (10, true))) by kernel_rfl) ⟨30, by kernel_rfl, rfl⟩ F (by decide) (v := .pointer (some ⟨g, 0, none⟩)) (fun W_ => x_nil (F.slot rfl)) (fun a F => ?_)
      refine sq0 (show Eq (α := OSk) _ (some (some 33, (.fieldAddr 72 (.tmp 32) 4), 0, some (10, true))) by kernel_rfl) ⟨30, by kernel_rfl, rfl⟩ F (by decide) (v := .pointer (some ⟨g, 4, none⟩)) (fun W_ => x_field0 Tryd.underlying72 rfl rfl (Tryd.sizeOf3 W_) (F.slot rfl)) (fun a F => ?_)
      refine sq0 (show Eq (α := OSk) _ (some (some 35, (.move (.tmp 0)), 23, some (10, true))) by kernel_rfl) ⟨30, by kernel_rfl, rfl⟩ F (by decide) (v := .pointer (some ⟨g, 0, none⟩)) (fun W_ => x_move (F.slot rfl)) (fun a F => ?_)
      refine sq0 (show Eq (α := OSk) _ (some (some 36, (.nilCheck (.tmp 35)), 0, some (10, true))) by kernel_rfl) ⟨30, by kernel_rfl, rfl⟩ F (by decide) (v := .pointer (some ⟨g, 0, none⟩)) (fun W_ => x_nil (F.slot rfl)) (fun a F => ?_)
      refine sq0 (show Eq (α := OSk) _ (some (some 37, (.fieldAddr 72 (.tmp 36) 2), 0, some (10, true))) by kernel_rfl) ⟨30, by kernel_rfl, rfl⟩ F (by decide) (v := .pointer (some ⟨g, 2, none⟩)) (fun W_ => x_field0 Tryd.underlying72 rfl rfl (Tryd.sizeOf3 W_) (F.slot rfl)) (fun a F => ?_)
      refine sq1 (show Eq (α := OSk) _ (some (some 34, (.load 3 (.tmp 33)), 3, some (10, true))) by kernel_rfl) ⟨30, by kernel_rfl, rfl⟩ F (by decide) (⟨H.get 0 rfl, trivial⟩) (v := .int .i64 (k0 + 1)) (fun W_ hV => x_load1 (Tryd.isAgg3 W_) (F.slot rfl) (bcell hV.1 rfl)) (fun a F => ?_)
      refine sq1 (show Eq (α := OSk) _ (some (some 38, (.load 3 (.tmp 37)), 3, some (10, true))) by kernel_rfl) ⟨30, by kernel_rfl, rfl⟩ F (by decide) (⟨H.get 0 rfl, trivial⟩) (v := .int .i64 t0) (fun W_ hV => x_load1 (Tryd.isAgg3 W_) (F.slot rfl) (bcell hV.1 rfl)) (fun a F => ?_)
      refine sq0 (show Eq (α := OSk) _ (some (some 39, (.binOp .lss 3 (.tmp 34) (.tmp 38) 3), 4, some (10, true))) by kernel_rfl) ⟨30, by kernel_rfl, rfl⟩ F (by decide) (v := .bool (decide ((k0 + 1) < t0))) (fun W_ => x_int (F.slot rfl) (F.slot rfl) rfl) (fun a F => ?_)
      refine sq0 (show Eq (α := OSk) _ (some (some 40, (.pick (.tmp 30) (.tmp 39) (.const (.bool false))), 4, none)) by kernel_rfl) trivial F (by decide) (v := .bool (decide ((k0 + 1) < t0))) (fun W_ => x_pickT (F.slot rfl) (F.slot rfl)) (fun a F => ?_)
      unfold wpSeq
      refine t_normal ?_
      rcases bool_or (decide ((k0 + 1) < t0)) with hb5 | hb5
      · have hb5d := of_decide_eq_true hb5
        have F := F.at 40 rfl (v' := .bool true) (congrArg Value.bool hb5)
        refine c_yes (c := .tmp 40) (by kernel_rfl) (F.slot rfl) ?_
        refine c_seq (by kernel_rfl) ?_
        refine c_text (id := 5) (by kernel_rfl) [(0, 2), (1, 2), (2, 2)] (by kernel_rfl) ?_
        refine sq2 (W' := W) (show Eq (α := OSk) _ (some (some 41, (.build 40 #[]), 40, none)) by kernel_rfl) trivial F (by decide) (v := .agg #[.int .i64 0, .int .i64 0, .slice none 0 0]) (by simp [ex, execOp, Instr.build, Tryd.zeroValue40, run_underlying Tryd.underlying40, Instr.fill, Value.cells, Tryd.sizeOf3, Tryd.sizeOf38]) (fun _ => trivial) (fun a F => ?_)
        refine sq_put (M := [Asn.blk g [.int .i64 a0, .int .i64 s0, .int .i64 t0, .slice A xs.length c, .int .i64 (k0 + 1), .int .i64 n0] 72, Asn.qu k33 33 (.slice A xs.length c) xs ok, Asn.blk g1 [.int .i64 0, .int .i64 0, .slice none 0 0] 40]) (show Eq (α := OSk) _ (some (none, (.store 40 (.tmp 2) (.tmp 41)), 0, none)) by kernel_rfl) trivial F (x_store H (k := 2) (cs' := [.int .i64 0, .int .i64 0, .slice none 0 0]) rfl (Tryd.sizeOf40 W) (F.slot rfl) (F.slot rfl) rfl (Nat.le_of_ble_eq_true rfl) rfl rfl) ?_
        intro W H
        refine ⟨(fun _ => trivial), ?_⟩
        refine sq2 (W' := W) (show Eq (α := OSk) _ (some (some 3, (.assign (.const (.bool false))), 4, none)) by kernel_rfl) trivial F (by decide) (v := .bool false) (x_assign rfl) (fun _ => trivial) (fun a F => ?_)
        unfold wpSeq
        refine t_normal ?_
        refine c_ret (by kernel_rfl) ?_
        refine t_ret ?_
        refine p_list (rs := [.cell 2 40, .tmp 3]) (vs := [.agg #[.int .i64 0, .int .i64 0, .slice none 0 0], .bool false]) Tryd.results21 (by simp) F (Vals.cell' F rfl (H.blk 2 rfl) Tryd.underlying40 rfl (by kernel_rfl) (Vals.tmp' F rfl .nil)) ?_
        exact .inr (.inl ⟨by omega, by omega, by omega, rfl, H.front 2⟩)
      · have hb5d := of_decide_eq_false hb5
        have F := F.at 40 rfl (v' := .bool false) (congrArg Value.bool hb5)
        refine c_no (c := .tmp 40) (by kernel_rfl) (F.slot rfl) ?_
        refine c_skip (by kernel_rfl) ?_
        refine t_normal ?_
        refine c_seq (by kernel_rfl) ?_
        refine c_drawn (id := 6) (by kernel_rfl) (by kernel_rfl) (Vs [Asn.blk g [.int .i64 a0, .int .i64 s0, .int .i64 t0, .slice A xs.length c, .int .i64 (k0 + 1), .int .i64 n0] 72]) [0, 1, 3, 7, 0, 16, 48, 112, 240, 511, 1023] [] [(0, 0), (1, 0), (2, 0), (4, 0), (5, 0), (6, 0), (3, 1), (7, 1), (8, 0), (9, 0), (10, 0)] (by kernel_rfl) (fun _ _ d _ _ h => by cases d <;> exact h) (Vs.drew ⟨H.get 0 rfl, trivial⟩) ?_
        have H := H.drew
        generalize World.drew W = W at H ⊢
        refine sq0 (show Eq (α := OSk) _ (some (some 42, (.move (.tmp 0)), 23, none)) by kernel_rfl) trivial F (by decide) (v := .pointer (some ⟨g, 0, none⟩)) (fun W_ => x_move (F.slot rfl)) (fun a F => ?_)
        refine sq0 (show Eq (α := OSk) _ (some (some 43, (.nilCheck (.tmp 42)), 0, none)) by kernel_rfl) trivial F (by decide) (v := .pointer (some ⟨g, 0, none⟩)) (fun W_ => x_nil (F.slot rfl)) (fun a F => ?_)
        refine sq0 (show Eq (α := OSk) _ (some (some 44, (.fieldAddr 72 (.tmp 43) 1), 0, none)) by kernel_rfl) trivial F (by decide) (v := .pointer (some ⟨g, 1, none⟩)) (fun W_ => x_field0 Tryd.underlying72 rfl rfl (Tryd.sizeOf3 W_) (F.slot rfl)) (fun a F => ?_)
        refine sq0 (show Eq (α := OSk) _ (some (some 46, (.move (.tmp 0)), 23, none)) by kernel_rfl) trivial F (by decide) (v := .pointer (some ⟨g, 0, none⟩)) (fun W_ => x_move (F.slot rfl)) (fun a F => ?_)
        refine sq0 (show Eq (α := OSk) _ (some (some 47, (.nilCheck (.tmp 46)), 0, none)) by kernel_rfl) trivial F (by decide) (v := .pointer (some ⟨g, 0, none⟩)) (fun W_ => x_nil (F.slot rfl)) (fun a F => ?_)
        refine sq0 (show Eq (α := OSk) _ (some (some 48, (.fieldAddr 72 (.tmp 47) 3), 0, none)) by kernel_rfl) trivial F (by decide) (v := .pointer (some ⟨g, 3, none⟩)) (fun W_ => x_field0 Tryd.underlying72 rfl rfl (Tryd.sizeOf38 W_) (F.slot rfl)) (fun a F => ?_)
        refine sq1 (show Eq (α := OSk) _ (some (some 45, (.load 3 (.tmp 44)), 3, none)) by kernel_rfl) trivial F (by decide) (⟨H.get 0 rfl, trivial⟩) (v := .int .i64 s0) (fun W_ hV => x_load1 (Tryd.isAgg3 W_) (F.slot rfl) (bcell hV.1 rfl)) (fun a F => ?_)
        refine sq1 (show Eq (α := OSk) _ (some (some 49, (.load 38 (.tmp 48)), 38, none)) by kernel_rfl) trivial F (by decide) (⟨H.get 0 rfl, trivial⟩) (v := .slice A xs.length c) (fun W_ hV => x_load1 (Tryd.isAgg38 W_) (F.slot rfl) (bcell hV.1 rfl)) (fun a F => ?_)
        refine sq0 (show Eq (α := OSk) _ (some (some 50, (.call { callee := (.builtin .len), args := #[(.tmp 49)], argTypes := #[38] }), 3, none)) by kernel_rfl) trivial F (by decide) (v := .int .i64 (xs.length : Int)) (fun W_ => x_lenL Tryd.underlying38 (F.slot rfl)) (fun a F => ?_)
        refine sq0 (show Eq (α := OSk) _ (some (some 51, (.call { callee := (.builtin .min), args := #[(.tmp 45), (.tmp 50)], argTypes := #[3, 3] }), 3, none)) by kernel_rfl) trivial F (by decide) (v := .int .i64 (min s0 (xs.length : Int))) (fun W_ => x_min (F.slot rfl) (F.slot rfl)) (fun a F => ?_)
        refine sq0 (show Eq (α := OSk) _ (some (some 4, (.assign (.tmp 51)), 3, none)) by kernel_rfl) trivial F (by decide) (v := .int .i64 (min s0 (xs.length : Int))) (fun W_ => x_assign (F.slot rfl)) (fun a F => ?_)
        unfold wpSeq
        refine t_normal ?_
        refine c_seq (by kernel_rfl) ?_
        obtain ⟨m, hm⟩ : ∃ m : Nat, (m : Int) = min s0 (xs.length : Int) := ⟨(min s0 (xs.length : Int)).toNat, by omega⟩
        have F := F.at 51 rfl (v' := .int .i64 (m : Int)) (congrArg (Value.int .i64) hm.symm)
        have F := F.at 4 rfl (v' := .int .i64 (m : Int)) (congrArg (Value.int .i64) hm.symm)
        have hcl := (H.qu 1 rfl).read.2.1
        refine c_text (id := 7) (by kernel_rfl) [(0, 2), (1, 2), (2, 2), (3, 2), (4, 2), (5, 2), (6, 2), (7, 2)] (by kernel_rfl) ?_
        refine sq2 (W' := W) (show Eq (α := OSk) _ (some (some 52, (.move (.tmp 0)), 23, none)) by kernel_rfl) trivial F (by decide) (v := .pointer (some ⟨g, 0, none⟩)) (x_move (F.slot rfl)) (fun _ => trivial) (fun a F => ?_)
        refine sq2 (W' := W) (show Eq (α := OSk) _ (some (some 53, (.nilCheck (.tmp 52)), 0, none)) by kernel_rfl) trivial F (by decide) (v := .pointer (some ⟨g, 0, none⟩)) (x_nil (F.slot rfl)) (fun _ => trivial) (fun a F => ?_)
        refine sq2 (W' := W) (show Eq (α := OSk) _ (some (some 54, (.fieldAddr 72 (.tmp 53) 5), 0, none)) by kernel_rfl) trivial F (by decide) (v := .pointer (some ⟨g, 5, none⟩)) (x_field0 Tryd.underlying72 rfl rfl (Tryd.sizeOf3 W) (F.slot rfl)) (fun _ => trivial) (fun a F => ?_)
        refine sq2 (show Eq (α := OSk) _ (some (some 55, (.load 3 (.tmp 54)), 3, none)) by kernel_rfl) trivial F (by decide) (v := .int .i64 n0) (x_load1 (Tryd.isAgg3 W) (F.slot rfl) (H.cell 0 rfl rfl)) (fun _ => trivial) (fun a F => ?_)
        refine sq2 (W' := W) (show Eq (α := OSk) _ (some (some 56, (.binOp .add 3 (.tmp 55) (.const (.int .i64 1)) 3), 3, none)) by kernel_rfl) trivial F (by decide) (v := .int .i64 (IntKind.i64.wrap (n0 + 1))) (x_int (F.slot rfl) rfl rfl) (fun _ => trivial) (fun a F => ?_)
        have F := F.conv (v' := .int .i64 (n0 + 1)) (congrArg (Value.int .i64) (wrap_i64 _ (by omega) (by omega)))
        refine sq2 (W' := W) (show Eq (α := OSk) _ (some (some 57, (.nilCheck (.tmp 52)), 0, none)) by kernel_rfl) trivial F (by decide) (v := .pointer (some ⟨g, 0, none⟩)) (x_nil (F.slot rfl)) (fun _ => trivial) (fun a F => ?_)
        refine sq2 (W' := W) (show Eq (α := OSk) _ (some (some 58, (.fieldAddr 72 (.tmp 57) 5), 0, none)) by kernel_rfl) trivial F (by decide) (v := .pointer (some ⟨g, 5, none⟩)) (x_field0 Tryd.underlying72 rfl rfl (Tryd.sizeOf3 W) (F.slot rfl)) (fun _ => trivial) (fun a F => ?_)
        refine sq_put (M := [Asn.blk g [.int .i64 a0, .int .i64 s0, .int .i64 t0, .slice A xs.length c, .int .i64 (k0 + 1), .int .i64 (n0 + 1)] 72, Asn.qu k33 33 (.slice A xs.length c) xs ok, Asn.blk g1 [.int .i64 0, .int .i64 0, .slice none 0 0] 40]) (show Eq (α := OSk) _ (some (none, (.store 3 (.tmp 58) (.tmp 56)), 0, none)) by kernel_rfl) trivial F (x_store H (k := 0) (cs' := [.int .i64 a0, .int .i64 s0, .int .i64 t0, .slice A xs.length c, .int .i64 (k0 + 1), .int .i64 (n0 + 1)]) rfl (Tryd.sizeOf3 W) (F.slot rfl) (F.slot rfl) rfl (Nat.le_of_ble_eq_true rfl) rfl rfl) ?_
        intro W H
        refine ⟨(fun _ => trivial), ?_⟩
        unfold wpSeq
        refine t_normal ?_
        refine c_seq (by kernel_rfl) ?_
        refine c_drawn (id := 8) (by kernel_rfl) (by kernel_rfl) (Vs [Asn.blk g [.int .i64 a0, .int .i64 s0, .int .i64 t0, .slice A xs.length c, .int .i64 (k0 + 1), .int .i64 (n0 + 1)] 72]) [0, 1, 3, 7, 0, 16, 48, 112, 0, 256, 768, 1792, 0, 0, 16128, 32767, 0, 131071] [17] [(0, 0), (1, 0), (2, 0), (4, 0), (5, 0), (6, 0), (8, 0), (9, 0), (10, 0), (12, 0), (13, 0), (3, 1), (7, 1), (11, 1), (14, 0), (15, 0), (16, 2), (17, 2)] (by kernel_rfl) (fun _ _ d _ _ h => by cases d <;> exact h) (Vs.drew ⟨H.get 0 rfl, trivial⟩) ?_
        have H := H.drew
        generalize World.drew W = W at H ⊢
        refine sq0 (show Eq (α := OSk) _ (some (some 59, (.move (.tmp 0)), 23, none)) by kernel_rfl) trivial F (by decide) (v := .pointer (some ⟨g, 0, none⟩)) (fun W_ => x_move (F.slot rfl)) (fun a F => ?_)
        refine sq0 (show Eq (α := OSk) _ (some (some 60, (.nilCheck (.tmp 59)), 0, none)) by kernel_rfl) trivial F (by decide) (v := .pointer (some ⟨g, 0, none⟩)) (fun W_ => x_nil (F.slot rfl)) (fun a F => ?_)
        refine sq0 (show Eq (α := OSk) _ (some (some 61, (.fieldAddr 72 (.tmp 60) 0), 0, none)) by kernel_rfl) trivial F (by decide) (v := .pointer (some ⟨g, 0, none⟩)) (fun W_ => x_field0 Tryd.underlying72 rfl rfl (Tryd.sizeOf3 W_) (F.slot rfl)) (fun a F => ?_)
        refine sq0 (show Eq (α := OSk) _ (some (some 63, (.move (.tmp 0)), 23, none)) by kernel_rfl) trivial F (by decide) (v := .pointer (some ⟨g, 0, none⟩)) (fun W_ => x_move (F.slot rfl)) (fun a F => ?_)
        refine sq0 (show Eq (α := OSk) _ (some (some 64, (.nilCheck (.tmp 63)), 0, none)) by kernel_rfl) trivial F (by decide) (v := .pointer (some ⟨g, 0, none⟩)) (fun W_ => x_nil (F.slot rfl)) (fun a F => ?_)
        refine sq0 (show Eq (α := OSk) _ (some (some 65, (.fieldAddr 72 (.tmp 64) 5), 0, none)) by kernel_rfl) trivial F (by decide) (v := .pointer (some ⟨g, 5, none⟩)) (fun W_ => x_field0 Tryd.underlying72 rfl rfl (Tryd.sizeOf3 W_) (F.slot rfl)) (fun a F => ?_)
        refine sq0 (show Eq (α := OSk) _ (some (some 67, (.move (.tmp 0)), 23, none)) by kernel_rfl) trivial F (by decide) (v := .pointer (some ⟨g, 0, none⟩)) (fun W_ => x_move (F.slot rfl)) (fun a F => ?_)
        refine sq0 (show Eq (α := OSk) _ (some (some 68, (.nilCheck (.tmp 67)), 0, none)) by kernel_rfl) trivial F (by decide) (v := .pointer (some ⟨g, 0, none⟩)) (fun W_ => x_nil (F.slot rfl)) (fun a F => ?_)
        refine sq0 (show Eq (α := OSk) _ (some (some 69, (.fieldAddr 72 (.tmp 68) 3), 0, none)) by kernel_rfl) trivial F (by decide) (v := .pointer (some ⟨g, 3, none⟩)) (fun W_ => x_field0 Tryd.underlying72 rfl rfl (Tryd.sizeOf38 W_) (F.slot rfl)) (fun a F => ?_)
        refine sq0 (show Eq (α := OSk) _ (some (some 71, (.move (.tmp 4)), 3, none)) by kernel_rfl) trivial F (by decide) (v := .int .i64 (m : Int)) (fun W_ => x_move (F.slot rfl)) (fun a F => ?_)
        refine sq0 (show Eq (α := OSk) _ (some (some 72, (.move (.tmp 4)), 3, none)) by kernel_rfl) trivial F (by decide) (v := .int .i64 (m : Int)) (fun W_ => x_move (F.slot rfl)) (fun a F => ?_)
        refine sq1 (show Eq (α := OSk) _ (some (some 62, (.load 3 (.tmp 61)), 3, none)) by kernel_rfl) trivial F (by decide) (⟨H.get 0 rfl, trivial⟩) (v := .int .i64 a0) (fun W_ hV => x_load1 (Tryd.isAgg3 W_) (F.slot rfl) (bcell hV.1 rfl)) (fun a F => ?_)
        refine sq1 (show Eq (α := OSk) _ (some (some 66, (.load 3 (.tmp 65)), 3, none)) by kernel_rfl) trivial F (by decide) (⟨H.get 0 rfl, trivial⟩) (v := .int .i64 (n0 + 1)) (fun W_ hV => x_load1 (Tryd.isAgg3 W_) (F.slot rfl) (bcell hV.1 rfl)) (fun a F => ?_)
        refine sq1 (show Eq (α := OSk) _ (some (some 70, (.load 38 (.tmp 69)), 38, none)) by kernel_rfl) trivial F (by decide) (⟨H.get 0 rfl, trivial⟩) (v := .slice A xs.length c) (fun W_ hV => x_load1 (Tryd.isAgg38 W_) (F.slot rfl) (bcell hV.1 rfl)) (fun a F => ?_)
        refine sq0 (show Eq (α := OSk) _ (some (some 73, (.slice 38 (.tmp 70) none (some (.tmp 71)) (some (.tmp 72))), 38, none)) by kernel_rfl) trivial F (by decide) (v := .slice A m m) (fun W_ => x_sliceLm Tryd.underlying38 (Tryd.sizeOf33 W_) (F.slot rfl) (F.slot rfl) (F.slot rfl) (by omega)) (fun a F => ?_)
        refine sq0 (show Eq (α := OSk) _ (some (some 74, (.build 40 #[(0, (.tmp 62)), (1, (.tmp 66)), (2, (.tmp 73))]), 40, none)) by kernel_rfl) trivial F (by decide) (v := .agg #[.int .i64 a0, .int .i64 (n0 + 1), .slice A m m]) (fun W_ => by simp [ex, execOp, Instr.build, Tryd.zeroValue40, run_underlying Tryd.underlying40, Instr.fill, Value.cells, F.slot (i := 62) rfl, F.slot (i := 66) rfl, F.slot (i := 73) rfl, Tryd.sizeOf3, Tryd.sizeOf38]) (fun a F => ?_)
        refine sq_new (show Eq (α := OSk) _ (some (some 5, (.alloc 40), 0, none)) by kernel_rfl) trivial F (by decide) H [.int .i64 0, .int .i64 0, .slice none 0 0] 40 (x_alloc Tryd.zeroValue40 rfl) ?_
        intro g8 W a hg8 H F
        refine ⟨(fun _ => ⟨H.get 0 rfl, trivial⟩), ?_⟩
        refine sq_put (M := [Asn.blk g [.int .i64 a0, .int .i64 s0, .int .i64 t0, .slice A xs.length c, .int .i64 (k0 + 1), .int .i64 (n0 + 1)] 72, Asn.qu k33 33 (.slice A xs.length c) xs ok, Asn.blk g1 [.int .i64 0, .int .i64 0, .slice none 0 0] 40, Asn.blk g8 [.int .i64 a0, .int .i64 (n0 + 1), .slice A m m] 40]) (show Eq (α := OSk) _ (some (none, (.store 40 (.tmp 5) (.tmp 74)), 0, none)) by kernel_rfl) trivial F (x_store H (k := 3) (cs' := [.int .i64 a0, .int .i64 (n0 + 1), .slice A m m]) rfl (Tryd.sizeOf40 W) (F.slot rfl) (F.slot rfl) rfl (Nat.le_of_ble_eq_true rfl) rfl rfl) ?_
        intro W H
        refine ⟨(fun h => absurd (by decide) h), ?_⟩
        unfold wpSeq
        refine t_normal ?_
        refine c_seq (by kernel_rfl) ?_
        refine c_text (id := 9) (by kernel_rfl) [(0, 2), (1, 2), (2, 2), (3, 2), (4, 2), (5, 2), (6, 2), (7, 2), (8, 2), (9, 2), (10, 2), (11, 2), (12, 2), (13, 2)] (by kernel_rfl) ?_
        refine sq2 (W' := W) (show Eq (α := OSk) _ (some (some 75, (.move (.tmp 0)), 23, none)) by kernel_rfl) trivial F (by decide) (v := .pointer (some ⟨g, 0, none⟩)) (x_move (F.slot rfl)) (fun _ => trivial) (fun a F => ?_)
        refine sq2 (W' := W) (show Eq (α := OSk) _ (some (some 76, (.move (.tmp 0)), 23, none)) by kernel_rfl) trivial F (by decide) (v := .pointer (some ⟨g, 0, none⟩)) (x_move (F.slot rfl)) (fun _ => trivial) (fun a F => ?_)
        refine sq2 (W' := W) (show Eq (α := OSk) _ (some (some 77, (.move (.tmp 0)), 23, none)) by kernel_rfl) trivial F (by decide) (v := .pointer (some ⟨g, 0, none⟩)) (x_move (F.slot rfl)) (fun _ => trivial) (fun a F => ?_)
        refine sq2 (W' := W) (show Eq (α := OSk) _ (some (some 78, (.nilCheck (.tmp 77)), 0, none)) by kernel_rfl) trivial F (by decide) (v := .pointer (some ⟨g, 0, none⟩)) (x_nil (F.slot rfl)) (fun _ => trivial) (fun a F => ?_)
        refine sq2 (W' := W) (show Eq (α := OSk) _ (some (some 79, (.fieldAddr 72 (.tmp 78) 3), 0, none)) by kernel_rfl) trivial F (by decide) (v := .pointer (some ⟨g, 3, none⟩)) (x_field0 Tryd.underlying72 rfl rfl (Tryd.sizeOf38 W) (F.slot rfl)) (fun _ => trivial) (fun a F => ?_)
        refine sq2 (show Eq (α := OSk) _ (some (some 80, (.load 38 (.tmp 79)), 38, none)) by kernel_rfl) trivial F (by decide) (v := .slice A xs.length c) (x_load1 (Tryd.isAgg38 W) (F.slot rfl) (H.cell 0 rfl rfl)) (fun _ => trivial) (fun a F => ?_)
        refine sq2 (W' := W) (show Eq (α := OSk) _ (some (some 81, (.move (.tmp 4)), 3, none)) by kernel_rfl) trivial F (by decide) (v := .int .i64 (m : Int)) (x_move (F.slot rfl)) (fun _ => trivial) (fun a F => ?_)
        refine sq2 (W' := W) (show Eq (α := OSk) _ (some (some 82, (.slice 38 (.tmp 80) (some (.tmp 81)) none none), 38, none)) by kernel_rfl) trivial F (by decide) (v := .slice (if c = m then A else A.map (·.add (m * 9))) (xs.length - m) (c - m)) (x_sliceLl (z := 9) Tryd.underlying38 (Tryd.sizeOf33 W) (F.slot rfl) (F.slot rfl) (by omega)) (fun _ => trivial) (fun a F => ?_)
        refine sq2 (W' := W) (show Eq (α := OSk) _ (some (some 83, (.nilCheck (.tmp 75)), 0, none)) by kernel_rfl) trivial F (by decide) (v := .pointer (some ⟨g, 0, none⟩)) (x_nil (F.slot rfl)) (fun _ => trivial) (fun a F => ?_)
        refine sq2 (W' := W) (show Eq (α := OSk) _ (some (some 84, (.fieldAddr 72 (.tmp 83) 3), 0, none)) by kernel_rfl) trivial F (by decide) (v := .pointer (some ⟨g, 3, none⟩)) (x_field0 Tryd.underlying72 rfl rfl (Tryd.sizeOf38 W) (F.slot rfl)) (fun _ => trivial) (fun a F => ?_)
        refine sq_put (M := [Asn.blk g [.int .i64 a0, .int .i64 s0, .int .i64 t0, .slice (if c = m then A else A.map (·.add (m * 9))) (xs.length - m) (c - m), .int .i64 (k0 + 1), .int .i64 (n0 + 1)] 72, Asn.qu k33 33 (.slice A xs.length c) xs ok, Asn.blk g1 [.int .i64 0, .int .i64 0, .slice none 0 0] 40, Asn.blk g8 [.int .i64 a0, .int .i64 (n0 + 1), .slice A m m] 40]) (show Eq (α := OSk) _ (some (none, (.store 38 (.tmp 84) (.tmp 82)), 0, none)) by kernel_rfl) trivial F (x_store H (k := 0) (cs' := [.int .i64 a0, .int .i64 s0, .int .i64 t0, .slice (if c = m then A else A.map (·.add (m * 9))) (xs.length - m) (c - m), .int .i64 (k0 + 1), .int .i64 (n0 + 1)]) rfl (Tryd.sizeOf38 W) (F.slot rfl) (F.slot rfl) rfl (Nat.le_of_ble_eq_true rfl) rfl rfl) ?_
        intro W H
        refine ⟨(fun _ => trivial), ?_⟩
        refine sq2 (W' := W) (show Eq (α := OSk) _ (some (some 85, (.nilCheck (.tmp 76)), 0, none)) by kernel_rfl) trivial F (by decide) (v := .pointer (some ⟨g, 0, none⟩)) (x_nil (F.slot rfl)) (fun _ => trivial) (fun a F => ?_)
        refine sq2 (W' := W) (show Eq (α := OSk) _ (some (some 86, (.fieldAddr 72 (.tmp 85) 4), 0, none)) by kernel_rfl) trivial F (by decide) (v := .pointer (some ⟨g, 4, none⟩)) (x_field0 Tryd.underlying72 rfl rfl (Tryd.sizeOf3 W) (F.slot rfl)) (fun _ => trivial) (fun a F => ?_)
        refine sq_put (M := [Asn.blk g [.int .i64 a0, .int .i64 s0, .int .i64 t0, .slice (if c = m then A else A.map (·.add (m * 9))) (xs.length - m) (c - m), .int .i64 0, .int .i64 (n0 + 1)] 72, Asn.qu k33 33 (.slice A xs.length c) xs ok, Asn.blk g1 [.int .i64 0, .int .i64 0, .slice none 0 0] 40, Asn.blk g8 [.int .i64 a0, .int .i64 (n0 + 1), .slice A m m] 40]) (show Eq (α := OSk) _ (some (none, (.store 3 (.tmp 86) (.const (.int .i64 0))), 0, none)) by kernel_rfl) trivial F (x_store H (k := 0) (cs' := [.int .i64 a0, .int .i64 s0, .int .i64 t0, .slice (if c = m then A else A.map (·.add (m * 9))) (xs.length - m) (c - m), .int .i64 0, .int .i64 (n0 + 1)]) rfl (Tryd.sizeOf3 W) (F.slot rfl) rfl rfl (Nat.le_of_ble_eq_true rfl) rfl rfl) ?_
        intro W H
        refine ⟨(fun _ => trivial), ?_⟩
        unfold wpSeq
        refine t_normal ?_
        refine c_seq (by kernel_rfl) ?_
        refine c_text (id := 10) (by kernel_rfl) [(0, 2), (1, 2), (2, 2)] (by kernel_rfl) ?_
        refine sq2 (show Eq (α := OSk) _ (some (some 87, (.load 40 (.tmp 5)), 40, none)) by kernel_rfl) trivial F (by decide) (v := .agg #[.int .i64 a0, .int .i64 (n0 + 1), .slice A m m]) (x_loadB (Tryd.isAgg40 W) [.int .i64 a0, .int .i64 (n0 + 1), .slice A m m] (Tryd.sizeOf40 W) (F.slot rfl) (H.blk 3 rfl)) (fun _ => trivial) (fun a F => ?_)
        refine sq_put (M := [Asn.blk g [.int .i64 a0, .int .i64 s0, .int .i64 t0, .slice (if c = m then A else A.map (·.add (m * 9))) (xs.length - m) (c - m), .int .i64 0, .int .i64 (n0 + 1)] 72, Asn.qu k33 33 (.slice A xs.length c) xs ok, Asn.blk g1 [.int .i64 a0, .int .i64 (n0 + 1), .slice A m m] 40, Asn.blk g8 [.int .i64 a0, .int .i64 (n0 + 1), .slice A m m] 40]) (show Eq (α := OSk) _ (some (none, (.store 40 (.tmp 2) (.tmp 87)), 0, none)) by kernel_rfl) trivial F (x_store H (k := 2) (cs' := [.int .i64 a0, .int .i64 (n0 + 1), .slice A m m]) rfl (Tryd.sizeOf40 W) (F.slot rfl) (F.slot rfl) rfl (Nat.le_of_ble_eq_true rfl) rfl rfl) ?_
        intro W H
        refine ⟨(fun _ => trivial), ?_⟩
        refine sq2 (W' := W) (show Eq (α := OSk) _ (some (some 3, (.assign (.const (.bool true))), 4, none)) by kernel_rfl) trivial F (by decide) (v := .bool true) (x_assign rfl) (fun _ => trivial) (fun a F => ?_)
        unfold wpSeq
        refine t_normal ?_
        refine c_ret (by kernel_rfl) ?_
        refine p_list (rs := [.cell 2 40, .tmp 3]) (vs := [.agg #[.int .i64 a0, .int .i64 (n0 + 1), .slice A m m], .bool true]) Tryd.results21 (by simp) F (Vals.cell' F rfl (H.blk 2 rfl) Tryd.underlying40 rfl (by kernel_rfl) (Vals.tmp' F rfl .nil)) ?_
        have H := H.quCut 1 rfl m (by omega)
        exact .inr (.inr ⟨by omega, by omega, m, hm, rfl, H.front 2⟩)
    · have hb4d := of_decide_eq_false hb4
      have F := F.at 30 rfl (v' := .bool false) (congrArg Value.bool hb4)
      refine sqoff (e := 30) (show Eq (α := OSk) _ (some (some 31, (.move (.tmp 0)), 23, some (10, true))) by kernel_rfl) (by kernel_rfl) (.inl rfl) F (by decide) (fun a F => ?_)
      refine sqoff (e := 30) (show Eq (α := OSk) _ (some (some 32, (.nilCheck (.tmp 31)), 0, some (10, true))) by kernel_rfl) (by kernel_rfl) (.inl rfl) F (by decide) (fun a F => ?_)
      refine sqoff (e := 30) (show Eq (α := OSk) _ (some (some 33, (.fieldAddr 72 (.tmp 32) 4), 0, some (10, true))) by kernel_rfl) (by kernel_rfl) (.inl rfl) F (by decide) (fun a F => ?_)
      refine sqoff (e := 30) (show Eq (α := OSk) _ (some (some 35, (.move (.tmp 0)), 23, some (10, true))) by kernel_rfl) (by kernel_rfl) (.inl rfl) F (by decide) (fun a F => ?_)
      refine sqoff (e := 30) (show Eq (α := OSk) _ (some (some 36, (.nilCheck (.tmp 35)), 0, some (10, true))) by kernel_rfl) (by kernel_rfl) (.inl rfl) F (by decide) (fun a F => ?_)
      refine sqoff (e := 30) (show Eq (α := OSk) _ (some (some 37, (.fieldAddr 72 (.tmp 36) 2), 0, some (10, true))) by kernel_rfl) (by kernel_rfl) (.inl rfl) F (by decide) (fun a F => ?_)
      refine sqoff1 (e := 30) (show Eq (α := OSk) _ (some (some 34, (.load 3 (.tmp 33)), 3, some (10, true))) by kernel_rfl) (by kernel_rfl) (.inl rfl) F (by decide) (⟨H.get 0 rfl, trivial⟩) (fun a F => ?_)
      refine sqoff1 (e := 30) (show Eq (α := OSk) _ (some (some 38, (.load 3 (.tmp 37)), 3, some (10, true))) by kernel_rfl) (by kernel_rfl) (.inl rfl) F (by decide) (⟨H.get 0 rfl, trivial⟩) (fun a F => ?_)
      refine sqoff (e := 30) (show Eq (α := OSk) _ (some (some 39, (.binOp .lss 3 (.tmp 34) (.tmp 38) 3), 4, some (10, true))) by kernel_rfl) (by kernel_rfl) (.inl rfl) F (by decide) (fun a F => ?_)
      refine sq0 (show Eq (α := OSk) _ (some (some 40, (.pick (.tmp 30) (.tmp 39) (.const (.bool false))), 4, none)) by kernel_rfl) trivial F (by decide) (v := .bool false) (fun W_ => x_pickF (F.slot rfl) rfl) (fun a F => ?_)
      unfold wpSeq
      refine t_normal ?_
      refine c_no (c := .tmp 40) (by kernel_rfl) (F.slot rfl) ?_
      refine c_skip (by kernel_rfl) ?_
      refine t_normal ?_
      refine c_seq (by kernel_rfl) ?_
      refine c_drawn (id := 6) (by kernel_rfl) (by kernel_rfl) (Vs [Asn.blk g [.int .i64 a0, .int .i64 s0, .int .i64 t0, .slice A xs.length c, .int .i64 (k0 + 1), .int .i64 n0] 72]) [0, 1, 3, 7, 0, 16, 48, 112, 240, 511, 1023] [] [(0, 0), (1, 0), (2, 0), (4, 0), (5, 0), (6, 0), (3, 1), (7, 1), (8, 0), (9, 0), (10, 0)] (by kernel_rfl) (fun _ _ d _ _ h => by cases d <;> exact h) (Vs.drew ⟨H.get 0 rfl, trivial⟩) ?_
      have H := H.drew
      generalize World.drew W = W at H ⊢
      refine sq0 (show Eq (α := OSk) _ (some (some 42, (.move (.tmp 0)), 23, none)) by kernel_rfl) trivial F (by decide) (v := .pointer (some ⟨g, 0, none⟩)) (fun W_ => x_move (F.slot rfl)) (fun a F => ?_)
      refine sq0 (show Eq (α := OSk) _ (some (some 43, (.nilCheck (.tmp 42)), 0, none)) by kernel_rfl) trivial F (by decide) (v := .pointer (some ⟨g, 0, none⟩)) (fun W_ => x_nil (F.slot rfl)) (fun a F => ?_)
      refine sq0 (show Eq (α := OSk) _ (some (some 44, (.fieldAddr 72 (.tmp 43) 1), 0, none)) by kernel_rfl) trivial F (by decide) (v := .pointer (some ⟨g, 1, none⟩)) (fun W_ => x_field0 Tryd.underlying72 rfl rfl (Tryd.sizeOf3 W_) (F.slot rfl)) (fun a F => ?_)
      refine sq0 (show Eq (α := OSk) _ (some (some 46, (.move (.tmp 0)), 23, none)) by kernel_rfl) trivial F (by decide) (v := .pointer (some ⟨g, 0, none⟩)) (fun W_ => x_move (F.slot rfl)) (fun a F => ?_)
      refine sq0 (show Eq (α := OSk) _ (some (some 47, (.nilCheck (.tmp 46)), 0, none)) by kernel_rfl) trivial F (by decide) (v := .pointer (some ⟨g, 0, none⟩)) (fun W_ => x_nil (F.slot rfl)) (fun a F => ?_)
      refine sq0 (show Eq (α := OSk) _ (some (some 48, (.fieldAddr 72 (.tmp 47) 3), 0, none)) by kernel_rfl) trivial F (by decide) (v := .pointer (some ⟨g, 3, none⟩)) (fun W_ => x_field0 Tryd.underlying72 rfl rfl (Tryd.sizeOf38 W_) (F.slot rfl)) (fun a F => ?_)
      refine sq1 (show Eq (α := OSk) _ (some (some 45, (.load 3 (.tmp 44)), 3, none)) by kernel_rfl) trivial F (by decide) (⟨H.get 0 rfl, trivial⟩) (v := .int .i64 s0) (fun W_ hV => x_load1 (Tryd.isAgg3 W_) (F.slot rfl) (bcell hV.1 rfl)) (fun a F => ?_)
      refine sq1 (show Eq (α := OSk) _ (some (some 49, (.load 38 (.tmp 48)), 38, none)) by kernel_rfl) trivial F (by decide) (⟨H.get 0 rfl, trivial⟩) (v := .slice A xs.length c) (fun W_ hV => x_load1 (Tryd.isAgg38 W_) (F.slot rfl) (bcell hV.1 rfl)) (fun a F => ?_)
      refine sq0 (show Eq (α := OSk) _ (some (some 50, (.call { callee := (.builtin .len), args := #[(.tmp 49)], argTypes := #[38] }), 3, none)) by kernel_rfl) trivial F (by decide) (v := .int .i64 (xs.length : Int)) (fun W_ => x_lenL Tryd.underlying38 (F.slot rfl)) (fun a F => ?_)
      refine sq0 (show Eq (α := OSk) _ (some (some 51, (.call { callee := (.builtin .min), args := #[(.tmp 45), (.tmp 50)], argTypes := #[3, 3] }), 3, none)) by kernel_rfl) trivial F (by decide) (v := .int .i64 (min s0 (xs.length : Int))) (fun W_ => x_min (F.slot rfl) (F.slot rfl)) (fun a F => ?_)
      refine sq0 (show Eq (α := OSk) _ (some (some 4, (.assign (.tmp 51)), 3, none)) by kernel_rfl) trivial F (by decide) (v := .int .i64 (min s0 (xs.length : Int))) (fun W_ => x_assign (F.slot rfl)) (fun a F => ?_)
      unfold wpSeq
      refine t_normal ?_
      refine c_seq (by kernel_rfl) ?_
      obtain ⟨m, hm⟩ : ∃ m : Nat, (m : Int) = min s0 (xs.length : Int) := ⟨(min s0 (xs.length : Int)).toNat, by omega⟩
      have F := F.at 51 rfl (v' := .int .i64 (m : Int)) (congrArg (Value.int .i64) hm.symm)
      have F := F.at 4 rfl (v' := .int .i64 (m : Int)) (congrArg (Value.int .i64) hm.symm)
      have hcl := (H.qu 1 rfl).read.2.1
      refine c_text (id := 7) (by kernel_rfl) [(0, 2), (1, 2), (2, 2), (3, 2), (4, 2), (5, 2), (6, 2), (7, 2)] (by kernel_rfl) ?_
      refine sq2 (W' := W) (show Eq (α := OSk) _ (some (some 52, (.move (.tmp 0)), 23, none)) by kernel_rfl) trivial F (by decide) (v := .pointer (some ⟨g, 0, none⟩)) (x_move (F.slot rfl)) (fun _ => trivial) (fun a F => ?_)
      refine sq2 (W' := W) (show Eq (α := OSk) _ (some (some 53, (.nilCheck (.tmp 52)), 0, none)) by kernel_rfl) trivial F (by decide) (v := .pointer (some ⟨g, 0, none⟩)) (x_nil (F.slot rfl)) (fun _ => trivial) (fun a F => ?_)
      refine sq2 (W' := W) (show Eq (α := OSk) _ (some (some 54, (.fieldAddr 72 (.tmp 53) 5), 0, none)) by kernel_rfl) trivial F (by decide) (v := .pointer (some ⟨g, 5, none⟩)) (x_field0 Tryd.underlying72 rfl rfl (Tryd.sizeOf3 W) (F.slot rfl)) (fun _ => trivial) (fun a F => ?_)
      refine sq2 (show Eq (α := OSk) _ (some (some 55, (.load 3 (.tmp 54)), 3, none)) by kernel_rfl) trivial F (by decide) (v := .int .i64 n0) (x_load1 (Tryd.isAgg3 W) (F.slot rfl) (H.cell 0 rfl rfl)) (fun _ => trivial) (fun a F => ?_)
      refine sq2 (W' := W) (show Eq (α := OSk) _ (some (some 56, (.binOp .add 3 (.tmp 55) (.const (.int .i64 1)) 3), 3, none)) by kernel_rfl) trivial F (by decide) (v := .int .i64 (IntKind.i64.wrap (n0 + 1))) (x_int (F.slot rfl) rfl rfl) (fun _ => trivial) (fun a F => ?_)
      have F := F.conv (v' := .int .i64 (n0 + 1)) (congrArg (Value.int .i64) (wrap_i64 _ (by omega) (by omega)))
      refine sq2 (W' := W) (show Eq (α := OSk) _ (some (some 57, (.nilCheck (.tmp 52)), 0, none)) by kernel_rfl) trivial F (by decide) (v := .pointer (some ⟨g, 0, none⟩)) (x_nil (F.slot rfl)) (fun _ => trivial) (fun a F => ?_)
      refine sq2 (W' := W) (show Eq (α := OSk) _ (some (some 58, (.fieldAddr 72 (.tmp 57) 5), 0, none)) by kernel_rfl) trivial F (by decide) (v := .pointer (some ⟨g, 5, none⟩)) (x_field0 Tryd.underlying72 rfl rfl (Tryd.sizeOf3 W) (F.slot rfl)) (fun _ => trivial) (fun a F => ?_)
      refine sq_put (M := [Asn.blk g [.int .i64 a0, .int .i64 s0, .int .i64 t0, .slice A xs.length c, .int .i64 (k0 + 1), .int .i64 (n0 + 1)] 72, Asn.qu k33 33 (.slice A xs.length c) xs ok, Asn.blk g1 [.int .i64 0, .int .i64 0, .slice none 0 0] 40]) (show Eq (α := OSk) _ (some (none, (.store 3 (.tmp 58) (.tmp 56)), 0, none)) by kernel_rfl) trivial F (x_store H (k := 0) (cs' := [.int .i64 a0, .int .i64 s0, .int .i64 t0, .slice A xs.length c, .int .i64 (k0 + 1), .int .i64 (n0 + 1)]) rfl (Tryd.sizeOf3 W) (F.slot rfl) (F.slot rfl) rfl (Nat.le_of_ble_eq_true rfl) rfl rfl) ?_
      intro W H
      refine ⟨(fun _ => trivial), ?_⟩
      unfold wpSeq
      refine t_normal ?_
      refine c_seq (by kernel_rfl) ?_
      refine c_drawn (id := 8) (by kernel_rfl) (by kernel_rfl) (Vs [Asn.blk g [.int .i64 a0, .int .i64 s0, .int .i64 t0, .slice A xs.length c, .int .i64 (k0 + 1), .int .i64 (n0 + 1)] 72]) [0, 1, 3, 7, 0, 16, 48, 112, 0, 256, 768, 1792, 0, 0, 16128, 32767, 0, 131071] [17] [(0, 0), (1, 0), (2, 0), (4, 0), (5, 0), (6, 0), (8, 0), (9, 0), (10, 0), (12, 0), (13, 0), (3, 1), (7, 1), (11, 1), (14, 0), (15, 0), (16, 2), (17, 2)] (by kernel_rfl) (fun _ _ d _ _ h => by cases d <;> exact h) (Vs.drew ⟨H.get 0 rfl, trivial⟩) ?_
      have H := H.drew
      generalize World.drew W = W at H ⊢
      refine sq0 (show Eq (α := OSk) _ (some (some 59, (.move (.tmp 0)), 23, none)) by kernel_rfl) trivial F (by decide) (v := .pointer (some ⟨g, 0, none⟩)) (fun W_ => x_move (F.slot rfl)) (fun a F => ?_)
      refine sq0 (show Eq (α := OSk) _ (some (some 60, (.nilCheck (.tmp 59)), 0, none)) by kernel_rfl) trivial F (by decide) (v := .pointer (some ⟨g, 0, none⟩)) (fun W_ => x_nil (F.slot rfl)) (fun a F => ?_)
      refine sq0 (show Eq (α := OSk) _ (some (some 61, (.fieldAddr 72 (.tmp 60) 0), 0, none)) by kernel_rfl) trivial F (by decide) (v := .pointer (some ⟨g, 0, none⟩)) (fun W_ => x_field0 Tryd.underlying72 rfl rfl (Tryd.sizeOf3 W_) (F.slot rfl)) (fun a F => ?_)
      refine sq0 (show Eq (α := OSk) _ (some (some 63, (.move (.tmp 0)), 23, none)) by kernel_rfl) trivial F (by decide) (v := .pointer (some ⟨g, 0, none⟩)) (fun W_ => x_move (F.slot rfl)) (fun a F => ?_)
      refine sq0 (show Eq (α := OSk) _ (some (some 64, (.nilCheck (.tmp 63)), 0, none)) by kernel_rfl) trivial F (by decide) (v := .pointer (some ⟨g, 0, none⟩)) (fun W_ => x_nil (F.slot rfl)) (fun a F => ?_)
      refine sq0 (show Eq (α := OSk) _ (some (some 65, (.fieldAddr 72 (.tmp 64) 5), 0, none)) by kernel_rfl) trivial F (by decide) (v := .pointer (some ⟨g, 5, none⟩)) (fun W_ => x_field0 Tryd.underlying72 rfl rfl (Tryd.sizeOf3 W_) (F.slot rfl)) (fun a F => ?_)
      refine sq0 (show Eq (α := OSk) _ (some (some 67, (.move (.tmp 0)), 23, none)) by kernel_rfl) trivial F (by decide) (v := .pointer (some ⟨g, 0, none⟩)) (fun W_ => x_move (F.slot rfl)) (fun a F => ?_)
      refine sq0 (show Eq (α := OSk) _ (some (some 68, (.nilCheck (.tmp 67)), 0, none)) by kernel_rfl) trivial F (by decide) (v := .pointer (some ⟨g, 0, none⟩)) (fun W_ => x_nil (F.slot rfl)) (fun a F => ?_)
      refine sq0 (show Eq (α := OSk) _ (some (some 69, (.fieldAddr 72 (.tmp 68) 3), 0, none)) by kernel_rfl) trivial F (by decide) (v := .pointer (some ⟨g, 3, none⟩)) (fun W_ => x_field0 Tryd.underlying72 rfl rfl (Tryd.sizeOf38 W_) (F.slot rfl)) (fun a F => ?_)
      refine sq0 (show Eq (α := OSk) _ (some (some 71, (.move (.tmp 4)), 3, none)) by kernel_rfl) trivial F (by decide) (v := .int .i64 (m : Int)) (fun W_ => x_move (F.slot rfl)) (fun a F => ?_)
      refine sq0 (show Eq (α := OSk) _ (some (some 72, (.move (.tmp 4)), 3, none)) by kernel_rfl) trivial F (by decide) (v := .int .i64 (m : Int)) (fun W_ => x_move (F.slot rfl)) (fun a F => ?_)
      refine sq1 (show Eq (α := OSk) _ (some (some 62, (.load 3 (.tmp 61)), 3, none)) by kernel_rfl) trivial F (by decide) (⟨H.get 0 rfl, trivial⟩) (v := .int .i64 a0) (fun W_ hV => x_load1 (Tryd.isAgg3 W_) (F.slot rfl) (bcell hV.1 rfl)) (fun a F => ?_)
      refine sq1 (show Eq (α := OSk) _ (some (some 66, (.load 3 (.tmp 65)), 3, none)) by kernel_rfl) trivial F (by decide) (⟨H.get 0 rfl, trivial⟩) (v := .int .i64 (n0 + 1)) (fun W_ hV => x_load1 (Tryd.isAgg3 W_) (F.slot rfl) (bcell hV.1 rfl)) (fun a F => ?_)
      refine sq1 (show Eq (α := OSk) _ (some (some 70, (.load 38 (.tmp 69)), 38, none)) by kernel_rfl) trivial F (by decide) (⟨H.get 0 rfl, trivial⟩) (v := .slice A xs.length c) (fun W_ hV => x_load1 (Tryd.isAgg38 W_) (F.slot rfl) (bcell hV.1 rfl)) (fun a F => ?_)
      refine sq0 (show Eq (α := OSk) _ (some (some 73, (.slice 38 (.tmp 70) none (some (.tmp 71)) (some (.tmp 72))), 38, none)) by kernel_rfl) trivial F (by decide) (v := .slice A m m) (fun W_ => x_sliceLm Tryd.underlying38 (Tryd.sizeOf33 W_) (F.slot rfl) (F.slot rfl) (F.slot rfl) (by omega)) (fun a F => ?_)
      refine sq0 (show Eq (α := OSk) _ (some (some 74, (.build 40 #[(0, (.tmp 62)), (1, (.tmp 66)), (2, (.tmp 73))]), 40, none)) by kernel_rfl) trivial F (by decide) (v := .agg #[.int .i64 a0, .int .i64 (n0 + 1), .slice A m m]) (fun W_ => by simp [ex, execOp, Instr.build, Tryd.zeroValue40, run_underlying Tryd.underlying40, Instr.fill, Value.cells, F.slot (i := 62) rfl, F.slot (i := 66) rfl, F.slot (i := 73) rfl, Tryd.sizeOf3, Tryd.sizeOf38]) (fun a F => ?_)
      refine sq_new (show Eq (α := OSk) _ (some (some 5, (.alloc 40), 0, none)) by kernel_rfl) trivial F (by decide) H [.int .i64 0, .int .i64 0, .slice none 0 0] 40 (x_alloc Tryd.zeroValue40 rfl) ?_
      intro g11 W a hg11 H F
      refine ⟨(fun _ => ⟨H.get 0 rfl, trivial⟩), ?_⟩
      refine sq_put (M := [Asn.blk g [.int .i64 a0, .int .i64 s0, .int .i64 t0, .slice A xs.length c, .int .i64 (k0 + 1), .int .i64 (n0 + 1)] 72, Asn.qu k33 33 (.slice A xs.length c) xs ok, Asn.blk g1 [.int .i64 0, .int .i64 0, .slice none 0 0] 40, Asn.blk g11 [.int .i64 a0, .int .i64 (n0 + 1), .slice A m m] 40]) (show Eq (α := OSk) _ (some (none, (.store 40 (.tmp 5) (.tmp 74)), 0, none)) by kernel_rfl) trivial F (x_store H (k := 3) (cs' := [.int .i64 a0, .int .i64 (n0 + 1), .slice A m m]) rfl (Tryd.sizeOf40 W) (F.slot rfl) (F.slot rfl) rfl (Nat.le_of_ble_eq_true rfl) rfl rfl) ?_
      intro W H
      refine ⟨(fun h => absurd (by decide) h), ?_⟩
      unfold wpSeq
      refine t_normal ?_
      refine c_seq (by kernel_rfl) ?_
      refine c_text (id := 9) (by kernel_rfl) [(0, 2), (1, 2), (2, 2), (3, 2), (4, 2), (5, 2), (6, 2), (7, 2), (8, 2), (9, 2), (10, 2), (11, 2), (12, 2), (13, 2)] (by kernel_rfl) ?_
      refine sq2 (W' := W) (show Eq (α := OSk) _ (some (some 75, (.move (.tmp 0)), 23, none)) by kernel_rfl) trivial F (by decide) (v := .pointer (some ⟨g, 0, none⟩)) (x_move (F.slot rfl)) (fun _ => trivial) (fun a F => ?_)
      refine sq2 (W' := W) (show Eq (α := OSk) _ (some (some 76, (.move (.tmp 0)), 23, none)) by kernel_rfl) trivial F (by decide) (v := .pointer (some ⟨g, 0, none⟩)) (x_move (F.slot rfl)) (fun _ => trivial) (fun a F => ?_)
      refine sq2 (W' := W) (show Eq (α := OSk) _ (some (some 77, (.move (.tmp 0)), 23, none)) by kernel_rfl) trivial F (by decide) (v := .pointer (some ⟨g, 0, none⟩)) (x_move (F.slot rfl)) (fun _ => trivial) (fun a F => ?_)
      refine sq2 (W' := W) (show Eq (α := OSk) _ (some (some 78, (.nilCheck (.tmp 77)), 0, none)) by kernel_rfl) trivial F (by decide) (v := .pointer (some ⟨g, 0, none⟩)) (x_nil (F.slot rfl)) (fun _ => trivial) (fun a F => ?_)
      refine sq2 (W' := W) (show Eq (α := OSk) _ (some (some 79, (.fieldAddr 72 (.tmp 78) 3), 0, none)) by kernel_rfl) trivial F (by decide) (v := .pointer (some ⟨g, 3, none⟩)) (x_field0 Tryd.underlying72 rfl rfl (Tryd.sizeOf38 W) (F.slot rfl)) (fun _ => trivial) (fun a F => ?_)
      refine sq2 (show Eq (α := OSk) _ (some (some 80, (.load 38 (.tmp 79)), 38, none)) by kernel_rfl) trivial F (by decide) (v := .slice A xs.length c) (x_load1 (Tryd.isAgg38 W) (F.slot rfl) (H.cell 0 rfl rfl)) (fun _ => trivial) (fun a F => ?_)
      refine sq2 (W' := W) (show Eq (α := OSk) _ (some (some 81, (.move (.tmp 4)), 3, none)) by kernel_rfl) trivial F (by decide) (v := .int .i64 (m : Int)) (x_move (F.slot rfl)) (fun _ => trivial) (fun a F => ?_)
      refine sq2 (W' := W) (show Eq (α := OSk) _ (some (some 82, (.slice 38 (.tmp 80) (some (.tmp 81)) none none), 38, none)) by kernel_rfl) trivial F (by decide) (v := .slice (if c = m then A else A.map (·.add (m * 9))) (xs.length - m) (c - m)) (x_sliceLl (z := 9) Tryd.underlying38 (Tryd.sizeOf33 W) (F.slot rfl) (F.slot rfl) (by omega)) (fun _ => trivial) (fun a F => ?_)
      refine sq2 (W' := W) (show Eq (α := OSk) _ (some (some 83, (.nilCheck (.tmp 75)), 0, none)) by kernel_rfl) trivial F (by decide) (v := .pointer (some ⟨g, 0, none⟩)) (x_nil (F.slot rfl)) (fun _ => trivial) (fun a F => ?_)
      refine sq2 (W' := W) (show Eq (α := OSk) _ (some (some 84, (.fieldAddr 72 (.tmp 83) 3), 0, none)) by kernel_rfl) trivial F (by decide) (v := .pointer (some ⟨g, 3, none⟩)) (x_field0 Tryd.underlying72 rfl rfl (Tryd.sizeOf38 W) (F.slot rfl)) (fun _ => trivial) (fun a F => ?_)
      refine sq_put (M := [Asn.blk g [.int .i64 a0, .int .i64 s0, .int .i64 t0, .slice (if c = m then A else A.map (·.add (m * 9))) (xs.length - m) (c - m), .int .i64 (k0 + 1), .int .i64 (n0 + 1)] 72, Asn.qu k33 33 (.slice A xs.length c) xs ok, Asn.blk g1 [.int .i64 0, .int .i64 0, .slice none 0 0] 40, Asn.blk g11 [.int .i64 a0, .int .i64 (n0 + 1), .slice A m m] 40]) (show Eq (α := OSk) _ (some (none, (.store 38 (.tmp 84) (.tmp 82)), 0, none)) by kernel_rfl) trivial F (x_store H (k := 0) (cs' := [.int .i64 a0, .int .i64 s0, .int .i64 t0, .slice (if c = m then A else A.map (·.add (m * 9))) (xs.length - m) (c - m), .int .i64 (k0 + 1), .int .i64 (n0 + 1)]) rfl (Tryd.sizeOf38 W) (F.slot rfl) (F.slot rfl) rfl (Nat.le_of_ble_eq_true rfl) rfl rfl) ?_
      intro W H
      refine ⟨(fun _ => trivial), ?_⟩
      refine sq2 (W' := W) (show Eq (α := OSk) _ (some (some 85, (.nilCheck (.tmp 76)), 0, none)) by kernel_rfl) trivial F (by decide) (v := .pointer (some ⟨g, 0, none⟩)) (x_nil (F.slot rfl)) (fun _ => trivial) (fun a F => ?_)
      refine sq2 (W' := W) (show Eq (α := OSk) _ (some (some 86, (.fieldAddr 72 (.tmp 85) 4), 0, none)) by kernel_rfl) trivial F (by decide) (v := .pointer (some ⟨g, 4, none⟩)) (x_field0 Tryd.underlying72 rfl rfl (Tryd.sizeOf3 W) (F.slot rfl)) (fun _ => trivial) (fun a F => ?_)
      refine sq_put (M := [Asn.blk g [.int .i64 a0, .int .i64 s0, .int .i64 t0, .slice (if c = m then A else A.map (·.add (m * 9))) (xs.length - m) (c - m), .int .i64 0, .int .i64 (n0 + 1)] 72, Asn.qu k33 33 (.slice A xs.length c) xs ok, Asn.blk g1 [.int .i64 0, .int .i64 0, .slice none 0 0] 40, Asn.blk g11 [.int .i64 a0, .int .i64 (n0 + 1), .slice A m m] 40]) (show Eq (α := OSk) _ (some (none, (.store 3 (.tmp 86) (.const (.int .i64 0))), 0, none)) by kernel_rfl) trivial F (x_store H (k := 0) (cs' := [.int .i64 a0, .int .i64 s0, .int .i64 t0, .slice (if c = m then A else A.map (·.add (m * 9))) (xs.length - m) (c - m), .int .i64 0, .int .i64 (n0 + 1)]) rfl (Tryd.sizeOf3 W) (F.slot rfl) rfl rfl (Nat.le_of_ble_eq_true rfl) rfl rfl) ?_
      intro W H
      refine ⟨(fun _ => trivial), ?_⟩
      unfold wpSeq
      refine t_normal ?_
      refine c_seq (by kernel_rfl) ?_
      refine c_text (id := 10) (by kernel_rfl) [(0, 2), (1, 2), (2, 2)] (by kernel_rfl) ?_
      refine sq2 (show Eq (α := OSk) _ (some (some 87, (.load 40 (.tmp 5)), 40, none)) by kernel_rfl) trivial F (by decide) (v := .agg #[.int .i64 a0, .int .i64 (n0 + 1), .slice A m m]) (x_loadB (Tryd.isAgg40 W) [.int .i64 a0, .int .i64 (n0 + 1), .slice A m m] (Tryd.sizeOf40 W) (F.slot rfl) (H.blk 3 rfl)) (fun _ => trivial) (fun a F => ?_)
      refine sq_put (M := [Asn.blk g [.int .i64 a0, .int .i64 s0, .int .i64 t0, .slice (if c = m then A else A.map (·.add (m * 9))) (xs.length - m) (c - m), .int .i64 0, .int .i64 (n0 + 1)] 72, Asn.qu k33 33 (.slice A xs.length c) xs ok, Asn.blk g1 [.int .i64 a0, .int .i64 (n0 + 1), .slice A m m] 40, Asn.blk g11 [.int .i64 a0, .int .i64 (n0 + 1), .slice A m m] 40]) (show Eq (α := OSk) _ (some (none, (.store 40 (.tmp 2) (.tmp 87)), 0, none)) by kernel_rfl) trivial F (x_store H (k := 2) (cs' := [.int .i64 a0, .int .i64 (n0 + 1), .slice A m m]) rfl (Tryd.sizeOf40 W) (F.slot rfl) (F.slot rfl) rfl (Nat.le_of_ble_eq_true rfl) rfl rfl) ?_
      intro W H
      refine ⟨(fun _ => trivial), ?_⟩
      refine sq2 (W' := W) (show Eq (α := OSk) _ (some (some 3, (.assign (.const (.bool true))), 4, none)) by kernel_rfl) trivial F (by decide) (v := .bool true) (x_assign rfl) (fun _ => trivial) (fun a F => ?_)
      unfold wpSeq
      refine t_normal ?_
      refine c_ret (by kernel_rfl) ?_
      refine p_list (rs := [.cell 2 40, .tmp 3]) (vs := [.agg #[.int .i64 a0, .int .i64 (n0 + 1), .slice A m m], .bool true]) Tryd.results21 (by simp) F (Vals.cell' F rfl (H.blk 2 rfl) Tryd.underlying40 rfl (by kernel_rfl) (Vals.tmp' F rfl .nil)) ?_
      have H := H.quCut 1 rfl m (by omega)
      exact .inr (.inr ⟨by omega, by omega, m, hm, rfl, H.front 2⟩)
end Go.Proofs.YtndicjikjcifaaaDoor

/- The document's sealer: Tick. -/
namespace Go.Proofs.YtndicjikjcifaaaDoor
open Go.RowKit Go.Proofs.YtndicjikjcifaaaDoorW.PrintWords Go.Proofs.YtndicjikjcifaaaDoorW.PrintLast
set_option linter.unusedVariables false
set_option linter.unusedSimpArgs false
set_option maxRecDepth 100000
open PB (S33 k33)
/-- What Tick does to the document's sealer and answers. -/
def RTicked (g : Nat) (a0 s0 t0 k0 n0 : Int) (A : Option Addr) (c : Nat) (xs : List S33) (ok : Nat → Prop) (w : World) (Sf Rf : Nat → Prop) (e : Ending) (W : World) : Prop :=
  (xs.length = 0 ∧ e = .returned (.tuple #[.agg #[.int .i64 0, .int .i64 0, .slice none 0 0], .bool false]) ∧ St w Sf Rf [Asn.blk g [.int .i64 a0, .int .i64 s0, .int .i64 t0, .slice A xs.length c, .int .i64 k0, .int .i64 n0] 46, Asn.qu k33 33 (.slice A xs.length c) xs ok] W) ∨
  (xs.length ≠ 0 ∧ (xs.length : Int) < s0 ∧ k0 + 1 < t0 ∧ e = .returned (.tuple #[.agg #[.int .i64 0, .int .i64 0, .slice none 0 0], .bool false]) ∧ St w Sf Rf [Asn.blk g [.int .i64 a0, .int .i64 s0, .int .i64 t0, .slice A xs.length c, .int .i64 (k0 + 1), .int .i64 n0] 46, Asn.qu k33 33 (.slice A xs.length c) xs ok] W) ∨
  (xs.length ≠ 0 ∧ ¬ ((xs.length : Int) < s0 ∧ k0 + 1 < t0) ∧ ∃ (m : Nat) (A' : Option Addr) (c' : Nat) (ok' : Nat → Prop), (m : Int) = min s0 (xs.length : Int) ∧ (xs.take m).length ≤ c' ∧ e = .returned (.tuple #[.agg #[.int .i64 a0, .int .i64 (n0 + 1), .slice A' (xs.take m).length c'], .bool true]) ∧
    St w Sf Rf [Asn.blk g [.int .i64 a0, .int .i64 s0, .int .i64 t0, .slice (if c = m then A else A.map (·.add (m * 9))) (xs.length - m) (c - m), .int .i64 0, .int .i64 (n0 + 1)] 46, Asn.qu k33 33 (.slice (if c = m then A else A.map (·.add (m * 9))) (xs.length - m) (c - m)) (xs.drop m) ok, Asn.rd k33 ok' A' (xs.take m).length (xs.take m)] W)
set_option maxHeartbeats 1000000 in
theorem rtick_calls (g : Nat) (a0 s0 t0 k0 n0 : Int) (A : Option Addr) (c : Nat) (xs : List S33) (ok : Nat → Prop) (w : World) {Sf Rf : Nat → Prop} (hs0 : 1 ≤ s0) (hs1 : s0 ≤ 16) (hk0 : 0 ≤ k0) (hk1 : k0 < 4611686018427387904) (hn0 : 0 ≤ n0) (hn1 : n0 < 4611686018427387904) (hxl : xs.length < 4611686018427387904)
    (H : St w Sf Rf [Asn.blk g [.int .i64 a0, .int .i64 s0, .int .i64 t0, .slice A xs.length c, .int .i64 k0, .int .i64 n0] 46, Asn.qu k33 33 (.slice A xs.length c) xs ok] w) : Calls Tryd.prog 22 #[.pointer (some ⟨g, 0, none⟩)] w (RTicked g a0 s0 t0 k0 n0 A c xs ok w Sf Rf) := by
  refine c_enter2 (args := [.pointer (some ⟨g, 0, none⟩)]) (S := Sf) (R := Rf) (M := [Asn.blk g [.int .i64 a0, .int .i64 s0, .int .i64 t0, .slice A xs.length c, .int .i64 k0, .int .i64 n0] 46, Asn.qu k33 33 (.slice A xs.length c) xs ok]) Tryd.func22 (by kernel_rfl) 89 Tryd.ntmps22 (Nat.le_of_ble_eq_true rfl) (H) (fun a W F H => ?_)
  have F := F.less [(0, .pointer (some ⟨g, 0, none⟩))] (subc rfl sub0)
  refine c_seq (by kernel_rfl) ?_
  refine c_text (id := 0) (by kernel_rfl) [(0, 2), (1, 2)] (by kernel_rfl) ?_
  refine sq_new (show Eq (α := OSk) _ (some (some 2, (.alloc 40), 0, none)) by kernel_rfl) trivial F (by decide) H [.int .i64 0, .int .i64 0, .slice none 0 0] 40 (x_alloc Tryd.zeroValue40 rfl) ?_
  intro g1 W a hg1 H F
  refine ⟨(fun _ => trivial), ?_⟩
  refine sq2 (W' := W) (show Eq (α := OSk) _ (some (some 3, (.assign (.const (.bool false))), 4, none)) by kernel_rfl) trivial F (by decide) (v := .bool false) (x_assign rfl) (fun _ => trivial) (fun a F => ?_)
  unfold wpSeq
  have H : St w Sf Rf [Asn.blk g [.int .i64 a0, .int .i64 s0, .int .i64 t0, .slice A xs.length c, .int .i64 k0, .int .i64 n0] 46, Asn.qu k33 33 (.slice A xs.length c) xs ok, Asn.blk g1 [.int .i64 0, .int .i64 0, .slice none 0 0] 40] W := H
  refine t_normal ?_
  refine c_seq (by kernel_rfl) ?_
  refine c_seq (by kernel_rfl) ?_
  refine c_text (id := 1) (by kernel_rfl) [(0, 2), (1, 2), (2, 2), (3, 2), (4, 2), (5, 2)] (by kernel_rfl) ?_
  refine sq2 (W' := W) (show Eq (α := OSk) _ (some (some 6, (.move (.tmp 0)), 27, none)) by kernel_rfl) trivial F (by decide) (v := .pointer (some ⟨g, 0, none⟩)) (x_move (F.slot rfl)) (fun _ => trivial) (fun a F => ?_)
  refine sq2 (W' := W) (show Eq (α := OSk) _ (some (some 7, (.nilCheck (.tmp 6)), 0, none)) by kernel_rfl) trivial F (by decide) (v := .pointer (some ⟨g, 0, none⟩)) (x_nil (F.slot rfl)) (fun _ => trivial) (fun a F => ?_)
  refine sq2 (W' := W) (show Eq (α := OSk) _ (some (some 8, (.fieldAddr 46 (.tmp 7) 3), 0, none)) by kernel_rfl) trivial F (by decide) (v := .pointer (some ⟨g, 3, none⟩)) (x_field0 Tryd.underlying46 rfl rfl (Tryd.sizeOf38 W) (F.slot rfl)) (fun _ => trivial) (fun a F => ?_)
  refine sq2 (show Eq (α := OSk) _ (some (some 9, (.load 38 (.tmp 8)), 38, none)) by kernel_rfl) trivial F (by decide) (v := .slice A xs.length c) (x_load1 (Tryd.isAgg38 W) (F.slot rfl) (H.cell 0 rfl rfl)) (fun _ => trivial) (fun a F => ?_)
  refine sq2 (W' := W) (show Eq (α := OSk) _ (some (some 10, (.call { callee := (.builtin .len), args := #[(.tmp 9)], argTypes := #[38] }), 3, none)) by kernel_rfl) trivial F (by decide) (v := .int .i64 (xs.length : Int)) (x_lenL Tryd.underlying38 (F.slot rfl)) (fun _ => trivial) (fun a F => ?_)
  refine sq2 (W' := W) (show Eq (α := OSk) _ (some (some 11, (.binOp .eql 3 (.tmp 10) (.const (.int .i64 0)) 3), 4, none)) by kernel_rfl) trivial F (by decide) (v := .bool ((xs.length : Int) == (0 : Int))) (x_int (F.slot rfl) rfl rfl) (fun _ => trivial) (fun a F => ?_)
  unfold wpSeq
  refine t_normal ?_
  rcases bool_or ((xs.length : Int) == (0 : Int)) with hb2 | hb2
  · have hb2d := eq_of_beq hb2
    have F := F.at 11 rfl (v' := .bool true) (congrArg Value.bool hb2)
    refine c_yes (c := .tmp 11) (by kernel_rfl) (F.slot rfl) ?_
    refine c_seq (by kernel_rfl) ?_
    refine c_text (id := 2) (by kernel_rfl) [(0, 2), (1, 2), (2, 2)] (by kernel_rfl) ?_
    refine sq2 (W' := W) (show Eq (α := OSk) _ (some (some 12, (.build 40 #[]), 40, none)) by kernel_rfl) trivial F (by decide) (v := .agg #[.int .i64 0, .int .i64 0, .slice none 0 0]) (by simp [ex, execOp, Instr.build, Tryd.zeroValue40, run_underlying Tryd.underlying40, Instr.fill, Value.cells, Tryd.sizeOf3, Tryd.sizeOf38]) (fun _ => trivial) (fun a F => ?_)
    refine sq_put (M := [Asn.blk g [.int .i64 a0, .int .i64 s0, .int .i64 t0, .slice A xs.length c, .int .i64 k0, .int .i64 n0] 46, Asn.qu k33 33 (.slice A xs.length c) xs ok, Asn.blk g1 [.int .i64 0, .int .i64 0, .slice none 0 0] 40]) (show Eq (α := OSk) _ (some (none, (.store 40 (.tmp 2) (.tmp 12)), 0, none)) by kernel_rfl) trivial F (x_store H (k := 2) (cs' := [.int .i64 0, .int .i64 0, .slice none 0 0]) rfl (Tryd.sizeOf40 W) (F.slot rfl) (F.slot rfl) rfl (Nat.le_of_ble_eq_true rfl) rfl rfl) ?_
    intro W H
    refine ⟨(fun _ => trivial), ?_⟩
    refine sq2 (W' := W) (show Eq (α := OSk) _ (some (some 3, (.assign (.const (.bool false))), 4, none)) by kernel_rfl) trivial F (by decide) (v := .bool false) (x_assign rfl) (fun _ => trivial) (fun a F => ?_)
    unfold wpSeq
    refine t_normal ?_
    refine c_ret (by kernel_rfl) ?_
    refine t_ret ?_
    refine p_list (rs := [.cell 2 40, .tmp 3]) (vs := [.agg #[.int .i64 0, .int .i64 0, .slice none 0 0], .bool false]) Tryd.results22 (by simp) F (Vals.cell' F rfl (H.blk 2 rfl) Tryd.underlying40 rfl (by kernel_rfl) (Vals.tmp' F rfl .nil)) ?_
    exact .inl ⟨by omega, rfl, H.front 2⟩
  · have hb2d := ne_of_beq_false hb2
    have F := F.at 11 rfl (v' := .bool false) (congrArg Value.bool hb2)
    refine c_no (c := .tmp 11) (by kernel_rfl) (F.slot rfl) ?_
    refine c_skip (by kernel_rfl) ?_
    refine t_normal ?_
    refine c_seq (by kernel_rfl) ?_
    refine c_text (id := 3) (by kernel_rfl) [(0, 2), (1, 2), (2, 2), (3, 2), (4, 2), (5, 2), (6, 2), (7, 2)] (by kernel_rfl) ?_
    refine sq2 (W' := W) (show Eq (α := OSk) _ (some (some 13, (.move (.tmp 0)), 27, none)) by kernel_rfl) trivial F (by decide) (v := .pointer (some ⟨g, 0, none⟩)) (x_move (F.slot rfl)) (fun _ => trivial) (fun a F => ?_)
    refine sq2 (W' := W) (show Eq (α := OSk) _ (some (some 14, (.nilCheck (.tmp 13)), 0, none)) by kernel_rfl) trivial F (by decide) (v := .pointer (some ⟨g, 0, none⟩)) (x_nil (F.slot rfl)) (fun _ => trivial) (fun a F => ?_)
    refine sq2 (W' := W) (show Eq (α := OSk) _ (some (some 15, (.fieldAddr 46 (.tmp 14) 4), 0, none)) by kernel_rfl) trivial F (by decide) (v := .pointer (some ⟨g, 4, none⟩)) (x_field0 Tryd.underlying46 rfl rfl (Tryd.sizeOf3 W) (F.slot rfl)) (fun _ => trivial) (fun a F => ?_)
    refine sq2 (show Eq (α := OSk) _ (some (some 16, (.load 3 (.tmp 15)), 3, none)) by kernel_rfl) trivial F (by decide) (v := .int .i64 k0) (x_load1 (Tryd.isAgg3 W) (F.slot rfl) (H.cell 0 rfl rfl)) (fun _ => trivial) (fun a F => ?_)
    refine sq2 (W' := W) (show Eq (α := OSk) _ (some (some 17, (.binOp .add 3 (.tmp 16) (.const (.int .i64 1)) 3), 3, none)) by kernel_rfl) trivial F (by decide) (v := .int .i64 (IntKind.i64.wrap (k0 + 1))) (x_int (F.slot rfl) rfl rfl) (fun _ => trivial) (fun a F => ?_)
    have F := F.conv (v' := .int .i64 (k0 + 1)) (congrArg (Value.int .i64) (wrap_i64 _ (by omega) (by omega)))
    refine sq2 (W' := W) (show Eq (α := OSk) _ (some (some 18, (.nilCheck (.tmp 13)), 0, none)) by kernel_rfl) trivial F (by decide) (v := .pointer (some ⟨g, 0, none⟩)) (x_nil (F.slot rfl)) (fun _ => trivial) (fun a F => ?_)
    refine sq2 (W' := W) (show Eq (α := OSk) _ (some (some 19, (.fieldAddr 46 (.tmp 18) 4), 0, none)) by kernel_rfl) trivial F (by decide) (v := .pointer (some ⟨g, 4, none⟩)) (x_field0 Tryd.underlying46 rfl rfl (Tryd.sizeOf3 W) (F.slot rfl)) (fun _ => trivial) (fun a F => ?_)
    refine sq_put (M := [Asn.blk g [.int .i64 a0, .int .i64 s0, .int .i64 t0, .slice A xs.length c, .int .i64 (k0 + 1), .int .i64 n0] 46, Asn.qu k33 33 (.slice A xs.length c) xs ok, Asn.blk g1 [.int .i64 0, .int .i64 0, .slice none 0 0] 40]) (show Eq (α := OSk) _ (some (none, (.store 3 (.tmp 19) (.tmp 17)), 0, none)) by kernel_rfl) trivial F (x_store H (k := 0) (cs' := [.int .i64 a0, .int .i64 s0, .int .i64 t0, .slice A xs.length c, .int .i64 (k0 + 1), .int .i64 n0]) rfl (Tryd.sizeOf3 W) (F.slot rfl) (F.slot rfl) rfl (Nat.le_of_ble_eq_true rfl) rfl rfl) ?_
    intro W H
    refine ⟨(fun _ => trivial), ?_⟩
    unfold wpSeq
    refine t_normal ?_
    refine c_seq (by kernel_rfl) ?_
    refine c_seq (by kernel_rfl) ?_
    refine c_drawn (id := 4) (by kernel_rfl) (by kernel_rfl) (Vs [Asn.blk g [.int .i64 a0, .int .i64 s0, .int .i64 t0, .slice A xs.length c, .int .i64 (k0 + 1), .int .i64 n0] 46]) [0, 1, 3, 7, 15, 0, 32, 96, 224, 511, 1023, 2047, 4095, 8191, 16383, 2047, 34815, 100351, 231423, 524287, 1048575] [] [(0, 0), (1, 0), (2, 0), (5, 0), (6, 0), (7, 0), (3, 1), (4, 0), (8, 1), (9, 0), (10, 0), (11, 0), (12, 0), (13, 0), (15, 0), (16, 0), (17, 0), (14, 1), (18, 1), (19, 0), (20, 0)] (by kernel_rfl) (fun _ _ d _ _ h => by cases d <;> exact h) (Vs.drew ⟨H.get 0 rfl, trivial⟩) ?_
    have H := H.drew
    generalize World.drew W = W at H ⊢
    refine sq0 (show Eq (α := OSk) _ (some (some 20, (.move (.tmp 0)), 27, none)) by kernel_rfl) trivial F (by decide) (v := .pointer (some ⟨g, 0, none⟩)) (fun W_ => x_move (F.slot rfl)) (fun a F => ?_)
    refine sq0 (show Eq (α := OSk) _ (some (some 21, (.nilCheck (.tmp 20)), 0, none)) by kernel_rfl) trivial F (by decide) (v := .pointer (some ⟨g, 0, none⟩)) (fun W_ => x_nil (F.slot rfl)) (fun a F => ?_)
    refine sq0 (show Eq (α := OSk) _ (some (some 22, (.fieldAddr 46 (.tmp 21) 3), 0, none)) by kernel_rfl) trivial F (by decide) (v := .pointer (some ⟨g, 3, none⟩)) (fun W_ => x_field0 Tryd.underlying46 rfl rfl (Tryd.sizeOf38 W_) (F.slot rfl)) (fun a F => ?_)
    refine sq0 (show Eq (α := OSk) _ (some (some 25, (.move (.tmp 0)), 27, none)) by kernel_rfl) trivial F (by decide) (v := .pointer (some ⟨g, 0, none⟩)) (fun W_ => x_move (F.slot rfl)) (fun a F => ?_)
    refine sq0 (show Eq (α := OSk) _ (some (some 26, (.nilCheck (.tmp 25)), 0, none)) by kernel_rfl) trivial F (by decide) (v := .pointer (some ⟨g, 0, none⟩)) (fun W_ => x_nil (F.slot rfl)) (fun a F => ?_)
    refine sq0 (show Eq (α := OSk) _ (some (some 27, (.fieldAddr 46 (.tmp 26) 1), 0, none)) by kernel_rfl) trivial F (by decide) (v := .pointer (some ⟨g, 1, none⟩)) (fun W_ => x_field0 Tryd.underlying46 rfl rfl (Tryd.sizeOf3 W_) (F.slot rfl)) (fun a F => ?_)
    refine sq1 (show Eq (α := OSk) _ (some (some 23, (.load 38 (.tmp 22)), 38, none)) by kernel_rfl) trivial F (by decide) (⟨H.get 0 rfl, trivial⟩) (v := .slice A xs.length c) (fun W_ hV => x_load1 (Tryd.isAgg38 W_) (F.slot rfl) (bcell hV.1 rfl)) (fun a F => ?_)
    refine sq0 (show Eq (α := OSk) _ (some (some 24, (.call { callee := (.builtin .len), args := #[(.tmp 23)], argTypes := #[38] }), 3, none)) by kernel_rfl) trivial F (by decide) (v := .int .i64 (xs.length : Int)) (fun W_ => x_lenL Tryd.underlying38 (F.slot rfl)) (fun a F => ?_)
    refine sq1 (show Eq (α := OSk) _ (some (some 28, (.load 3 (.tmp 27)), 3, none)) by kernel_rfl) trivial F (by decide) (⟨H.get 0 rfl, trivial⟩) (v := .int .i64 s0) (fun W_ hV => x_load1 (Tryd.isAgg3 W_) (F.slot rfl) (bcell hV.1 rfl)) (fun a F => ?_)
    refine sq0 (show Eq (α := OSk) _ (some (some 29, (.binOp .lss 3 (.tmp 24) (.tmp 28) 3), 4, none)) by kernel_rfl) trivial F (by decide) (v := .bool (decide ((xs.length : Int) < s0))) (fun W_ => x_int (F.slot rfl) (F.slot rfl) rfl) (fun a F => ?_)
    refine sq0 (show Eq (α := OSk) _ (some (some 30, (.move (.tmp 29)), 4, none)) by kernel_rfl) trivial F (by decide) (v := .bool (decide ((xs.length : Int) < s0))) (fun W_ => x_move (F.slot rfl)) (fun a F => ?_)
    rcases bool_or (decide ((xs.length : Int) < s0)) with hb4 | hb4
    · have hb4d := of_decide_eq_true hb4
      have F := F.at 30 rfl (v' := .bool true) (congrArg Value.bool hb4)
      refine sq0 (show Eq (α := OSk) _ (some (some 31, (.move (.tmp 0)), 27, some (10, true))) by kernel_rfl) ⟨30, by kernel_rfl, rfl⟩ F (by decide) (v := .pointer (some ⟨g, 0, none⟩)) (fun W_ => x_move (F.slot rfl)) (fun a F => ?_)
      refine sq0 (show Eq (α := OSk) _ (some (some 32, (.nilCheck (.tmp 31)), 0, some (10, true))) by kernel_rfl) ⟨30, by kernel_rfl, rfl⟩ F (by decide) (v := .pointer (some ⟨g, 0, none⟩)) (fun W_ => x_nil (F.slot rfl)) (fun a F => ?_)
      refine sq0 (show Eq (α := OSk) _ (some (some 33, (.fieldAddr 46 (.tmp 32) 4), 0, some (10, true))) by kernel_rfl) ⟨30, by kernel_rfl, rfl⟩ F (by decide) (v := .pointer (some ⟨g, 4, none⟩)) (fun W_ => x_field0 Tryd.underlying46 rfl rfl (Tryd.sizeOf3 W_) (F.slot rfl)) (fun a F => ?_)
      refine sq0 (show Eq (α := OSk) _ (some (some 35, (.move (.tmp 0)), 27, some (10, true))) by kernel_rfl) ⟨30, by kernel_rfl, rfl⟩ F (by decide) (v := .pointer (some ⟨g, 0, none⟩)) (fun W_ => x_move (F.slot rfl)) (fun a F => ?_)
      refine sq0 (show Eq (α := OSk) _ (some (some 36, (.nilCheck (.tmp 35)), 0, some (10, true))) by kernel_rfl) ⟨30, by kernel_rfl, rfl⟩ F (by decide) (v := .pointer (some ⟨g, 0, none⟩)) (fun W_ => x_nil (F.slot rfl)) (fun a F => ?_)
      refine sq0 (show Eq (α := OSk) _ (some (some 37, (.fieldAddr 46 (.tmp 36) 2), 0, some (10, true))) by kernel_rfl) ⟨30, by kernel_rfl, rfl⟩ F (by decide) (v := .pointer (some ⟨g, 2, none⟩)) (fun W_ => x_field0 Tryd.underlying46 rfl rfl (Tryd.sizeOf3 W_) (F.slot rfl)) (fun a F => ?_)
      refine sq1 (show Eq (α := OSk) _ (some (some 34, (.load 3 (.tmp 33)), 3, some (10, true))) by kernel_rfl) ⟨30, by kernel_rfl, rfl⟩ F (by decide) (⟨H.get 0 rfl, trivial⟩) (v := .int .i64 (k0 + 1)) (fun W_ hV => x_load1 (Tryd.isAgg3 W_) (F.slot rfl) (bcell hV.1 rfl)) (fun a F => ?_)
      refine sq1 (show Eq (α := OSk) _ (some (some 38, (.load 3 (.tmp 37)), 3, some (10, true))) by kernel_rfl) ⟨30, by kernel_rfl, rfl⟩ F (by decide) (⟨H.get 0 rfl, trivial⟩) (v := .int .i64 t0) (fun W_ hV => x_load1 (Tryd.isAgg3 W_) (F.slot rfl) (bcell hV.1 rfl)) (fun a F => ?_)
      refine sq0 (show Eq (α := OSk) _ (some (some 39, (.binOp .lss 3 (.tmp 34) (.tmp 38) 3), 4, some (10, true))) by kernel_rfl) ⟨30, by kernel_rfl, rfl⟩ F (by decide) (v := .bool (decide ((k0 + 1) < t0))) (fun W_ => x_int (F.slot rfl) (F.slot rfl) rfl) (fun a F => ?_)
      refine sq0 (show Eq (α := OSk) _ (some (some 40, (.pick (.tmp 30) (.tmp 39) (.const (.bool false))), 4, none)) by kernel_rfl) trivial F (by decide) (v := .bool (decide ((k0 + 1) < t0))) (fun W_ => x_pickT (F.slot rfl) (F.slot rfl)) (fun a F => ?_)
      unfold wpSeq
      refine t_normal ?_
      rcases bool_or (decide ((k0 + 1) < t0)) with hb5 | hb5
      · have hb5d := of_decide_eq_true hb5
        have F := F.at 40 rfl (v' := .bool true) (congrArg Value.bool hb5)
        refine c_yes (c := .tmp 40) (by kernel_rfl) (F.slot rfl) ?_
        refine c_seq (by kernel_rfl) ?_
        refine c_text (id := 5) (by kernel_rfl) [(0, 2), (1, 2), (2, 2)] (by kernel_rfl) ?_
        refine sq2 (W' := W) (show Eq (α := OSk) _ (some (some 41, (.build 40 #[]), 40, none)) by kernel_rfl) trivial F (by decide) (v := .agg #[.int .i64 0, .int .i64 0, .slice none 0 0]) (by simp [ex, execOp, Instr.build, Tryd.zeroValue40, run_underlying Tryd.underlying40, Instr.fill, Value.cells, Tryd.sizeOf3, Tryd.sizeOf38]) (fun _ => trivial) (fun a F => ?_)
        refine sq_put (M := [Asn.blk g [.int .i64 a0, .int .i64 s0, .int .i64 t0, .slice A xs.length c, .int .i64 (k0 + 1), .int .i64 n0] 46, Asn.qu k33 33 (.slice A xs.length c) xs ok, Asn.blk g1 [.int .i64 0, .int .i64 0, .slice none 0 0] 40]) (show Eq (α := OSk) _ (some (none, (.store 40 (.tmp 2) (.tmp 41)), 0, none)) by kernel_rfl) trivial F (x_store H (k := 2) (cs' := [.int .i64 0, .int .i64 0, .slice none 0 0]) rfl (Tryd.sizeOf40 W) (F.slot rfl) (F.slot rfl) rfl (Nat.le_of_ble_eq_true rfl) rfl rfl) ?_
        intro W H
        refine ⟨(fun _ => trivial), ?_⟩
        refine sq2 (W' := W) (show Eq (α := OSk) _ (some (some 3, (.assign (.const (.bool false))), 4, none)) by kernel_rfl) trivial F (by decide) (v := .bool false) (x_assign rfl) (fun _ => trivial) (fun a F => ?_)
        unfold wpSeq
        refine t_normal ?_
        refine c_ret (by kernel_rfl) ?_
        refine t_ret ?_
        refine p_list (rs := [.cell 2 40, .tmp 3]) (vs := [.agg #[.int .i64 0, .int .i64 0, .slice none 0 0], .bool false]) Tryd.results22 (by simp) F (Vals.cell' F rfl (H.blk 2 rfl) Tryd.underlying40 rfl (by kernel_rfl) (Vals.tmp' F rfl .nil)) ?_
        exact .inr (.inl ⟨by omega, by omega, by omega, rfl, H.front 2⟩)
      · have hb5d := of_decide_eq_false hb5
        have F := F.at 40 rfl (v' := .bool false) (congrArg Value.bool hb5)
        refine c_no (c := .tmp 40) (by kernel_rfl) (F.slot rfl) ?_
        refine c_skip (by kernel_rfl) ?_
        refine t_normal ?_
        refine c_seq (by kernel_rfl) ?_
        refine c_drawn (id := 6) (by kernel_rfl) (by kernel_rfl) (Vs [Asn.blk g [.int .i64 a0, .int .i64 s0, .int .i64 t0, .slice A xs.length c, .int .i64 (k0 + 1), .int .i64 n0] 46]) [0, 1, 3, 7, 0, 16, 48, 112, 240, 511, 1023] [] [(0, 0), (1, 0), (2, 0), (4, 0), (5, 0), (6, 0), (3, 1), (7, 1), (8, 0), (9, 0), (10, 0)] (by kernel_rfl) (fun _ _ d _ _ h => by cases d <;> exact h) (Vs.drew ⟨H.get 0 rfl, trivial⟩) ?_
        have H := H.drew
        generalize World.drew W = W at H ⊢
        refine sq0 (show Eq (α := OSk) _ (some (some 42, (.move (.tmp 0)), 27, none)) by kernel_rfl) trivial F (by decide) (v := .pointer (some ⟨g, 0, none⟩)) (fun W_ => x_move (F.slot rfl)) (fun a F => ?_)
        refine sq0 (show Eq (α := OSk) _ (some (some 43, (.nilCheck (.tmp 42)), 0, none)) by kernel_rfl) trivial F (by decide) (v := .pointer (some ⟨g, 0, none⟩)) (fun W_ => x_nil (F.slot rfl)) (fun a F => ?_)
        refine sq0 (show Eq (α := OSk) _ (some (some 44, (.fieldAddr 46 (.tmp 43) 1), 0, none)) by kernel_rfl) trivial F (by decide) (v := .pointer (some ⟨g, 1, none⟩)) (fun W_ => x_field0 Tryd.underlying46 rfl rfl (Tryd.sizeOf3 W_) (F.slot rfl)) (fun a F => ?_)
        refine sq0 (show Eq (α := OSk) _ (some (some 46, (.move (.tmp 0)), 27, none)) by kernel_rfl) trivial F (by decide) (v := .pointer (some ⟨g, 0, none⟩)) (fun W_ => x_move (F.slot rfl)) (fun a F => ?_)
        refine sq0 (show Eq (α := OSk) _ (some (some 47, (.nilCheck (.tmp 46)), 0, none)) by kernel_rfl) trivial F (by decide) (v := .pointer (some ⟨g, 0, none⟩)) (fun W_ => x_nil (F.slot rfl)) (fun a F => ?_)
        refine sq0 (show Eq (α := OSk) _ (some (some 48, (.fieldAddr 46 (.tmp 47) 3), 0, none)) by kernel_rfl) trivial F (by decide) (v := .pointer (some ⟨g, 3, none⟩)) (fun W_ => x_field0 Tryd.underlying46 rfl rfl (Tryd.sizeOf38 W_) (F.slot rfl)) (fun a F => ?_)
        refine sq1 (show Eq (α := OSk) _ (some (some 45, (.load 3 (.tmp 44)), 3, none)) by kernel_rfl) trivial F (by decide) (⟨H.get 0 rfl, trivial⟩) (v := .int .i64 s0) (fun W_ hV => x_load1 (Tryd.isAgg3 W_) (F.slot rfl) (bcell hV.1 rfl)) (fun a F => ?_)
        refine sq1 (show Eq (α := OSk) _ (some (some 49, (.load 38 (.tmp 48)), 38, none)) by kernel_rfl) trivial F (by decide) (⟨H.get 0 rfl, trivial⟩) (v := .slice A xs.length c) (fun W_ hV => x_load1 (Tryd.isAgg38 W_) (F.slot rfl) (bcell hV.1 rfl)) (fun a F => ?_)
        refine sq0 (show Eq (α := OSk) _ (some (some 50, (.call { callee := (.builtin .len), args := #[(.tmp 49)], argTypes := #[38] }), 3, none)) by kernel_rfl) trivial F (by decide) (v := .int .i64 (xs.length : Int)) (fun W_ => x_lenL Tryd.underlying38 (F.slot rfl)) (fun a F => ?_)
        refine sq0 (show Eq (α := OSk) _ (some (some 51, (.call { callee := (.builtin .min), args := #[(.tmp 45), (.tmp 50)], argTypes := #[3, 3] }), 3, none)) by kernel_rfl) trivial F (by decide) (v := .int .i64 (min s0 (xs.length : Int))) (fun W_ => x_min (F.slot rfl) (F.slot rfl)) (fun a F => ?_)
        refine sq0 (show Eq (α := OSk) _ (some (some 4, (.assign (.tmp 51)), 3, none)) by kernel_rfl) trivial F (by decide) (v := .int .i64 (min s0 (xs.length : Int))) (fun W_ => x_assign (F.slot rfl)) (fun a F => ?_)
        unfold wpSeq
        refine t_normal ?_
        refine c_seq (by kernel_rfl) ?_
        obtain ⟨m, hm⟩ : ∃ m : Nat, (m : Int) = min s0 (xs.length : Int) := ⟨(min s0 (xs.length : Int)).toNat, by omega⟩
        have F := F.at 51 rfl (v' := .int .i64 (m : Int)) (congrArg (Value.int .i64) hm.symm)
        have F := F.at 4 rfl (v' := .int .i64 (m : Int)) (congrArg (Value.int .i64) hm.symm)
        have hcl := (H.qu 1 rfl).read.2.1
        refine c_text (id := 7) (by kernel_rfl) [(0, 2), (1, 2), (2, 2), (3, 2), (4, 2), (5, 2), (6, 2), (7, 2)] (by kernel_rfl) ?_
        refine sq2 (W' := W) (show Eq (α := OSk) _ (some (some 52, (.move (.tmp 0)), 27, none)) by kernel_rfl) trivial F (by decide) (v := .pointer (some ⟨g, 0, none⟩)) (x_move (F.slot rfl)) (fun _ => trivial) (fun a F => ?_)
        refine sq2 (W' := W) (show Eq (α := OSk) _ (some (some 53, (.nilCheck (.tmp 52)), 0, none)) by kernel_rfl) trivial F (by decide) (v := .pointer (some ⟨g, 0, none⟩)) (x_nil (F.slot rfl)) (fun _ => trivial) (fun a F => ?_)
        refine sq2 (W' := W) (show Eq (α := OSk) _ (some (some 54, (.fieldAddr 46 (.tmp 53) 5), 0, none)) by kernel_rfl) trivial F (by decide) (v := .pointer (some ⟨g, 5, none⟩)) (x_field0 Tryd.underlying46 rfl rfl (Tryd.sizeOf3 W) (F.slot rfl)) (fun _ => trivial) (fun a F => ?_)
        refine sq2 (show Eq (α := OSk) _ (some (some 55, (.load 3 (.tmp 54)), 3, none)) by kernel_rfl) trivial F (by decide) (v := .int .i64 n0) (x_load1 (Tryd.isAgg3 W) (F.slot rfl) (H.cell 0 rfl rfl)) (fun _ => trivial) (fun a F => ?_)
        refine sq2 (W' := W) (show Eq (α := OSk) _ (some (some 56, (.binOp .add 3 (.tmp 55) (.const (.int .i64 1)) 3), 3, none)) by kernel_rfl) trivial F (by decide) (v := .int .i64 (IntKind.i64.wrap (n0 + 1))) (x_int (F.slot rfl) rfl rfl) (fun _ => trivial) (fun a F => ?_)
        have F := F.conv (v' := .int .i64 (n0 + 1)) (congrArg (Value.int .i64) (wrap_i64 _ (by omega) (by omega)))
        refine sq2 (W' := W) (show Eq (α := OSk) _ (some (some 57, (.nilCheck (.tmp 52)), 0, none)) by kernel_rfl) trivial F (by decide) (v := .pointer (some ⟨g, 0, none⟩)) (x_nil (F.slot rfl)) (fun _ => trivial) (fun a F => ?_)
        refine sq2 (W' := W) (show Eq (α := OSk) _ (some (some 58, (.fieldAddr 46 (.tmp 57) 5), 0, none)) by kernel_rfl) trivial F (by decide) (v := .pointer (some ⟨g, 5, none⟩)) (x_field0 Tryd.underlying46 rfl rfl (Tryd.sizeOf3 W) (F.slot rfl)) (fun _ => trivial) (fun a F => ?_)
        refine sq_put (M := [Asn.blk g [.int .i64 a0, .int .i64 s0, .int .i64 t0, .slice A xs.length c, .int .i64 (k0 + 1), .int .i64 (n0 + 1)] 46, Asn.qu k33 33 (.slice A xs.length c) xs ok, Asn.blk g1 [.int .i64 0, .int .i64 0, .slice none 0 0] 40]) (show Eq (α := OSk) _ (some (none, (.store 3 (.tmp 58) (.tmp 56)), 0, none)) by kernel_rfl) trivial F (x_store H (k := 0) (cs' := [.int .i64 a0, .int .i64 s0, .int .i64 t0, .slice A xs.length c, .int .i64 (k0 + 1), .int .i64 (n0 + 1)]) rfl (Tryd.sizeOf3 W) (F.slot rfl) (F.slot rfl) rfl (Nat.le_of_ble_eq_true rfl) rfl rfl) ?_
        intro W H
        refine ⟨(fun _ => trivial), ?_⟩
        unfold wpSeq
        refine t_normal ?_
        refine c_cut (by kernel_rfl) (fun a W => ∃ (g8_17 : Nat) (A8_15 : Option Addr) (c8_15 : Nat), Fr 89 [(0, .pointer (some ⟨g, 0, none⟩)), (2, .pointer (some ⟨g1, 0, none⟩)), (3, .bool false), (6, .pointer (some ⟨g, 0, none⟩)), (7, .pointer (some ⟨g, 0, none⟩)), (8, .pointer (some ⟨g, 3, none⟩)), (9, .slice A xs.length c), (10, .int .i64 (xs.length : Int)), (11, .bool false), (13, .pointer (some ⟨g, 0, none⟩)), (14, .pointer (some ⟨g, 0, none⟩)), (15, .pointer (some ⟨g, 4, none⟩)), (16, .int .i64 k0), (17, .int .i64 (k0 + 1)), (18, .pointer (some ⟨g, 0, none⟩)), (19, .pointer (some ⟨g, 4, none⟩)), (20, .pointer (some ⟨g, 0, none⟩)), (21, .pointer (some ⟨g, 0, none⟩)), (22, .pointer (some ⟨g, 3, none⟩)), (25, .pointer (some ⟨g, 0, none⟩)), (26, .pointer (some ⟨g, 0, none⟩)), (27, .pointer (some ⟨g, 1, none⟩)), (23, .slice A xs.length c), (24, .int .i64 (xs.length : Int)), (28, .int .i64 s0), (29, .bool (decide ((xs.length : Int) < s0))), (30, .bool true), (31, .pointer (some ⟨g, 0, none⟩)), (32, .pointer (some ⟨g, 0, none⟩)), (33, .pointer (some ⟨g, 4, none⟩)), (35, .pointer (some ⟨g, 0, none⟩)), (36, .pointer (some ⟨g, 0, none⟩)), (37, .pointer (some ⟨g, 2, none⟩)), (34, .int .i64 (k0 + 1)), (38, .int .i64 t0), (39, .bool (decide ((k0 + 1) < t0))), (40, .bool false), (42, .pointer (some ⟨g, 0, none⟩)), (43, .pointer (some ⟨g, 0, none⟩)), (44, .pointer (some ⟨g, 1, none⟩)), (46, .pointer (some ⟨g, 0, none⟩)), (47, .pointer (some ⟨g, 0, none⟩)), (48, .pointer (some ⟨g, 3, none⟩)), (45, .int .i64 s0), (49, .slice A xs.length c), (50, .int .i64 (xs.length : Int)), (51, .int .i64 (m : Int)), (4, .int .i64 (m : Int)), (52, .pointer (some ⟨g, 0, none⟩)), (53, .pointer (some ⟨g, 0, none⟩)), (54, .pointer (some ⟨g, 5, none⟩)), (55, .int .i64 n0), (56, .int .i64 (n0 + 1)), (57, .pointer (some ⟨g, 0, none⟩)), (58, .pointer (some ⟨g, 5, none⟩)), (5, .pointer (some ⟨g8_17, 0, none⟩))] a ∧ St w Sf Rf [Asn.blk g [.int .i64 a0, .int .i64 s0, .int .i64 t0, .slice A xs.length c, .int .i64 (k0 + 1), .int .i64 (n0 + 1)] 46, Asn.qu k33 33 (.slice A xs.length c) xs ok, Asn.blk g1 [.int .i64 0, .int .i64 0, .slice none 0 0] 40, Asn.qu k33 33 (.slice A8_15 (((xs).take m).length) c8_15) ((xs).take m) ok, Asn.blk g8_17 [.int .i64 a0, .int .i64 (n0 + 1), .slice A8_15 (((xs).take m).length) c8_15] 40] W ∧ (((xs).take m).length ≤ c8_15)) ?_ ?_
        · refine c_drawnT (id := 8) (by kernel_rfl) (by kernel_rfl) (Vs [Asn.blk g [.int .i64 a0, .int .i64 s0, .int .i64 t0, .slice A xs.length c, .int .i64 (k0 + 1), .int .i64 (n0 + 1)] 46]) [0, 1, 3, 7, 0, 16, 48, 112, 0, 0, 512, 1536, 3584, 0, 15872, 32512, 65535, 0, 262143] [18] (.two [(0, 0), (1, 0), (2, 0), (4, 0), (5, 0), (6, 0), (9, 0), (10, 0), (11, 0), (13, 0), (3, 1), (7, 1), (12, 1), (14, 0)] 8 (.two [] 15 (.line [(16, 0), (17, 2), (18, 2)]) 17 (.line [(15, 2), (16, 0), (18, 2)])) 17 (.line [(8, 2), (15, 2), (16, 0), (18, 2)])) (by kernel_rfl) (fun _ _ d _ _ h => by cases d <;> exact h) (Vs.drew ⟨H.get 0 rfl, trivial⟩) ?_
          have H := H.drew
          generalize World.drew W = W at H ⊢
          refine t_two ?_
          refine sq0 (show Eq (α := OSk) _ (some (some 59, (.move (.tmp 0)), 27, none)) by kernel_rfl) trivial F (by decide) (v := .pointer (some ⟨g, 0, none⟩)) (fun W_ => x_move (F.slot rfl)) (fun a F => ?_)
          refine sq0 (show Eq (α := OSk) _ (some (some 60, (.nilCheck (.tmp 59)), 0, none)) by kernel_rfl) trivial F (by decide) (v := .pointer (some ⟨g, 0, none⟩)) (fun W_ => x_nil (F.slot rfl)) (fun a F => ?_)
          refine sq0 (show Eq (α := OSk) _ (some (some 61, (.fieldAddr 46 (.tmp 60) 0), 0, none)) by kernel_rfl) trivial F (by decide) (v := .pointer (some ⟨g, 0, none⟩)) (fun W_ => x_field0 Tryd.underlying46 rfl rfl (Tryd.sizeOf3 W_) (F.slot rfl)) (fun a F => ?_)
          refine sq0 (show Eq (α := OSk) _ (some (some 63, (.move (.tmp 0)), 27, none)) by kernel_rfl) trivial F (by decide) (v := .pointer (some ⟨g, 0, none⟩)) (fun W_ => x_move (F.slot rfl)) (fun a F => ?_)
          refine sq0 (show Eq (α := OSk) _ (some (some 64, (.nilCheck (.tmp 63)), 0, none)) by kernel_rfl) trivial F (by decide) (v := .pointer (some ⟨g, 0, none⟩)) (fun W_ => x_nil (F.slot rfl)) (fun a F => ?_)
          refine sq0 (show Eq (α := OSk) _ (some (some 65, (.fieldAddr 46 (.tmp 64) 5), 0, none)) by kernel_rfl) trivial F (by decide) (v := .pointer (some ⟨g, 5, none⟩)) (fun W_ => x_field0 Tryd.underlying46 rfl rfl (Tryd.sizeOf3 W_) (F.slot rfl)) (fun a F => ?_)
          refine sq0 (show Eq (α := OSk) _ (some (some 68, (.move (.tmp 0)), 27, none)) by kernel_rfl) trivial F (by decide) (v := .pointer (some ⟨g, 0, none⟩)) (fun W_ => x_move (F.slot rfl)) (fun a F => ?_)
          refine sq0 (show Eq (α := OSk) _ (some (some 69, (.nilCheck (.tmp 68)), 0, none)) by kernel_rfl) trivial F (by decide) (v := .pointer (some ⟨g, 0, none⟩)) (fun W_ => x_nil (F.slot rfl)) (fun a F => ?_)
          refine sq0 (show Eq (α := OSk) _ (some (some 70, (.fieldAddr 46 (.tmp 69) 3), 0, none)) by kernel_rfl) trivial F (by decide) (v := .pointer (some ⟨g, 3, none⟩)) (fun W_ => x_field0 Tryd.underlying46 rfl rfl (Tryd.sizeOf38 W_) (F.slot rfl)) (fun a F => ?_)
          refine sq0 (show Eq (α := OSk) _ (some (some 72, (.move (.tmp 4)), 3, none)) by kernel_rfl) trivial F (by decide) (v := .int .i64 (m : Int)) (fun W_ => x_move (F.slot rfl)) (fun a F => ?_)
          refine sq1 (show Eq (α := OSk) _ (some (some 62, (.load 3 (.tmp 61)), 3, none)) by kernel_rfl) trivial F (by decide) (⟨H.get 0 rfl, trivial⟩) (v := .int .i64 a0) (fun W_ hV => x_load1 (Tryd.isAgg3 W_) (F.slot rfl) (bcell hV.1 rfl)) (fun a F => ?_)
          refine sq1 (show Eq (α := OSk) _ (some (some 66, (.load 3 (.tmp 65)), 3, none)) by kernel_rfl) trivial F (by decide) (⟨H.get 0 rfl, trivial⟩) (v := .int .i64 (n0 + 1)) (fun W_ hV => x_load1 (Tryd.isAgg3 W_) (F.slot rfl) (bcell hV.1 rfl)) (fun a F => ?_)
          refine sq1 (show Eq (α := OSk) _ (some (some 71, (.load 38 (.tmp 70)), 38, none)) by kernel_rfl) trivial F (by decide) (⟨H.get 0 rfl, trivial⟩) (v := .slice A xs.length c) (fun W_ hV => x_load1 (Tryd.isAgg38 W_) (F.slot rfl) (bcell hV.1 rfl)) (fun a F => ?_)
          refine sq0 (show Eq (α := OSk) _ (some (some 73, (.slice 38 (.tmp 71) none (some (.tmp 72)) none), 38, none)) by kernel_rfl) trivial F (by decide) (v := .slice A m c) (fun W_ => x_sliceLh Tryd.underlying38 (Tryd.sizeOf33 W_) (F.slot rfl) (F.slot rfl) (by omega)) (fun a F => ?_)
          refine sq_nil ?_
          refine f_two ?_ ?_
          · refine sq_lit0 k33 (show Eq (α := OSk) _ (some (some 67, (.buildSlice 38 0 #[]), 38, none)) by kernel_rfl) trivial F (by decide) Tryd.underlying38 (show (Tryd.prog.info? 33).map (fun i => (i.zero, i.size, i.bytes)) = some (some (.agg #[.int .i64 0, .string ⟨#[]⟩, .string ⟨#[]⟩, .int .u64 0, .int .u64 0, .string ⟨#[]⟩, .string ⟨#[]⟩, .slice none 0 0, .slice none 0 0]), 9, 136) by kernel_rfl) H ?_
            intro A8_8 W a H F
            refine ⟨(fun _ => ⟨H.get 0 rfl, trivial⟩), ?_⟩
            refine sq_nil ?_
            refine t_normal ?_
            refine t_two ?_
            refine sq_nil ?_
            refine f_two ?_ ?_
            · refine sq_qapp k33 3 1 (by decide) (show Eq (α := OSk) _ (some (some 74, (.call { callee := (.builtin .append), args := #[(.tmp 67), (.tmp 73)], argTypes := #[38, 38] }), 38, none)) by kernel_rfl) trivial F (by decide) (F.slot rfl) (F.slot rfl) (by omega) Tryd.underlying38 (show (Tryd.prog.info? 33).map (fun i => (i.zero, i.size, i.bytes)) = some (some (.agg #[.int .i64 0, .string ⟨#[]⟩, .string ⟨#[]⟩, .int .u64 0, .int .u64 0, .string ⟨#[]⟩, .string ⟨#[]⟩, .slice none 0 0, .slice none 0 0]), 9, 136) by kernel_rfl) rfl (by decide) (by decide) H rfl rfl (by simp only [List.length_nil]; omega) ?_
              intro v_ W a H F
              rw [List.nil_append] at H
              simp only [false_or] at H
              obtain ⟨A8_15, c8_15, rfl, hc8_15⟩ := (H.qu 3 rfl).form
              have H : St w Sf Rf [Asn.blk g [.int .i64 a0, .int .i64 s0, .int .i64 t0, .slice A xs.length c, .int .i64 (k0 + 1), .int .i64 (n0 + 1)] 46, Asn.qu k33 33 (.slice A xs.length c) xs ok, Asn.blk g1 [.int .i64 0, .int .i64 0, .slice none 0 0] 40, Asn.qu k33 33 (.slice A8_15 (((xs).take m).length) c8_15) ((xs).take m) ok] W := H
              refine ⟨(fun _ => ⟨H.get 0 rfl, trivial⟩), ?_⟩
              refine sq_nil ?_
              refine t_normal ?_
              refine t_line ?_
              refine sq0 (show Eq (α := OSk) _ (some (some 75, (.build 40 #[(0, (.tmp 62)), (1, (.tmp 66)), (2, (.tmp 74))]), 40, none)) by kernel_rfl) trivial F (by decide) (v := .agg #[.int .i64 a0, .int .i64 (n0 + 1), .slice A8_15 (((xs).take m).length) c8_15]) (fun W_ => by simp [ex, execOp, Instr.build, Tryd.zeroValue40, run_underlying Tryd.underlying40, Instr.fill, Value.cells, F.slot (i := 62) rfl, F.slot (i := 66) rfl, F.slot (i := 74) rfl, Tryd.sizeOf3, Tryd.sizeOf38]) (fun a F => ?_)
              refine sq_new (show Eq (α := OSk) _ (some (some 5, (.alloc 40), 0, none)) by kernel_rfl) trivial F (by decide) H [.int .i64 0, .int .i64 0, .slice none 0 0] 40 (x_alloc Tryd.zeroValue40 rfl) ?_
              intro g8_17 W a hg8_17 H F
              refine ⟨(fun _ => ⟨H.get 0 rfl, trivial⟩), ?_⟩
              refine sq_put (M := [Asn.blk g [.int .i64 a0, .int .i64 s0, .int .i64 t0, .slice A xs.length c, .int .i64 (k0 + 1), .int .i64 (n0 + 1)] 46, Asn.qu k33 33 (.slice A xs.length c) xs ok, Asn.blk g1 [.int .i64 0, .int .i64 0, .slice none 0 0] 40, Asn.qu k33 33 (.slice A8_15 (((xs).take m).length) c8_15) ((xs).take m) ok, Asn.blk g8_17 [.int .i64 a0, .int .i64 (n0 + 1), .slice A8_15 (((xs).take m).length) c8_15] 40]) (show Eq (α := OSk) _ (some (none, (.store 40 (.tmp 5) (.tmp 75)), 0, none)) by kernel_rfl) trivial F (x_store H (k := 4) (cs' := [.int .i64 a0, .int .i64 (n0 + 1), .slice A8_15 (((xs).take m).length) c8_15]) rfl (Tryd.sizeOf40 W) (F.slot rfl) (F.slot rfl) rfl (Nat.le_of_ble_eq_true rfl) rfl rfl) ?_
              intro W H
              refine ⟨(fun h => absurd (by decide) h), ?_⟩
              refine sq_nil ?_
              refine t_normal ?_
              exact ⟨g8_17, A8_15, c8_15, F.less _ (subc rfl (subc rfl (subc rfl (subc rfl (subc rfl (subc rfl (subc rfl (subc rfl (subc rfl (subc rfl (subc rfl (subc rfl (subc rfl (subc rfl (subc rfl (subc rfl (subc rfl (subc rfl (subc rfl (subc rfl (subc rfl (subc rfl (subc rfl (subc rfl (subc rfl (subc rfl (subc rfl (subc rfl (subc rfl (subc rfl (subc rfl (subc rfl (subc rfl (subc rfl (subc rfl (subc rfl (subc rfl (subc rfl (subc rfl (subc rfl (subc rfl (subc rfl (subc rfl (subc rfl (subc rfl (subc rfl (subc rfl (subc rfl (subc rfl (subc rfl (subc rfl (subc rfl (subc rfl (subc rfl (subc rfl (subc rfl sub0)))))))))))))))))))))))))))))))))))))))))))))))))))))))), H, hc8_15⟩
            · refine sq_new (show Eq (α := OSk) _ (some (some 5, (.alloc 40), 0, none)) by kernel_rfl) trivial F (by decide) H [.int .i64 0, .int .i64 0, .slice none 0 0] 40 (x_alloc Tryd.zeroValue40 rfl) ?_
              intro g8_17 W a hg8_17 H F
              refine ⟨(fun _ => ⟨H.get 0 rfl, trivial⟩), ?_⟩
              refine sq_nil ?_
              refine t_normal ?_
              refine t_line ?_
              refine sq_qapp k33 3 1 (by decide) (show Eq (α := OSk) _ (some (some 74, (.call { callee := (.builtin .append), args := #[(.tmp 67), (.tmp 73)], argTypes := #[38, 38] }), 38, none)) by kernel_rfl) trivial F (by decide) (F.slot rfl) (F.slot rfl) (by omega) Tryd.underlying38 (show (Tryd.prog.info? 33).map (fun i => (i.zero, i.size, i.bytes)) = some (some (.agg #[.int .i64 0, .string ⟨#[]⟩, .string ⟨#[]⟩, .int .u64 0, .int .u64 0, .string ⟨#[]⟩, .string ⟨#[]⟩, .slice none 0 0, .slice none 0 0]), 9, 136) by kernel_rfl) rfl (by decide) (by decide) H rfl rfl (by simp only [List.length_nil]; omega) ?_
              intro v_ W a H F
              rw [List.nil_append] at H
              simp only [false_or] at H
              obtain ⟨A8_15, c8_15, rfl, hc8_15⟩ := (H.qu 3 rfl).form
              have H : St w Sf Rf [Asn.blk g [.int .i64 a0, .int .i64 s0, .int .i64 t0, .slice A xs.length c, .int .i64 (k0 + 1), .int .i64 (n0 + 1)] 46, Asn.qu k33 33 (.slice A xs.length c) xs ok, Asn.blk g1 [.int .i64 0, .int .i64 0, .slice none 0 0] 40, Asn.qu k33 33 (.slice A8_15 (((xs).take m).length) c8_15) ((xs).take m) ok, Asn.blk g8_17 [.int .i64 0, .int .i64 0, .slice none 0 0] 40] W := H
              refine ⟨(fun _ => ⟨H.get 0 rfl, trivial⟩), ?_⟩
              refine sq0 (show Eq (α := OSk) _ (some (some 75, (.build 40 #[(0, (.tmp 62)), (1, (.tmp 66)), (2, (.tmp 74))]), 40, none)) by kernel_rfl) trivial F (by decide) (v := .agg #[.int .i64 a0, .int .i64 (n0 + 1), .slice A8_15 (((xs).take m).length) c8_15]) (fun W_ => by simp [ex, execOp, Instr.build, Tryd.zeroValue40, run_underlying Tryd.underlying40, Instr.fill, Value.cells, F.slot (i := 62) rfl, F.slot (i := 66) rfl, F.slot (i := 74) rfl, Tryd.sizeOf3, Tryd.sizeOf38]) (fun a F => ?_)
              refine sq_put (M := [Asn.blk g [.int .i64 a0, .int .i64 s0, .int .i64 t0, .slice A xs.length c, .int .i64 (k0 + 1), .int .i64 (n0 + 1)] 46, Asn.qu k33 33 (.slice A xs.length c) xs ok, Asn.blk g1 [.int .i64 0, .int .i64 0, .slice none 0 0] 40, Asn.qu k33 33 (.slice A8_15 (((xs).take m).length) c8_15) ((xs).take m) ok, Asn.blk g8_17 [.int .i64 a0, .int .i64 (n0 + 1), .slice A8_15 (((xs).take m).length) c8_15] 40]) (show Eq (α := OSk) _ (some (none, (.store 40 (.tmp 5) (.tmp 75)), 0, none)) by kernel_rfl) trivial F (x_store H (k := 4) (cs' := [.int .i64 a0, .int .i64 (n0 + 1), .slice A8_15 (((xs).take m).length) c8_15]) rfl (Tryd.sizeOf40 W) (F.slot rfl) (F.slot rfl) rfl (Nat.le_of_ble_eq_true rfl) rfl rfl) ?_
              intro W H
              refine ⟨(fun h => absurd (by decide) h), ?_⟩
              refine sq_nil ?_
              refine t_normal ?_
              exact ⟨g8_17, A8_15, c8_15, F.less _ (subc rfl (subc rfl (subc rfl (subc rfl (subc rfl (subc rfl (subc rfl (subc rfl (subc rfl (subc rfl (subc rfl (subc rfl (subc rfl (subc rfl (subc rfl (subc rfl (subc rfl (subc rfl (subc rfl (subc rfl (subc rfl (subc rfl (subc rfl (subc rfl (subc rfl (subc rfl (subc rfl (subc rfl (subc rfl (subc rfl (subc rfl (subc rfl (subc rfl (subc rfl (subc rfl (subc rfl (subc rfl (subc rfl (subc rfl (subc rfl (subc rfl (subc rfl (subc rfl (subc rfl (subc rfl (subc rfl (subc rfl (subc rfl (subc rfl (subc rfl (subc rfl (subc rfl (subc rfl (subc rfl (subc rfl (subc rfl sub0)))))))))))))))))))))))))))))))))))))))))))))))))))))))), H, hc8_15⟩
          · refine sq_new (show Eq (α := OSk) _ (some (some 5, (.alloc 40), 0, none)) by kernel_rfl) trivial F (by decide) H [.int .i64 0, .int .i64 0, .slice none 0 0] 40 (x_alloc Tryd.zeroValue40 rfl) ?_
            intro g8_17 W a hg8_17 H F
            refine ⟨(fun _ => ⟨H.get 0 rfl, trivial⟩), ?_⟩
            refine sq_nil ?_
            refine t_normal ?_
            refine t_line ?_
            refine sq_lit0 k33 (show Eq (α := OSk) _ (some (some 67, (.buildSlice 38 0 #[]), 38, none)) by kernel_rfl) trivial F (by decide) Tryd.underlying38 (show (Tryd.prog.info? 33).map (fun i => (i.zero, i.size, i.bytes)) = some (some (.agg #[.int .i64 0, .string ⟨#[]⟩, .string ⟨#[]⟩, .int .u64 0, .int .u64 0, .string ⟨#[]⟩, .string ⟨#[]⟩, .slice none 0 0, .slice none 0 0]), 9, 136) by kernel_rfl) H ?_
            intro A8_8 W a H F
            refine ⟨(fun _ => ⟨H.get 0 rfl, trivial⟩), ?_⟩
            refine sq_qapp k33 4 1 (by decide) (show Eq (α := OSk) _ (some (some 74, (.call { callee := (.builtin .append), args := #[(.tmp 67), (.tmp 73)], argTypes := #[38, 38] }), 38, none)) by kernel_rfl) trivial F (by decide) (F.slot rfl) (F.slot rfl) (by omega) Tryd.underlying38 (show (Tryd.prog.info? 33).map (fun i => (i.zero, i.size, i.bytes)) = some (some (.agg #[.int .i64 0, .string ⟨#[]⟩, .string ⟨#[]⟩, .int .u64 0, .int .u64 0, .string ⟨#[]⟩, .string ⟨#[]⟩, .slice none 0 0, .slice none 0 0]), 9, 136) by kernel_rfl) rfl (by decide) (by decide) H rfl rfl (by simp only [List.length_nil]; omega) ?_
            intro v_ W a H F
            rw [List.nil_append] at H
            simp only [false_or] at H
            obtain ⟨A8_15, c8_15, rfl, hc8_15⟩ := (H.qu 4 rfl).form
            have H : St w Sf Rf [Asn.blk g [.int .i64 a0, .int .i64 s0, .int .i64 t0, .slice A xs.length c, .int .i64 (k0 + 1), .int .i64 (n0 + 1)] 46, Asn.qu k33 33 (.slice A xs.length c) xs ok, Asn.blk g1 [.int .i64 0, .int .i64 0, .slice none 0 0] 40, Asn.blk g8_17 [.int .i64 0, .int .i64 0, .slice none 0 0] 40, Asn.qu k33 33 (.slice A8_15 (((xs).take m).length) c8_15) ((xs).take m) ok] W := H
            refine ⟨(fun _ => ⟨H.get 0 rfl, trivial⟩), ?_⟩
            refine sq0 (show Eq (α := OSk) _ (some (some 75, (.build 40 #[(0, (.tmp 62)), (1, (.tmp 66)), (2, (.tmp 74))]), 40, none)) by kernel_rfl) trivial F (by decide) (v := .agg #[.int .i64 a0, .int .i64 (n0 + 1), .slice A8_15 (((xs).take m).length) c8_15]) (fun W_ => by simp [ex, execOp, Instr.build, Tryd.zeroValue40, run_underlying Tryd.underlying40, Instr.fill, Value.cells, F.slot (i := 62) rfl, F.slot (i := 66) rfl, F.slot (i := 74) rfl, Tryd.sizeOf3, Tryd.sizeOf38]) (fun a F => ?_)
            refine sq_put (M := [Asn.blk g [.int .i64 a0, .int .i64 s0, .int .i64 t0, .slice A xs.length c, .int .i64 (k0 + 1), .int .i64 (n0 + 1)] 46, Asn.qu k33 33 (.slice A xs.length c) xs ok, Asn.blk g1 [.int .i64 0, .int .i64 0, .slice none 0 0] 40, Asn.blk g8_17 [.int .i64 a0, .int .i64 (n0 + 1), .slice A8_15 (((xs).take m).length) c8_15] 40, Asn.qu k33 33 (.slice A8_15 (((xs).take m).length) c8_15) ((xs).take m) ok]) (show Eq (α := OSk) _ (some (none, (.store 40 (.tmp 5) (.tmp 75)), 0, none)) by kernel_rfl) trivial F (x_store H (k := 3) (cs' := [.int .i64 a0, .int .i64 (n0 + 1), .slice A8_15 (((xs).take m).length) c8_15]) rfl (Tryd.sizeOf40 W) (F.slot rfl) (F.slot rfl) rfl (Nat.le_of_ble_eq_true rfl) rfl rfl) ?_
            intro W H
            refine ⟨(fun h => absurd (by decide) h), ?_⟩
            refine sq_nil ?_
            refine t_normal ?_
            exact ⟨g8_17, A8_15, c8_15, F.less _ (subc rfl (subc rfl (subc rfl (subc rfl (subc rfl (subc rfl (subc rfl (subc rfl (subc rfl (subc rfl (subc rfl (subc rfl (subc rfl (subc rfl (subc rfl (subc rfl (subc rfl (subc rfl (subc rfl (subc rfl (subc rfl (subc rfl (subc rfl (subc rfl (subc rfl (subc rfl (subc rfl (subc rfl (subc rfl (subc rfl (subc rfl (subc rfl (subc rfl (subc rfl (subc rfl (subc rfl (subc rfl (subc rfl (subc rfl (subc rfl (subc rfl (subc rfl (subc rfl (subc rfl (subc rfl (subc rfl (subc rfl (subc rfl (subc rfl (subc rfl (subc rfl (subc rfl (subc rfl (subc rfl (subc rfl (subc rfl sub0)))))))))))))))))))))))))))))))))))))))))))))))))))))))), H.perm [0, 1, 2, 4, 3] rfl (by decide), hc8_15⟩
        · rintro a W ⟨g8_17, A8_15, c8_15, F, H, hc8_15⟩
          refine c_seq (by kernel_rfl) ?_
          refine c_text (id := 9) (by kernel_rfl) [(0, 2), (1, 2), (2, 2), (3, 2), (4, 2), (5, 2), (6, 2), (7, 2), (8, 2), (9, 2)] (by kernel_rfl) ?_
          refine sq2 (W' := W) (show Eq (α := OSk) _ (some (some 76, (.move (.tmp 0)), 27, none)) by kernel_rfl) trivial F (by decide) (v := .pointer (some ⟨g, 0, none⟩)) (x_move (F.slot rfl)) (fun _ => trivial) (fun a F => ?_)
          refine sq2 (W' := W) (show Eq (α := OSk) _ (some (some 77, (.move (.tmp 0)), 27, none)) by kernel_rfl) trivial F (by decide) (v := .pointer (some ⟨g, 0, none⟩)) (x_move (F.slot rfl)) (fun _ => trivial) (fun a F => ?_)
          refine sq2 (W' := W) (show Eq (α := OSk) _ (some (some 78, (.nilCheck (.tmp 77)), 0, none)) by kernel_rfl) trivial F (by decide) (v := .pointer (some ⟨g, 0, none⟩)) (x_nil (F.slot rfl)) (fun _ => trivial) (fun a F => ?_)
          refine sq2 (W' := W) (show Eq (α := OSk) _ (some (some 79, (.fieldAddr 46 (.tmp 78) 3), 0, none)) by kernel_rfl) trivial F (by decide) (v := .pointer (some ⟨g, 3, none⟩)) (x_field0 Tryd.underlying46 rfl rfl (Tryd.sizeOf38 W) (F.slot rfl)) (fun _ => trivial) (fun a F => ?_)
          refine sq2 (show Eq (α := OSk) _ (some (some 80, (.load 38 (.tmp 79)), 38, none)) by kernel_rfl) trivial F (by decide) (v := .slice A xs.length c) (x_load1 (Tryd.isAgg38 W) (F.slot rfl) (H.cell 0 rfl rfl)) (fun _ => trivial) (fun a F => ?_)
          refine sq2 (W' := W) (show Eq (α := OSk) _ (some (some 81, (.move (.tmp 4)), 3, none)) by kernel_rfl) trivial F (by decide) (v := .int .i64 (m : Int)) (x_move (F.slot rfl)) (fun _ => trivial) (fun a F => ?_)
          refine sq2 (W' := W) (show Eq (α := OSk) _ (some (some 82, (.slice 38 (.tmp 80) (some (.tmp 81)) none none), 38, none)) by kernel_rfl) trivial F (by decide) (v := .slice (if c = m then A else A.map (·.add (m * 9))) (xs.length - m) (c - m)) (x_sliceLl (z := 9) Tryd.underlying38 (Tryd.sizeOf33 W) (F.slot rfl) (F.slot rfl) (by omega)) (fun _ => trivial) (fun a F => ?_)
          refine sq2 (W' := W) (show Eq (α := OSk) _ (some (some 83, (.nilCheck (.tmp 76)), 0, none)) by kernel_rfl) trivial F (by decide) (v := .pointer (some ⟨g, 0, none⟩)) (x_nil (F.slot rfl)) (fun _ => trivial) (fun a F => ?_)
          refine sq2 (W' := W) (show Eq (α := OSk) _ (some (some 84, (.fieldAddr 46 (.tmp 83) 3), 0, none)) by kernel_rfl) trivial F (by decide) (v := .pointer (some ⟨g, 3, none⟩)) (x_field0 Tryd.underlying46 rfl rfl (Tryd.sizeOf38 W) (F.slot rfl)) (fun _ => trivial) (fun a F => ?_)
          refine sq_put (M := [Asn.blk g [.int .i64 a0, .int .i64 s0, .int .i64 t0, .slice (if c = m then A else A.map (·.add (m * 9))) (xs.length - m) (c - m), .int .i64 (k0 + 1), .int .i64 (n0 + 1)] 46, Asn.qu k33 33 (.slice A xs.length c) xs ok, Asn.blk g1 [.int .i64 0, .int .i64 0, .slice none 0 0] 40, Asn.qu k33 33 (.slice A8_15 (((xs).take m).length) c8_15) ((xs).take m) ok, Asn.blk g8_17 [.int .i64 a0, .int .i64 (n0 + 1), .slice A8_15 (((xs).take m).length) c8_15] 40]) (show Eq (α := OSk) _ (some (none, (.store 38 (.tmp 84) (.tmp 82)), 0, none)) by kernel_rfl) trivial F (x_store H (k := 0) (cs' := [.int .i64 a0, .int .i64 s0, .int .i64 t0, .slice (if c = m then A else A.map (·.add (m * 9))) (xs.length - m) (c - m), .int .i64 (k0 + 1), .int .i64 (n0 + 1)]) rfl (Tryd.sizeOf38 W) (F.slot rfl) (F.slot rfl) rfl (Nat.le_of_ble_eq_true rfl) rfl rfl) ?_
          intro W H
          refine ⟨(fun _ => trivial), ?_⟩
          unfold wpSeq
          refine t_normal ?_
          refine c_seq (by kernel_rfl) ?_
          refine c_text (id := 10) (by kernel_rfl) [(0, 2), (1, 2), (2, 2), (3, 2)] (by kernel_rfl) ?_
          refine sq2 (W' := W) (show Eq (α := OSk) _ (some (some 85, (.move (.tmp 0)), 27, none)) by kernel_rfl) trivial F (by decide) (v := .pointer (some ⟨g, 0, none⟩)) (x_move (F.slot rfl)) (fun _ => trivial) (fun a F => ?_)
          refine sq2 (W' := W) (show Eq (α := OSk) _ (some (some 86, (.nilCheck (.tmp 85)), 0, none)) by kernel_rfl) trivial F (by decide) (v := .pointer (some ⟨g, 0, none⟩)) (x_nil (F.slot rfl)) (fun _ => trivial) (fun a F => ?_)
          refine sq2 (W' := W) (show Eq (α := OSk) _ (some (some 87, (.fieldAddr 46 (.tmp 86) 4), 0, none)) by kernel_rfl) trivial F (by decide) (v := .pointer (some ⟨g, 4, none⟩)) (x_field0 Tryd.underlying46 rfl rfl (Tryd.sizeOf3 W) (F.slot rfl)) (fun _ => trivial) (fun a F => ?_)
          refine sq_put (M := [Asn.blk g [.int .i64 a0, .int .i64 s0, .int .i64 t0, .slice (if c = m then A else A.map (·.add (m * 9))) (xs.length - m) (c - m), .int .i64 0, .int .i64 (n0 + 1)] 46, Asn.qu k33 33 (.slice A xs.length c) xs ok, Asn.blk g1 [.int .i64 0, .int .i64 0, .slice none 0 0] 40, Asn.qu k33 33 (.slice A8_15 (((xs).take m).length) c8_15) ((xs).take m) ok, Asn.blk g8_17 [.int .i64 a0, .int .i64 (n0 + 1), .slice A8_15 (((xs).take m).length) c8_15] 40]) (show Eq (α := OSk) _ (some (none, (.store 3 (.tmp 87) (.const (.int .i64 0))), 0, none)) by kernel_rfl) trivial F (x_store H (k := 0) (cs' := [.int .i64 a0, .int .i64 s0, .int .i64 t0, .slice (if c = m then A else A.map (·.add (m * 9))) (xs.length - m) (c - m), .int .i64 0, .int .i64 (n0 + 1)]) rfl (Tryd.sizeOf3 W) (F.slot rfl) rfl rfl (Nat.le_of_ble_eq_true rfl) rfl rfl) ?_
          intro W H
          refine ⟨(fun _ => trivial), ?_⟩
          unfold wpSeq
          refine t_normal ?_
          refine c_seq (by kernel_rfl) ?_
          refine c_text (id := 11) (by kernel_rfl) [(0, 2), (1, 2), (2, 2)] (by kernel_rfl) ?_
          refine sq2 (show Eq (α := OSk) _ (some (some 88, (.load 40 (.tmp 5)), 40, none)) by kernel_rfl) trivial F (by decide) (v := .agg #[.int .i64 a0, .int .i64 (n0 + 1), .slice A8_15 (((xs).take m).length) c8_15]) (x_loadB (Tryd.isAgg40 W) [.int .i64 a0, .int .i64 (n0 + 1), .slice A8_15 (((xs).take m).length) c8_15] (Tryd.sizeOf40 W) (F.slot rfl) (H.blk 4 rfl)) (fun _ => trivial) (fun a F => ?_)
          refine sq_put (M := [Asn.blk g [.int .i64 a0, .int .i64 s0, .int .i64 t0, .slice (if c = m then A else A.map (·.add (m * 9))) (xs.length - m) (c - m), .int .i64 0, .int .i64 (n0 + 1)] 46, Asn.qu k33 33 (.slice A xs.length c) xs ok, Asn.blk g1 [.int .i64 a0, .int .i64 (n0 + 1), .slice A8_15 (((xs).take m).length) c8_15] 40, Asn.qu k33 33 (.slice A8_15 (((xs).take m).length) c8_15) ((xs).take m) ok, Asn.blk g8_17 [.int .i64 a0, .int .i64 (n0 + 1), .slice A8_15 (((xs).take m).length) c8_15] 40]) (show Eq (α := OSk) _ (some (none, (.store 40 (.tmp 2) (.tmp 88)), 0, none)) by kernel_rfl) trivial F (x_store H (k := 2) (cs' := [.int .i64 a0, .int .i64 (n0 + 1), .slice A8_15 (((xs).take m).length) c8_15]) rfl (Tryd.sizeOf40 W) (F.slot rfl) (F.slot rfl) rfl (Nat.le_of_ble_eq_true rfl) rfl rfl) ?_
          intro W H
          refine ⟨(fun _ => trivial), ?_⟩
          refine sq2 (W' := W) (show Eq (α := OSk) _ (some (some 3, (.assign (.const (.bool true))), 4, none)) by kernel_rfl) trivial F (by decide) (v := .bool true) (x_assign rfl) (fun _ => trivial) (fun a F => ?_)
          unfold wpSeq
          refine t_normal ?_
          refine c_ret (by kernel_rfl) ?_
          refine p_list (rs := [.cell 2 40, .tmp 3]) (vs := [.agg #[.int .i64 a0, .int .i64 (n0 + 1), .slice A8_15 (((xs).take m).length) c8_15], .bool true]) Tryd.results22 (by simp) F (Vals.cell' F rfl (H.blk 2 rfl) Tryd.underlying40 rfl (by kernel_rfl) (Vals.tmp' F rfl .nil)) ?_
          have H := (H.quDrop 1 rfl m (by omega)).quRd 3 rfl
          exact .inr (.inr ⟨by omega, by omega, m, _, _, _, hm, hc8_15, rfl, H.perm [0, 1, 3] rfl (by decide)⟩)
    · have hb4d := of_decide_eq_false hb4
      have F := F.at 30 rfl (v' := .bool false) (congrArg Value.bool hb4)
      refine sqoff (e := 30) (show Eq (α := OSk) _ (some (some 31, (.move (.tmp 0)), 27, some (10, true))) by kernel_rfl) (by kernel_rfl) (.inl rfl) F (by decide) (fun a F => ?_)
      refine sqoff (e := 30) (show Eq (α := OSk) _ (some (some 32, (.nilCheck (.tmp 31)), 0, some (10, true))) by kernel_rfl) (by kernel_rfl) (.inl rfl) F (by decide) (fun a F => ?_)
      refine sqoff (e := 30) (show Eq (α := OSk) _ (some (some 33, (.fieldAddr 46 (.tmp 32) 4), 0, some (10, true))) by kernel_rfl) (by kernel_rfl) (.inl rfl) F (by decide) (fun a F => ?_)
      refine sqoff (e := 30) (show Eq (α := OSk) _ (some (some 35, (.move (.tmp 0)), 27, some (10, true))) by kernel_rfl) (by kernel_rfl) (.inl rfl) F (by decide) (fun a F => ?_)
      refine sqoff (e := 30) (show Eq (α := OSk) _ (some (some 36, (.nilCheck (.tmp 35)), 0, some (10, true))) by kernel_rfl) (by kernel_rfl) (.inl rfl) F (by decide) (fun a F => ?_)
      refine sqoff (e := 30) (show Eq (α := OSk) _ (some (some 37, (.fieldAddr 46 (.tmp 36) 2), 0, some (10, true))) by kernel_rfl) (by kernel_rfl) (.inl rfl) F (by decide) (fun a F => ?_)
      refine sqoff1 (e := 30) (show Eq (α := OSk) _ (some (some 34, (.load 3 (.tmp 33)), 3, some (10, true))) by kernel_rfl) (by kernel_rfl) (.inl rfl) F (by decide) (⟨H.get 0 rfl, trivial⟩) (fun a F => ?_)
      refine sqoff1 (e := 30) (show Eq (α := OSk) _ (some (some 38, (.load 3 (.tmp 37)), 3, some (10, true))) by kernel_rfl) (by kernel_rfl) (.inl rfl) F (by decide) (⟨H.get 0 rfl, trivial⟩) (fun a F => ?_)
      refine sqoff (e := 30) (show Eq (α := OSk) _ (some (some 39, (.binOp .lss 3 (.tmp 34) (.tmp 38) 3), 4, some (10, true))) by kernel_rfl) (by kernel_rfl) (.inl rfl) F (by decide) (fun a F => ?_)
      refine sq0 (show Eq (α := OSk) _ (some (some 40, (.pick (.tmp 30) (.tmp 39) (.const (.bool false))), 4, none)) by kernel_rfl) trivial F (by decide) (v := .bool false) (fun W_ => x_pickF (F.slot rfl) rfl) (fun a F => ?_)
      unfold wpSeq
      refine t_normal ?_
      refine c_no (c := .tmp 40) (by kernel_rfl) (F.slot rfl) ?_
      refine c_skip (by kernel_rfl) ?_
      refine t_normal ?_
      refine c_seq (by kernel_rfl) ?_
      refine c_drawn (id := 6) (by kernel_rfl) (by kernel_rfl) (Vs [Asn.blk g [.int .i64 a0, .int .i64 s0, .int .i64 t0, .slice A xs.length c, .int .i64 (k0 + 1), .int .i64 n0] 46]) [0, 1, 3, 7, 0, 16, 48, 112, 240, 511, 1023] [] [(0, 0), (1, 0), (2, 0), (4, 0), (5, 0), (6, 0), (3, 1), (7, 1), (8, 0), (9, 0), (10, 0)] (by kernel_rfl) (fun _ _ d _ _ h => by cases d <;> exact h) (Vs.drew ⟨H.get 0 rfl, trivial⟩) ?_
      have H := H.drew
      generalize World.drew W = W at H ⊢
      refine sq0 (show Eq (α := OSk) _ (some (some 42, (.move (.tmp 0)), 27, none)) by kernel_rfl) trivial F (by decide) (v := .pointer (some ⟨g, 0, none⟩)) (fun W_ => x_move (F.slot rfl)) (fun a F => ?_)
      refine sq0 (show Eq (α := OSk) _ (some (some 43, (.nilCheck (.tmp 42)), 0, none)) by kernel_rfl) trivial F (by decide) (v := .pointer (some ⟨g, 0, none⟩)) (fun W_ => x_nil (F.slot rfl)) (fun a F => ?_)
      refine sq0 (show Eq (α := OSk) _ (some (some 44, (.fieldAddr 46 (.tmp 43) 1), 0, none)) by kernel_rfl) trivial F (by decide) (v := .pointer (some ⟨g, 1, none⟩)) (fun W_ => x_field0 Tryd.underlying46 rfl rfl (Tryd.sizeOf3 W_) (F.slot rfl)) (fun a F => ?_)
      refine sq0 (show Eq (α := OSk) _ (some (some 46, (.move (.tmp 0)), 27, none)) by kernel_rfl) trivial F (by decide) (v := .pointer (some ⟨g, 0, none⟩)) (fun W_ => x_move (F.slot rfl)) (fun a F => ?_)
      refine sq0 (show Eq (α := OSk) _ (some (some 47, (.nilCheck (.tmp 46)), 0, none)) by kernel_rfl) trivial F (by decide) (v := .pointer (some ⟨g, 0, none⟩)) (fun W_ => x_nil (F.slot rfl)) (fun a F => ?_)
      refine sq0 (show Eq (α := OSk) _ (some (some 48, (.fieldAddr 46 (.tmp 47) 3), 0, none)) by kernel_rfl) trivial F (by decide) (v := .pointer (some ⟨g, 3, none⟩)) (fun W_ => x_field0 Tryd.underlying46 rfl rfl (Tryd.sizeOf38 W_) (F.slot rfl)) (fun a F => ?_)
      refine sq1 (show Eq (α := OSk) _ (some (some 45, (.load 3 (.tmp 44)), 3, none)) by kernel_rfl) trivial F (by decide) (⟨H.get 0 rfl, trivial⟩) (v := .int .i64 s0) (fun W_ hV => x_load1 (Tryd.isAgg3 W_) (F.slot rfl) (bcell hV.1 rfl)) (fun a F => ?_)
      refine sq1 (show Eq (α := OSk) _ (some (some 49, (.load 38 (.tmp 48)), 38, none)) by kernel_rfl) trivial F (by decide) (⟨H.get 0 rfl, trivial⟩) (v := .slice A xs.length c) (fun W_ hV => x_load1 (Tryd.isAgg38 W_) (F.slot rfl) (bcell hV.1 rfl)) (fun a F => ?_)
      refine sq0 (show Eq (α := OSk) _ (some (some 50, (.call { callee := (.builtin .len), args := #[(.tmp 49)], argTypes := #[38] }), 3, none)) by kernel_rfl) trivial F (by decide) (v := .int .i64 (xs.length : Int)) (fun W_ => x_lenL Tryd.underlying38 (F.slot rfl)) (fun a F => ?_)
      refine sq0 (show Eq (α := OSk) _ (some (some 51, (.call { callee := (.builtin .min), args := #[(.tmp 45), (.tmp 50)], argTypes := #[3, 3] }), 3, none)) by kernel_rfl) trivial F (by decide) (v := .int .i64 (min s0 (xs.length : Int))) (fun W_ => x_min (F.slot rfl) (F.slot rfl)) (fun a F => ?_)
      refine sq0 (show Eq (α := OSk) _ (some (some 4, (.assign (.tmp 51)), 3, none)) by kernel_rfl) trivial F (by decide) (v := .int .i64 (min s0 (xs.length : Int))) (fun W_ => x_assign (F.slot rfl)) (fun a F => ?_)
      unfold wpSeq
      refine t_normal ?_
      refine c_seq (by kernel_rfl) ?_
      obtain ⟨m, hm⟩ : ∃ m : Nat, (m : Int) = min s0 (xs.length : Int) := ⟨(min s0 (xs.length : Int)).toNat, by omega⟩
      have F := F.at 51 rfl (v' := .int .i64 (m : Int)) (congrArg (Value.int .i64) hm.symm)
      have F := F.at 4 rfl (v' := .int .i64 (m : Int)) (congrArg (Value.int .i64) hm.symm)
      have hcl := (H.qu 1 rfl).read.2.1
      refine c_text (id := 7) (by kernel_rfl) [(0, 2), (1, 2), (2, 2), (3, 2), (4, 2), (5, 2), (6, 2), (7, 2)] (by kernel_rfl) ?_
      refine sq2 (W' := W) (show Eq (α := OSk) _ (some (some 52, (.move (.tmp 0)), 27, none)) by kernel_rfl) trivial F (by decide) (v := .pointer (some ⟨g, 0, none⟩)) (x_move (F.slot rfl)) (fun _ => trivial) (fun a F => ?_)
      refine sq2 (W' := W) (show Eq (α := OSk) _ (some (some 53, (.nilCheck (.tmp 52)), 0, none)) by kernel_rfl) trivial F (by decide) (v := .pointer (some ⟨g, 0, none⟩)) (x_nil (F.slot rfl)) (fun _ => trivial) (fun a F => ?_)
      refine sq2 (W' := W) (show Eq (α := OSk) _ (some (some 54, (.fieldAddr 46 (.tmp 53) 5), 0, none)) by kernel_rfl) trivial F (by decide) (v := .pointer (some ⟨g, 5, none⟩)) (x_field0 Tryd.underlying46 rfl rfl (Tryd.sizeOf3 W) (F.slot rfl)) (fun _ => trivial) (fun a F => ?_)
      refine sq2 (show Eq (α := OSk) _ (some (some 55, (.load 3 (.tmp 54)), 3, none)) by kernel_rfl) trivial F (by decide) (v := .int .i64 n0) (x_load1 (Tryd.isAgg3 W) (F.slot rfl) (H.cell 0 rfl rfl)) (fun _ => trivial) (fun a F => ?_)
      refine sq2 (W' := W) (show Eq (α := OSk) _ (some (some 56, (.binOp .add 3 (.tmp 55) (.const (.int .i64 1)) 3), 3, none)) by kernel_rfl) trivial F (by decide) (v := .int .i64 (IntKind.i64.wrap (n0 + 1))) (x_int (F.slot rfl) rfl rfl) (fun _ => trivial) (fun a F => ?_)
      have F := F.conv (v' := .int .i64 (n0 + 1)) (congrArg (Value.int .i64) (wrap_i64 _ (by omega) (by omega)))
      refine sq2 (W' := W) (show Eq (α := OSk) _ (some (some 57, (.nilCheck (.tmp 52)), 0, none)) by kernel_rfl) trivial F (by decide) (v := .pointer (some ⟨g, 0, none⟩)) (x_nil (F.slot rfl)) (fun _ => trivial) (fun a F => ?_)
      refine sq2 (W' := W) (show Eq (α := OSk) _ (some (some 58, (.fieldAddr 46 (.tmp 57) 5), 0, none)) by kernel_rfl) trivial F (by decide) (v := .pointer (some ⟨g, 5, none⟩)) (x_field0 Tryd.underlying46 rfl rfl (Tryd.sizeOf3 W) (F.slot rfl)) (fun _ => trivial) (fun a F => ?_)
      refine sq_put (M := [Asn.blk g [.int .i64 a0, .int .i64 s0, .int .i64 t0, .slice A xs.length c, .int .i64 (k0 + 1), .int .i64 (n0 + 1)] 46, Asn.qu k33 33 (.slice A xs.length c) xs ok, Asn.blk g1 [.int .i64 0, .int .i64 0, .slice none 0 0] 40]) (show Eq (α := OSk) _ (some (none, (.store 3 (.tmp 58) (.tmp 56)), 0, none)) by kernel_rfl) trivial F (x_store H (k := 0) (cs' := [.int .i64 a0, .int .i64 s0, .int .i64 t0, .slice A xs.length c, .int .i64 (k0 + 1), .int .i64 (n0 + 1)]) rfl (Tryd.sizeOf3 W) (F.slot rfl) (F.slot rfl) rfl (Nat.le_of_ble_eq_true rfl) rfl rfl) ?_
      intro W H
      refine ⟨(fun _ => trivial), ?_⟩
      unfold wpSeq
      refine t_normal ?_
      refine c_cut (by kernel_rfl) (fun a W => ∃ (g8_17 : Nat) (A8_15 : Option Addr) (c8_15 : Nat), Fr 89 [(0, .pointer (some ⟨g, 0, none⟩)), (2, .pointer (some ⟨g1, 0, none⟩)), (3, .bool false), (6, .pointer (some ⟨g, 0, none⟩)), (7, .pointer (some ⟨g, 0, none⟩)), (8, .pointer (some ⟨g, 3, none⟩)), (9, .slice A xs.length c), (10, .int .i64 (xs.length : Int)), (11, .bool false), (13, .pointer (some ⟨g, 0, none⟩)), (14, .pointer (some ⟨g, 0, none⟩)), (15, .pointer (some ⟨g, 4, none⟩)), (16, .int .i64 k0), (17, .int .i64 (k0 + 1)), (18, .pointer (some ⟨g, 0, none⟩)), (19, .pointer (some ⟨g, 4, none⟩)), (20, .pointer (some ⟨g, 0, none⟩)), (21, .pointer (some ⟨g, 0, none⟩)), (22, .pointer (some ⟨g, 3, none⟩)), (25, .pointer (some ⟨g, 0, none⟩)), (26, .pointer (some ⟨g, 0, none⟩)), (27, .pointer (some ⟨g, 1, none⟩)), (23, .slice A xs.length c), (24, .int .i64 (xs.length : Int)), (28, .int .i64 s0), (29, .bool (decide ((xs.length : Int) < s0))), (30, .bool false), (31, undef), (32, undef), (33, undef), (35, undef), (36, undef), (37, undef), (34, undef), (38, undef), (39, undef), (40, .bool false), (42, .pointer (some ⟨g, 0, none⟩)), (43, .pointer (some ⟨g, 0, none⟩)), (44, .pointer (some ⟨g, 1, none⟩)), (46, .pointer (some ⟨g, 0, none⟩)), (47, .pointer (some ⟨g, 0, none⟩)), (48, .pointer (some ⟨g, 3, none⟩)), (45, .int .i64 s0), (49, .slice A xs.length c), (50, .int .i64 (xs.length : Int)), (51, .int .i64 (m : Int)), (4, .int .i64 (m : Int)), (52, .pointer (some ⟨g, 0, none⟩)), (53, .pointer (some ⟨g, 0, none⟩)), (54, .pointer (some ⟨g, 5, none⟩)), (55, .int .i64 n0), (56, .int .i64 (n0 + 1)), (57, .pointer (some ⟨g, 0, none⟩)), (58, .pointer (some ⟨g, 5, none⟩)), (5, .pointer (some ⟨g8_17, 0, none⟩))] a ∧ St w Sf Rf [Asn.blk g [.int .i64 a0, .int .i64 s0, .int .i64 t0, .slice A xs.length c, .int .i64 (k0 + 1), .int .i64 (n0 + 1)] 46, Asn.qu k33 33 (.slice A xs.length c) xs ok, Asn.blk g1 [.int .i64 0, .int .i64 0, .slice none 0 0] 40, Asn.qu k33 33 (.slice A8_15 (((xs).take m).length) c8_15) ((xs).take m) ok, Asn.blk g8_17 [.int .i64 a0, .int .i64 (n0 + 1), .slice A8_15 (((xs).take m).length) c8_15] 40] W ∧ (((xs).take m).length ≤ c8_15)) ?_ ?_
      · refine c_drawnT (id := 8) (by kernel_rfl) (by kernel_rfl) (Vs [Asn.blk g [.int .i64 a0, .int .i64 s0, .int .i64 t0, .slice A xs.length c, .int .i64 (k0 + 1), .int .i64 (n0 + 1)] 46]) [0, 1, 3, 7, 0, 16, 48, 112, 0, 0, 512, 1536, 3584, 0, 15872, 32512, 65535, 0, 262143] [18] (.two [(0, 0), (1, 0), (2, 0), (4, 0), (5, 0), (6, 0), (9, 0), (10, 0), (11, 0), (13, 0), (3, 1), (7, 1), (12, 1), (14, 0)] 8 (.two [] 15 (.line [(16, 0), (17, 2), (18, 2)]) 17 (.line [(15, 2), (16, 0), (18, 2)])) 17 (.line [(8, 2), (15, 2), (16, 0), (18, 2)])) (by kernel_rfl) (fun _ _ d _ _ h => by cases d <;> exact h) (Vs.drew ⟨H.get 0 rfl, trivial⟩) ?_
        have H := H.drew
        generalize World.drew W = W at H ⊢
        refine t_two ?_
        refine sq0 (show Eq (α := OSk) _ (some (some 59, (.move (.tmp 0)), 27, none)) by kernel_rfl) trivial F (by decide) (v := .pointer (some ⟨g, 0, none⟩)) (fun W_ => x_move (F.slot rfl)) (fun a F => ?_)
        refine sq0 (show Eq (α := OSk) _ (some (some 60, (.nilCheck (.tmp 59)), 0, none)) by kernel_rfl) trivial F (by decide) (v := .pointer (some ⟨g, 0, none⟩)) (fun W_ => x_nil (F.slot rfl)) (fun a F => ?_)
        refine sq0 (show Eq (α := OSk) _ (some (some 61, (.fieldAddr 46 (.tmp 60) 0), 0, none)) by kernel_rfl) trivial F (by decide) (v := .pointer (some ⟨g, 0, none⟩)) (fun W_ => x_field0 Tryd.underlying46 rfl rfl (Tryd.sizeOf3 W_) (F.slot rfl)) (fun a F => ?_)
        refine sq0 (show Eq (α := OSk) _ (some (some 63, (.move (.tmp 0)), 27, none)) by kernel_rfl) trivial F (by decide) (v := .pointer (some ⟨g, 0, none⟩)) (fun W_ => x_move (F.slot rfl)) (fun a F => ?_)
        refine sq0 (show Eq (α := OSk) _ (some (some 64, (.nilCheck (.tmp 63)), 0, none)) by kernel_rfl) trivial F (by decide) (v := .pointer (some ⟨g, 0, none⟩)) (fun W_ => x_nil (F.slot rfl)) (fun a F => ?_)
        refine sq0 (show Eq (α := OSk) _ (some (some 65, (.fieldAddr 46 (.tmp 64) 5), 0, none)) by kernel_rfl) trivial F (by decide) (v := .pointer (some ⟨g, 5, none⟩)) (fun W_ => x_field0 Tryd.underlying46 rfl rfl (Tryd.sizeOf3 W_) (F.slot rfl)) (fun a F => ?_)
        refine sq0 (show Eq (α := OSk) _ (some (some 68, (.move (.tmp 0)), 27, none)) by kernel_rfl) trivial F (by decide) (v := .pointer (some ⟨g, 0, none⟩)) (fun W_ => x_move (F.slot rfl)) (fun a F => ?_)
        refine sq0 (show Eq (α := OSk) _ (some (some 69, (.nilCheck (.tmp 68)), 0, none)) by kernel_rfl) trivial F (by decide) (v := .pointer (some ⟨g, 0, none⟩)) (fun W_ => x_nil (F.slot rfl)) (fun a F => ?_)
        refine sq0 (show Eq (α := OSk) _ (some (some 70, (.fieldAddr 46 (.tmp 69) 3), 0, none)) by kernel_rfl) trivial F (by decide) (v := .pointer (some ⟨g, 3, none⟩)) (fun W_ => x_field0 Tryd.underlying46 rfl rfl (Tryd.sizeOf38 W_) (F.slot rfl)) (fun a F => ?_)
        refine sq0 (show Eq (α := OSk) _ (some (some 72, (.move (.tmp 4)), 3, none)) by kernel_rfl) trivial F (by decide) (v := .int .i64 (m : Int)) (fun W_ => x_move (F.slot rfl)) (fun a F => ?_)
        refine sq1 (show Eq (α := OSk) _ (some (some 62, (.load 3 (.tmp 61)), 3, none)) by kernel_rfl) trivial F (by decide) (⟨H.get 0 rfl, trivial⟩) (v := .int .i64 a0) (fun W_ hV => x_load1 (Tryd.isAgg3 W_) (F.slot rfl) (bcell hV.1 rfl)) (fun a F => ?_)
        refine sq1 (show Eq (α := OSk) _ (some (some 66, (.load 3 (.tmp 65)), 3, none)) by kernel_rfl) trivial F (by decide) (⟨H.get 0 rfl, trivial⟩) (v := .int .i64 (n0 + 1)) (fun W_ hV => x_load1 (Tryd.isAgg3 W_) (F.slot rfl) (bcell hV.1 rfl)) (fun a F => ?_)
        refine sq1 (show Eq (α := OSk) _ (some (some 71, (.load 38 (.tmp 70)), 38, none)) by kernel_rfl) trivial F (by decide) (⟨H.get 0 rfl, trivial⟩) (v := .slice A xs.length c) (fun W_ hV => x_load1 (Tryd.isAgg38 W_) (F.slot rfl) (bcell hV.1 rfl)) (fun a F => ?_)
        refine sq0 (show Eq (α := OSk) _ (some (some 73, (.slice 38 (.tmp 71) none (some (.tmp 72)) none), 38, none)) by kernel_rfl) trivial F (by decide) (v := .slice A m c) (fun W_ => x_sliceLh Tryd.underlying38 (Tryd.sizeOf33 W_) (F.slot rfl) (F.slot rfl) (by omega)) (fun a F => ?_)
        refine sq_nil ?_
        refine f_two ?_ ?_
        · refine sq_lit0 k33 (show Eq (α := OSk) _ (some (some 67, (.buildSlice 38 0 #[]), 38, none)) by kernel_rfl) trivial F (by decide) Tryd.underlying38 (show (Tryd.prog.info? 33).map (fun i => (i.zero, i.size, i.bytes)) = some (some (.agg #[.int .i64 0, .string ⟨#[]⟩, .string ⟨#[]⟩, .int .u64 0, .int .u64 0, .string ⟨#[]⟩, .string ⟨#[]⟩, .slice none 0 0, .slice none 0 0]), 9, 136) by kernel_rfl) H ?_
          intro A8_8 W a H F
          refine ⟨(fun _ => ⟨H.get 0 rfl, trivial⟩), ?_⟩
          refine sq_nil ?_
          refine t_normal ?_
          refine t_two ?_
          refine sq_nil ?_
          refine f_two ?_ ?_
          · refine sq_qapp k33 3 1 (by decide) (show Eq (α := OSk) _ (some (some 74, (.call { callee := (.builtin .append), args := #[(.tmp 67), (.tmp 73)], argTypes := #[38, 38] }), 38, none)) by kernel_rfl) trivial F (by decide) (F.slot rfl) (F.slot rfl) (by omega) Tryd.underlying38 (show (Tryd.prog.info? 33).map (fun i => (i.zero, i.size, i.bytes)) = some (some (.agg #[.int .i64 0, .string ⟨#[]⟩, .string ⟨#[]⟩, .int .u64 0, .int .u64 0, .string ⟨#[]⟩, .string ⟨#[]⟩, .slice none 0 0, .slice none 0 0]), 9, 136) by kernel_rfl) rfl (by decide) (by decide) H rfl rfl (by simp only [List.length_nil]; omega) ?_
            intro v_ W a H F
            rw [List.nil_append] at H
            simp only [false_or] at H
            obtain ⟨A8_15, c8_15, rfl, hc8_15⟩ := (H.qu 3 rfl).form
            have H : St w Sf Rf [Asn.blk g [.int .i64 a0, .int .i64 s0, .int .i64 t0, .slice A xs.length c, .int .i64 (k0 + 1), .int .i64 (n0 + 1)] 46, Asn.qu k33 33 (.slice A xs.length c) xs ok, Asn.blk g1 [.int .i64 0, .int .i64 0, .slice none 0 0] 40, Asn.qu k33 33 (.slice A8_15 (((xs).take m).length) c8_15) ((xs).take m) ok] W := H
            refine ⟨(fun _ => ⟨H.get 0 rfl, trivial⟩), ?_⟩
            refine sq_nil ?_
            refine t_normal ?_
            refine t_line ?_
            refine sq0 (show Eq (α := OSk) _ (some (some 75, (.build 40 #[(0, (.tmp 62)), (1, (.tmp 66)), (2, (.tmp 74))]), 40, none)) by kernel_rfl) trivial F (by decide) (v := .agg #[.int .i64 a0, .int .i64 (n0 + 1), .slice A8_15 (((xs).take m).length) c8_15]) (fun W_ => by simp [ex, execOp, Instr.build, Tryd.zeroValue40, run_underlying Tryd.underlying40, Instr.fill, Value.cells, F.slot (i := 62) rfl, F.slot (i := 66) rfl, F.slot (i := 74) rfl, Tryd.sizeOf3, Tryd.sizeOf38]) (fun a F => ?_)
            refine sq_new (show Eq (α := OSk) _ (some (some 5, (.alloc 40), 0, none)) by kernel_rfl) trivial F (by decide) H [.int .i64 0, .int .i64 0, .slice none 0 0] 40 (x_alloc Tryd.zeroValue40 rfl) ?_
            intro g8_17 W a hg8_17 H F
            refine ⟨(fun _ => ⟨H.get 0 rfl, trivial⟩), ?_⟩
            refine sq_put (M := [Asn.blk g [.int .i64 a0, .int .i64 s0, .int .i64 t0, .slice A xs.length c, .int .i64 (k0 + 1), .int .i64 (n0 + 1)] 46, Asn.qu k33 33 (.slice A xs.length c) xs ok, Asn.blk g1 [.int .i64 0, .int .i64 0, .slice none 0 0] 40, Asn.qu k33 33 (.slice A8_15 (((xs).take m).length) c8_15) ((xs).take m) ok, Asn.blk g8_17 [.int .i64 a0, .int .i64 (n0 + 1), .slice A8_15 (((xs).take m).length) c8_15] 40]) (show Eq (α := OSk) _ (some (none, (.store 40 (.tmp 5) (.tmp 75)), 0, none)) by kernel_rfl) trivial F (x_store H (k := 4) (cs' := [.int .i64 a0, .int .i64 (n0 + 1), .slice A8_15 (((xs).take m).length) c8_15]) rfl (Tryd.sizeOf40 W) (F.slot rfl) (F.slot rfl) rfl (Nat.le_of_ble_eq_true rfl) rfl rfl) ?_
            intro W H
            refine ⟨(fun h => absurd (by decide) h), ?_⟩
            refine sq_nil ?_
            refine t_normal ?_
            exact ⟨g8_17, A8_15, c8_15, F.less _ (subc rfl (subc rfl (subc rfl (subc rfl (subc rfl (subc rfl (subc rfl (subc rfl (subc rfl (subc rfl (subc rfl (subc rfl (subc rfl (subc rfl (subc rfl (subc rfl (subc rfl (subc rfl (subc rfl (subc rfl (subc rfl (subc rfl (subc rfl (subc rfl (subc rfl (subc rfl (subc rfl (subc rfl (subc rfl (subc rfl (subc rfl (subc rfl (subc rfl (subc rfl (subc rfl (subc rfl (subc rfl (subc rfl (subc rfl (subc rfl (subc rfl (subc rfl (subc rfl (subc rfl (subc rfl (subc rfl (subc rfl (subc rfl (subc rfl (subc rfl (subc rfl (subc rfl (subc rfl (subc rfl (subc rfl (subc rfl sub0)))))))))))))))))))))))))))))))))))))))))))))))))))))))), H, hc8_15⟩
          · refine sq_new (show Eq (α := OSk) _ (some (some 5, (.alloc 40), 0, none)) by kernel_rfl) trivial F (by decide) H [.int .i64 0, .int .i64 0, .slice none 0 0] 40 (x_alloc Tryd.zeroValue40 rfl) ?_
            intro g8_17 W a hg8_17 H F
            refine ⟨(fun _ => ⟨H.get 0 rfl, trivial⟩), ?_⟩
            refine sq_nil ?_
            refine t_normal ?_
            refine t_line ?_
            refine sq_qapp k33 3 1 (by decide) (show Eq (α := OSk) _ (some (some 74, (.call { callee := (.builtin .append), args := #[(.tmp 67), (.tmp 73)], argTypes := #[38, 38] }), 38, none)) by kernel_rfl) trivial F (by decide) (F.slot rfl) (F.slot rfl) (by omega) Tryd.underlying38 (show (Tryd.prog.info? 33).map (fun i => (i.zero, i.size, i.bytes)) = some (some (.agg #[.int .i64 0, .string ⟨#[]⟩, .string ⟨#[]⟩, .int .u64 0, .int .u64 0, .string ⟨#[]⟩, .string ⟨#[]⟩, .slice none 0 0, .slice none 0 0]), 9, 136) by kernel_rfl) rfl (by decide) (by decide) H rfl rfl (by simp only [List.length_nil]; omega) ?_
            intro v_ W a H F
            rw [List.nil_append] at H
            simp only [false_or] at H
            obtain ⟨A8_15, c8_15, rfl, hc8_15⟩ := (H.qu 3 rfl).form
            have H : St w Sf Rf [Asn.blk g [.int .i64 a0, .int .i64 s0, .int .i64 t0, .slice A xs.length c, .int .i64 (k0 + 1), .int .i64 (n0 + 1)] 46, Asn.qu k33 33 (.slice A xs.length c) xs ok, Asn.blk g1 [.int .i64 0, .int .i64 0, .slice none 0 0] 40, Asn.qu k33 33 (.slice A8_15 (((xs).take m).length) c8_15) ((xs).take m) ok, Asn.blk g8_17 [.int .i64 0, .int .i64 0, .slice none 0 0] 40] W := H
            refine ⟨(fun _ => ⟨H.get 0 rfl, trivial⟩), ?_⟩
            refine sq0 (show Eq (α := OSk) _ (some (some 75, (.build 40 #[(0, (.tmp 62)), (1, (.tmp 66)), (2, (.tmp 74))]), 40, none)) by kernel_rfl) trivial F (by decide) (v := .agg #[.int .i64 a0, .int .i64 (n0 + 1), .slice A8_15 (((xs).take m).length) c8_15]) (fun W_ => by simp [ex, execOp, Instr.build, Tryd.zeroValue40, run_underlying Tryd.underlying40, Instr.fill, Value.cells, F.slot (i := 62) rfl, F.slot (i := 66) rfl, F.slot (i := 74) rfl, Tryd.sizeOf3, Tryd.sizeOf38]) (fun a F => ?_)
            refine sq_put (M := [Asn.blk g [.int .i64 a0, .int .i64 s0, .int .i64 t0, .slice A xs.length c, .int .i64 (k0 + 1), .int .i64 (n0 + 1)] 46, Asn.qu k33 33 (.slice A xs.length c) xs ok, Asn.blk g1 [.int .i64 0, .int .i64 0, .slice none 0 0] 40, Asn.qu k33 33 (.slice A8_15 (((xs).take m).length) c8_15) ((xs).take m) ok, Asn.blk g8_17 [.int .i64 a0, .int .i64 (n0 + 1), .slice A8_15 (((xs).take m).length) c8_15] 40]) (show Eq (α := OSk) _ (some (none, (.store 40 (.tmp 5) (.tmp 75)), 0, none)) by kernel_rfl) trivial F (x_store H (k := 4) (cs' := [.int .i64 a0, .int .i64 (n0 + 1), .slice A8_15 (((xs).take m).length) c8_15]) rfl (Tryd.sizeOf40 W) (F.slot rfl) (F.slot rfl) rfl (Nat.le_of_ble_eq_true rfl) rfl rfl) ?_
            intro W H
            refine ⟨(fun h => absurd (by decide) h), ?_⟩
            refine sq_nil ?_
            refine t_normal ?_
            exact ⟨g8_17, A8_15, c8_15, F.less _ (subc rfl (subc rfl (subc rfl (subc rfl (subc rfl (subc rfl (subc rfl (subc rfl (subc rfl (subc rfl (subc rfl (subc rfl (subc rfl (subc rfl (subc rfl (subc rfl (subc rfl (subc rfl (subc rfl (subc rfl (subc rfl (subc rfl (subc rfl (subc rfl (subc rfl (subc rfl (subc rfl (subc rfl (subc rfl (subc rfl (subc rfl (subc rfl (subc rfl (subc rfl (subc rfl (subc rfl (subc rfl (subc rfl (subc rfl (subc rfl (subc rfl (subc rfl (subc rfl (subc rfl (subc rfl (subc rfl (subc rfl (subc rfl (subc rfl (subc rfl (subc rfl (subc rfl (subc rfl (subc rfl (subc rfl (subc rfl sub0)))))))))))))))))))))))))))))))))))))))))))))))))))))))), H, hc8_15⟩
        · refine sq_new (show Eq (α := OSk) _ (some (some 5, (.alloc 40), 0, none)) by kernel_rfl) trivial F (by decide) H [.int .i64 0, .int .i64 0, .slice none 0 0] 40 (x_alloc Tryd.zeroValue40 rfl) ?_
          intro g8_17 W a hg8_17 H F
          refine ⟨(fun _ => ⟨H.get 0 rfl, trivial⟩), ?_⟩
          refine sq_nil ?_
          refine t_normal ?_
          refine t_line ?_
          refine sq_lit0 k33 (show Eq (α := OSk) _ (some (some 67, (.buildSlice 38 0 #[]), 38, none)) by kernel_rfl) trivial F (by decide) Tryd.underlying38 (show (Tryd.prog.info? 33).map (fun i => (i.zero, i.size, i.bytes)) = some (some (.agg #[.int .i64 0, .string ⟨#[]⟩, .string ⟨#[]⟩, .int .u64 0, .int .u64 0, .string ⟨#[]⟩, .string ⟨#[]⟩, .slice none 0 0, .slice none 0 0]), 9, 136) by kernel_rfl) H ?_
          intro A8_8 W a H F
          refine ⟨(fun _ => ⟨H.get 0 rfl, trivial⟩), ?_⟩
          refine sq_qapp k33 4 1 (by decide) (show Eq (α := OSk) _ (some (some 74, (.call { callee := (.builtin .append), args := #[(.tmp 67), (.tmp 73)], argTypes := #[38, 38] }), 38, none)) by kernel_rfl) trivial F (by decide) (F.slot rfl) (F.slot rfl) (by omega) Tryd.underlying38 (show (Tryd.prog.info? 33).map (fun i => (i.zero, i.size, i.bytes)) = some (some (.agg #[.int .i64 0, .string ⟨#[]⟩, .string ⟨#[]⟩, .int .u64 0, .int .u64 0, .string ⟨#[]⟩, .string ⟨#[]⟩, .slice none 0 0, .slice none 0 0]), 9, 136) by kernel_rfl) rfl (by decide) (by decide) H rfl rfl (by simp only [List.length_nil]; omega) ?_
          intro v_ W a H F
          rw [List.nil_append] at H
          simp only [false_or] at H
          obtain ⟨A8_15, c8_15, rfl, hc8_15⟩ := (H.qu 4 rfl).form
          have H : St w Sf Rf [Asn.blk g [.int .i64 a0, .int .i64 s0, .int .i64 t0, .slice A xs.length c, .int .i64 (k0 + 1), .int .i64 (n0 + 1)] 46, Asn.qu k33 33 (.slice A xs.length c) xs ok, Asn.blk g1 [.int .i64 0, .int .i64 0, .slice none 0 0] 40, Asn.blk g8_17 [.int .i64 0, .int .i64 0, .slice none 0 0] 40, Asn.qu k33 33 (.slice A8_15 (((xs).take m).length) c8_15) ((xs).take m) ok] W := H
          refine ⟨(fun _ => ⟨H.get 0 rfl, trivial⟩), ?_⟩
          refine sq0 (show Eq (α := OSk) _ (some (some 75, (.build 40 #[(0, (.tmp 62)), (1, (.tmp 66)), (2, (.tmp 74))]), 40, none)) by kernel_rfl) trivial F (by decide) (v := .agg #[.int .i64 a0, .int .i64 (n0 + 1), .slice A8_15 (((xs).take m).length) c8_15]) (fun W_ => by simp [ex, execOp, Instr.build, Tryd.zeroValue40, run_underlying Tryd.underlying40, Instr.fill, Value.cells, F.slot (i := 62) rfl, F.slot (i := 66) rfl, F.slot (i := 74) rfl, Tryd.sizeOf3, Tryd.sizeOf38]) (fun a F => ?_)
          refine sq_put (M := [Asn.blk g [.int .i64 a0, .int .i64 s0, .int .i64 t0, .slice A xs.length c, .int .i64 (k0 + 1), .int .i64 (n0 + 1)] 46, Asn.qu k33 33 (.slice A xs.length c) xs ok, Asn.blk g1 [.int .i64 0, .int .i64 0, .slice none 0 0] 40, Asn.blk g8_17 [.int .i64 a0, .int .i64 (n0 + 1), .slice A8_15 (((xs).take m).length) c8_15] 40, Asn.qu k33 33 (.slice A8_15 (((xs).take m).length) c8_15) ((xs).take m) ok]) (show Eq (α := OSk) _ (some (none, (.store 40 (.tmp 5) (.tmp 75)), 0, none)) by kernel_rfl) trivial F (x_store H (k := 3) (cs' := [.int .i64 a0, .int .i64 (n0 + 1), .slice A8_15 (((xs).take m).length) c8_15]) rfl (Tryd.sizeOf40 W) (F.slot rfl) (F.slot rfl) rfl (Nat.le_of_ble_eq_true rfl) rfl rfl) ?_
          intro W H
          refine ⟨(fun h => absurd (by decide) h), ?_⟩
          refine sq_nil ?_
          refine t_normal ?_
          exact ⟨g8_17, A8_15, c8_15, F.less _ (subc rfl (subc rfl (subc rfl (subc rfl (subc rfl (subc rfl (subc rfl (subc rfl (subc rfl (subc rfl (subc rfl (subc rfl (subc rfl (subc rfl (subc rfl (subc rfl (subc rfl (subc rfl (subc rfl (subc rfl (subc rfl (subc rfl (subc rfl (subc rfl (subc rfl (subc rfl (subc rfl (subc rfl (subc rfl (subc rfl (subc rfl (subc rfl (subc rfl (subc rfl (subc rfl (subc rfl (subc rfl (subc rfl (subc rfl (subc rfl (subc rfl (subc rfl (subc rfl (subc rfl (subc rfl (subc rfl (subc rfl (subc rfl (subc rfl (subc rfl (subc rfl (subc rfl (subc rfl (subc rfl (subc rfl (subc rfl sub0)))))))))))))))))))))))))))))))))))))))))))))))))))))))), H.perm [0, 1, 2, 4, 3] rfl (by decide), hc8_15⟩
      · rintro a W ⟨g8_17, A8_15, c8_15, F, H, hc8_15⟩
        refine c_seq (by kernel_rfl) ?_
        refine c_text (id := 9) (by kernel_rfl) [(0, 2), (1, 2), (2, 2), (3, 2), (4, 2), (5, 2), (6, 2), (7, 2), (8, 2), (9, 2)] (by kernel_rfl) ?_
        refine sq2 (W' := W) (show Eq (α := OSk) _ (some (some 76, (.move (.tmp 0)), 27, none)) by kernel_rfl) trivial F (by decide) (v := .pointer (some ⟨g, 0, none⟩)) (x_move (F.slot rfl)) (fun _ => trivial) (fun a F => ?_)
        refine sq2 (W' := W) (show Eq (α := OSk) _ (some (some 77, (.move (.tmp 0)), 27, none)) by kernel_rfl) trivial F (by decide) (v := .pointer (some ⟨g, 0, none⟩)) (x_move (F.slot rfl)) (fun _ => trivial) (fun a F => ?_)
        refine sq2 (W' := W) (show Eq (α := OSk) _ (some (some 78, (.nilCheck (.tmp 77)), 0, none)) by kernel_rfl) trivial F (by decide) (v := .pointer (some ⟨g, 0, none⟩)) (x_nil (F.slot rfl)) (fun _ => trivial) (fun a F => ?_)
        refine sq2 (W' := W) (show Eq (α := OSk) _ (some (some 79, (.fieldAddr 46 (.tmp 78) 3), 0, none)) by kernel_rfl) trivial F (by decide) (v := .pointer (some ⟨g, 3, none⟩)) (x_field0 Tryd.underlying46 rfl rfl (Tryd.sizeOf38 W) (F.slot rfl)) (fun _ => trivial) (fun a F => ?_)
        refine sq2 (show Eq (α := OSk) _ (some (some 80, (.load 38 (.tmp 79)), 38, none)) by kernel_rfl) trivial F (by decide) (v := .slice A xs.length c) (x_load1 (Tryd.isAgg38 W) (F.slot rfl) (H.cell 0 rfl rfl)) (fun _ => trivial) (fun a F => ?_)
        refine sq2 (W' := W) (show Eq (α := OSk) _ (some (some 81, (.move (.tmp 4)), 3, none)) by kernel_rfl) trivial F (by decide) (v := .int .i64 (m : Int)) (x_move (F.slot rfl)) (fun _ => trivial) (fun a F => ?_)
        refine sq2 (W' := W) (show Eq (α := OSk) _ (some (some 82, (.slice 38 (.tmp 80) (some (.tmp 81)) none none), 38, none)) by kernel_rfl) trivial F (by decide) (v := .slice (if c = m then A else A.map (·.add (m * 9))) (xs.length - m) (c - m)) (x_sliceLl (z := 9) Tryd.underlying38 (Tryd.sizeOf33 W) (F.slot rfl) (F.slot rfl) (by omega)) (fun _ => trivial) (fun a F => ?_)
        refine sq2 (W' := W) (show Eq (α := OSk) _ (some (some 83, (.nilCheck (.tmp 76)), 0, none)) by kernel_rfl) trivial F (by decide) (v := .pointer (some ⟨g, 0, none⟩)) (x_nil (F.slot rfl)) (fun _ => trivial) (fun a F => ?_)
        refine sq2 (W' := W) (show Eq (α := OSk) _ (some (some 84, (.fieldAddr 46 (.tmp 83) 3), 0, none)) by kernel_rfl) trivial F (by decide) (v := .pointer (some ⟨g, 3, none⟩)) (x_field0 Tryd.underlying46 rfl rfl (Tryd.sizeOf38 W) (F.slot rfl)) (fun _ => trivial) (fun a F => ?_)
        refine sq_put (M := [Asn.blk g [.int .i64 a0, .int .i64 s0, .int .i64 t0, .slice (if c = m then A else A.map (·.add (m * 9))) (xs.length - m) (c - m), .int .i64 (k0 + 1), .int .i64 (n0 + 1)] 46, Asn.qu k33 33 (.slice A xs.length c) xs ok, Asn.blk g1 [.int .i64 0, .int .i64 0, .slice none 0 0] 40, Asn.qu k33 33 (.slice A8_15 (((xs).take m).length) c8_15) ((xs).take m) ok, Asn.blk g8_17 [.int .i64 a0, .int .i64 (n0 + 1), .slice A8_15 (((xs).take m).length) c8_15] 40]) (show Eq (α := OSk) _ (some (none, (.store 38 (.tmp 84) (.tmp 82)), 0, none)) by kernel_rfl) trivial F (x_store H (k := 0) (cs' := [.int .i64 a0, .int .i64 s0, .int .i64 t0, .slice (if c = m then A else A.map (·.add (m * 9))) (xs.length - m) (c - m), .int .i64 (k0 + 1), .int .i64 (n0 + 1)]) rfl (Tryd.sizeOf38 W) (F.slot rfl) (F.slot rfl) rfl (Nat.le_of_ble_eq_true rfl) rfl rfl) ?_
        intro W H
        refine ⟨(fun _ => trivial), ?_⟩
        unfold wpSeq
        refine t_normal ?_
        refine c_seq (by kernel_rfl) ?_
        refine c_text (id := 10) (by kernel_rfl) [(0, 2), (1, 2), (2, 2), (3, 2)] (by kernel_rfl) ?_
        refine sq2 (W' := W) (show Eq (α := OSk) _ (some (some 85, (.move (.tmp 0)), 27, none)) by kernel_rfl) trivial F (by decide) (v := .pointer (some ⟨g, 0, none⟩)) (x_move (F.slot rfl)) (fun _ => trivial) (fun a F => ?_)
        refine sq2 (W' := W) (show Eq (α := OSk) _ (some (some 86, (.nilCheck (.tmp 85)), 0, none)) by kernel_rfl) trivial F (by decide) (v := .pointer (some ⟨g, 0, none⟩)) (x_nil (F.slot rfl)) (fun _ => trivial) (fun a F => ?_)
        refine sq2 (W' := W) (show Eq (α := OSk) _ (some (some 87, (.fieldAddr 46 (.tmp 86) 4), 0, none)) by kernel_rfl) trivial F (by decide) (v := .pointer (some ⟨g, 4, none⟩)) (x_field0 Tryd.underlying46 rfl rfl (Tryd.sizeOf3 W) (F.slot rfl)) (fun _ => trivial) (fun a F => ?_)
        refine sq_put (M := [Asn.blk g [.int .i64 a0, .int .i64 s0, .int .i64 t0, .slice (if c = m then A else A.map (·.add (m * 9))) (xs.length - m) (c - m), .int .i64 0, .int .i64 (n0 + 1)] 46, Asn.qu k33 33 (.slice A xs.length c) xs ok, Asn.blk g1 [.int .i64 0, .int .i64 0, .slice none 0 0] 40, Asn.qu k33 33 (.slice A8_15 (((xs).take m).length) c8_15) ((xs).take m) ok, Asn.blk g8_17 [.int .i64 a0, .int .i64 (n0 + 1), .slice A8_15 (((xs).take m).length) c8_15] 40]) (show Eq (α := OSk) _ (some (none, (.store 3 (.tmp 87) (.const (.int .i64 0))), 0, none)) by kernel_rfl) trivial F (x_store H (k := 0) (cs' := [.int .i64 a0, .int .i64 s0, .int .i64 t0, .slice (if c = m then A else A.map (·.add (m * 9))) (xs.length - m) (c - m), .int .i64 0, .int .i64 (n0 + 1)]) rfl (Tryd.sizeOf3 W) (F.slot rfl) rfl rfl (Nat.le_of_ble_eq_true rfl) rfl rfl) ?_
        intro W H
        refine ⟨(fun _ => trivial), ?_⟩
        unfold wpSeq
        refine t_normal ?_
        refine c_seq (by kernel_rfl) ?_
        refine c_text (id := 11) (by kernel_rfl) [(0, 2), (1, 2), (2, 2)] (by kernel_rfl) ?_
        refine sq2 (show Eq (α := OSk) _ (some (some 88, (.load 40 (.tmp 5)), 40, none)) by kernel_rfl) trivial F (by decide) (v := .agg #[.int .i64 a0, .int .i64 (n0 + 1), .slice A8_15 (((xs).take m).length) c8_15]) (x_loadB (Tryd.isAgg40 W) [.int .i64 a0, .int .i64 (n0 + 1), .slice A8_15 (((xs).take m).length) c8_15] (Tryd.sizeOf40 W) (F.slot rfl) (H.blk 4 rfl)) (fun _ => trivial) (fun a F => ?_)
        refine sq_put (M := [Asn.blk g [.int .i64 a0, .int .i64 s0, .int .i64 t0, .slice (if c = m then A else A.map (·.add (m * 9))) (xs.length - m) (c - m), .int .i64 0, .int .i64 (n0 + 1)] 46, Asn.qu k33 33 (.slice A xs.length c) xs ok, Asn.blk g1 [.int .i64 a0, .int .i64 (n0 + 1), .slice A8_15 (((xs).take m).length) c8_15] 40, Asn.qu k33 33 (.slice A8_15 (((xs).take m).length) c8_15) ((xs).take m) ok, Asn.blk g8_17 [.int .i64 a0, .int .i64 (n0 + 1), .slice A8_15 (((xs).take m).length) c8_15] 40]) (show Eq (α := OSk) _ (some (none, (.store 40 (.tmp 2) (.tmp 88)), 0, none)) by kernel_rfl) trivial F (x_store H (k := 2) (cs' := [.int .i64 a0, .int .i64 (n0 + 1), .slice A8_15 (((xs).take m).length) c8_15]) rfl (Tryd.sizeOf40 W) (F.slot rfl) (F.slot rfl) rfl (Nat.le_of_ble_eq_true rfl) rfl rfl) ?_
        intro W H
        refine ⟨(fun _ => trivial), ?_⟩
        refine sq2 (W' := W) (show Eq (α := OSk) _ (some (some 3, (.assign (.const (.bool true))), 4, none)) by kernel_rfl) trivial F (by decide) (v := .bool true) (x_assign rfl) (fun _ => trivial) (fun a F => ?_)
        unfold wpSeq
        refine t_normal ?_
        refine c_ret (by kernel_rfl) ?_
        refine p_list (rs := [.cell 2 40, .tmp 3]) (vs := [.agg #[.int .i64 a0, .int .i64 (n0 + 1), .slice A8_15 (((xs).take m).length) c8_15], .bool true]) Tryd.results22 (by simp) F (Vals.cell' F rfl (H.blk 2 rfl) Tryd.underlying40 rfl (by kernel_rfl) (Vals.tmp' F rfl .nil)) ?_
        have H := (H.quDrop 1 rfl m (by omega)).quRd 3 rfl
        exact .inr (.inr ⟨by omega, by omega, m, _, _, _, hm, hc8_15, rfl, H.perm [0, 1, 3] rfl (by decide)⟩)
end Go.Proofs.YtndicjikjcifaaaDoor

/- The program's sealer: Waits. -/
namespace Go.Proofs.YtndicjikjcifaaaDoor
open Go.RowKit Go.Proofs.YtndicjikjcifaaaDoorW.PrintWords Go.Proofs.YtndicjikjcifaaaDoorW.PrintLast
set_option linter.unusedVariables false
set_option linter.unusedSimpArgs false
set_option maxRecDepth 100000
theorem waits_calls (g : Nat) (a0 s0 t0 k0 n0 : Int) (A : Option Addr) (n c : Nat) (w : World) {Sf Rf : Nat → Prop} (H : St w Sf Rf [Asn.blk g [.int .i64 a0, .int .i64 s0, .int .i64 t0, .slice A n c, .int .i64 k0, .int .i64 n0] 72] w) : Calls Tryd.prog 24 #[.pointer (some ⟨g, 0, none⟩)] w fun e W => e = .returned (.int .i64 (n : Int)) ∧ St w Sf Rf [Asn.blk g [.int .i64 a0, .int .i64 s0, .int .i64 t0, .slice A n c, .int .i64 k0, .int .i64 n0] 72] W := by
  refine c_enter2 (args := [.pointer (some ⟨g, 0, none⟩)]) (S := Sf) (R := Rf) (M := [Asn.blk g [.int .i64 a0, .int .i64 s0, .int .i64 t0, .slice A n c, .int .i64 k0, .int .i64 n0] 72]) Tryd.func24 (by kernel_rfl) 8 Tryd.ntmps24 (Nat.le_of_ble_eq_true rfl) (H) (fun a W F H => ?_)
  have F := F.less [(0, .pointer (some ⟨g, 0, none⟩))] (subc rfl sub0)
  refine c_seq (by kernel_rfl) ?_
  refine c_text (id := 0) (by kernel_rfl) [(0, 2)] (by kernel_rfl) ?_
  refine sq2 (W' := W) (show Eq (α := OSk) _ (some (some 2, (.assign (.const (.int .i64 0))), 3, none)) by kernel_rfl) trivial F (by decide) (v := .int .i64 0) (x_assign rfl) (fun _ => trivial) (fun a F => ?_)
  unfold wpSeq
  have H : St w Sf Rf [Asn.blk g [.int .i64 a0, .int .i64 s0, .int .i64 t0, .slice A n c, .int .i64 k0, .int .i64 n0] 72] W := H
  refine t_normal ?_
  refine c_seq (by kernel_rfl) ?_
  refine c_text (id := 1) (by kernel_rfl) [(0, 2), (1, 2), (2, 2), (3, 2), (4, 2), (5, 2)] (by kernel_rfl) ?_
  refine sq2 (W' := W) (show Eq (α := OSk) _ (some (some 3, (.move (.tmp 0)), 23, none)) by kernel_rfl) trivial F (by decide) (v := .pointer (some ⟨g, 0, none⟩)) (x_move (F.slot rfl)) (fun _ => trivial) (fun a F => ?_)
  refine sq2 (W' := W) (show Eq (α := OSk) _ (some (some 4, (.nilCheck (.tmp 3)), 0, none)) by kernel_rfl) trivial F (by decide) (v := .pointer (some ⟨g, 0, none⟩)) (x_nil (F.slot rfl)) (fun _ => trivial) (fun a F => ?_)
  refine sq2 (W' := W) (show Eq (α := OSk) _ (some (some 5, (.fieldAddr 72 (.tmp 4) 3), 0, none)) by kernel_rfl) trivial F (by decide) (v := .pointer (some ⟨g, 3, none⟩)) (x_field0 Tryd.underlying72 rfl rfl (Tryd.sizeOf38 W) (F.slot rfl)) (fun _ => trivial) (fun a F => ?_)
  refine sq2 (show Eq (α := OSk) _ (some (some 6, (.load 38 (.tmp 5)), 38, none)) by kernel_rfl) trivial F (by decide) (v := .slice A n c) (x_load1 (Tryd.isAgg38 W) (F.slot rfl) (H.cell 0 rfl rfl)) (fun _ => trivial) (fun a F => ?_)
  refine sq2 (W' := W) (show Eq (α := OSk) _ (some (some 7, (.call { callee := (.builtin .len), args := #[(.tmp 6)], argTypes := #[38] }), 3, none)) by kernel_rfl) trivial F (by decide) (v := .int .i64 (n : Int)) (x_lenL Tryd.underlying38 (F.slot rfl)) (fun _ => trivial) (fun a F => ?_)
  refine sq2 (W' := W) (show Eq (α := OSk) _ (some (some 2, (.assign (.tmp 7)), 3, none)) by kernel_rfl) trivial F (by decide) (v := .int .i64 (n : Int)) (x_assign (F.slot rfl)) (fun _ => trivial) (fun a F => ?_)
  unfold wpSeq
  refine t_normal ?_
  refine c_ret (by kernel_rfl) ?_
  refine p_tmp Tryd.results24 F rfl ?_
  exact ⟨rfl, H⟩
end Go.Proofs.YtndicjikjcifaaaDoor

/- tx.Decode. -/
namespace Go.Proofs.YtndicjikjcifaaaDoor
open Go.RowKit Go.Shelf Go.Lib Go.Proofs.YtndicjikjcifaaaDoorW.PrintWords Go.Proofs.YtndicjikjcifaaaDoorW.PrintLast
set_option linter.unusedVariables false
set_option linter.unusedSimpArgs false

/-- The three boxes at a world. -/
structure Dx (w : World) (b0 b1 b2 b3 b4 b5 b6 b7 b8 : Value) (s : ByteArray) (W : World) : Prop where
  low : Below w.heap.size w W
  tx : W.heap[w.heap.size]? = some (.cells #[b0, b1, b2, b3, b4, b5, b6, b7, b8] 33 (0, 0))
  er : W.heap[w.heap.size + 1]? = some (.cells #[.int .i64 0] 24 (0, 0))
  rd : W.heap[w.heap.size + 1 + 1]? = some (.cells #[.string s] 77 (0, 0))
theorem Dx.size {w W : World} {b0 b1 b2 b3 b4 b5 b6 b7 b8 : Value} {s : ByteArray} (h : Dx w b0 b1 b2 b3 b4 b5 b6 b7 b8 s W) : w.heap.size + 1 + 1 < W.heap.size := by
  have := h.rd
  rcases Nat.lt_or_ge (w.heap.size + 1 + 1) W.heap.size with h | h
  · exact h
  · rw [Array.getElem?_eq_none h] at this; cases this
theorem Dx.read {w W W' : World} {b0 b1 b2 b3 b4 b5 b6 b7 b8 : Value} {s s' : ByteArray} (h : Dx w b0 b1 b2 b3 b4 b5 b6 b7 b8 s W) (hr : Rd (w.heap.size + 1 + 1) s' W W') : Dx w b0 b1 b2 b3 b4 b5 b6 b7 b8 s' W' :=
  ⟨hr.below h.low (by omega), (hr.blk (by omega) (by have := h.size; omega)).trans h.tx, (hr.blk (by omega) (by have := h.size; omega)).trans h.er, hr.box⟩
theorem Dx.step {w W W' : World} {b0 b1 b2 b3 b4 b5 b6 b7 b8 : Value} {s : ByteArray} (h : Dx w b0 b1 b2 b3 b4 b5 b6 b7 b8 s W) (hb : Below W.heap.size W W') : Dx w b0 b1 b2 b3 b4 b5 b6 b7 b8 s W' :=
  ⟨below_then h.low h.low.size hb, (hb.block _ (by have := h.size; omega)).trans h.tx, (hb.block _ (by have := h.size; omega)).trans h.er, (hb.block _ h.size).trans h.rd⟩

theorem Dx.set0 {w W : World} {b0 b1 b2 b3 b4 b5 b6 b7 b8 : Value} {s : ByteArray} (h : Dx w b0 b1 b2 b3 b4 b5 b6 b7 b8 s W) (v : Value) : Dx w v b1 b2 b3 b4 b5 b6 b7 b8 s (W.setCell ⟨w.heap.size, 0, none⟩ v) :=
  ⟨h.low.setCell (by simp) v, by simpa using blk_set h.tx 0 v, (Below.heap_setCell _ _ _ _ (by simp)).trans h.er, (Below.heap_setCell _ _ _ _ (by simp; omega)).trans h.rd⟩
theorem Dx.set1 {w W : World} {b0 b1 b2 b3 b4 b5 b6 b7 b8 : Value} {s : ByteArray} (h : Dx w b0 b1 b2 b3 b4 b5 b6 b7 b8 s W) (v : Value) : Dx w b0 v b2 b3 b4 b5 b6 b7 b8 s (W.setCell ⟨w.heap.size, 1, none⟩ v) :=
  ⟨h.low.setCell (by simp) v, by simpa using blk_set h.tx 1 v, (Below.heap_setCell _ _ _ _ (by simp)).trans h.er, (Below.heap_setCell _ _ _ _ (by simp; omega)).trans h.rd⟩
theorem Dx.set2 {w W : World} {b0 b1 b2 b3 b4 b5 b6 b7 b8 : Value} {s : ByteArray} (h : Dx w b0 b1 b2 b3 b4 b5 b6 b7 b8 s W) (v : Value) : Dx w b0 b1 v b3 b4 b5 b6 b7 b8 s (W.setCell ⟨w.heap.size, 2, none⟩ v) :=
  ⟨h.low.setCell (by simp) v, by simpa using blk_set h.tx 2 v, (Below.heap_setCell _ _ _ _ (by simp)).trans h.er, (Below.heap_setCell _ _ _ _ (by simp; omega)).trans h.rd⟩
theorem Dx.set3 {w W : World} {b0 b1 b2 b3 b4 b5 b6 b7 b8 : Value} {s : ByteArray} (h : Dx w b0 b1 b2 b3 b4 b5 b6 b7 b8 s W) (v : Value) : Dx w b0 b1 b2 v b4 b5 b6 b7 b8 s (W.setCell ⟨w.heap.size, 3, none⟩ v) :=
  ⟨h.low.setCell (by simp) v, by simpa using blk_set h.tx 3 v, (Below.heap_setCell _ _ _ _ (by simp)).trans h.er, (Below.heap_setCell _ _ _ _ (by simp; omega)).trans h.rd⟩
theorem Dx.set4 {w W : World} {b0 b1 b2 b3 b4 b5 b6 b7 b8 : Value} {s : ByteArray} (h : Dx w b0 b1 b2 b3 b4 b5 b6 b7 b8 s W) (v : Value) : Dx w b0 b1 b2 b3 v b5 b6 b7 b8 s (W.setCell ⟨w.heap.size, 4, none⟩ v) :=
  ⟨h.low.setCell (by simp) v, by simpa using blk_set h.tx 4 v, (Below.heap_setCell _ _ _ _ (by simp)).trans h.er, (Below.heap_setCell _ _ _ _ (by simp; omega)).trans h.rd⟩
theorem Dx.set5 {w W : World} {b0 b1 b2 b3 b4 b5 b6 b7 b8 : Value} {s : ByteArray} (h : Dx w b0 b1 b2 b3 b4 b5 b6 b7 b8 s W) (v : Value) : Dx w b0 b1 b2 b3 b4 v b6 b7 b8 s (W.setCell ⟨w.heap.size, 5, none⟩ v) :=
  ⟨h.low.setCell (by simp) v, by simpa using blk_set h.tx 5 v, (Below.heap_setCell _ _ _ _ (by simp)).trans h.er, (Below.heap_setCell _ _ _ _ (by simp; omega)).trans h.rd⟩
theorem Dx.set6 {w W : World} {b0 b1 b2 b3 b4 b5 b6 b7 b8 : Value} {s : ByteArray} (h : Dx w b0 b1 b2 b3 b4 b5 b6 b7 b8 s W) (v : Value) : Dx w b0 b1 b2 b3 b4 b5 v b7 b8 s (W.setCell ⟨w.heap.size, 6, none⟩ v) :=
  ⟨h.low.setCell (by simp) v, by simpa using blk_set h.tx 6 v, (Below.heap_setCell _ _ _ _ (by simp)).trans h.er, (Below.heap_setCell _ _ _ _ (by simp; omega)).trans h.rd⟩
theorem Dx.set7 {w W : World} {b0 b1 b2 b3 b4 b5 b6 b7 b8 : Value} {s : ByteArray} (h : Dx w b0 b1 b2 b3 b4 b5 b6 b7 b8 s W) (v : Value) : Dx w b0 b1 b2 b3 b4 b5 b6 v b8 s (W.setCell ⟨w.heap.size, 7, none⟩ v) :=
  ⟨h.low.setCell (by simp) v, by simpa using blk_set h.tx 7 v, (Below.heap_setCell _ _ _ _ (by simp)).trans h.er, (Below.heap_setCell _ _ _ _ (by simp; omega)).trans h.rd⟩
theorem Dx.set8 {w W : World} {b0 b1 b2 b3 b4 b5 b6 b7 b8 : Value} {s : ByteArray} (h : Dx w b0 b1 b2 b3 b4 b5 b6 b7 b8 s W) (v : Value) : Dx w b0 b1 b2 b3 b4 b5 b6 b7 v s (W.setCell ⟨w.heap.size, 8, none⟩ v) :=
  ⟨h.low.setCell (by simp) v, by simpa using blk_set h.tx 8 v, (Below.heap_setCell _ _ _ _ (by simp)).trans h.er, (Below.heap_setCell _ _ _ _ (by simp; omega)).trans h.rd⟩
theorem Dx.first (w : World) (s : ByteArray) : Dx w (.int .i64 0) (.string ⟨#[]⟩) (.string ⟨#[]⟩) (.int .u64 0) (.int .u64 0) (.string ⟨#[]⟩) (.string ⟨#[]⟩) (.slice none 0 0) (.slice none 0 0) s
    (((w.alloc (.cells #[.int .i64 0, .string ⟨#[]⟩, .string ⟨#[]⟩, .int .u64 0, .int .u64 0, .string ⟨#[]⟩, .string ⟨#[]⟩, .slice none 0 0, .slice none 0 0] 33)).alloc (.cells #[.int .i64 0] 24)).alloc (.cells #[.string s] 77)) :=
  ⟨(((Below.refl _ w).alloc (Nat.le_refl _) _).alloc (by simp) _).alloc (by simp; omega) _, blk_alloc (blk_alloc (blk_new _ _) _) _, blk_alloc (blk_newAt _ _ (by simp)) _, blk_newAt _ _ (by simp)⟩
end Go.Proofs.YtndicjikjcifaaaDoor

/- tx.Decode: its last way out, and all ways joined. -/
namespace Go.Proofs.YtndicjikjcifaaaDoor
open Go.RowKit Go.Shelf Go.Lib Go.Proofs.YtndicjikjcifaaaDoorW.PrintWords Go.Proofs.YtndicjikjcifaaaDoorW.PrintLast
set_option linter.unusedVariables false
set_option linter.unusedSimpArgs false

/-- What is read: kind, from, to, amount, nonce, key, value, reads, writes, what is wrong. -/
abbrev Dec := Int × ByteArray × ByteArray × Int × Int × ByteArray × ByteArray × List ByteArray × List ByteArray × Int
def derr (e : Int) : Dec := (0, ⟨#[]⟩, ⟨#[]⟩, 0, 0, ⟨#[]⟩, ⟨#[]⟩, [], [], e)
def fin9 (kd : Int) (f t : ByteArray) (am nc : Int) (ky' vl : ByteArray) (rs ws : List ByteArray) : Dec :=
  if ch kd f t am nc ky' vl rs ws = 0 then (kd, f, t, am, nc, ky', vl, rs, ws, 0) else derr (ch kd f t am nc ky' vl rs ws)
structure Fx (w : World) (c : Array Value) (x : Int) (v7 v8 : Value) (rs ws : List ByteArray) (Z : World) : Prop where
  low : Below w.heap.size w Z
  tx : Z.heap[w.heap.size]? = some (.cells c 33 (0, 0))
  er : Z.heap[w.heap.size + 1]? = some (.cells #[.int .i64 x] 24 (0, 0))
  r7 : Kd.R Kd.string 9 Z w.heap.size (fun k => some k = v7.ownBlock) v7 rs
  r8 : Kd.R Kd.string 9 Z w.heap.size (fun k => some k = v8.ownBlock) v8 ws
theorem Fx.made {w W : World} {b0 b1 b2 b3 b4 b5 b6 b7 b8 : Value} {s : ByteArray} (h : Dx w b0 b1 b2 b3 b4 b5 b6 b7 b8 s W) {v7 v8 : Value} {rs ws : List ByteArray}
    (r7 : Kd.R Kd.string 9 W w.heap.size (fun k => some k = v7.ownBlock) v7 rs) (r8 : Kd.R Kd.string 9 W w.heap.size (fun k => some k = v8.ownBlock) v8 ws) (c0 c1 c2 c3 c4 c5 c6 c7 c8 : Value) (x : Int) :
    Fx w #[c0, c1, c2, c3, c4, c5, c6, c7, c8] x v7 v8 rs ws
      ((((((((((W.setCell ⟨w.heap.size, 0, none⟩ c0).setCell ⟨w.heap.size, 1, none⟩ c1).setCell ⟨w.heap.size, 2, none⟩ c2).setCell ⟨w.heap.size, 3, none⟩ c3).setCell ⟨w.heap.size, 4, none⟩ c4).setCell ⟨w.heap.size, 5, none⟩ c5).setCell ⟨w.heap.size, 6, none⟩ c6).setCell ⟨w.heap.size, 7, none⟩ c7).setCell ⟨w.heap.size, 8, none⟩ c8).setCell ⟨w.heap.size + 1, 0, none⟩ (.int .i64 x)) := by
  have hd := ((((((((h.set0 c0).set1 c1).set2 c2).set3 c3).set4 c4).set5 c5).set6 c6).set7 c7).set8 c8
  have ht33 : ∀ q, q ∈ 9 :: Kd.string.E → q ≠ 24 := by intro q hq; simp [Kd.string, Kd.scalar] at hq; subst hq; decide
  have D7 := Kd.R_ne r7 h.tx (by decide)
  have D8 := Kd.R_ne r8 h.tx (by decide)
  have E7 := Kd.R_ne r7 h.er (by decide)
  have E8 := Kd.R_ne r8 h.er (by decide)
  refine ⟨hd.low.setCell (by simp) _, (Below.heap_setCell _ _ _ _ (by simp)).trans hd.tx, by simpa using blk_set hd.er 0 (.int .i64 x), ?_, ?_⟩
  · refine Kd.R_step r7 (fun k hk hlt => ?_)
    have n1 : k ≠ w.heap.size := fun e => D7 (by rw [← e]; exact hk)
    have n2 : k ≠ w.heap.size + 1 := fun e => E7 (by rw [← e]; exact hk)
    rw [Below.heap_setCell _ _ _ _ n2]
    iterate 9 rw [Below.heap_setCell _ _ _ _ n1]
  · refine Kd.R_step r8 (fun k hk hlt => ?_)
    have n1 : k ≠ w.heap.size := fun e => D8 (by rw [← e]; exact hk)
    have n2 : k ≠ w.heap.size + 1 := fun e => E8 (by rw [← e]; exact hk)
    rw [Below.heap_setCell _ _ _ _ n2]
    iterate 9 rw [Below.heap_setCell _ _ _ _ n1]
end Go.Proofs.YtndicjikjcifaaaDoor

/- tx.Decode: all ways joined. -/
namespace Go.Proofs.YtndicjikjcifaaaDoor
open Go.RowKit Go.Shelf Go.Lib Go.Proofs.YtndicjikjcifaaaDoorW.PrintWords Go.Proofs.YtndicjikjcifaaaDoorW.PrintLast
set_option linter.unusedVariables false
set_option linter.unusedSimpArgs false

end Go.Proofs.YtndicjikjcifaaaDoor

/- tuskref04.In: its four methods, in total form. -/
namespace Go.Proofs.YtndicjikjcifaaaDoor
open Go.RowKit Go.Shelf Go.Lib Go.Proofs.YtndicjikjcifaaaDoorW.PrintWords Go.Proofs.YtndicjikjcifaaaDoorW.PrintLast
set_option linter.unusedVariables false
set_option linter.unusedSimpArgs false

/-- The step of a reader that remembers its first error. -/
def inG {α : Type} (z : α) (g : ByteArray → α × Int × Int) (S : ByteArray) (E : Int) : α × ByteArray × Int := if E = 0 then ((g S).1, rest S (g S).2.1, (g S).2.2) else (z, S, E)
/-- The reader's block, after what was read. -/
structure Ri (p : Nat) (S : ByteArray) (E : Int) (w w' : World) : Prop where
  box : w'.heap[p]? = some (.cells #[.string S, .int .i64 E] 84 (0, 0))
  only : Only (fun k => k = p) w w'
theorem Ri.of_below {p : Nat} {S S' : ByteArray} {E E' : Int} {w w1 : World} (h : w1.heap[p]? = some (.cells #[.string S, .int .i64 E] 84 (0, 0))) (hd : Below w.heap.size w w1) :
    Ri p S' E' w ((w1.setCell ⟨p, 1, none⟩ (.int .i64 E')).setCell ⟨p, 0, none⟩ (.string S')) :=
  ⟨by simpa using blk_set (blk_set h 1 (.int .i64 E')) 0 (.string S'), ((Only.of_below (S := fun k => k = p) hd).set (p := ⟨p, 1, none⟩) (.inl rfl) _).set (p := ⟨p, 0, none⟩) (.inl rfl) _⟩
theorem Ri.same {p : Nat} {S : ByteArray} {E : Int} {w : World} (h : w.heap[p]? = some (.cells #[.string S, .int .i64 E] 84 (0, 0))) : Ri p S E w w := ⟨h, Only.refl _ _⟩
end Go.Proofs.YtndicjikjcifaaaDoor

/- tuskref04.Decode: the walk. (Laid by wip/tools/refdecgen.py.) -/
namespace Go.Proofs.YtndicjikjcifaaaDoor
open Go.RowKit Go.Shelf Go.Lib Go.Proofs.YtndicjikjcifaaaDoorW.PrintWords Go.Proofs.YtndicjikjcifaaaDoorW.PrintLast
set_option linter.unusedVariables false
set_option linter.unusedSimpArgs false

/-- The three boxes at a world: the result, the reader, the transaction. -/
structure Dy (w : World) (b0 b1 b2 b3 b4 b5 b6 b7 b8 : Value) (s : ByteArray) (E : Int) (W : World) : Prop where
  low : Below w.heap.size w W
  res : W.heap[w.heap.size]? = some (.cells #[.int .i64 0, .string ⟨#[]⟩, .string ⟨#[]⟩, .int .u64 0, .int .u64 0, .string ⟨#[]⟩, .string ⟨#[]⟩, .slice none 0 0, .slice none 0 0] 33 (0, 0))
  inn : W.heap[w.heap.size + 1]? = some (.cells #[.string s, .int .i64 E] 84 (0, 0))
  tx : W.heap[w.heap.size + 1 + 1]? = some (.cells #[b0, b1, b2, b3, b4, b5, b6, b7, b8] 33 (0, 0))
theorem below_low {w W W' : World} {B : Nat} (h : Below B w W) (hb : Below B W W') : Below B w W' :=
  h.trans hb
theorem Dy.size {w W : World} {b0 b1 b2 b3 b4 b5 b6 b7 b8 : Value} {s : ByteArray} {E : Int} (h : Dy w b0 b1 b2 b3 b4 b5 b6 b7 b8 s E W) : w.heap.size + 1 + 1 < W.heap.size := blk_lt h.tx
theorem Dy.read {w W W' : World} {b0 b1 b2 b3 b4 b5 b6 b7 b8 : Value} {s s' : ByteArray} {E E' : Int} (h : Dy w b0 b1 b2 b3 b4 b5 b6 b7 b8 s E W) (hr : Ri (w.heap.size + 1) s' E' W W') : Dy w b0 b1 b2 b3 b4 b5 b6 b7 b8 s' E' W' :=
  ⟨below_low h.low (hr.only.below (B := w.heap.size) h.low.size (fun i hi => by omega)), (hr.only.block _ (blk_lt h.res) (by omega)).trans h.res, hr.box, (hr.only.block _ (blk_lt h.tx) (by omega)).trans h.tx⟩
theorem Dy.step {w W W' : World} {b0 b1 b2 b3 b4 b5 b6 b7 b8 : Value} {s : ByteArray} {E : Int} (h : Dy w b0 b1 b2 b3 b4 b5 b6 b7 b8 s E W) (hb : Below W.heap.size W W') : Dy w b0 b1 b2 b3 b4 b5 b6 b7 b8 s E W' :=
  ⟨below_then h.low h.low.size hb, (hb.block _ (blk_lt h.res)).trans h.res, (hb.block _ (blk_lt h.inn)).trans h.inn, (hb.block _ (blk_lt h.tx)).trans h.tx⟩
theorem Dy.set0 {w W : World} {b0 b1 b2 b3 b4 b5 b6 b7 b8 : Value} {s : ByteArray} {E : Int} (h : Dy w b0 b1 b2 b3 b4 b5 b6 b7 b8 s E W) (v : Value) : Dy w v b1 b2 b3 b4 b5 b6 b7 b8 s E (W.setCell ⟨w.heap.size + 1 + 1, 0, none⟩ v) :=
  ⟨h.low.setCell (by simp; omega) v, (Below.heap_setCell _ _ _ _ (by simp; omega)).trans h.res, (Below.heap_setCell _ _ _ _ (by simp)).trans h.inn, by simpa using blk_set h.tx 0 v⟩
theorem Dy.set1 {w W : World} {b0 b1 b2 b3 b4 b5 b6 b7 b8 : Value} {s : ByteArray} {E : Int} (h : Dy w b0 b1 b2 b3 b4 b5 b6 b7 b8 s E W) (v : Value) : Dy w b0 v b2 b3 b4 b5 b6 b7 b8 s E (W.setCell ⟨w.heap.size + 1 + 1, 1, none⟩ v) :=
  ⟨h.low.setCell (by simp; omega) v, (Below.heap_setCell _ _ _ _ (by simp; omega)).trans h.res, (Below.heap_setCell _ _ _ _ (by simp)).trans h.inn, by simpa using blk_set h.tx 1 v⟩
theorem Dy.set2 {w W : World} {b0 b1 b2 b3 b4 b5 b6 b7 b8 : Value} {s : ByteArray} {E : Int} (h : Dy w b0 b1 b2 b3 b4 b5 b6 b7 b8 s E W) (v : Value) : Dy w b0 b1 v b3 b4 b5 b6 b7 b8 s E (W.setCell ⟨w.heap.size + 1 + 1, 2, none⟩ v) :=
  ⟨h.low.setCell (by simp; omega) v, (Below.heap_setCell _ _ _ _ (by simp; omega)).trans h.res, (Below.heap_setCell _ _ _ _ (by simp)).trans h.inn, by simpa using blk_set h.tx 2 v⟩
theorem Dy.set3 {w W : World} {b0 b1 b2 b3 b4 b5 b6 b7 b8 : Value} {s : ByteArray} {E : Int} (h : Dy w b0 b1 b2 b3 b4 b5 b6 b7 b8 s E W) (v : Value) : Dy w b0 b1 b2 v b4 b5 b6 b7 b8 s E (W.setCell ⟨w.heap.size + 1 + 1, 3, none⟩ v) :=
  ⟨h.low.setCell (by simp; omega) v, (Below.heap_setCell _ _ _ _ (by simp; omega)).trans h.res, (Below.heap_setCell _ _ _ _ (by simp)).trans h.inn, by simpa using blk_set h.tx 3 v⟩
theorem Dy.set4 {w W : World} {b0 b1 b2 b3 b4 b5 b6 b7 b8 : Value} {s : ByteArray} {E : Int} (h : Dy w b0 b1 b2 b3 b4 b5 b6 b7 b8 s E W) (v : Value) : Dy w b0 b1 b2 b3 v b5 b6 b7 b8 s E (W.setCell ⟨w.heap.size + 1 + 1, 4, none⟩ v) :=
  ⟨h.low.setCell (by simp; omega) v, (Below.heap_setCell _ _ _ _ (by simp; omega)).trans h.res, (Below.heap_setCell _ _ _ _ (by simp)).trans h.inn, by simpa using blk_set h.tx 4 v⟩
theorem Dy.set5 {w W : World} {b0 b1 b2 b3 b4 b5 b6 b7 b8 : Value} {s : ByteArray} {E : Int} (h : Dy w b0 b1 b2 b3 b4 b5 b6 b7 b8 s E W) (v : Value) : Dy w b0 b1 b2 b3 b4 v b6 b7 b8 s E (W.setCell ⟨w.heap.size + 1 + 1, 5, none⟩ v) :=
  ⟨h.low.setCell (by simp; omega) v, (Below.heap_setCell _ _ _ _ (by simp; omega)).trans h.res, (Below.heap_setCell _ _ _ _ (by simp)).trans h.inn, by simpa using blk_set h.tx 5 v⟩
theorem Dy.set6 {w W : World} {b0 b1 b2 b3 b4 b5 b6 b7 b8 : Value} {s : ByteArray} {E : Int} (h : Dy w b0 b1 b2 b3 b4 b5 b6 b7 b8 s E W) (v : Value) : Dy w b0 b1 b2 b3 b4 b5 v b7 b8 s E (W.setCell ⟨w.heap.size + 1 + 1, 6, none⟩ v) :=
  ⟨h.low.setCell (by simp; omega) v, (Below.heap_setCell _ _ _ _ (by simp; omega)).trans h.res, (Below.heap_setCell _ _ _ _ (by simp)).trans h.inn, by simpa using blk_set h.tx 6 v⟩
theorem Dy.set7 {w W : World} {b0 b1 b2 b3 b4 b5 b6 b7 b8 : Value} {s : ByteArray} {E : Int} (h : Dy w b0 b1 b2 b3 b4 b5 b6 b7 b8 s E W) (v : Value) : Dy w b0 b1 b2 b3 b4 b5 b6 v b8 s E (W.setCell ⟨w.heap.size + 1 + 1, 7, none⟩ v) :=
  ⟨h.low.setCell (by simp; omega) v, (Below.heap_setCell _ _ _ _ (by simp; omega)).trans h.res, (Below.heap_setCell _ _ _ _ (by simp)).trans h.inn, by simpa using blk_set h.tx 7 v⟩
theorem Dy.set8 {w W : World} {b0 b1 b2 b3 b4 b5 b6 b7 b8 : Value} {s : ByteArray} {E : Int} (h : Dy w b0 b1 b2 b3 b4 b5 b6 b7 b8 s E W) (v : Value) : Dy w b0 b1 b2 b3 b4 b5 b6 b7 v s E (W.setCell ⟨w.heap.size + 1 + 1, 8, none⟩ v) :=
  ⟨h.low.setCell (by simp; omega) v, (Below.heap_setCell _ _ _ _ (by simp; omega)).trans h.res, (Below.heap_setCell _ _ _ _ (by simp)).trans h.inn, by simpa using blk_set h.tx 8 v⟩
theorem Ri.row {p : Nat} {S S' : ByteArray} {E E' : Int} {w w' : World} (h : Ri p S' E' w w') (hb : w.heap[p]? = some (.cells #[.string S, .int .i64 E] 84 (0, 0))) {base : Nat} {v : Value} {xs : List ByteArray}
    (hR : Kd.R Kd.string 9 w base (fun k => some k = v.ownBlock) v xs) : Kd.R Kd.string 9 w' base (fun k => some k = v.ownBlock) v xs :=
  Kd.R_only hR h.only (fun k hk e => Kd.R_ne hR hb (by decide) (by rw [← hk, e]))
theorem Dy.first (w : World) (s : ByteArray) : Dy w (.int .i64 0) (.string ⟨#[]⟩) (.string ⟨#[]⟩) (.int .u64 0) (.int .u64 0) (.string ⟨#[]⟩) (.string ⟨#[]⟩) (.slice none 0 0) (.slice none 0 0) s 0
    (((w.alloc (.cells #[.int .i64 0, .string ⟨#[]⟩, .string ⟨#[]⟩, .int .u64 0, .int .u64 0, .string ⟨#[]⟩, .string ⟨#[]⟩, .slice none 0 0, .slice none 0 0] 33)).alloc (.cells #[.string s, .int .i64 0] 84)).alloc (.cells #[.int .i64 0, .string ⟨#[]⟩, .string ⟨#[]⟩, .int .u64 0, .int .u64 0, .string ⟨#[]⟩, .string ⟨#[]⟩, .slice none 0 0, .slice none 0 0] 33)) :=
  ⟨(((Below.refl _ w).alloc (Nat.le_refl _) _).alloc (by simp) _).alloc (by simp; omega) _, blk_alloc (blk_alloc (blk_new _ _) _) _, blk_alloc (blk_newAt _ _ (by simp)) _, blk_newAt _ _ (by simp)⟩
/-- What comes of what was read. -/
def fin2 (e9 kd : Int) (f t : ByteArray) (am nc : Int) (ky' vl : ByteArray) (rs ws : List ByteArray) (s9 : ByteArray) : Dec :=
  if e9 ≠ 0 then derr e9 else if kd ≤ 2 then (if s9.toList.isEmpty = true then fin9 kd f t am nc ky' vl rs ws else derr 6) else derr 2
structure Dz (w : World) (b0 b1 b2 b3 b4 b5 b6 b7 b8 : Value) (s : ByteArray) (E : Int) (rs ws : List ByteArray) (W : World) : Prop where
  y : Dy w b0 b1 b2 b3 b4 b5 b6 b7 b8 s E W
  r7 : Kd.R Kd.string 9 W w.heap.size (fun k => some k = b7.ownBlock) b7 rs
  r8 : Kd.R Kd.string 9 W w.heap.size (fun k => some k = b8.ownBlock) b8 ws
theorem Dz.read {w W W' : World} {b0 b1 b2 b3 b4 b5 b6 b7 b8 : Value} {s s' : ByteArray} {E E' : Int} {rs ws : List ByteArray} (h : Dz w b0 b1 b2 b3 b4 b5 b6 b7 b8 s E rs ws W) (hr : Ri (w.heap.size + 1) s' E' W W') : Dz w b0 b1 b2 b3 b4 b5 b6 b7 b8 s' E' rs ws W' :=
  ⟨h.y.read hr, hr.row h.y.inn h.r7, hr.row h.y.inn h.r8⟩
theorem Dz.step {w W W' : World} {b0 b1 b2 b3 b4 b5 b6 b7 b8 : Value} {s : ByteArray} {E : Int} {rs ws : List ByteArray} (h : Dz w b0 b1 b2 b3 b4 b5 b6 b7 b8 s E rs ws W) (hb : Below W.heap.size W W') : Dz w b0 b1 b2 b3 b4 b5 b6 b7 b8 s E rs ws W' :=
  ⟨h.y.step hb, Kd.R_below h.r7 hb, Kd.R_below h.r8 hb⟩
theorem Dz.set0 {w W : World} {b0 b1 b2 b3 b4 b5 b6 b7 b8 : Value} {s : ByteArray} {E : Int} {rs ws : List ByteArray} (h : Dz w b0 b1 b2 b3 b4 b5 b6 b7 b8 s E rs ws W) (v : Value) : Dz w v b1 b2 b3 b4 b5 b6 b7 b8 s E rs ws (W.setCell ⟨w.heap.size + 1 + 1, 0, none⟩ v) :=
  have ht : ∀ q, q ∈ 9 :: Kd.string.E → q ≠ 33 := by intro q hq; simp [Kd.string, Kd.scalar] at hq; subst hq; decide
  ⟨h.y.set0 v, Kd.R_set h.r7 h.y.tx ht _ _, Kd.R_set h.r8 h.y.tx ht _ _⟩
structure RdFr (w : World) (c : Array Value) (b7 b8 : Value) (rs ws : List ByteArray) (W : World) : Prop where
  low : Below w.heap.size w W
  res : W.heap[w.heap.size]? = some (.cells c 33 (0, 0))
  r7 : Kd.R Kd.string 9 W w.heap.size (fun k => some k = b7.ownBlock) b7 rs
  r8 : Kd.R Kd.string 9 W w.heap.size (fun k => some k = b8.ownBlock) b8 ws
theorem RdFr.set {w W : World} {c : Array Value} {b7 b8 : Value} {rs ws : List ByteArray} (h : RdFr w c b7 b8 rs ws W) (i : Nat) (v : Value) : RdFr w (c.setIfInBounds i v) b7 b8 rs ws (W.setCell ⟨w.heap.size, i, none⟩ v) :=
  have ht : ∀ q, q ∈ 9 :: Kd.string.E → q ≠ 33 := by intro q hq; simp [Kd.string, Kd.scalar] at hq; subst hq; decide
  ⟨h.low.setCell (by simp) v, blk_set h.res i v, Kd.R_set h.r7 h.res ht _ _, Kd.R_set h.r8 h.res ht _ _⟩
theorem RdFr.made {w W : World} {b0 b1 b2 b3 b4 b5 b6 b7 b8 : Value} {s : ByteArray} {E : Int} {rs ws : List ByteArray} (h : Dz w b0 b1 b2 b3 b4 b5 b6 b7 b8 s E rs ws W) (c0 c1 c2 c3 c4 c5 c6 c7 c8 : Value) :
    RdFr w #[c0, c1, c2, c3, c4, c5, c6, c7, c8] b7 b8 rs ws (((((((((W.setCell ⟨w.heap.size, 0, none⟩ c0).setCell ⟨w.heap.size, 1, none⟩ c1).setCell ⟨w.heap.size, 2, none⟩ c2).setCell ⟨w.heap.size, 3, none⟩ c3).setCell ⟨w.heap.size, 4, none⟩ c4).setCell ⟨w.heap.size, 5, none⟩ c5).setCell ⟨w.heap.size, 6, none⟩ c6).setCell ⟨w.heap.size, 7, none⟩ c7).setCell ⟨w.heap.size, 8, none⟩ c8) := by
  have h0 : RdFr w _ b7 b8 rs ws W := ⟨h.y.low, h.y.res, h.r7, h.r8⟩
  have := ((((((((h0.set 0 c0).set 1 c1).set 2 c2).set 3 c3).set 4 c4).set 5 c5).set 6 c6).set 7 c7).set 8 c8
  simpa using this
theorem RdFr.drew {w W : World} {c : Array Value} {b7 b8 : Value} {rs ws : List ByteArray} (h : RdFr w c b7 b8 rs ws W) : RdFr w c b7 b8 rs ws W.drew :=
  ⟨h.low.drew, h.res, Kd.R_drew h.r7, Kd.R_drew h.r8⟩
end Go.Proofs.YtndicjikjcifaaaDoor


/- tuskref04.Decode: it answers as tx.Decode. -/
namespace Go.Proofs.YtndicjikjcifaaaDoor
open Go.RowKit Go.Shelf Go.Lib Go.Proofs.YtndicjikjcifaaaDoorW.PrintWords Go.Proofs.YtndicjikjcifaaaDoorW.PrintLast
set_option linter.unusedVariables false
set_option linter.unusedSimpArgs false

def D9 (kd : Int) (f : ByteArray) (t : ByteArray) (am : Int) (nc : Int) (ky' : ByteArray) (vl : ByteArray) (rs : List ByteArray) (ws : List ByteArray) (S : ByteArray) (E : Int) : Dec := fin2 E kd f t am nc ky' vl rs ws S
def D8 (kd : Int) (f : ByteArray) (t : ByteArray) (am : Int) (nc : Int) (ky' : ByteArray) (vl : ByteArray) (rs : List ByteArray) (S : ByteArray) (E : Int) : Dec := D9 kd f t am nc ky' vl rs (inG ([] : List ByteArray) (fun s => gl s 8) S E).1 (inG ([] : List ByteArray) (fun s => gl s 8) S E).2.1 (inG ([] : List ByteArray) (fun s => gl s 8) S E).2.2
def D7 (kd : Int) (f : ByteArray) (t : ByteArray) (am : Int) (nc : Int) (ky' : ByteArray) (vl : ByteArray) (S : ByteArray) (E : Int) : Dec := D8 kd f t am nc ky' vl (inG ([] : List ByteArray) (fun s => gl s 8) S E).1 (inG ([] : List ByteArray) (fun s => gl s 8) S E).2.1 (inG ([] : List ByteArray) (fun s => gl s 8) S E).2.2
end Go.Proofs.YtndicjikjcifaaaDoor

/- batch.Decode: what it answers, in plain words. -/
namespace Go.Proofs.YtndicjikjcifaaaDoor
open Go.RowKit Go.Shelf Go.Lib Go.Proofs.YtndicjikjcifaaaDoorW.PrintWords Go.Proofs.YtndicjikjcifaaaDoorW.PrintLast
open PB (S33 k33)
set_option linter.unusedVariables false
set_option linter.unusedSimpArgs false

end Go.Proofs.YtndicjikjcifaaaDoor

/- tuskref04.In: its List, for lists of up to 16; what its methods do, in the small logic. -/
namespace Go.Proofs.YtndicjikjcifaaaDoor
open Go.RowKit Go.Shelf Go.Lib Go.Proofs.YtndicjikjcifaaaDoorW.PrintWords Go.Proofs.YtndicjikjcifaaaDoorW.PrintLast
set_option linter.unusedVariables false
set_option linter.unusedSimpArgs false
end Go.Proofs.YtndicjikjcifaaaDoor

/- The document's reader of batches: the plain law. -/
namespace Go.Proofs.YtndicjikjcifaaaDoor
open Go.RowKit Go.Shelf Go.Lib Go.Proofs.YtndicjikjcifaaaDoorW.PrintWords Go.Proofs.YtndicjikjcifaaaDoorW.PrintLast
open PB (S33 k33)
set_option linter.unusedVariables false
set_option linter.unusedSimpArgs false
end Go.Proofs.YtndicjikjcifaaaDoor

/- tuskref05.Same of the same batch; what batch.Decode's lists are like. -/
namespace Go.Proofs.YtndicjikjcifaaaDoor
open Go.RowKit Go.Proofs.YtndicjikjcifaaaDoorW.PrintWords Go.Proofs.YtndicjikjcifaaaDoorW.PrintLast
open PB (S33 k33)
set_option linter.unusedVariables false
set_option linter.unusedSimpArgs false
theorem bsame1_l (xs : List ByteArray) (hx : xs.length < 4611686018427387904) : ∀ d i K, i + d = xs.length → d + 1 ≤ K → PB.tuskref01_Same.l0 K xs xs i = some true
  | 0, i, 0, hi, hK => by omega
  | 0, i, K + 1, hi, hK => by rw [PB.tuskref01_Same.l0, if_neg (by omega)]
  | d + 1, i, 0, hi, hK => by omega
  | d + 1, i, K + 1, hi, hK => by
    have hw : wrap64 ((i : Int) + 1) = ((i + 1 : Nat) : Int) := by rw [w64 _ (by omega) (by omega)]; push_cast; rfl
    rw [PB.tuskref01_Same.l0, if_pos (by omega), if_pos (by omega), if_pos (by omega), if_pos rfl, hw]
    exact bsame1_l xs hx d (i + 1) K (by omega) (by omega)
theorem bsame1 (xs : List ByteArray) (hx : xs.length < 4611686018427387904) (K : Nat) (hK : xs.length + 1 ≤ K) : PB.tuskref01_Same.f K xs xs = some true := by
  rw [PB.tuskref01_Same.f, if_pos rfl]
  exact bsame1_l xs hx xs.length 0 K (by omega) hK
def LenT (t : S33) : Prop := t.f7.length < 4611686018427387904 ∧ t.f8.length < 4611686018427387904
theorem bsame4 (t : S33) (h : LenT t) (K : Nat) (hK : 4611686018427387904 ≤ K) : PB.tuskref04_Same.f K t.f0 t.f1 t.f2 t.f3 t.f4 t.f5 t.f6 t.f7 t.f8 t.f0 t.f1 t.f2 t.f3 t.f4 t.f5 t.f6 t.f7 t.f8 = some true := by
  rw [PB.tuskref04_Same.f]
  have h7 := h.1
  have h8 := h.2
  simp [bsame1 t.f7 h.1 K (by omega), bsame1 t.f8 h.2 K (by omega)]
theorem bsame_l (a n : Int) (l : List S33) (hl : l.length < 4611686018427387904) (hL : ∀ t ∈ l, LenT t) : ∀ d i K, i + d = l.length → d + 4611686018427387905 ≤ K → PB.tuskref05_Same.l0 K (i : Int) a n l a n l = some true
  | 0, i, 0, hi, hK => by omega
  | 0, i, K + 1, hi, hK => by rw [PB.tuskref05_Same.l0, if_neg (by omega)]
  | d + 1, i, 0, hi, hK => by omega
  | d + 1, i, K + 1, hi, hK => by
    have hw : wrap64 ((i : Int) + 1) = ((i + 1 : Nat) : Int) := by rw [w64 _ (by omega) (by omega)]; push_cast; rfl
    have ht : LenT (PB.rd_T33 l (i : Int)) := by
      have e := drop_rd l i (by omega)
      exact hL _ (List.mem_of_mem_drop (i := i) (by rw [e]; exact List.mem_cons_self))
    rw [PB.tuskref05_Same.l0, if_pos (by omega), if_pos (by omega), if_pos (by omega), bsame4 _ ht K (by omega), Option.bind_some, if_pos rfl, hw]
    exact bsame_l a n l hl hL d (i + 1) K (by omega) (by omega)
theorem bsame_calls (a n : Int) (A A' : Option Addr) (c c' : Nat) (l : List S33) (w : World) (hl : l.length < 4611686018427387904) (hL : ∀ t ∈ l, LenT t) (hr : k33.C w A l.length l) (hc : l.length ≤ c) (hr' : k33.C w A' l.length l) (hc' : l.length ≤ c') :
    Calls Tryd.prog 23 #[.agg #[.int .i64 a, .int .i64 n, .slice A l.length c], .agg #[.int .i64 a, .int .i64 n, .slice A' l.length c']] w fun e w' => e = .returned (.bool true) ∧ Below w.heap.size w w' := by
  refine PB.tuskref05_Same.calls (l.length + 4611686018427387906) a n A c l a n A' c' l true w hr hc hr' hc' ?_
  rw [PB.tuskref05_Same.f, if_pos rfl, if_pos rfl, show l.length + 4611686018427387906 = (l.length + 4611686018427387905) + 1 from rfl, PB.tuskref05_Same.j0, if_neg (by simp)]
  exact bsame_l a n l hl hL l.length 0 _ (by omega) (by omega)
end Go.Proofs.YtndicjikjcifaaaDoor

/- tx.Needs, tx.Fits. -/
namespace Go.Proofs
open Go.Shelf
end Go.Proofs
namespace Go.Proofs.YtndicjikjcifaaaDoor
open Go.RowKit Go.Shelf Go.Lib Go.Sort Go.Proofs.YtndicjikjcifaaaDoorW.PrintWords Go.Proofs.YtndicjikjcifaaaDoorW.PrintLast
set_option linter.unusedVariables false
set_option linter.unusedSimpArgs false

def mn (x y : ByteArray) : ByteArray := if lts y x = true then y else x
def mx (x y : ByteArray) : ByteArray := if lts y x = true then x else y
/-- Of a sorted pair each once. -/
def one2 (x y : ByteArray) : List ByteArray := if x.toList = y.toList then [x] else [x, y]
def nA (f : ByteArray) : ByteArray := ⟨#[97, 58]⟩ ++ f
def nK (f : ByteArray) : ByteArray := ⟨#[107, 58]⟩ ++ f
def nB (k : Int) (t ky' : ByteArray) : ByteArray := if k = 2 then nK ky' else nA t
def need (k : Int) (f t : ByteArray) (am nc : Int) (ky' vl : ByteArray) (rs ws : List ByteArray) : List ByteArray :=
  if ch k f t am nc ky' vl rs ws = 0 then one2 (mn (nA f) (nB k t ky')) (mx (nA f) (nB k t ky')) else []
end Go.Proofs.YtndicjikjcifaaaDoor

namespace Go.Proofs.YtndicjikjcifaaaDoor.POw
open Go.RowKit Go.Proofs.YtndicjikjcifaaaDoorW.PrintWords Go.Proofs.YtndicjikjcifaaaDoorW.PrintLast Go.Proofs.YtndicjikjcifaaaDoorW.PrintMore
attribute [local go_sem] max2_int min2_int max_two min_two max_three min_three max_four min_four   -- for this text's walks alone
set_option linter.unusedVariables false
set_option linter.unusedSimpArgs false

def errW : Option Int → Value
  | none => .nilIface
  | some c => .iface 0 (.int .i64 c)
theorem errW_none : errW none = .nilIface := rfl
theorem errW_some (c : Int) : errW (some c) = .iface 0 (.int .i64 c) := rfl

theorem info9 : (Tryd.prog.info? 9).map (fun i => (i.zero, i.size, i.bytes)) = some (some (.string ⟨#[]⟩), 1, 16) := by kernel_rfl
-- the values' own types

end Go.Proofs.YtndicjikjcifaaaDoor.POw
