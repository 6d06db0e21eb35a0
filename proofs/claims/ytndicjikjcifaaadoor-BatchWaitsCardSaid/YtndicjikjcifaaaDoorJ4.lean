/- Texts joined by wip/tools/slim2.py: Add, Tick, Rtick, Waits, Txdec, Inref, Refdec, Refdecb, Batpre, Batsame, Txneed, POwx0, POwx1, Opens, Txown, Sealp, PFtx0, PFtx1, Txworks, Pay, Payc. -/
import Derived.Test.YtndicjikjcifaaaDoorJ1
import Derived.Test.YtndicjikjcifaaaDoorJ3
import Derived.Test.YtndicjikjcifaaaDoorJ2
import Derived.Test.YtndicjikjcifaaaDoorProg
import Derived.Shelf.Sort.Plain
import Derived.Shelf.Slices.CompactS
import Derived.Shelf.Slices.Turned
import Derived.Below
import Derived.Deep.Draws
import Derived.Deep.AppendLies
import Derived.Maps.AppendAt
import Derived.OwnWalk
import Derived.Laws.BytesArg
import Derived.Laws.MakeOwn
import Derived.Laws.OwnMore
import Derived.Deep.OwnRows
import Derived.Tactics
import Derived.Lib.ConvBytes
import Derived.Laws.Slices
import Derived.WalkKit
import Derived.KernelRfl
import Derived.RowKit3
import Derived.Deep.LoopGhost
import Derived.Deep.QuietTactic
import Derived.BigQuiet
import Derived.WideLaws
import Derived.Deep.DeepCutAuto
import Derived.Deep.CutBlock
import Derived.Deep.RegionHeld3
import Derived.Laws.Rows
import Derived.Lib.AppendStr
import Derived.ArgAppend
import Derived.Laws.IdiomCopy
import Derived.OrdersHeld
import Derived.Laws.BitsLemmas
import Derived.RowKit
import Derived.ChangeArms
import Derived.Deep.Slices
import Derived.SizedLaws
import Derived.ChangeShapes
import Derived.DataShut
/- The program's sealer: Add. -/
namespace Go.Proofs.YtndicjikjcifaaaDoor
open Go.RowKit Go.Proofs.YtndicjikjcifaaaDoorW.PrintWords Go.Proofs.YtndicjikjcifaaaDoorW.PrintLast
set_option linter.unusedVariables false
set_option linter.unusedSimpArgs false
set_option maxRecDepth 100000
open PB (S33 k33)
/-- What Add does to a sealer of the type T and answers; z: what the transaction's check says. -/
def AddP (T : TypeId) (z : Int) (g : Nat) (a0 s0 t0 k0 n0 : Int) (A : Option Addr) (c : Nat) (xs : List S33) (ok : Nat → Prop) (t : S33) (w : World) (Sf Rf : Nat → Prop) (M : List Asn) (e : Ending) (W : World) : Prop :=
  (z ≠ 0 ∧ e = .returned (.int .i64 z) ∧ St w Sf Rf (Asn.blk g [.int .i64 a0, .int .i64 s0, .int .i64 t0, .slice A xs.length c, .int .i64 k0, .int .i64 n0] T :: Asn.qu k33 33 (.slice A xs.length c) xs ok :: M) W) ∨
  (z = 0 ∧ (xs.length : Int) ≥ 4 * s0 ∧ e = .returned (.int .i64 4) ∧ St w Sf Rf (Asn.blk g [.int .i64 a0, .int .i64 s0, .int .i64 t0, .slice A xs.length c, .int .i64 k0, .int .i64 n0] T :: Asn.qu k33 33 (.slice A xs.length c) xs ok :: M) W) ∨
  (z = 0 ∧ ¬ (xs.length : Int) ≥ 4 * s0 ∧ e = .returned (.int .i64 0) ∧ ∃ A' c' ok', St w Sf Rf (Asn.blk g [.int .i64 a0, .int .i64 s0, .int .i64 t0, .slice A' (xs ++ [t]).length c', .int .i64 k0, .int .i64 n0] T :: Asn.qu k33 33 (.slice A' (xs ++ [t]).length c') (xs ++ [t]) ok' :: M) W)
set_option maxHeartbeats 1000000 in
theorem add_calls (g : Nat) (a0 s0 t0 k0 n0 : Int) (A : Option Addr) (c : Nat) (xs : List S33) (ok ok2 : Nat → Prop) (t : S33) (A7 A8 : Option Addr) (c7 c8 : Nat) (w : World) {Sf Rf : Nat → Prop} (hs0 : 1 ≤ s0) (hs1 : s0 ≤ 16)
    (H : St w Sf Rf [Asn.blk g [.int .i64 a0, .int .i64 s0, .int .i64 t0, .slice A xs.length c, .int .i64 k0, .int .i64 n0] 72, Asn.qu k33 33 (.slice A xs.length c) xs ok, Asn.fk k33 ok2 t [.int .i64 t.f0, .string t.f1, .string t.f2, .int .u64 t.f3, .int .u64 t.f4, .string t.f5, .string t.f6, .slice A7 t.f7.length c7, .slice A8 t.f8.length c8]] w) : Calls Tryd.prog 18 #[.pointer (some ⟨g, 0, none⟩), .agg #[.int .i64 t.f0, .string t.f1, .string t.f2, .int .u64 t.f3, .int .u64 t.f4, .string t.f5, .string t.f6, .slice A7 t.f7.length c7, .slice A8 t.f8.length c8]] w (AddP 72 (chT t) g a0 s0 t0 k0 n0 A c xs ok t w Sf Rf [Asn.fk k33 ok2 t [.int .i64 t.f0, .string t.f1, .string t.f2, .int .u64 t.f3, .int .u64 t.f4, .string t.f5, .string t.f6, .slice A7 t.f7.length c7, .slice A8 t.f8.length c8]]) := by
  refine c_enter2 (args := [.pointer (some ⟨g, 0, none⟩), .agg #[.int .i64 t.f0, .string t.f1, .string t.f2, .int .u64 t.f3, .int .u64 t.f4, .string t.f5, .string t.f6, .slice A7 t.f7.length c7, .slice A8 t.f8.length c8]]) (S := Sf) (R := Rf) (M := [Asn.blk g [.int .i64 a0, .int .i64 s0, .int .i64 t0, .slice A xs.length c, .int .i64 k0, .int .i64 n0] 72, Asn.qu k33 33 (.slice A xs.length c) xs ok, Asn.fk k33 ok2 t [.int .i64 t.f0, .string t.f1, .string t.f2, .int .u64 t.f3, .int .u64 t.f4, .string t.f5, .string t.f6, .slice A7 t.f7.length c7, .slice A8 t.f8.length c8]]) Tryd.func18 (by kernel_rfl) 42 Tryd.ntmps18 (Nat.le_of_ble_eq_true rfl) (H) (fun a W F H => ?_)
  have F := F.less [(0, .pointer (some ⟨g, 0, none⟩)), (1, .agg #[.int .i64 t.f0, .string t.f1, .string t.f2, .int .u64 t.f3, .int .u64 t.f4, .string t.f5, .string t.f6, .slice A7 t.f7.length c7, .slice A8 t.f8.length c8])] (subc rfl (subc rfl sub0))
  refine c_seq (by kernel_rfl) ?_
  refine c_text (id := 0) (by kernel_rfl) [(0, 2), (1, 2)] (by kernel_rfl) ?_
  refine sq_new (show Eq (α := OSk) _ (some (some 3, (.box 33 (.tmp 1)), 0, none)) by kernel_rfl) trivial F (by decide) H [.int .i64 t.f0, .string t.f1, .string t.f2, .int .u64 t.f3, .int .u64 t.f4, .string t.f5, .string t.f6, .slice A7 t.f7.length c7, .slice A8 t.f8.length c8] 33 (x_box (F.slot rfl) rfl) ?_
  intro g1 W a hg1 H F
  refine ⟨(fun _ => trivial), ?_⟩
  refine sq2 (W' := W) (show Eq (α := OSk) _ (some (some 4, (.assign (.const (.int .i64 0))), 24, none)) by kernel_rfl) trivial F (by decide) (v := .int .i64 0) (x_assign rfl) (fun _ => trivial) (fun a F => ?_)
  unfold wpSeq
  have H : St w Sf Rf [Asn.blk g [.int .i64 a0, .int .i64 s0, .int .i64 t0, .slice A xs.length c, .int .i64 k0, .int .i64 n0] 72, Asn.qu k33 33 (.slice A xs.length c) xs ok, Asn.fk k33 ok2 t [.int .i64 t.f0, .string t.f1, .string t.f2, .int .u64 t.f3, .int .u64 t.f4, .string t.f5, .string t.f6, .slice A7 t.f7.length c7, .slice A8 t.f8.length c8], Asn.blk g1 [.int .i64 t.f0, .string t.f1, .string t.f2, .int .u64 t.f3, .int .u64 t.f4, .string t.f5, .string t.f6, .slice A7 t.f7.length c7, .slice A8 t.f8.length c8] 33] W := H
  refine t_normal ?_
  refine c_seq (by kernel_rfl) ?_
  refine c_seq (by kernel_rfl) ?_
  refine c_text (id := 1) (by kernel_rfl) [(0, 2), (1, 2), (2, 2)] (by kernel_rfl) ?_
  refine sq2 (show Eq (α := OSk) _ (some (some 6, (.load 33 (.tmp 3)), 33, none)) by kernel_rfl) trivial F (by decide) (v := .agg #[.int .i64 t.f0, .string t.f1, .string t.f2, .int .u64 t.f3, .int .u64 t.f4, .string t.f5, .string t.f6, .slice A7 t.f7.length c7, .slice A8 t.f8.length c8]) (x_loadB (Tryd.isAgg33 W) [.int .i64 t.f0, .string t.f1, .string t.f2, .int .u64 t.f3, .int .u64 t.f4, .string t.f5, .string t.f6, .slice A7 t.f7.length c7, .slice A8 t.f8.length c8] (Tryd.sizeOf33 W) (F.slot rfl) (H.blk 3 rfl)) (fun _ => trivial) (fun a F => ?_)
  obtain ⟨l7, g7, l8, g8⟩ := k33_parts (H.rd 2 rfl)
  obtain ⟨z, hz⟩ : ∃ z, chT t = z := ⟨_, rfl⟩
  refine sqc (show Eq (α := OSk) _ (some (some 7, (.call { callee := (.value (.func 41)), args := #[(.tmp 6)], argTypes := #[33] }), 24, none)) by kernel_rfl) trivial F (by decide) (x_call Tryd.func41 (by kernel_rfl) rfl (args_1 (F.slot rfl))) (tx_Check.calls t.f0 t.f1 t.f2 t.f3 t.f4 t.f5 t.f6 A7 c7 t.f7 A8 c8 t.f8 z W g7 l7 g8 l8 (congrArg some hz)) ?_
  rintro e W ⟨rfl, hB⟩
  refine ⟨_, rfl, fun a F => ?_⟩
  have H := H.below hB
  refine ⟨(fun _ => trivial), ?_⟩
  refine sq2 (W' := W) (show Eq (α := OSk) _ (some (some 5, (.assign (.tmp 7)), 24, none)) by kernel_rfl) trivial F (by decide) (v := .int .i64 z) (x_assign (F.slot rfl)) (fun _ => trivial) (fun a F => ?_)
  unfold wpSeq
  refine t_normal ?_
  refine c_seq (by kernel_rfl) ?_
  refine c_text (id := 2) (by kernel_rfl) [(0, 2), (1, 2)] (by kernel_rfl) ?_
  refine sq2 (W' := W) (show Eq (α := OSk) _ (some (some 8, (.move (.tmp 5)), 24, none)) by kernel_rfl) trivial F (by decide) (v := .int .i64 z) (x_move (F.slot rfl)) (fun _ => trivial) (fun a F => ?_)
  refine sq2 (W' := W) (show Eq (α := OSk) _ (some (some 9, (.binOp .neq 24 (.tmp 8) (.const (.int .i64 0)) 24), 4, none)) by kernel_rfl) trivial F (by decide) (v := .bool (z != (0 : Int))) (x_int (F.slot rfl) rfl rfl) (fun _ => trivial) (fun a F => ?_)
  unfold wpSeq
  refine t_normal ?_
  rcases bool_or (z != (0 : Int)) with hb2 | hb2
  · have F := F.at 9 rfl (v' := .bool true) (congrArg Value.bool hb2)
    refine c_yes (c := .tmp 9) (by kernel_rfl) (F.slot rfl) ?_
    refine c_seq (by kernel_rfl) ?_
    refine c_text (id := 3) (by kernel_rfl) [(0, 2), (1, 2)] (by kernel_rfl) ?_
    refine sq2 (W' := W) (show Eq (α := OSk) _ (some (some 10, (.move (.tmp 5)), 24, none)) by kernel_rfl) trivial F (by decide) (v := .int .i64 z) (x_move (F.slot rfl)) (fun _ => trivial) (fun a F => ?_)
    refine sq2 (W' := W) (show Eq (α := OSk) _ (some (some 4, (.assign (.tmp 10)), 24, none)) by kernel_rfl) trivial F (by decide) (v := .int .i64 z) (x_assign (F.slot rfl)) (fun _ => trivial) (fun a F => ?_)
    unfold wpSeq
    refine t_normal ?_
    refine c_ret (by kernel_rfl) ?_
    refine t_ret ?_
    refine p_tmp Tryd.results18 F rfl ?_
    exact .inl ⟨by rw [hz]; simpa using hb2, by rw [hz], H.front 3⟩
  · have F := F.at 9 rfl (v' := .bool false) (congrArg Value.bool hb2)
    refine c_no (c := .tmp 9) (by kernel_rfl) (F.slot rfl) ?_
    refine c_skip (by kernel_rfl) ?_
    refine t_normal ?_
    refine c_seq (by kernel_rfl) ?_
    refine c_seq (by kernel_rfl) ?_
    refine c_drawn (id := 4) (by kernel_rfl) (by kernel_rfl) (Vs [Asn.blk g [.int .i64 a0, .int .i64 s0, .int .i64 t0, .slice A xs.length c, .int .i64 k0, .int .i64 n0] 72]) [0, 1, 3, 7, 15, 0, 32, 96, 224, 480, 1023] [] [(0, 0), (1, 0), (2, 0), (5, 0), (6, 0), (7, 0), (3, 1), (4, 0), (8, 1), (9, 0), (10, 0)] (by kernel_rfl) (fun _ _ d _ _ h => by cases d <;> exact h) (Vs.drew ⟨H.get 0 rfl, trivial⟩) ?_
    have H := H.drew
    generalize World.drew W = W at H ⊢
    refine sq0 (show Eq (α := OSk) _ (some (some 11, (.move (.tmp 0)), 23, none)) by kernel_rfl) trivial F (by decide) (v := .pointer (some ⟨g, 0, none⟩)) (fun W_ => x_move (F.slot rfl)) (fun a F => ?_)
    refine sq0 (show Eq (α := OSk) _ (some (some 12, (.nilCheck (.tmp 11)), 0, none)) by kernel_rfl) trivial F (by decide) (v := .pointer (some ⟨g, 0, none⟩)) (fun W_ => x_nil (F.slot rfl)) (fun a F => ?_)
    refine sq0 (show Eq (α := OSk) _ (some (some 13, (.fieldAddr 72 (.tmp 12) 3), 0, none)) by kernel_rfl) trivial F (by decide) (v := .pointer (some ⟨g, 3, none⟩)) (fun W_ => x_field0 Tryd.underlying72 rfl rfl (Tryd.sizeOf38 W_) (F.slot rfl)) (fun a F => ?_)
    refine sq0 (show Eq (α := OSk) _ (some (some 16, (.move (.tmp 0)), 23, none)) by kernel_rfl) trivial F (by decide) (v := .pointer (some ⟨g, 0, none⟩)) (fun W_ => x_move (F.slot rfl)) (fun a F => ?_)
    refine sq0 (show Eq (α := OSk) _ (some (some 17, (.nilCheck (.tmp 16)), 0, none)) by kernel_rfl) trivial F (by decide) (v := .pointer (some ⟨g, 0, none⟩)) (fun W_ => x_nil (F.slot rfl)) (fun a F => ?_)
    refine sq0 (show Eq (α := OSk) _ (some (some 18, (.fieldAddr 72 (.tmp 17) 1), 0, none)) by kernel_rfl) trivial F (by decide) (v := .pointer (some ⟨g, 1, none⟩)) (fun W_ => x_field0 Tryd.underlying72 rfl rfl (Tryd.sizeOf3 W_) (F.slot rfl)) (fun a F => ?_)
    refine sq1 (show Eq (α := OSk) _ (some (some 14, (.load 38 (.tmp 13)), 38, none)) by kernel_rfl) trivial F (by decide) (⟨H.get 0 rfl, trivial⟩) (v := .slice A xs.length c) (fun W_ hV => x_load1 (Tryd.isAgg38 W_) (F.slot rfl) (bcell hV.1 rfl)) (fun a F => ?_)
    refine sq0 (show Eq (α := OSk) _ (some (some 15, (.call { callee := (.builtin .len), args := #[(.tmp 14)], argTypes := #[38] }), 3, none)) by kernel_rfl) trivial F (by decide) (v := .int .i64 (xs.length : Int)) (fun W_ => x_lenL Tryd.underlying38 (F.slot rfl)) (fun a F => ?_)
    refine sq1 (show Eq (α := OSk) _ (some (some 19, (.load 3 (.tmp 18)), 3, none)) by kernel_rfl) trivial F (by decide) (⟨H.get 0 rfl, trivial⟩) (v := .int .i64 s0) (fun W_ hV => x_load1 (Tryd.isAgg3 W_) (F.slot rfl) (bcell hV.1 rfl)) (fun a F => ?_)
    refine sq0 (show Eq (α := OSk) _ (some (some 20, (.binOp .mul 3 (.const (.int .i64 4)) (.tmp 19) 3), 3, none)) by kernel_rfl) trivial F (by decide) (v := .int .i64 (IntKind.i64.wrap (4 * s0))) (fun W_ => x_int rfl (F.slot rfl) rfl) (fun a F => ?_)
    have F := F.conv (v' := .int .i64 (4 * s0)) (congrArg (Value.int .i64) (wrap_i64 _ (by omega) (by omega)))
    refine sq0 (show Eq (α := OSk) _ (some (some 21, (.binOp .geq 3 (.tmp 15) (.tmp 20) 3), 4, none)) by kernel_rfl) trivial F (by decide) (v := .bool (decide ((xs.length : Int) ≥ (4 * s0)))) (fun W_ => x_int (F.slot rfl) (F.slot rfl) rfl) (fun a F => ?_)
    unfold wpSeq
    refine t_normal ?_
    rcases bool_or (decide ((xs.length : Int) ≥ (4 * s0))) with hb4 | hb4
    · have hb4d := of_decide_eq_true hb4
      have F := F.at 21 rfl (v' := .bool true) (congrArg Value.bool hb4)
      refine c_yes (c := .tmp 21) (by kernel_rfl) (F.slot rfl) ?_
      refine c_seq (by kernel_rfl) ?_
      refine c_text (id := 5) (by kernel_rfl) [(0, 2)] (by kernel_rfl) ?_
      refine sq2 (W' := W) (show Eq (α := OSk) _ (some (some 4, (.assign (.const (.int .i64 4))), 24, none)) by kernel_rfl) trivial F (by decide) (v := .int .i64 4) (x_assign rfl) (fun _ => trivial) (fun a F => ?_)
      unfold wpSeq
      refine t_normal ?_
      refine c_ret (by kernel_rfl) ?_
      refine t_ret ?_
      refine p_tmp Tryd.results18 F rfl ?_
      exact .inr (.inl ⟨by rw [hz]; simpa using hb2, by omega, rfl, H.front 3⟩)
    · have hb4d := of_decide_eq_false hb4
      have F := F.at 21 rfl (v' := .bool false) (congrArg Value.bool hb4)
      refine c_no (c := .tmp 21) (by kernel_rfl) (F.slot rfl) ?_
      refine c_skip (by kernel_rfl) ?_
      refine t_normal ?_
      refine c_cut (by kernel_rfl) (fun a W => ∃ (A6_3 : Option Addr) (c6_3 : Nat) (A6_7 : Option Addr) (c6_7 : Nat), Fr 42 [(0, .pointer (some ⟨g, 0, none⟩)), (1, .agg #[.int .i64 t.f0, .string t.f1, .string t.f2, .int .u64 t.f3, .int .u64 t.f4, .string t.f5, .string t.f6, .slice A7 t.f7.length c7, .slice A8 t.f8.length c8]), (3, .pointer (some ⟨g1, 0, none⟩)), (4, .int .i64 0), (6, .agg #[.int .i64 t.f0, .string t.f1, .string t.f2, .int .u64 t.f3, .int .u64 t.f4, .string t.f5, .string t.f6, .slice A7 t.f7.length c7, .slice A8 t.f8.length c8]), (7, .int .i64 z), (5, .int .i64 z), (8, .int .i64 z), (9, .bool false), (11, .pointer (some ⟨g, 0, none⟩)), (12, .pointer (some ⟨g, 0, none⟩)), (13, .pointer (some ⟨g, 3, none⟩)), (16, .pointer (some ⟨g, 0, none⟩)), (17, .pointer (some ⟨g, 0, none⟩)), (18, .pointer (some ⟨g, 1, none⟩)), (14, .slice A xs.length c), (15, .int .i64 (xs.length : Int)), (19, .int .i64 s0), (20, .int .i64 (4 * s0)), (21, .bool false)] a ∧ St w Sf Rf [Asn.blk g [.int .i64 a0, .int .i64 s0, .int .i64 t0, .slice A xs.length c, .int .i64 k0, .int .i64 n0] 72, Asn.qu k33 33 (.slice A xs.length c) xs ok, Asn.fk k33 ok2 t [.int .i64 t.f0, .string t.f1, .string t.f2, .int .u64 t.f3, .int .u64 t.f4, .string t.f5, .string t.f6, .slice A7 t.f7.length c7, .slice A8 t.f8.length c8], Asn.blk g1 [.int .i64 t.f0, .string t.f1, .string t.f2, .int .u64 t.f3, .int .u64 t.f4, .string t.f5, .string t.f6, .slice A6_3 ((t.f7).length) c6_3, .slice A6_7 ((t.f8).length) c6_7] 33, Asn.rd Kd.string ok2 A7 t.f7.length t.f7, Asn.rd Kd.string ok2 A8 t.f8.length t.f8, Asn.qu Kd.string 9 (.slice A6_3 ((t.f7).length) c6_3) t.f7 (fun _ => False), Asn.qu Kd.string 9 (.slice A6_7 ((t.f8).length) c6_7) t.f8 (fun _ => False)] W ∧ ((t.f7).length ≤ c6_3) ∧ ((t.f8).length ≤ c6_7)) ?_ ?_
      · have hF := ch_fine (show chT t = 0 from hz.trans (by simpa using hb2))
        have hr7 := (ke_zero hF.rs).1
        have hr8 := (ke_zero hF.ws).1
        have H := H.addF1 2 rfl (fun _ h => h) (fun W => Kd.string.C W A7 t.f7.length t.f7) ok2 (fun _ h => h) (Foot.imp (H.get 2 rfl) (fun W' h => (k33_parts h).2.1))
        have H := H.addF1 2 rfl (fun _ h => h) (fun W => Kd.string.C W A8 t.f8.length t.f8) ok2 (fun _ h => h) (Foot.imp (H.get 2 rfl) (fun W' h => (k33_parts h).2.2.2))
        have H : St w Sf Rf [Asn.blk g [.int .i64 a0, .int .i64 s0, .int .i64 t0, .slice A xs.length c, .int .i64 k0, .int .i64 n0] 72, Asn.qu k33 33 (.slice A xs.length c) xs ok, Asn.fk k33 ok2 t [.int .i64 t.f0, .string t.f1, .string t.f2, .int .u64 t.f3, .int .u64 t.f4, .string t.f5, .string t.f6, .slice A7 t.f7.length c7, .slice A8 t.f8.length c8], Asn.blk g1 [.int .i64 t.f0, .string t.f1, .string t.f2, .int .u64 t.f3, .int .u64 t.f4, .string t.f5, .string t.f6, .slice A7 t.f7.length c7, .slice A8 t.f8.length c8] 33, Asn.rd Kd.string ok2 A7 t.f7.length t.f7, Asn.rd Kd.string ok2 A8 t.f8.length t.f8] W := H
        refine c_drawnT (id := 6) (by kernel_rfl) (by kernel_rfl) (Vs [Asn.blk g1 [.int .i64 t.f0, .string t.f1, .string t.f2, .int .u64 t.f3, .int .u64 t.f4, .string t.f5, .string t.f6, .slice A7 t.f7.length c7, .slice A8 t.f8.length c8] 33]) [0, 0, 2, 7, 0, 0, 32, 127, 111, 511, 1023, 2047] [9, 11] (.two [(1, 0), (5, 0), (2, 1), (6, 1)] 0 (.two [] 3 (.line [(8, 0), (4, 2), (7, 2), (9, 2), (10, 0), (11, 2)]) 4 (.line [(3, 2), (8, 0), (7, 2), (9, 2), (10, 0), (11, 2)])) 4 (.line [(0, 2), (3, 2), (8, 0), (7, 2), (9, 2), (10, 0), (11, 2)])) (by kernel_rfl) (fun _ _ d _ _ h => by cases d <;> exact h) (Vs.drew ⟨H.get 3 rfl, trivial⟩) ?_
        have H := H.drew
        generalize World.drew W = W at H ⊢
        refine t_two ?_
        refine sq0 (show Eq (α := OSk) _ (some (some 23, (.fieldAddr 33 (.tmp 3) 7), 0, none)) by kernel_rfl) trivial F (by decide) (v := .pointer (some ⟨g1, 7, none⟩)) (fun W_ => x_field0 Tryd.underlying33 rfl rfl (Tryd.sizeOf31 W_) (F.slot rfl)) (fun a F => ?_)
        refine sq0 (show Eq (α := OSk) _ (some (some 27, (.fieldAddr 33 (.tmp 3) 8), 0, none)) by kernel_rfl) trivial F (by decide) (v := .pointer (some ⟨g1, 8, none⟩)) (fun W_ => x_field0 Tryd.underlying33 rfl rfl (Tryd.sizeOf31 W_) (F.slot rfl)) (fun a F => ?_)
        refine sq1 (show Eq (α := OSk) _ (some (some 24, (.load 31 (.tmp 23)), 31, none)) by kernel_rfl) trivial F (by decide) (⟨H.get 3 rfl, trivial⟩) (v := .slice A7 t.f7.length c7) (fun W_ hV => x_load1 (Tryd.isAgg31 W_) (F.slot rfl) (bcell hV.1 rfl)) (fun a F => ?_)
        refine sq1 (show Eq (α := OSk) _ (some (some 28, (.load 31 (.tmp 27)), 31, none)) by kernel_rfl) trivial F (by decide) (⟨H.get 3 rfl, trivial⟩) (v := .slice A8 t.f8.length c8) (fun W_ hV => x_load1 (Tryd.isAgg31 W_) (F.slot rfl) (bcell hV.1 rfl)) (fun a F => ?_)
        refine sq_nil ?_
        refine f_two ?_ ?_
        · refine sq_lit0 Kd.string (show Eq (α := OSk) _ (some (some 22, (.buildSlice 31 0 #[]), 31, none)) by kernel_rfl) trivial F (by decide) Tryd.underlying31 (show (Tryd.prog.info? 9).map (fun i => (i.zero, i.size, i.bytes)) = some (some (.string ⟨#[]⟩), 1, 16) by kernel_rfl) H ?_
          intro A6_0 W a H F
          refine ⟨(fun _ => ⟨H.get 3 rfl, trivial⟩), ?_⟩
          refine sq_nil ?_
          refine t_normal ?_
          refine t_two ?_
          refine sq_nil ?_
          refine f_two ?_ ?_
          · refine sq_rapp Kd.string 6 4 (by decide) (show Eq (α := OSk) _ (some (some 25, (.call { callee := (.builtin .append), args := #[(.tmp 22), (.tmp 24)], argTypes := #[31, 31] }), 31, none)) by kernel_rfl) trivial F (by decide) (F.slot rfl) (F.slot rfl) (rfl) Tryd.underlying31 (show (Tryd.prog.info? 9).map (fun i => (i.zero, i.size, i.bytes)) = some (some (.string ⟨#[]⟩), 1, 16) by kernel_rfl) rfl (by decide) (by decide) H rfl rfl (by simp only [List.length_nil]; omega) ?_
            intro v_ W a H F
            rw [List.nil_append] at H
            have H := H.quFlat 6 string_flat rfl
            obtain ⟨A6_3, c6_3, rfl, hc6_3⟩ := (H.qu 6 rfl).form
            have H : St w Sf Rf [Asn.blk g [.int .i64 a0, .int .i64 s0, .int .i64 t0, .slice A xs.length c, .int .i64 k0, .int .i64 n0] 72, Asn.qu k33 33 (.slice A xs.length c) xs ok, Asn.fk k33 ok2 t [.int .i64 t.f0, .string t.f1, .string t.f2, .int .u64 t.f3, .int .u64 t.f4, .string t.f5, .string t.f6, .slice A7 t.f7.length c7, .slice A8 t.f8.length c8], Asn.blk g1 [.int .i64 t.f0, .string t.f1, .string t.f2, .int .u64 t.f3, .int .u64 t.f4, .string t.f5, .string t.f6, .slice A7 t.f7.length c7, .slice A8 t.f8.length c8] 33, Asn.rd Kd.string ok2 A7 t.f7.length t.f7, Asn.rd Kd.string ok2 A8 t.f8.length t.f8, Asn.qu Kd.string 9 (.slice A6_3 ((t.f7).length) c6_3) t.f7 (fun _ => False)] W := H
            refine ⟨(fun _ => ⟨H.get 3 rfl, trivial⟩), ?_⟩
            refine sq_nil ?_
            refine t_normal ?_
            refine t_line ?_
            refine sq0 (show Eq (α := OSk) _ (some (some 30, (.fieldAddr 33 (.tmp 3) 7), 0, none)) by kernel_rfl) trivial F (by decide) (v := .pointer (some ⟨g1, 7, none⟩)) (fun W_ => x_field0 Tryd.underlying33 rfl rfl (Tryd.sizeOf31 W_) (F.slot rfl)) (fun a F => ?_)
            refine sq_lit0 Kd.string (show Eq (α := OSk) _ (some (some 26, (.buildSlice 31 0 #[]), 31, none)) by kernel_rfl) trivial F (by decide) Tryd.underlying31 (show (Tryd.prog.info? 9).map (fun i => (i.zero, i.size, i.bytes)) = some (some (.string ⟨#[]⟩), 1, 16) by kernel_rfl) H ?_
            intro A6_4 W a H F
            refine ⟨(fun _ => ⟨H.get 3 rfl, trivial⟩), ?_⟩
            refine sq_rapp Kd.string 7 5 (by decide) (show Eq (α := OSk) _ (some (some 29, (.call { callee := (.builtin .append), args := #[(.tmp 26), (.tmp 28)], argTypes := #[31, 31] }), 31, none)) by kernel_rfl) trivial F (by decide) (F.slot rfl) (F.slot rfl) (rfl) Tryd.underlying31 (show (Tryd.prog.info? 9).map (fun i => (i.zero, i.size, i.bytes)) = some (some (.string ⟨#[]⟩), 1, 16) by kernel_rfl) rfl (by decide) (by decide) H rfl rfl (by simp only [List.length_nil]; omega) ?_
            intro v_ W a H F
            rw [List.nil_append] at H
            have H := H.quFlat 7 string_flat rfl
            obtain ⟨A6_7, c6_7, rfl, hc6_7⟩ := (H.qu 7 rfl).form
            have H : St w Sf Rf [Asn.blk g [.int .i64 a0, .int .i64 s0, .int .i64 t0, .slice A xs.length c, .int .i64 k0, .int .i64 n0] 72, Asn.qu k33 33 (.slice A xs.length c) xs ok, Asn.fk k33 ok2 t [.int .i64 t.f0, .string t.f1, .string t.f2, .int .u64 t.f3, .int .u64 t.f4, .string t.f5, .string t.f6, .slice A7 t.f7.length c7, .slice A8 t.f8.length c8], Asn.blk g1 [.int .i64 t.f0, .string t.f1, .string t.f2, .int .u64 t.f3, .int .u64 t.f4, .string t.f5, .string t.f6, .slice A7 t.f7.length c7, .slice A8 t.f8.length c8] 33, Asn.rd Kd.string ok2 A7 t.f7.length t.f7, Asn.rd Kd.string ok2 A8 t.f8.length t.f8, Asn.qu Kd.string 9 (.slice A6_3 ((t.f7).length) c6_3) t.f7 (fun _ => False), Asn.qu Kd.string 9 (.slice A6_7 ((t.f8).length) c6_7) t.f8 (fun _ => False)] W := H
            refine ⟨(fun _ => ⟨H.get 3 rfl, trivial⟩), ?_⟩
            refine sq_put (M := [Asn.blk g [.int .i64 a0, .int .i64 s0, .int .i64 t0, .slice A xs.length c, .int .i64 k0, .int .i64 n0] 72, Asn.qu k33 33 (.slice A xs.length c) xs ok, Asn.fk k33 ok2 t [.int .i64 t.f0, .string t.f1, .string t.f2, .int .u64 t.f3, .int .u64 t.f4, .string t.f5, .string t.f6, .slice A7 t.f7.length c7, .slice A8 t.f8.length c8], Asn.blk g1 [.int .i64 t.f0, .string t.f1, .string t.f2, .int .u64 t.f3, .int .u64 t.f4, .string t.f5, .string t.f6, .slice A6_3 ((t.f7).length) c6_3, .slice A8 t.f8.length c8] 33, Asn.rd Kd.string ok2 A7 t.f7.length t.f7, Asn.rd Kd.string ok2 A8 t.f8.length t.f8, Asn.qu Kd.string 9 (.slice A6_3 ((t.f7).length) c6_3) t.f7 (fun _ => False), Asn.qu Kd.string 9 (.slice A6_7 ((t.f8).length) c6_7) t.f8 (fun _ => False)]) (show Eq (α := OSk) _ (some (none, (.store 31 (.tmp 30) (.tmp 25)), 0, none)) by kernel_rfl) trivial F (x_store H (k := 3) (cs' := [.int .i64 t.f0, .string t.f1, .string t.f2, .int .u64 t.f3, .int .u64 t.f4, .string t.f5, .string t.f6, .slice A6_3 ((t.f7).length) c6_3, .slice A8 t.f8.length c8]) rfl (Tryd.sizeOf31 W) (F.slot rfl) (F.slot rfl) rfl (Nat.le_of_ble_eq_true rfl) rfl rfl) ?_
            intro W H
            refine ⟨(fun h => absurd (by decide) h), ?_⟩
            refine sq0 (show Eq (α := OSk) _ (some (some 31, (.fieldAddr 33 (.tmp 3) 8), 0, none)) by kernel_rfl) trivial F (by decide) (v := .pointer (some ⟨g1, 8, none⟩)) (fun W_ => x_field0 Tryd.underlying33 rfl rfl (Tryd.sizeOf31 W_) (F.slot rfl)) (fun a F => ?_)
            refine sq_put (M := [Asn.blk g [.int .i64 a0, .int .i64 s0, .int .i64 t0, .slice A xs.length c, .int .i64 k0, .int .i64 n0] 72, Asn.qu k33 33 (.slice A xs.length c) xs ok, Asn.fk k33 ok2 t [.int .i64 t.f0, .string t.f1, .string t.f2, .int .u64 t.f3, .int .u64 t.f4, .string t.f5, .string t.f6, .slice A7 t.f7.length c7, .slice A8 t.f8.length c8], Asn.blk g1 [.int .i64 t.f0, .string t.f1, .string t.f2, .int .u64 t.f3, .int .u64 t.f4, .string t.f5, .string t.f6, .slice A6_3 ((t.f7).length) c6_3, .slice A6_7 ((t.f8).length) c6_7] 33, Asn.rd Kd.string ok2 A7 t.f7.length t.f7, Asn.rd Kd.string ok2 A8 t.f8.length t.f8, Asn.qu Kd.string 9 (.slice A6_3 ((t.f7).length) c6_3) t.f7 (fun _ => False), Asn.qu Kd.string 9 (.slice A6_7 ((t.f8).length) c6_7) t.f8 (fun _ => False)]) (show Eq (α := OSk) _ (some (none, (.store 31 (.tmp 31) (.tmp 29)), 0, none)) by kernel_rfl) trivial F (x_store H (k := 3) (cs' := [.int .i64 t.f0, .string t.f1, .string t.f2, .int .u64 t.f3, .int .u64 t.f4, .string t.f5, .string t.f6, .slice A6_3 ((t.f7).length) c6_3, .slice A6_7 ((t.f8).length) c6_7]) rfl (Tryd.sizeOf31 W) (F.slot rfl) (F.slot rfl) rfl (Nat.le_of_ble_eq_true rfl) rfl rfl) ?_
            intro W H
            refine ⟨(fun h => absurd (by decide) h), ?_⟩
            refine sq_nil ?_
            refine t_normal ?_
            exact ⟨A6_3, c6_3, A6_7, c6_7, F.less _ (subc rfl (subc rfl (subc rfl (subc rfl (subc rfl (subc rfl (subc rfl (subc rfl (subc rfl (subc rfl (subc rfl (subc rfl (subc rfl (subc rfl (subc rfl (subc rfl (subc rfl (subc rfl (subc rfl (subc rfl sub0)))))))))))))))))))), H, hc6_3, hc6_7⟩
          · refine sq_lit0 Kd.string (show Eq (α := OSk) _ (some (some 26, (.buildSlice 31 0 #[]), 31, none)) by kernel_rfl) trivial F (by decide) Tryd.underlying31 (show (Tryd.prog.info? 9).map (fun i => (i.zero, i.size, i.bytes)) = some (some (.string ⟨#[]⟩), 1, 16) by kernel_rfl) H ?_
            intro A6_4 W a H F
            refine ⟨(fun _ => ⟨H.get 3 rfl, trivial⟩), ?_⟩
            refine sq_nil ?_
            refine t_normal ?_
            refine t_line ?_
            refine sq_rapp Kd.string 6 4 (by decide) (show Eq (α := OSk) _ (some (some 25, (.call { callee := (.builtin .append), args := #[(.tmp 22), (.tmp 24)], argTypes := #[31, 31] }), 31, none)) by kernel_rfl) trivial F (by decide) (F.slot rfl) (F.slot rfl) (rfl) Tryd.underlying31 (show (Tryd.prog.info? 9).map (fun i => (i.zero, i.size, i.bytes)) = some (some (.string ⟨#[]⟩), 1, 16) by kernel_rfl) rfl (by decide) (by decide) H rfl rfl (by simp only [List.length_nil]; omega) ?_
            intro v_ W a H F
            rw [List.nil_append] at H
            have H := H.quFlat 6 string_flat rfl
            obtain ⟨A6_3, c6_3, rfl, hc6_3⟩ := (H.qu 6 rfl).form
            have H : St w Sf Rf [Asn.blk g [.int .i64 a0, .int .i64 s0, .int .i64 t0, .slice A xs.length c, .int .i64 k0, .int .i64 n0] 72, Asn.qu k33 33 (.slice A xs.length c) xs ok, Asn.fk k33 ok2 t [.int .i64 t.f0, .string t.f1, .string t.f2, .int .u64 t.f3, .int .u64 t.f4, .string t.f5, .string t.f6, .slice A7 t.f7.length c7, .slice A8 t.f8.length c8], Asn.blk g1 [.int .i64 t.f0, .string t.f1, .string t.f2, .int .u64 t.f3, .int .u64 t.f4, .string t.f5, .string t.f6, .slice A7 t.f7.length c7, .slice A8 t.f8.length c8] 33, Asn.rd Kd.string ok2 A7 t.f7.length t.f7, Asn.rd Kd.string ok2 A8 t.f8.length t.f8, Asn.qu Kd.string 9 (.slice A6_3 ((t.f7).length) c6_3) t.f7 (fun _ => False), Asn.qu Kd.string 9 (.slice A6_4 0 0) [] (fun _ => False)] W := H
            refine ⟨(fun _ => ⟨H.get 3 rfl, trivial⟩), ?_⟩
            refine sq0 (show Eq (α := OSk) _ (some (some 30, (.fieldAddr 33 (.tmp 3) 7), 0, none)) by kernel_rfl) trivial F (by decide) (v := .pointer (some ⟨g1, 7, none⟩)) (fun W_ => x_field0 Tryd.underlying33 rfl rfl (Tryd.sizeOf31 W_) (F.slot rfl)) (fun a F => ?_)
            refine sq_rapp Kd.string 7 5 (by decide) (show Eq (α := OSk) _ (some (some 29, (.call { callee := (.builtin .append), args := #[(.tmp 26), (.tmp 28)], argTypes := #[31, 31] }), 31, none)) by kernel_rfl) trivial F (by decide) (F.slot rfl) (F.slot rfl) (rfl) Tryd.underlying31 (show (Tryd.prog.info? 9).map (fun i => (i.zero, i.size, i.bytes)) = some (some (.string ⟨#[]⟩), 1, 16) by kernel_rfl) rfl (by decide) (by decide) H rfl rfl (by simp only [List.length_nil]; omega) ?_
            intro v_ W a H F
            rw [List.nil_append] at H
            have H := H.quFlat 7 string_flat rfl
            obtain ⟨A6_7, c6_7, rfl, hc6_7⟩ := (H.qu 7 rfl).form
            have H : St w Sf Rf [Asn.blk g [.int .i64 a0, .int .i64 s0, .int .i64 t0, .slice A xs.length c, .int .i64 k0, .int .i64 n0] 72, Asn.qu k33 33 (.slice A xs.length c) xs ok, Asn.fk k33 ok2 t [.int .i64 t.f0, .string t.f1, .string t.f2, .int .u64 t.f3, .int .u64 t.f4, .string t.f5, .string t.f6, .slice A7 t.f7.length c7, .slice A8 t.f8.length c8], Asn.blk g1 [.int .i64 t.f0, .string t.f1, .string t.f2, .int .u64 t.f3, .int .u64 t.f4, .string t.f5, .string t.f6, .slice A7 t.f7.length c7, .slice A8 t.f8.length c8] 33, Asn.rd Kd.string ok2 A7 t.f7.length t.f7, Asn.rd Kd.string ok2 A8 t.f8.length t.f8, Asn.qu Kd.string 9 (.slice A6_3 ((t.f7).length) c6_3) t.f7 (fun _ => False), Asn.qu Kd.string 9 (.slice A6_7 ((t.f8).length) c6_7) t.f8 (fun _ => False)] W := H
            refine ⟨(fun _ => ⟨H.get 3 rfl, trivial⟩), ?_⟩
            refine sq_put (M := [Asn.blk g [.int .i64 a0, .int .i64 s0, .int .i64 t0, .slice A xs.length c, .int .i64 k0, .int .i64 n0] 72, Asn.qu k33 33 (.slice A xs.length c) xs ok, Asn.fk k33 ok2 t [.int .i64 t.f0, .string t.f1, .string t.f2, .int .u64 t.f3, .int .u64 t.f4, .string t.f5, .string t.f6, .slice A7 t.f7.length c7, .slice A8 t.f8.length c8], Asn.blk g1 [.int .i64 t.f0, .string t.f1, .string t.f2, .int .u64 t.f3, .int .u64 t.f4, .string t.f5, .string t.f6, .slice A6_3 ((t.f7).length) c6_3, .slice A8 t.f8.length c8] 33, Asn.rd Kd.string ok2 A7 t.f7.length t.f7, Asn.rd Kd.string ok2 A8 t.f8.length t.f8, Asn.qu Kd.string 9 (.slice A6_3 ((t.f7).length) c6_3) t.f7 (fun _ => False), Asn.qu Kd.string 9 (.slice A6_7 ((t.f8).length) c6_7) t.f8 (fun _ => False)]) (show Eq (α := OSk) _ (some (none, (.store 31 (.tmp 30) (.tmp 25)), 0, none)) by kernel_rfl) trivial F (x_store H (k := 3) (cs' := [.int .i64 t.f0, .string t.f1, .string t.f2, .int .u64 t.f3, .int .u64 t.f4, .string t.f5, .string t.f6, .slice A6_3 ((t.f7).length) c6_3, .slice A8 t.f8.length c8]) rfl (Tryd.sizeOf31 W) (F.slot rfl) (F.slot rfl) rfl (Nat.le_of_ble_eq_true rfl) rfl rfl) ?_
            intro W H
            refine ⟨(fun h => absurd (by decide) h), ?_⟩
            refine sq0 (show Eq (α := OSk) _ (some (some 31, (.fieldAddr 33 (.tmp 3) 8), 0, none)) by kernel_rfl) trivial F (by decide) (v := .pointer (some ⟨g1, 8, none⟩)) (fun W_ => x_field0 Tryd.underlying33 rfl rfl (Tryd.sizeOf31 W_) (F.slot rfl)) (fun a F => ?_)
            refine sq_put (M := [Asn.blk g [.int .i64 a0, .int .i64 s0, .int .i64 t0, .slice A xs.length c, .int .i64 k0, .int .i64 n0] 72, Asn.qu k33 33 (.slice A xs.length c) xs ok, Asn.fk k33 ok2 t [.int .i64 t.f0, .string t.f1, .string t.f2, .int .u64 t.f3, .int .u64 t.f4, .string t.f5, .string t.f6, .slice A7 t.f7.length c7, .slice A8 t.f8.length c8], Asn.blk g1 [.int .i64 t.f0, .string t.f1, .string t.f2, .int .u64 t.f3, .int .u64 t.f4, .string t.f5, .string t.f6, .slice A6_3 ((t.f7).length) c6_3, .slice A6_7 ((t.f8).length) c6_7] 33, Asn.rd Kd.string ok2 A7 t.f7.length t.f7, Asn.rd Kd.string ok2 A8 t.f8.length t.f8, Asn.qu Kd.string 9 (.slice A6_3 ((t.f7).length) c6_3) t.f7 (fun _ => False), Asn.qu Kd.string 9 (.slice A6_7 ((t.f8).length) c6_7) t.f8 (fun _ => False)]) (show Eq (α := OSk) _ (some (none, (.store 31 (.tmp 31) (.tmp 29)), 0, none)) by kernel_rfl) trivial F (x_store H (k := 3) (cs' := [.int .i64 t.f0, .string t.f1, .string t.f2, .int .u64 t.f3, .int .u64 t.f4, .string t.f5, .string t.f6, .slice A6_3 ((t.f7).length) c6_3, .slice A6_7 ((t.f8).length) c6_7]) rfl (Tryd.sizeOf31 W) (F.slot rfl) (F.slot rfl) rfl (Nat.le_of_ble_eq_true rfl) rfl rfl) ?_
            intro W H
            refine ⟨(fun h => absurd (by decide) h), ?_⟩
            refine sq_nil ?_
            refine t_normal ?_
            exact ⟨A6_3, c6_3, A6_7, c6_7, F.less _ (subc rfl (subc rfl (subc rfl (subc rfl (subc rfl (subc rfl (subc rfl (subc rfl (subc rfl (subc rfl (subc rfl (subc rfl (subc rfl (subc rfl (subc rfl (subc rfl (subc rfl (subc rfl (subc rfl (subc rfl sub0)))))))))))))))))))), H, hc6_3, hc6_7⟩
        · refine sq_lit0 Kd.string (show Eq (α := OSk) _ (some (some 26, (.buildSlice 31 0 #[]), 31, none)) by kernel_rfl) trivial F (by decide) Tryd.underlying31 (show (Tryd.prog.info? 9).map (fun i => (i.zero, i.size, i.bytes)) = some (some (.string ⟨#[]⟩), 1, 16) by kernel_rfl) H ?_
          intro A6_4 W a H F
          refine ⟨(fun _ => ⟨H.get 3 rfl, trivial⟩), ?_⟩
          refine sq_nil ?_
          refine t_normal ?_
          refine t_line ?_
          refine sq_lit0 Kd.string (show Eq (α := OSk) _ (some (some 22, (.buildSlice 31 0 #[]), 31, none)) by kernel_rfl) trivial F (by decide) Tryd.underlying31 (show (Tryd.prog.info? 9).map (fun i => (i.zero, i.size, i.bytes)) = some (some (.string ⟨#[]⟩), 1, 16) by kernel_rfl) H ?_
          intro A6_0 W a H F
          refine ⟨(fun _ => ⟨H.get 3 rfl, trivial⟩), ?_⟩
          refine sq_rapp Kd.string 7 4 (by decide) (show Eq (α := OSk) _ (some (some 25, (.call { callee := (.builtin .append), args := #[(.tmp 22), (.tmp 24)], argTypes := #[31, 31] }), 31, none)) by kernel_rfl) trivial F (by decide) (F.slot rfl) (F.slot rfl) (rfl) Tryd.underlying31 (show (Tryd.prog.info? 9).map (fun i => (i.zero, i.size, i.bytes)) = some (some (.string ⟨#[]⟩), 1, 16) by kernel_rfl) rfl (by decide) (by decide) H rfl rfl (by simp only [List.length_nil]; omega) ?_
          intro v_ W a H F
          rw [List.nil_append] at H
          have H := H.quFlat 7 string_flat rfl
          obtain ⟨A6_3, c6_3, rfl, hc6_3⟩ := (H.qu 7 rfl).form
          have H : St w Sf Rf [Asn.blk g [.int .i64 a0, .int .i64 s0, .int .i64 t0, .slice A xs.length c, .int .i64 k0, .int .i64 n0] 72, Asn.qu k33 33 (.slice A xs.length c) xs ok, Asn.fk k33 ok2 t [.int .i64 t.f0, .string t.f1, .string t.f2, .int .u64 t.f3, .int .u64 t.f4, .string t.f5, .string t.f6, .slice A7 t.f7.length c7, .slice A8 t.f8.length c8], Asn.blk g1 [.int .i64 t.f0, .string t.f1, .string t.f2, .int .u64 t.f3, .int .u64 t.f4, .string t.f5, .string t.f6, .slice A7 t.f7.length c7, .slice A8 t.f8.length c8] 33, Asn.rd Kd.string ok2 A7 t.f7.length t.f7, Asn.rd Kd.string ok2 A8 t.f8.length t.f8, Asn.qu Kd.string 9 (.slice A6_4 0 0) [] (fun _ => False), Asn.qu Kd.string 9 (.slice A6_3 ((t.f7).length) c6_3) t.f7 (fun _ => False)] W := H
          refine ⟨(fun _ => ⟨H.get 3 rfl, trivial⟩), ?_⟩
          refine sq0 (show Eq (α := OSk) _ (some (some 30, (.fieldAddr 33 (.tmp 3) 7), 0, none)) by kernel_rfl) trivial F (by decide) (v := .pointer (some ⟨g1, 7, none⟩)) (fun W_ => x_field0 Tryd.underlying33 rfl rfl (Tryd.sizeOf31 W_) (F.slot rfl)) (fun a F => ?_)
          refine sq_rapp Kd.string 6 5 (by decide) (show Eq (α := OSk) _ (some (some 29, (.call { callee := (.builtin .append), args := #[(.tmp 26), (.tmp 28)], argTypes := #[31, 31] }), 31, none)) by kernel_rfl) trivial F (by decide) (F.slot rfl) (F.slot rfl) (rfl) Tryd.underlying31 (show (Tryd.prog.info? 9).map (fun i => (i.zero, i.size, i.bytes)) = some (some (.string ⟨#[]⟩), 1, 16) by kernel_rfl) rfl (by decide) (by decide) H rfl rfl (by simp only [List.length_nil]; omega) ?_
          intro v_ W a H F
          rw [List.nil_append] at H
          have H := H.quFlat 6 string_flat rfl
          obtain ⟨A6_7, c6_7, rfl, hc6_7⟩ := (H.qu 6 rfl).form
          have H : St w Sf Rf [Asn.blk g [.int .i64 a0, .int .i64 s0, .int .i64 t0, .slice A xs.length c, .int .i64 k0, .int .i64 n0] 72, Asn.qu k33 33 (.slice A xs.length c) xs ok, Asn.fk k33 ok2 t [.int .i64 t.f0, .string t.f1, .string t.f2, .int .u64 t.f3, .int .u64 t.f4, .string t.f5, .string t.f6, .slice A7 t.f7.length c7, .slice A8 t.f8.length c8], Asn.blk g1 [.int .i64 t.f0, .string t.f1, .string t.f2, .int .u64 t.f3, .int .u64 t.f4, .string t.f5, .string t.f6, .slice A7 t.f7.length c7, .slice A8 t.f8.length c8] 33, Asn.rd Kd.string ok2 A7 t.f7.length t.f7, Asn.rd Kd.string ok2 A8 t.f8.length t.f8, Asn.qu Kd.string 9 (.slice A6_7 ((t.f8).length) c6_7) t.f8 (fun _ => False), Asn.qu Kd.string 9 (.slice A6_3 ((t.f7).length) c6_3) t.f7 (fun _ => False)] W := H
          refine ⟨(fun _ => ⟨H.get 3 rfl, trivial⟩), ?_⟩
          refine sq_put (M := [Asn.blk g [.int .i64 a0, .int .i64 s0, .int .i64 t0, .slice A xs.length c, .int .i64 k0, .int .i64 n0] 72, Asn.qu k33 33 (.slice A xs.length c) xs ok, Asn.fk k33 ok2 t [.int .i64 t.f0, .string t.f1, .string t.f2, .int .u64 t.f3, .int .u64 t.f4, .string t.f5, .string t.f6, .slice A7 t.f7.length c7, .slice A8 t.f8.length c8], Asn.blk g1 [.int .i64 t.f0, .string t.f1, .string t.f2, .int .u64 t.f3, .int .u64 t.f4, .string t.f5, .string t.f6, .slice A6_3 ((t.f7).length) c6_3, .slice A8 t.f8.length c8] 33, Asn.rd Kd.string ok2 A7 t.f7.length t.f7, Asn.rd Kd.string ok2 A8 t.f8.length t.f8, Asn.qu Kd.string 9 (.slice A6_7 ((t.f8).length) c6_7) t.f8 (fun _ => False), Asn.qu Kd.string 9 (.slice A6_3 ((t.f7).length) c6_3) t.f7 (fun _ => False)]) (show Eq (α := OSk) _ (some (none, (.store 31 (.tmp 30) (.tmp 25)), 0, none)) by kernel_rfl) trivial F (x_store H (k := 3) (cs' := [.int .i64 t.f0, .string t.f1, .string t.f2, .int .u64 t.f3, .int .u64 t.f4, .string t.f5, .string t.f6, .slice A6_3 ((t.f7).length) c6_3, .slice A8 t.f8.length c8]) rfl (Tryd.sizeOf31 W) (F.slot rfl) (F.slot rfl) rfl (Nat.le_of_ble_eq_true rfl) rfl rfl) ?_
          intro W H
          refine ⟨(fun h => absurd (by decide) h), ?_⟩
          refine sq0 (show Eq (α := OSk) _ (some (some 31, (.fieldAddr 33 (.tmp 3) 8), 0, none)) by kernel_rfl) trivial F (by decide) (v := .pointer (some ⟨g1, 8, none⟩)) (fun W_ => x_field0 Tryd.underlying33 rfl rfl (Tryd.sizeOf31 W_) (F.slot rfl)) (fun a F => ?_)
          refine sq_put (M := [Asn.blk g [.int .i64 a0, .int .i64 s0, .int .i64 t0, .slice A xs.length c, .int .i64 k0, .int .i64 n0] 72, Asn.qu k33 33 (.slice A xs.length c) xs ok, Asn.fk k33 ok2 t [.int .i64 t.f0, .string t.f1, .string t.f2, .int .u64 t.f3, .int .u64 t.f4, .string t.f5, .string t.f6, .slice A7 t.f7.length c7, .slice A8 t.f8.length c8], Asn.blk g1 [.int .i64 t.f0, .string t.f1, .string t.f2, .int .u64 t.f3, .int .u64 t.f4, .string t.f5, .string t.f6, .slice A6_3 ((t.f7).length) c6_3, .slice A6_7 ((t.f8).length) c6_7] 33, Asn.rd Kd.string ok2 A7 t.f7.length t.f7, Asn.rd Kd.string ok2 A8 t.f8.length t.f8, Asn.qu Kd.string 9 (.slice A6_7 ((t.f8).length) c6_7) t.f8 (fun _ => False), Asn.qu Kd.string 9 (.slice A6_3 ((t.f7).length) c6_3) t.f7 (fun _ => False)]) (show Eq (α := OSk) _ (some (none, (.store 31 (.tmp 31) (.tmp 29)), 0, none)) by kernel_rfl) trivial F (x_store H (k := 3) (cs' := [.int .i64 t.f0, .string t.f1, .string t.f2, .int .u64 t.f3, .int .u64 t.f4, .string t.f5, .string t.f6, .slice A6_3 ((t.f7).length) c6_3, .slice A6_7 ((t.f8).length) c6_7]) rfl (Tryd.sizeOf31 W) (F.slot rfl) (F.slot rfl) rfl (Nat.le_of_ble_eq_true rfl) rfl rfl) ?_
          intro W H
          refine ⟨(fun h => absurd (by decide) h), ?_⟩
          refine sq_nil ?_
          refine t_normal ?_
          exact ⟨A6_3, c6_3, A6_7, c6_7, F.less _ (subc rfl (subc rfl (subc rfl (subc rfl (subc rfl (subc rfl (subc rfl (subc rfl (subc rfl (subc rfl (subc rfl (subc rfl (subc rfl (subc rfl (subc rfl (subc rfl (subc rfl (subc rfl (subc rfl (subc rfl sub0)))))))))))))))))))), H.perm [0, 1, 2, 3, 4, 5, 7, 6] rfl (by decide), hc6_3, hc6_7⟩
      · rintro a W ⟨A6_3, c6_3, A6_7, c6_7, F, H, hc6_3, hc6_7⟩
        refine c_seq (by kernel_rfl) ?_
        have H := (H.quRd 6 rfl).quRd 7 rfl
        have H := H.addF 6 7 rfl rfl (fun _ h => h) (fun _ h => h) _ (fk_tx t hc6_3 (Foot.mono (H.get 6 rfl) (fun j h => .inl h)) hc6_7 (Foot.mono (H.get 7 rfl) (fun j h => .inr h)))
        have H : St w Sf Rf [Asn.blk g [.int .i64 a0, .int .i64 s0, .int .i64 t0, .slice A xs.length c, .int .i64 k0, .int .i64 n0] 72, Asn.qu k33 33 (.slice A xs.length c) xs ok, Asn.fk k33 ok2 t [.int .i64 t.f0, .string t.f1, .string t.f2, .int .u64 t.f3, .int .u64 t.f4, .string t.f5, .string t.f6, .slice A7 t.f7.length c7, .slice A8 t.f8.length c8], Asn.blk g1 [.int .i64 t.f0, .string t.f1, .string t.f2, .int .u64 t.f3, .int .u64 t.f4, .string t.f5, .string t.f6, .slice A6_3 ((t.f7).length) c6_3, .slice A6_7 ((t.f8).length) c6_7] 33, Asn.rd Kd.string ok2 A7 t.f7.length t.f7, Asn.rd Kd.string ok2 A8 t.f8.length t.f8, Asn.rd Kd.string _ A6_3 ((t.f7).length) t.f7, Asn.rd Kd.string _ A6_7 ((t.f8).length) t.f8, Asn.fk k33 _ t [.int .i64 t.f0, .string t.f1, .string t.f2, .int .u64 t.f3, .int .u64 t.f4, .string t.f5, .string t.f6, .slice A6_3 t.f7.length c6_3, .slice A6_7 t.f8.length c6_7]] W := H
        refine c_drawn (id := 7) (by kernel_rfl) (by kernel_rfl) (Vs [Asn.blk g [.int .i64 a0, .int .i64 s0, .int .i64 t0, .slice A xs.length c, .int .i64 k0, .int .i64 n0] 72, Asn.blk g1 [.int .i64 t.f0, .string t.f1, .string t.f2, .int .u64 t.f3, .int .u64 t.f4, .string t.f5, .string t.f6, .slice A6_3 ((t.f7).length) c6_3, .slice A6_7 ((t.f8).length) c6_7] 33]) [0, 0, 2, 6, 14, 0, 32, 126, 255, 511, 1023] [10] [(0, 0), (1, 0), (2, 0), (3, 0), (4, 1), (5, 1), (6, 2), (7, 2), (8, 0), (9, 0), (10, 2)] (by kernel_rfl) (fun _ _ d _ _ h => by cases d <;> exact h) (Vs.drew ⟨H.get 0 rfl, H.get 3 rfl, trivial⟩) ?_
        have H := H.drew
        generalize World.drew W = W at H ⊢
        refine sq0 (show Eq (α := OSk) _ (some (some 32, (.move (.tmp 0)), 23, none)) by kernel_rfl) trivial F (by decide) (v := .pointer (some ⟨g, 0, none⟩)) (fun W_ => x_move (F.slot rfl)) (fun a F => ?_)
        refine sq0 (show Eq (α := OSk) _ (some (some 33, (.move (.tmp 0)), 23, none)) by kernel_rfl) trivial F (by decide) (v := .pointer (some ⟨g, 0, none⟩)) (fun W_ => x_move (F.slot rfl)) (fun a F => ?_)
        refine sq0 (show Eq (α := OSk) _ (some (some 34, (.nilCheck (.tmp 33)), 0, none)) by kernel_rfl) trivial F (by decide) (v := .pointer (some ⟨g, 0, none⟩)) (fun W_ => x_nil (F.slot rfl)) (fun a F => ?_)
        refine sq0 (show Eq (α := OSk) _ (some (some 35, (.fieldAddr 72 (.tmp 34) 3), 0, none)) by kernel_rfl) trivial F (by decide) (v := .pointer (some ⟨g, 3, none⟩)) (fun W_ => x_field0 Tryd.underlying72 rfl rfl (Tryd.sizeOf38 W_) (F.slot rfl)) (fun a F => ?_)
        refine sq1 (show Eq (α := OSk) _ (some (some 36, (.load 38 (.tmp 35)), 38, none)) by kernel_rfl) trivial F (by decide) (⟨H.get 0 rfl, H.get 3 rfl, trivial⟩) (v := .slice A xs.length c) (fun W_ hV => x_load1 (Tryd.isAgg38 W_) (F.slot rfl) (bcell hV.1 rfl)) (fun a F => ?_)
        refine sq1 (show Eq (α := OSk) _ (some (some 37, (.load 33 (.tmp 3)), 33, none)) by kernel_rfl) trivial F (by decide) (⟨H.get 0 rfl, H.get 3 rfl, trivial⟩) (v := .agg #[.int .i64 t.f0, .string t.f1, .string t.f2, .int .u64 t.f3, .int .u64 t.f4, .string t.f5, .string t.f6, .slice A6_3 ((t.f7).length) c6_3, .slice A6_7 ((t.f8).length) c6_7]) (fun W_ hV => x_loadB (Tryd.isAgg33 W_) [.int .i64 t.f0, .string t.f1, .string t.f2, .int .u64 t.f3, .int .u64 t.f4, .string t.f5, .string t.f6, .slice A6_3 ((t.f7).length) c6_3, .slice A6_7 ((t.f8).length) c6_7] (Tryd.sizeOf33 W_) (F.slot rfl) (hV.2.1)) (fun a F => ?_)
        refine sq_bapp k33 1 8 (by decide) (show Eq (α := OSk) _ (some (some 38, (.buildSlice 38 1 #[(0, (.tmp 37))]), 38, none)) by kernel_rfl) trivial (show Eq (α := OSk) _ (some (some 39, (.call { callee := (.builtin .append), args := #[(.tmp 36), (.tmp 38)], argTypes := #[38, 38] }), 38, none)) by kernel_rfl) (fun _ => trivial) F (by decide) (by decide) rfl (fun a F => F.slot rfl) (F.slot rfl) rfl Tryd.underlying38 PB.info33 rfl (by decide) (by decide) (by decide) H rfl rfl (by omega) (fun W H => (fun _ => ⟨H.get 0 rfl, H.get 3 rfl, trivial⟩)) ?_
        intro v_ W a H F
        obtain ⟨AQ, cQ, rfl, hcQ⟩ := (H.qu 1 rfl).form
        have H : St w Sf Rf [Asn.blk g [.int .i64 a0, .int .i64 s0, .int .i64 t0, .slice A xs.length c, .int .i64 k0, .int .i64 n0] 72, Asn.qu k33 33 (.slice AQ (xs ++ [t]).length cQ) (xs ++ [t]) _, Asn.fk k33 ok2 t [.int .i64 t.f0, .string t.f1, .string t.f2, .int .u64 t.f3, .int .u64 t.f4, .string t.f5, .string t.f6, .slice A7 t.f7.length c7, .slice A8 t.f8.length c8], Asn.blk g1 [.int .i64 t.f0, .string t.f1, .string t.f2, .int .u64 t.f3, .int .u64 t.f4, .string t.f5, .string t.f6, .slice A6_3 ((t.f7).length) c6_3, .slice A6_7 ((t.f8).length) c6_7] 33, Asn.rd Kd.string ok2 A7 t.f7.length t.f7, Asn.rd Kd.string ok2 A8 t.f8.length t.f8, Asn.rd Kd.string _ A6_3 ((t.f7).length) t.f7, Asn.rd Kd.string _ A6_7 ((t.f8).length) t.f8, Asn.fk k33 _ t [.int .i64 t.f0, .string t.f1, .string t.f2, .int .u64 t.f3, .int .u64 t.f4, .string t.f5, .string t.f6, .slice A6_3 t.f7.length c6_3, .slice A6_7 t.f8.length c6_7]] W := H
        refine ⟨(fun _ => ⟨H.get 0 rfl, H.get 3 rfl, trivial⟩), ?_⟩
        refine sq0 (show Eq (α := OSk) _ (some (some 40, (.nilCheck (.tmp 32)), 0, none)) by kernel_rfl) trivial F (by decide) (v := .pointer (some ⟨g, 0, none⟩)) (fun W_ => x_nil (F.slot rfl)) (fun a F => ?_)
        refine sq0 (show Eq (α := OSk) _ (some (some 41, (.fieldAddr 72 (.tmp 40) 3), 0, none)) by kernel_rfl) trivial F (by decide) (v := .pointer (some ⟨g, 3, none⟩)) (fun W_ => x_field0 Tryd.underlying72 rfl rfl (Tryd.sizeOf38 W_) (F.slot rfl)) (fun a F => ?_)
        refine sq_put (M := [Asn.blk g [.int .i64 a0, .int .i64 s0, .int .i64 t0, .slice AQ ((xs ++ [t]).length) cQ, .int .i64 k0, .int .i64 n0] 72, Asn.qu k33 33 (.slice AQ (xs ++ [t]).length cQ) (xs ++ [t]) _, Asn.fk k33 ok2 t [.int .i64 t.f0, .string t.f1, .string t.f2, .int .u64 t.f3, .int .u64 t.f4, .string t.f5, .string t.f6, .slice A7 t.f7.length c7, .slice A8 t.f8.length c8], Asn.blk g1 [.int .i64 t.f0, .string t.f1, .string t.f2, .int .u64 t.f3, .int .u64 t.f4, .string t.f5, .string t.f6, .slice A6_3 ((t.f7).length) c6_3, .slice A6_7 ((t.f8).length) c6_7] 33, Asn.rd Kd.string ok2 A7 t.f7.length t.f7, Asn.rd Kd.string ok2 A8 t.f8.length t.f8, Asn.rd Kd.string _ A6_3 ((t.f7).length) t.f7, Asn.rd Kd.string _ A6_7 ((t.f8).length) t.f8, Asn.fk k33 _ t [.int .i64 t.f0, .string t.f1, .string t.f2, .int .u64 t.f3, .int .u64 t.f4, .string t.f5, .string t.f6, .slice A6_3 t.f7.length c6_3, .slice A6_7 t.f8.length c6_7]]) (show Eq (α := OSk) _ (some (none, (.store 38 (.tmp 41) (.tmp 39)), 0, none)) by kernel_rfl) trivial F (x_store H (k := 0) (cs' := [.int .i64 a0, .int .i64 s0, .int .i64 t0, .slice AQ ((xs ++ [t]).length) cQ, .int .i64 k0, .int .i64 n0]) rfl (Tryd.sizeOf38 W) (F.slot rfl) (F.slot rfl) rfl (Nat.le_of_ble_eq_true rfl) rfl rfl) ?_
        intro W H
        refine ⟨(fun h => absurd (by decide) h), ?_⟩
        unfold wpSeq
        refine t_normal ?_
        refine c_seq (by kernel_rfl) ?_
        refine c_text (id := 8) (by kernel_rfl) [(0, 2)] (by kernel_rfl) ?_
        refine sq2 (W' := W) (show Eq (α := OSk) _ (some (some 4, (.assign (.const (.int .i64 0))), 24, none)) by kernel_rfl) trivial F (by decide) (v := .int .i64 0) (x_assign rfl) (fun _ => trivial) (fun a F => ?_)
        unfold wpSeq
        refine t_normal ?_
        refine c_ret (by kernel_rfl) ?_
        refine p_tmp Tryd.results18 F rfl ?_
        exact .inr (.inr ⟨by rw [hz]; simpa using hb2, by omega, rfl, _, _, _, H.front 3⟩)
end Go.Proofs.YtndicjikjcifaaaDoor

/- The program's sealer: Tick. -/
namespace Go.Proofs.YtndicjikjcifaaaDoor
open Go.RowKit Go.Proofs.YtndicjikjcifaaaDoorW.PrintWords Go.Proofs.YtndicjikjcifaaaDoorW.PrintLast
set_option linter.unusedVariables false
set_option linter.unusedSimpArgs false
set_option maxRecDepth 100000
open PB (S33 k33)
/-- What Tick does to a sealer and answers. -/
def Ticked (g : Nat) (a0 s0 t0 k0 n0 : Int) (A : Option Addr) (c : Nat) (xs : List S33) (ok : Nat → Prop) (w : World) (Sf Rf : Nat → Prop) (e : Ending) (W : World) : Prop :=
  (xs.length = 0 ∧ e = .returned (.tuple #[.agg #[.int .i64 0, .int .i64 0, .slice none 0 0], .bool false]) ∧ St w Sf Rf [Asn.blk g [.int .i64 a0, .int .i64 s0, .int .i64 t0, .slice A xs.length c, .int .i64 k0, .int .i64 n0] 72, Asn.qu k33 33 (.slice A xs.length c) xs ok] W) ∨
  (xs.length ≠ 0 ∧ (xs.length : Int) < s0 ∧ k0 + 1 < t0 ∧ e = .returned (.tuple #[.agg #[.int .i64 0, .int .i64 0, .slice none 0 0], .bool false]) ∧ St w Sf Rf [Asn.blk g [.int .i64 a0, .int .i64 s0, .int .i64 t0, .slice A xs.length c, .int .i64 (k0 + 1), .int .i64 n0] 72, Asn.qu k33 33 (.slice A xs.length c) xs ok] W) ∨
  (xs.length ≠ 0 ∧ ¬ ((xs.length : Int) < s0 ∧ k0 + 1 < t0) ∧ ∃ m : Nat, (m : Int) = min s0 (xs.length : Int) ∧ e = .returned (.tuple #[.agg #[.int .i64 a0, .int .i64 (n0 + 1), .slice A m m], .bool true]) ∧ St w Sf Rf [Asn.blk g [.int .i64 a0, .int .i64 s0, .int .i64 t0, .slice (if c = m then A else A.map (·.add (m * 9))) (xs.length - m) (c - m), .int .i64 0, .int .i64 (n0 + 1)] 72, Asn.qf k33 33 (.slice (if c = m then A else A.map (·.add (m * 9))) (xs.length - m) (c - m)) (xs.drop m) ok A m (xs.take m)] W)
theorem x_min {P : Program} {a : Act} {W : World} {x y : Operand} {ty s : TypeId} {p q : Int} (hx : a.eval x = .int .i64 p) (hy : a.eval y = .int .i64 q) : (ex a (.call { callee := .builtin .min, args := #[x, y], argTypes := #[s, s] }) ty).run P W = .ok (.value (.int .i64 (min p q))) W := by
  have : (Builtin.min2 (.int .i64 p) (.int .i64 q)).run P W = .ok (.int .i64 (min p q)) W := by
    simp only [Builtin.min2]
    have e : (if q < p then q else p) = min p q := by split <;> omega
    rw [e]; rfl
  simp [ex, execOp, resolve, invoke, builtin, hx, hy, Builtin.min_, this]
set_option maxHeartbeats 1000000 in
theorem tick_calls (g : Nat) (a0 s0 t0 k0 n0 : Int) (A : Option Addr) (c : Nat) (xs : List S33) (ok : Nat → Prop) (w : World) {Sf Rf : Nat → Prop} (hs0 : 1 ≤ s0) (hs1 : s0 ≤ 16) (hk0 : 0 ≤ k0) (hk1 : k0 < 4611686018427387904) (hn0 : 0 ≤ n0) (hn1 : n0 < 4611686018427387904) (hxl : xs.length < 4611686018427387904)
    (H : St w Sf Rf [Asn.blk g [.int .i64 a0, .int .i64 s0, .int .i64 t0, .slice A xs.length c, .int .i64 k0, .int .i64 n0] 72, Asn.qu k33 33 (.slice A xs.length c) xs ok] w) : Calls Tryd.prog 21 #[.pointer (some ⟨g, 0, none⟩)] w (Ticked g a0 s0 t0 k0 n0 A c xs ok w Sf Rf) := by
  refine c_enter2 (args := [.pointer (some ⟨g, 0, none⟩)]) (S := Sf) (R := Rf) (M := [Asn.blk g [.int .i64 a0, .int .i64 s0, .int .i64 t0, .slice A xs.length c, .int .i64 k0, .int .i64 n0] 72, Asn.qu k33 33 (.slice A xs.length c) xs ok]) Tryd.func21 (by kernel_rfl) 88 Tryd.ntmps21 (Nat.le_of_ble_eq_true rfl) (H) (fun a W F H => ?_)
  have F := F.less [(0, .pointer (some ⟨g, 0, none⟩))] (subc rfl sub0)
  refine c_seq (by kernel_rfl) ?_
  refine c_text (id := 0) (by kernel_rfl) [(0, 2), (1, 2)] (by kernel_rfl) ?_
  refine sq_new (show Eq (α := OSk) _ (some (some 2, (.alloc 40), 0, none)) by kernel_rfl) trivial F (by decide) H [.int .i64 0, .int .i64 0, .slice none 0 0] 40 (x_alloc Tryd.zeroValue40 rfl) ?_
  intro g1 W a hg1 H F
  refine ⟨(fun _ => trivial), ?_⟩
  refine sq2 (W' := W) (show Eq (α := OSk) _ (some (some 3, (.assign (.const (.bool false))), 4, none)) by kernel_rfl) trivial F (by decide) (v := .bool false) (x_assign rfl) (fun _ => trivial) (fun a F => ?_)
  unfold wpSeq
  have H : St w Sf Rf [Asn.blk g [.int .i64 a0, .int .i64 s0, .int .i64 t0, .slice A xs.length c, .int .i64 k0, .int .i64 n0] 72, Asn.qu k33 33 (.slice A xs.length c) xs ok, Asn.blk g1 [.int .i64 0, .int .i64 0, .slice none 0 0] 40] W := H
  refine t_normal ?_
  refine c_seq (by kernel_rfl) ?_
  refine c_seq (by kernel_rfl) ?_
  refine c_text (id := 1) (by kernel_rfl) [(0, 2), (1, 2), (2, 2), (3, 2), (4, 2), (5, 2)] (by kernel_rfl) ?_
  refine sq2 (W' := W) (show Eq (α := OSk) _ (some (some 6, (.move (.tmp 0)), 23, none)) by kernel_rfl) trivial F (by decide) (v := .pointer (some ⟨g, 0, none⟩)) (x_move (F.slot rfl)) (fun _ => trivial) (fun a F => ?_)
  refine sq2 (W' := W) (show Eq (α := OSk) _ (some (some 7, (.nilCheck (.tmp 6)), 0, none)) by kernel_rfl) trivial F (by decide) (v := .pointer (some ⟨g, 0, none⟩)) (x_nil (F.slot rfl)) (fun _ => trivial) (fun a F => ?_)
  refine sq2 (W' := W) (show Eq (α := OSk) _ (some (some 8, (.fieldAddr 72 (.tmp 7) 3), 0, none)) by kernel_rfl) trivial F (by decide) (v := .pointer (some ⟨g, 3, none⟩)) (x_field0 Tryd.underlying72 rfl rfl (Tryd.sizeOf38 W) (F.slot rfl)) (fun _ => trivial) (fun a F => ?_)
  refine sq2 (show Eq (α := OSk) _ (some (some 9, (.load 38 (.tmp 8)), 38, none)) by kernel_rfl) trivial F (by decide) (v := .slice A xs.length c) (x_load1 (Tryd.isAgg38 W) (F.slot rfl) (H.cell 0 rfl rfl)) (fun _ => trivial) (fun a F => ?_)
  refine sq2 (W' := W) (show Eq (α := OSk) _ (some (some 10, (.call { callee := (.builtin .len), args := #[(.tmp 9)], argTypes := #[38] }), 3, none)) by kernel_rfl) trivial F (by decide) (v := .int .i64 (xs.length : Int)) (x_lenL Tryd.underlying38 (F.slot rfl)) (fun _ => trivial) (fun a F => ?_)
  refine sq2 (W' := W) (show Eq (α := OSk) _ (some (some 11, (.binOp .eql 3 (.tmp 10) (.const (.int .i64 0)) 3), 4, none)) by kernel_rfl) trivial F (by decide) (v := .bool ((xs.length : Int) == (0 : Int))) (x_int (F.slot rfl) rfl rfl) (fun _ => trivial) (fun a F => ?_)
  unfold wpSeq
  refine t_normal ?_
  rcases bool_or ((xs.length : Int) == (0 : Int)) with hb2 | hb2
  · have hb2d := eq_of_beq hb2
    have F := F.at 11 rfl (v' := .bool true) (congrArg Value.bool hb2)
    refine c_yes (c := .tmp 11) (by kernel_rfl) (F.slot rfl) ?_
    refine c_seq (by kernel_rfl) ?_
    refine c_text (id := 2) (by kernel_rfl) [(0, 2), (1, 2), (2, 2)] (by kernel_rfl) ?_
    refine sq2 (W' := W) (show Eq (α := OSk) _ (some (some 12, (.build 40 #[]), 40, none)) by kernel_rfl) trivial F (by decide) (v := .agg #[.int .i64 0, .int .i64 0, .slice none 0 0]) (by simp [ex, execOp, Instr.build, Tryd.zeroValue40, run_underlying Tryd.underlying40, Instr.fill, Value.cells, Tryd.sizeOf3, Tryd.sizeOf38]) (fun _ => trivial) (fun a F => ?_)
    refine sq_put (M := [Asn.blk g [.int .i64 a0, .int .i64 s0, .int .i64 t0, .slice A xs.length c, .int .i64 k0, .int .i64 n0] 72, Asn.qu k33 33 (.slice A xs.length c) xs ok, Asn.blk g1 [.int .i64 0, .int .i64 0, .slice none 0 0] 40]) (show Eq (α := OSk) _ (some (none, (.store 40 (.tmp 2) (.tmp 12)), 0, none)) by kernel_rfl) trivial F (x_store H (k := 2) (cs' := [.int .i64 0, .int .i64 0, .slice none 0 0]) rfl (Tryd.sizeOf40 W) (F.slot rfl) (F.slot rfl) rfl (Nat.le_of_ble_eq_true rfl) rfl rfl) ?_
    intro W H
    refine ⟨(fun _ => trivial), ?_⟩
    refine sq2 (W' := W) (show Eq (α := OSk) _ (some (some 3, (.assign (.const (.bool false))), 4, none)) by kernel_rfl) trivial F (by decide) (v := .bool false) (x_assign rfl) (fun _ => trivial) (fun a F => ?_)
    unfold wpSeq
    refine t_normal ?_
    refine c_ret (by kernel_rfl) ?_
    refine t_ret ?_
    refine p_list (rs := [.cell 2 40, .tmp 3]) (vs := [.agg #[.int .i64 0, .int .i64 0, .slice none 0 0], .bool false]) Tryd.results21 (by simp) F (Vals.cell' F rfl (H.blk 2 rfl) Tryd.underlying40 rfl (by kernel_rfl) (Vals.tmp' F rfl .nil)) ?_
    exact .inl ⟨by omega, rfl, H.front 2⟩
  · have hb2d := ne_of_beq_false hb2
    have F := F.at 11 rfl (v' := .bool false) (congrArg Value.bool hb2)
    refine c_no (c := .tmp 11) (by kernel_rfl) (F.slot rfl) ?_
    refine c_skip (by kernel_rfl) ?_
    refine t_normal ?_
    refine c_seq (by kernel_rfl) ?_
    refine c_text (id := 3) (by kernel_rfl) [(0, 2), (1, 2), (2, 2), (3, 2), (4, 2), (5, 2), (6, 2), (7, 2)] (by kernel_rfl) ?_
    refine sq2 (W' := W) (show Eq (α := OSk) _ (some (some 13, (.move (.tmp 0)), 23, none)) by kernel_rfl) trivial F (by decide) (v := .pointer (some ⟨g, 0, none⟩)) (x_move (F.slot rfl)) (fun _ => trivial) (fun a F => ?_)
    refine sq2 (W' := W) (show Eq (α := OSk) _ (some (some 14, (.nilCheck (.tmp 13)), 0, none)) by kernel_rfl) trivial F (by decide) (v := .pointer (some ⟨g, 0, none⟩)) (x_nil (F.slot rfl)) (fun _ => trivial) (fun a F => ?_)
    refine sq2 (W' := W) (show Eq (α := OSk) _ (some (some 15, (.fieldAddr 72 (.tmp 14) 4), 0, none)) by kernel_rfl) trivial F (by decide) (v := .pointer (some ⟨g, 4, none⟩)) (x_field0 Tryd.underlying72 rfl rfl (Tryd.sizeOf3 W) (F.slot rfl)) (fun _ => trivial) (fun a F => ?_)
    refine sq2 (show Eq (α := OSk) _ (some (some 16, (.load 3 (.tmp 15)), 3, none)) by kernel_rfl) trivial F (by decide) (v := .int .i64 k0) (x_load1 (Tryd.isAgg3 W) (F.slot rfl) (H.cell 0 rfl rfl)) (fun _ => trivial) (fun a F => ?_)
    refine sq2 (W' := W) (show Eq (α := OSk) _ (some (some 17, (.binOp .add 3 (.tmp 16) (.const (.int .i64 1)) 3), 3, none)) by kernel_rfl) trivial F (by decide) (v := .int .i64 (IntKind.i64.wrap (k0 + 1))) (x_int (F.slot rfl) rfl rfl) (fun _ => trivial) (fun a F => ?_)
    have F := F.conv (v' := .int .i64 (k0 + 1)) (congrArg (Value.int .i64) (wrap_i64 _ (by omega) (by omega)))
    refine sq2 (W' := W) (show Eq (α := OSk) _ (some (some 18, (.nilCheck (.tmp 13)), 0, none)) by kernel_rfl) trivial F (by decide) (v := .pointer (some ⟨g, 0, none⟩)) (x_nil (F.slot rfl)) (fun _ => trivial) (fun a F => ?_)
    refine sq2 (W' := W) (show Eq (α := OSk) _ (some (some 19, (.fieldAddr 72 (.tmp 18) 4), 0, none)) by kernel_rfl) trivial F (by decide) (v := .pointer (some ⟨g, 4, none⟩)) (x_field0 Tryd.underlying72 rfl rfl (Tryd.sizeOf3 W) (F.slot rfl)) (fun _ => trivial) (fun a F => ?_)
    refine sq_put (M := [Asn.blk g [.int .i64 a0, .int .i64 s0, .int .i64 t0, .slice A xs.length c, .int .i64 (k0 + 1), .int .i64 n0] 72, Asn.qu k33 33 (.slice A xs.length c) xs ok, Asn.blk g1 [.int .i64 0, .int .i64 0, .slice none 0 0] 40]) (show Eq (α := OSk) _ (some (none, (.store 3 (.tmp 19) (.tmp 17)), 0, none)) by kernel_rfl) trivial F (x_store H (k := 0) (cs' := [.int .i64 a0, .int .i64 s0, .int .i64 t0, .slice A xs.length c, .int .i64 (k0 + 1), .int .i64 n0]) rfl (Tryd.sizeOf3 W) (F.slot rfl) (F.slot rfl) rfl (Nat.le_of_ble_eq_true rfl) rfl rfl) ?_
    intro W H
    refine ⟨(fun _ => trivial), ?_⟩
    unfold wpSeq
    refine t_normal ?_
    refine c_seq (by kernel_rfl) ?_
    refine c_seq (by kernel_rfl) ?_
    refine c_drawn (id := 4) (by kernel_rfl) (by kernel_rfl) (Vs [Asn.blk g [.int .i64 a0, .int .i64 s0, .int .i64 t0, .slice A xs.length c, .int .i64 (k0 + 1), .int .i64 n0] 72]) [0, 1, 3, 7, 15, 0, 32, 96, 224, 511, 1023, 2047, 4095, 8191, 16383, 2047, 34815, 100351, 231423, 524287, 1048575] [] [(0, 0), (1, 0), (2, 0), (5, 0), (6, 0), (7, 0), (3, 1), (4, 0), (8, 1), (9, 0), (10, 0), (11, 0), (12, 0), (13, 0), (15, 0), (16, 0), (17, 0), (14, 1), (18, 1), (19, 0), (20, 0)] (by kernel_rfl) (fun _ _ d _ _ h => by cases d <;> exact h) (Vs.drew ⟨H.get 0 rfl, trivial⟩) ?_
    have H := H.drew
    generalize World.drew W = W at H ⊢
    refine sq0 (show Eq (α := OSk) _ (some (some 20, (.move (.tmp 0)), 23, none)) by kernel_rfl) trivial F (by decide) (v := .pointer (some ⟨g, 0, none⟩)) (fun W_ => x_move (F.slot rfl)) (fun a F => ?_)
    refine sq0 (show Eq (α := OSk) _ (some (some 21, (.nilCheck (.tmp 20)), 0, none)) by kernel_rfl) trivial F (by decide) (v := .pointer (some ⟨g, 0, none⟩)) (fun W_ => x_nil (F.slot rfl)) (fun a F => ?_)
    refine sq0 (show Eq (α := OSk) _ (some (some 22, (.fieldAddr 72 (.tmp 21) 3), 0, none)) by kernel_rfl) trivial F (by decide) (v := .pointer (some ⟨g, 3, none⟩)) (fun W_ => x_field0 Tryd.underlying72 rfl rfl (Tryd.sizeOf38 W_) (F.slot rfl)) (fun a F => ?_)
    refine sq0 (show Eq (α := OSk) _ (some (some 25, (.move (.tmp 0)), 23, none)) by kernel_rfl) trivial F (by decide) (v := .pointer (some ⟨g, 0, none⟩)) (fun W_ => x_move (F.slot rfl)) (fun a F => ?_)
    refine sq0 (show Eq (α := OSk) _ (some (some 26, (.nilCheck (.tmp 25)), 0, none)) by kernel_rfl) trivial F (by decide) (v := .pointer (some ⟨g, 0, none⟩)) (fun W_ => x_nil (F.slot rfl)) (fun a F => ?_)
    refine sq0 (show Eq (α := OSk) _ (some (some 27, (.fieldAddr 72 (.tmp 26) 1), 0, none)) by kernel_rfl) trivial F (by decide) (v := .pointer (some ⟨g, 1, none⟩)) (fun W_ => x_field0 Tryd.underlying72 rfl rfl (Tryd.sizeOf3 W_) (F.slot rfl)) (fun a F => ?_)
    refine sq1 (show Eq (α := OSk) _ (some (some 23, (.load 38 (.tmp 22)), 38, none)) by kernel_rfl) trivial F (by decide) (⟨H.get 0 rfl, trivial⟩) (v := .slice A xs.length c) (fun W_ hV => x_load1 (Tryd.isAgg38 W_) (F.slot rfl) (bcell hV.1 rfl)) (fun a F => ?_)
    refine sq0 (show Eq (α := OSk) _ (some (some 24, (.call { callee := (.builtin .len), args := #[(.tmp 23)], argTypes := #[38] }), 3, none)) by kernel_rfl) trivial F (by decide) (v := .int .i64 (xs.length : Int)) (fun W_ => x_lenL Tryd.underlying38 (F.slot rfl)) (fun a F => ?_)
    refine sq1 (show Eq (α := OSk) _ (some (some 28, (.load 3 (.tmp 27)), 3, none)) by kernel_rfl) trivial F (by decide) (⟨H.get 0 rfl, trivial⟩) (v := .int .i64 s0) (fun W_ hV => x_load1 (Tryd.isAgg3 W_) (F.slot rfl) (bcell hV.1 rfl)) (fun a F => ?_)
    refine sq0 (show Eq (α := OSk) _ (some (some 29, (.binOp .lss 3 (.tmp 24) (.tmp 28) 3), 4, none)) by kernel_rfl) trivial F (by decide) (v := .bool (decide ((xs.length : Int) < s0))) (fun W_ => x_int (F.slot rfl) (F.slot rfl) rfl) (fun a F => ?_)
    refine sq0 (show Eq (α := OSk) _ (some (some 30, (.move (.tmp 29)), 4, none)) by kernel_rfl) trivial F (by decide) (v := .bool (decide ((xs.length : Int) < s0))) (fun W_ => x_move (F.slot rfl)) (fun a F => ?_)
    rcases bool_or (decide ((xs.length : Int) < s0)) with hb4 | hb4
    · have hb4d := of_decide_eq_true hb4
      have F := F.at 30 rfl (v' := .bool true) (congrArg Value.bool hb4)
      refine sq0 (show Eq (α := OSk) _ (some (some 31, (.move (.tmp 0)), 23, some (10, true))) by kernel_rfl) ⟨30, by kernel_rfl, rfl⟩ F (by decide) (v := .pointer (some ⟨g, 0, none⟩)) (fun W_ => x_move (F.slot rfl)) (fun a F => ?_)
      refine sq0 (show Eq (α := OSk) _ (some (some 32, (.nilCheck (.tmp 31)), 0, some (10, true))) by kernel_rfl) ⟨30, by kernel_rfl, rfl⟩ F (by decide) (v := .pointer (some ⟨g, 0, none⟩)) (fun W_ => x_nil (F.slot rfl)) (fun a F => ?_)
      refine sq0 (show Eq (α := OSk) _ (some (some 33, (.fieldAddr 72 (.tmp 32) 4), 0, some (10, true))) by kernel_rfl) ⟨30, by kernel_rfl, rfl⟩ F (by decide) (v := .pointer (some ⟨g, 4, none⟩)) (fun W_ => x_field0 Tryd.underlying72 rfl rfl (Tryd.sizeOf3 W_) (F.slot rfl)) (fun a F => ?_)
      refine sq0 (show Eq (α := OSk) _ (some (some 35, (.move (.tmp 0)), 23, some (10, true))) by kernel_rfl) ⟨30, by kernel_rfl, rfl⟩ F (by decide) (v := .pointer (some ⟨g, 0, none⟩)) (fun W_ => x_move (F.slot rfl)) (fun a F => ?_)
      refine sq0 (show Eq (α := OSk) _ (some (some 36, (.nilCheck (.tmp 35)), 0, some (10, true))) by kernel_rfl) ⟨30, by kernel_rfl, rfl⟩ F (by decide) (v := .pointer (some ⟨g, 0, none⟩)) (fun W_ => x_nil (F.slot rfl)) (fun a F => ?_)
      refine sq0 (show Eq (α := OSk) _ (some (some 37, (.fieldAddr 72 (.tmp 36) 2), 0, some (10, true))) by kernel_rfl) ⟨30, by kernel_rfl, rfl⟩ F (by decide) (v := .pointer (some ⟨g, 2, none⟩)) (fun W_ => x_field0 Tryd.underlying72 rfl rfl (Tryd.sizeOf3 W_) (F.slot rfl)) (fun a F => ?_)
      refine sq1 (show Eq (α := OSk) _ (some (some 34, (.load 3 (.tmp 33)), 3, some (10, true))) by kernel_rfl) ⟨30, by kernel_rfl, rfl⟩ F (by decide) (⟨H.get 0 rfl, trivial⟩) (v := .int .i64 (k0 + 1)) (fun W_ hV => x_load1 (Tryd.isAgg3 W_) (F.slot rfl) (bcell hV.1 rfl)) (fun a F => ?_)
      refine sq1 (show Eq (α := OSk) _ (some (some 38, (.load 3 (.tmp 37)), 3, some (10, true))) by kernel_rfl) ⟨30, by kernel_rfl, rfl⟩ F (by decide) (⟨H.get 0 rfl, trivial⟩) (v := .int .i64 t0) (fun W_ hV => x_load1 (Tryd.isAgg3 W_) (F.slot rfl) (bcell hV.1 rfl)) (fun a F => ?_)
      refine sq0 (show Eq (α := OSk) _ (some (some 39, (.binOp .lss 3 (.tmp 34) (.tmp 38) 3), 4, some (10, true))) by kernel_rfl) ⟨30, by kernel_rfl, rfl⟩ F (by decide) (v := .bool (decide ((k0 + 1) < t0))) (fun W_ => x_int (F.slot rfl) (F.slot rfl) rfl) (fun a F => ?_)
      refine sq0 (show Eq (α := OSk) _ (some (some 40, (.pick (.tmp 30) (.tmp 39) (.const (.bool false))), 4, none)) by kernel_rfl) trivial F (by decide) (v := .bool (decide ((k0 + 1) < t0))) (fun W_ => x_pickT (F.slot rfl) (F.slot rfl)) (fun a F => ?_)
      unfold wpSeq
      refine t_normal ?_
      rcases bool_or (decide ((k0 + 1) < t0)) with hb5 | hb5
      · have hb5d := of_decide_eq_true hb5
        have F := F.at 40 rfl (v' := .bool true) (congrArg Value.bool hb5)
        refine c_yes (c := .tmp 40) (by kernel_rfl) (F.slot rfl) ?_
        refine c_seq (by kernel_rfl) ?_
        refine c_text (id := 5) (by kernel_rfl) [(0, 2), (1, 2), (2, 2)] (by kernel_rfl) ?_
        refine sq2 (W' := W) (show Eq (α := OSk) _ (some (some 41, (.build 40 #[]), 40, none)) by kernel_rfl) trivial F (by decide) (v := .agg #[.int .i64 0, .int .i64 0, .slice none 0 0]) (by simp [ex, execOp, Instr.build, Tryd.zeroValue40, run_underlying Tryd.underlying40, Instr.fill, Value.cells, Tryd.sizeOf3, Tryd.sizeOf38]) (fun _ => trivial) (fun a F => ?_)
        refine sq_put (M := [Asn.blk g [.int .i64 a0, .int .i64 s0, .int .i64 t0, .slice A xs.length c, .int .i64 (k0 + 1), .int .i64 n0] 72, Asn.qu k33 33 (.slice A xs.length c) xs ok, Asn.blk g1 [.int .i64 0, .int .i64 0, .slice none 0 0] 40]) (show Eq (α := OSk) _ (some (none, (.store 40 (.tmp 2) (.tmp 41)), 0, none)) by kernel_rfl) trivial F (x_store H (k := 2) (cs' := [.int .i64 0, .int .i64 0, .slice none 0 0]) rfl (Tryd.sizeOf40 W) (F.slot rfl) (F.slot rfl) rfl (Nat.le_of_ble_eq_true rfl) rfl rfl) ?_
        intro W H
        refine ⟨(fun _ => trivial), ?_⟩
        refine sq2 (W' := W) (show Eq (α := OSk) _ (some (some 3, (.assign (.const (.bool false))), 4, none)) by kernel_rfl) trivial F (by decide) (v := .bool false) (x_assign rfl) (fun _ => trivial) (fun a F => ?_)
        unfold wpSeq
        refine t_normal ?_
        refine c_ret (by kernel_rfl) ?_
        refine t_ret ?_
        refine p_list (rs := [.cell 2 40, .tmp 3]) (vs := [.agg #[.int .i64 0, .int .i64 0, .slice none 0 0], .bool false]) Tryd.results21 (by simp) F (Vals.cell' F rfl (H.blk 2 rfl) Tryd.underlying40 rfl (by kernel_rfl) (Vals.tmp' F rfl .nil)) ?_
        exact .inr (.inl ⟨by omega, by omega, by omega, rfl, H.front 2⟩)
      · have hb5d := of_decide_eq_false hb5
        have F := F.at 40 rfl (v' := .bool false) (congrArg Value.bool hb5)
        refine c_no (c := .tmp 40) (by kernel_rfl) (F.slot rfl) ?_
        refine c_skip (by kernel_rfl) ?_
        refine t_normal ?_
        refine c_seq (by kernel_rfl) ?_
        refine c_drawn (id := 6) (by kernel_rfl) (by kernel_rfl) (Vs [Asn.blk g [.int .i64 a0, .int .i64 s0, .int .i64 t0, .slice A xs.length c, .int .i64 (k0 + 1), .int .i64 n0] 72]) [0, 1, 3, 7, 0, 16, 48, 112, 240, 511, 1023] [] [(0, 0), (1, 0), (2, 0), (4, 0), (5, 0), (6, 0), (3, 1), (7, 1), (8, 0), (9, 0), (10, 0)] (by kernel_rfl) (fun _ _ d _ _ h => by cases d <;> exact h) (Vs.drew ⟨H.get 0 rfl, trivial⟩) ?_
        have H := H.drew
        generalize World.drew W = W at H ⊢
        refine sq0 (show Eq (α := OSk) _ (some (some 42, (.move (.tmp 0)), 23, none)) by kernel_rfl) trivial F (by decide) (v := .pointer (some ⟨g, 0, none⟩)) (fun W_ => x_move (F.slot rfl)) (fun a F => ?_)
        refine sq0 (show Eq (α := OSk) _ (some (some 43, (.nilCheck (.tmp 42)), 0, none)) by kernel_rfl) trivial F (by decide) (v := .pointer (some ⟨g, 0, none⟩)) (fun W_ => x_nil (F.slot rfl)) (fun a F => ?_)
        refine sq0 (show Eq (α := OSk) _ (some (some 44, (.fieldAddr 72 (.tmp 43) 1), 0, none)) by kernel_rfl) trivial F (by decide) (v := .pointer (some ⟨g, 1, none⟩)) (fun W_ => x_field0 Tryd.underlying72 rfl rfl (Tryd.sizeOf3 W_) (F.slot rfl)) (fun a F => ?_)
        refine sq0 (show Eq (α := OSk) _ (some (some 46, (.move (.tmp 0)), 23, none)) by kernel_rfl) trivial F (by decide) (v := .pointer (some ⟨g, 0, none⟩)) (fun W_ => x_move (F.slot rfl)) (fun a F => ?_)
        refine sq0 (show Eq (α := OSk) _ (some (some 47, (.nilCheck (.tmp 46)), 0, none)) by kernel_rfl) trivial F (by decide) (v := .pointer (some ⟨g, 0, none⟩)) (fun W_ => x_nil (F.slot rfl)) (fun a F => ?_)
        refine sq0 (show Eq (α := OSk) _ (some (some 48, (.fieldAddr 72 (.tmp 47) 3), 0, none)) by kernel_rfl) trivial F (by decide) (v := .pointer (some ⟨g, 3, none⟩)) (fun W_ => x_field0 Tryd.underlying72 rfl rfl (Tryd.sizeOf38 W_) (F.slot rfl)) (fun a F => ?_)
        refine sq1 (show Eq (α := OSk) _ (some (some 45, (.load 3 (.tmp 44)), 3, none)) by kernel_rfl) trivial F (by decide) (⟨H.get 0 rfl, trivial⟩) (v := .int .i64 s0) (fun W_ hV => x_load1 (Tryd.isAgg3 W_) (F.slot rfl) (bcell hV.1 rfl)) (fun a F => ?_)
        refine sq1 (show Eq (α := OSk) _ (some (some 49, (.load 38 (.tmp 48)), 38, none)) by kernel_rfl) trivial F (by decide) (⟨H.get 0 rfl, trivial⟩) (v := .slice A xs.length c) (fun W_ hV => x_load1 (Tryd.isAgg38 W_) (F.slot rfl) (bcell hV.1 rfl)) (fun a F => ?_)
        refine sq0 (show Eq (α := OSk) _ (some (some 50, (.call { callee := (.builtin .len), args := #[(.tmp 49)], argTypes := #[38] }), 3, none)) by kernel_rfl) trivial F (by decide) (v := .int .i64 (xs.length : Int)) (fun W_ => x_lenL Tryd.underlying38 (F.slot rfl)) (fun a F => ?_)
        refine sq0 (show Eq (α := OSk) _ (some (some 51, (.call { callee := (.builtin .min), args := #[(.tmp 45), (.tmp 50)], argTypes := #[3, 3] }), 3, none)) by kernel_rfl) trivial F (by decide) (v := .int .i64 (min s0 (xs.length : Int))) (fun W_ => x_min (F.slot rfl) (F.slot rfl)) (fun a F => ?_)
        refine sq0 (show Eq (α := OSk) _ (some (some 4, (.assign (.tmp 51)), 3, none)) by kernel_rfl) trivial F (by decide) (v := .int .i64 (min s0 (xs.length : Int))) (fun W_ => x_assign (F.slot rfl)) (fun a F => ?_)
        unfold wpSeq
        refine t_normal ?_
        refine c_seq (by kernel_rfl) ?_
        obtain ⟨m, hm⟩ : ∃ m : Nat, (m : Int) = min s0 (xs.length : Int) := ⟨(min s0 (xs.length : Int)).toNat, by omega⟩
        have F := F.at 51 rfl (v' := .int .i64 (m : Int)) (congrArg (Value.int .i64) hm.symm)
        have F := F.at 4 rfl (v' := .int .i64 (m : Int)) (congrArg (Value.int .i64) hm.symm)
        have hcl := (H.qu 1 rfl).read.2.1
        refine c_text (id := 7) (by kernel_rfl) [(0, 2), (1, 2), (2, 2), (3, 2), (4, 2), (5, 2), (6, 2), (7, 2)] (by kernel_rfl) ?_
        refine sq2 (W' := W) (show Eq (α := OSk) _ (some (some 52, (.move (.tmp 0)), 23, none)) by kernel_rfl) trivial F (by decide) (v := .pointer (some ⟨g, 0, none⟩)) (x_move (F.slot rfl)) (fun _ => trivial) (fun a F => ?_)
        refine sq2 (W' := W) (show Eq (α := OSk) _ (some (some 53, (.nilCheck (.tmp 52)), 0, none)) by kernel_rfl) trivial F (by decide) (v := .pointer (some ⟨g, 0, none⟩)) (x_nil (F.slot rfl)) (fun _ => trivial) (fun a F => ?_)
        refine sq2 (W' := W) (show Eq (α := OSk) _ (some (some 54, (.fieldAddr 72 (.tmp 53) 5), 0, none)) by kernel_rfl) trivial F (by decide) (v := .pointer (some ⟨g, 5, none⟩)) (x_field0 Tryd.underlying72 rfl rfl (Tryd.sizeOf3 W) (F.slot rfl)) (fun _ => trivial) (fun a F => ?_)
        refine sq2 (show Eq (α := OSk) _ (some (some 55, (.load 3 (.tmp 54)), 3, none)) by kernel_rfl) trivial F (by decide) (v := .int .i64 n0) (x_load1 (Tryd.isAgg3 W) (F.slot rfl) (H.cell 0 rfl rfl)) (fun _ => trivial) (fun a F => ?_)
        refine sq2 (W' := W) (show Eq (α := OSk) _ (some (some 56, (.binOp .add 3 (.tmp 55) (.const (.int .i64 1)) 3), 3, none)) by kernel_rfl) trivial F (by decide) (v := .int .i64 (IntKind.i64.wrap (n0 + 1))) (x_int (F.slot rfl) rfl rfl) (fun _ => trivial) (fun a F => ?_)
        have F := F.conv (v' := .int .i64 (n0 + 1)) (congrArg (Value.int .i64) (wrap_i64 _ (by omega) (by omega)))
        refine sq2 (W' := W) (show Eq (α := OSk) _ (some (some 57, (.nilCheck (.tmp 52)), 0, none)) by kernel_rfl) trivial F (by decide) (v := .pointer (some ⟨g, 0, none⟩)) (x_nil (F.slot rfl)) (fun _ => trivial) (fun a F => ?_)
        refine sq2 (W' := W) (show Eq (α := OSk) _ (some (some 58, (.fieldAddr 72 (.tmp 57) 5), 0, none)) by kernel_rfl) trivial F (by decide) (v := .pointer (some ⟨g, 5, none⟩)) (x_field0 Tryd.underlying72 rfl rfl (Tryd.sizeOf3 W) (F.slot rfl)) (fun _ => trivial) (fun a F => ?_)
        refine sq_put (M := [Asn.blk g [.int .i64 a0, .int .i64 s0, .int .i64 t0, .slice A xs.length c, .int .i64 (k0 + 1), .int .i64 (n0 + 1)] 72, Asn.qu k33 33 (.slice A xs.length c) xs ok, Asn.blk g1 [.int .i64 0, .int .i64 0, .slice none 0 0] 40]) (show Eq (α := OSk) _ (some (none, (.store 3 (.tmp 58) (.tmp 56)), 0, none)) by kernel_rfl) trivial F (x_store H (k := 0) (cs' := [.int .i64 a0, .int .i64 s0, .int .i64 t0, .slice A xs.length c, .int .i64 (k0 + 1), .int .i64 (n0 + 1)]) rfl (Tryd.sizeOf3 W) (F.slot rfl) (F.slot rfl) rfl (Nat.le_of_ble_eq_true rfl) rfl rfl) ?_
        intro W H
        refine ⟨(fun _ => trivial), ?_⟩
        unfold wpSeq
        refine t_normal ?_
        refine c_seq (by kernel_rfl) ?_
        refine c_drawn (id := 8) (by kernel_rfl) (by kernel_rfl) (Vs [Asn.blk g [.int .i64 a0, .int .i64 s0, .int .i64 t0, .slice A xs.length c, .int .i64 (k0 + 1), .int .i64 (n0 + 1)] 72]) [0, 1, 3, 7, 0, 16, 48, 112, 0, 256, 768, 1792, 0, 0, 16128, 32767, 0, 131071] [17] [(0, 0), (1, 0), (2, 0), (4, 0), (5, 0), (6, 0), (8, 0), (9, 0), (10, 0), (12, 0), (13, 0), (3, 1), (7, 1), (11, 1), (14, 0), (15, 0), (16, 2), (17, 2)] (by kernel_rfl) (fun _ _ d _ _ h => by cases d <;> exact h) (Vs.drew ⟨H.get 0 rfl, trivial⟩) ?_
        have H := H.drew
        generalize World.drew W = W at H ⊢
        refine sq0 (show Eq (α := OSk) _ (some (some 59, (.move (.tmp 0)), 23, none)) by kernel_rfl) trivial F (by decide) (v := .pointer (some ⟨g, 0, none⟩)) (fun W_ => x_move (F.slot rfl)) (fun a F => ?_)
        refine sq0 (show Eq (α := OSk) _ (some (some 60, (.nilCheck (.tmp 59)), 0, none)) by kernel_rfl) trivial F (by decide) (v := .pointer (some ⟨g, 0, none⟩)) (fun W_ => x_nil (F.slot rfl)) (fun a F => ?_)
        refine sq0 (show Eq (α := OSk) _ (some (some 61, (.fieldAddr 72 (.tmp 60) 0), 0, none)) by kernel_rfl) trivial F (by decide) (v := .pointer (some ⟨g, 0, none⟩)) (fun W_ => x_field0 Tryd.underlying72 rfl rfl (Tryd.sizeOf3 W_) (F.slot rfl)) (fun a F => ?_)
        refine sq0 (show Eq (α := OSk) _ (some (some 63, (.move (.tmp 0)), 23, none)) by kernel_rfl) trivial F (by decide) (v := .pointer (some ⟨g, 0, none⟩)) (fun W_ => x_move (F.slot rfl)) (fun a F => ?_)
        refine sq0 (show Eq (α := OSk) _ (some (some 64, (.nilCheck (.tmp 63)), 0, none)) by kernel_rfl) trivial F (by decide) (v := .pointer (some ⟨g, 0, none⟩)) (fun W_ => x_nil (F.slot rfl)) (fun a F => ?_)
        refine sq0 (show Eq (α := OSk) _ (some (some 65, (.fieldAddr 72 (.tmp 64) 5), 0, none)) by kernel_rfl) trivial F (by decide) (v := .pointer (some ⟨g, 5, none⟩)) (fun W_ => x_field0 Tryd.underlying72 rfl rfl (Tryd.sizeOf3 W_) (F.slot rfl)) (fun a F => ?_)
        refine sq0 (show Eq (α := OSk) _ (some (some 67, (.move (.tmp 0)), 23, none)) by kernel_rfl) trivial F (by decide) (v := .pointer (some ⟨g, 0, none⟩)) (fun W_ => x_move (F.slot rfl)) (fun a F => ?_)
        refine sq0 (show Eq (α := OSk) _ (some (some 68, (.nilCheck (.tmp 67)), 0, none)) by kernel_rfl) trivial F (by decide) (v := .pointer (some ⟨g, 0, none⟩)) (fun W_ => x_nil (F.slot rfl)) (fun a F => ?_)
        refine sq0 (show Eq (α := OSk) _ (some (some 69, (.fieldAddr 72 (.tmp 68) 3), 0, none)) by kernel_rfl) trivial F (by decide) (v := .pointer (some ⟨g, 3, none⟩)) (fun W_ => x_field0 Tryd.underlying72 rfl rfl (Tryd.sizeOf38 W_) (F.slot rfl)) (fun a F => ?_)
        refine sq0 (show Eq (α := OSk) _ (some (some 71, (.move (.tmp 4)), 3, none)) by kernel_rfl) trivial F (by decide) (v := .int .i64 (m : Int)) (fun W_ => x_move (F.slot rfl)) (fun a F => ?_)
        refine sq0 (show Eq (α := OSk) _ (some (some 72, (.move (.tmp 4)), 3, none)) by kernel_rfl) trivial F (by decide) (v := .int .i64 (m : Int)) (fun W_ => x_move (F.slot rfl)) (fun a F => ?_)
        refine sq1 (show Eq (α := OSk) _ (some (some 62, (.load 3 (.tmp 61)), 3, none)) by kernel_rfl) trivial F (by decide) (⟨H.get 0 rfl, trivial⟩) (v := .int .i64 a0) (fun W_ hV => x_load1 (Tryd.isAgg3 W_) (F.slot rfl) (bcell hV.1 rfl)) (fun a F => ?_)
        refine sq1 (show Eq (α := OSk) _ (some (some 66, (.load 3 (.tmp 65)), 3, none)) by kernel_rfl) trivial F (by decide) (⟨H.get 0 rfl, trivial⟩) (v := .int .i64 (n0 + 1)) (fun W_ hV => x_load1 (Tryd.isAgg3 W_) (F.slot rfl) (bcell hV.1 rfl)) (fun a F => ?_)
        refine sq1 (show Eq (α := OSk) _ (some (some 70, (.load 38 (.tmp 69)), 38, none)) by kernel_rfl) trivial F (by decide) (⟨H.get 0 rfl, trivial⟩) (v := .slice A xs.length c) (fun W_ hV => x_load1 (Tryd.isAgg38 W_) (F.slot rfl) (bcell hV.1 rfl)) (fun a F => ?_)
        refine sq0 (show Eq (α := OSk) _ (some (some 73, (.slice 38 (.tmp 70) none (some (.tmp 71)) (some (.tmp 72))), 38, none)) by kernel_rfl) trivial F (by decide) (v := .slice A m m) (fun W_ => x_sliceLm Tryd.underlying38 (Tryd.sizeOf33 W_) (F.slot rfl) (F.slot rfl) (F.slot rfl) (by omega)) (fun a F => ?_)
        refine sq0 (show Eq (α := OSk) _ (some (some 74, (.build 40 #[(0, (.tmp 62)), (1, (.tmp 66)), (2, (.tmp 73))]), 40, none)) by kernel_rfl) trivial F (by decide) (v := .agg #[.int .i64 a0, .int .i64 (n0 + 1), .slice A m m]) (fun W_ => by simp [ex, execOp, Instr.build, Tryd.zeroValue40, run_underlying Tryd.underlying40, Instr.fill, Value.cells, F.slot (i := 62) rfl, F.slot (i := 66) rfl, F.slot (i := 73) rfl, Tryd.sizeOf3, Tryd.sizeOf38]) (fun a F => ?_)
        refine sq_new (show Eq (α := OSk) _ (some (some 5, (.alloc 40), 0, none)) by kernel_rfl) trivial F (by decide) H [.int .i64 0, .int .i64 0, .slice none 0 0] 40 (x_alloc Tryd.zeroValue40 rfl) ?_
        intro g8 W a hg8 H F
        refine ⟨(fun _ => ⟨H.get 0 rfl, trivial⟩), ?_⟩
        refine sq_put (M := [Asn.blk g [.int .i64 a0, .int .i64 s0, .int .i64 t0, .slice A xs.length c, .int .i64 (k0 + 1), .int .i64 (n0 + 1)] 72, Asn.qu k33 33 (.slice A xs.length c) xs ok, Asn.blk g1 [.int .i64 0, .int .i64 0, .slice none 0 0] 40, Asn.blk g8 [.int .i64 a0, .int .i64 (n0 + 1), .slice A m m] 40]) (show Eq (α := OSk) _ (some (none, (.store 40 (.tmp 5) (.tmp 74)), 0, none)) by kernel_rfl) trivial F (x_store H (k := 3) (cs' := [.int .i64 a0, .int .i64 (n0 + 1), .slice A m m]) rfl (Tryd.sizeOf40 W) (F.slot rfl) (F.slot rfl) rfl (Nat.le_of_ble_eq_true rfl) rfl rfl) ?_
        intro W H
        refine ⟨(fun h => absurd (by decide) h), ?_⟩
        unfold wpSeq
        refine t_normal ?_
        refine c_seq (by kernel_rfl) ?_
        refine c_text (id := 9) (by kernel_rfl) [(0, 2), (1, 2), (2, 2), (3, 2), (4, 2), (5, 2), (6, 2), (7, 2), (8, 2), (9, 2), (10, 2), (11, 2), (12, 2), (13, 2)] (by kernel_rfl) ?_
        refine sq2 (W' := W) (show Eq (α := OSk) _ (some (some 75, (.move (.tmp 0)), 23, none)) by kernel_rfl) trivial F (by decide) (v := .pointer (some ⟨g, 0, none⟩)) (x_move (F.slot rfl)) (fun _ => trivial) (fun a F => ?_)
        refine sq2 (W' := W) (show Eq (α := OSk) _ (some (some 76, (.move (.tmp 0)), 23, none)) by kernel_rfl) trivial F (by decide) (v := .pointer (some ⟨g, 0, none⟩)) (x_move (F.slot rfl)) (fun _ => trivial) (fun a F => ?_)
        refine sq2 (W' := W) (show Eq (α := OSk) _ (some (some 77, (.move (.tmp 0)), 23, none)) by kernel_rfl) trivial F (by decide) (v := .pointer (some ⟨g, 0, none⟩)) (x_move (F.slot rfl)) (fun _ => trivial) (fun a F => ?_)
        refine sq2 (W' := W) (show Eq (α := OSk) _ (some (some 78, (.nilCheck (.tmp 77)), 0, none)) by kernel_rfl) trivial F (by decide) (v := .pointer (some ⟨g, 0, none⟩)) (x_nil (F.slot rfl)) (fun _ => trivial) (fun a F => ?_)
        refine sq2 (W' := W) (show Eq (α := OSk) _ (some (some 79, (.fieldAddr 72 (.tmp 78) 3), 0, none)) by kernel_rfl) trivial F (by decide) (v := .pointer (some ⟨g, 3, none⟩)) (x_field0 Tryd.underlying72 rfl rfl (Tryd.sizeOf38 W) (F.slot rfl)) (fun _ => trivial) (fun a F => ?_)
        refine sq2 (show Eq (α := OSk) _ (some (some 80, (.load 38 (.tmp 79)), 38, none)) by kernel_rfl) trivial F (by decide) (v := .slice A xs.length c) (x_load1 (Tryd.isAgg38 W) (F.slot rfl) (H.cell 0 rfl rfl)) (fun _ => trivial) (fun a F => ?_)
        refine sq2 (W' := W) (show Eq (α := OSk) _ (some (some 81, (.move (.tmp 4)), 3, none)) by kernel_rfl) trivial F (by decide) (v := .int .i64 (m : Int)) (x_move (F.slot rfl)) (fun _ => trivial) (fun a F => ?_)
        refine sq2 (W' := W) (show Eq (α := OSk) _ (some (some 82, (.slice 38 (.tmp 80) (some (.tmp 81)) none none), 38, none)) by kernel_rfl) trivial F (by decide) (v := .slice (if c = m then A else A.map (·.add (m * 9))) (xs.length - m) (c - m)) (x_sliceLl (z := 9) Tryd.underlying38 (Tryd.sizeOf33 W) (F.slot rfl) (F.slot rfl) (by omega)) (fun _ => trivial) (fun a F => ?_)
        refine sq2 (W' := W) (show Eq (α := OSk) _ (some (some 83, (.nilCheck (.tmp 75)), 0, none)) by kernel_rfl) trivial F (by decide) (v := .pointer (some ⟨g, 0, none⟩)) (x_nil (F.slot rfl)) (fun _ => trivial) (fun a F => ?_)
        refine sq2 (W' := W) (show Eq (α := OSk) _ (some (some 84, (.fieldAddr 72 (.tmp 83) 3), 0, none)) by kernel_rfl) trivial F (by decide) (v := .pointer (some ⟨g, 3, none⟩)) (x_field0 Tryd.underlying72 rfl rfl (Tryd.sizeOf38 W) (F.slot rfl)) (fun _ => trivial) (fun a F => ?_)
        refine sq_put (M := [Asn.blk g [.int .i64 a0, .int .i64 s0, .int .i64 t0, .slice (if c = m then A else A.map (·.add (m * 9))) (xs.length - m) (c - m), .int .i64 (k0 + 1), .int .i64 (n0 + 1)] 72, Asn.qu k33 33 (.slice A xs.length c) xs ok, Asn.blk g1 [.int .i64 0, .int .i64 0, .slice none 0 0] 40, Asn.blk g8 [.int .i64 a0, .int .i64 (n0 + 1), .slice A m m] 40]) (show Eq (α := OSk) _ (some (none, (.store 38 (.tmp 84) (.tmp 82)), 0, none)) by kernel_rfl) trivial F (x_store H (k := 0) (cs' := [.int .i64 a0, .int .i64 s0, .int .i64 t0, .slice (if c = m then A else A.map (·.add (m * 9))) (xs.length - m) (c - m), .int .i64 (k0 + 1), .int .i64 (n0 + 1)]) rfl (Tryd.sizeOf38 W) (F.slot rfl) (F.slot rfl) rfl (Nat.le_of_ble_eq_true rfl) rfl rfl) ?_
        intro W H
        refine ⟨(fun _ => trivial), ?_⟩
        refine sq2 (W' := W) (show Eq (α := OSk) _ (some (some 85, (.nilCheck (.tmp 76)), 0, none)) by kernel_rfl) trivial F (by decide) (v := .pointer (some ⟨g, 0, none⟩)) (x_nil (F.slot rfl)) (fun _ => trivial) (fun a F => ?_)
        refine sq2 (W' := W) (show Eq (α := OSk) _ (some (some 86, (.fieldAddr 72 (.tmp 85) 4), 0, none)) by kernel_rfl) trivial F (by decide) (v := .pointer (some ⟨g, 4, none⟩)) (x_field0 Tryd.underlying72 rfl rfl (Tryd.sizeOf3 W) (F.slot rfl)) (fun _ => trivial) (fun a F => ?_)
        refine sq_put (M := [Asn.blk g [.int .i64 a0, .int .i64 s0, .int .i64 t0, .slice (if c = m then A else A.map (·.add (m * 9))) (xs.length - m) (c - m), .int .i64 0, .int .i64 (n0 + 1)] 72, Asn.qu k33 33 (.slice A xs.length c) xs ok, Asn.blk g1 [.int .i64 0, .int .i64 0, .slice none 0 0] 40, Asn.blk g8 [.int .i64 a0, .int .i64 (n0 + 1), .slice A m m] 40]) (show Eq (α := OSk) _ (some (none, (.store 3 (.tmp 86) (.const (.int .i64 0))), 0, none)) by kernel_rfl) trivial F (x_store H (k := 0) (cs' := [.int .i64 a0, .int .i64 s0, .int .i64 t0, .slice (if c = m then A else A.map (·.add (m * 9))) (xs.length - m) (c - m), .int .i64 0, .int .i64 (n0 + 1)]) rfl (Tryd.sizeOf3 W) (F.slot rfl) rfl rfl (Nat.le_of_ble_eq_true rfl) rfl rfl) ?_
        intro W H
        refine ⟨(fun _ => trivial), ?_⟩
        unfold wpSeq
        refine t_normal ?_
        refine c_seq (by kernel_rfl) ?_
        refine c_text (id := 10) (by kernel_rfl) [(0, 2), (1, 2), (2, 2)] (by kernel_rfl) ?_
        refine sq2 (show Eq (α := OSk) _ (some (some 87, (.load 40 (.tmp 5)), 40, none)) by kernel_rfl) trivial F (by decide) (v := .agg #[.int .i64 a0, .int .i64 (n0 + 1), .slice A m m]) (x_loadB (Tryd.isAgg40 W) [.int .i64 a0, .int .i64 (n0 + 1), .slice A m m] (Tryd.sizeOf40 W) (F.slot rfl) (H.blk 3 rfl)) (fun _ => trivial) (fun a F => ?_)
        refine sq_put (M := [Asn.blk g [.int .i64 a0, .int .i64 s0, .int .i64 t0, .slice (if c = m then A else A.map (·.add (m * 9))) (xs.length - m) (c - m), .int .i64 0, .int .i64 (n0 + 1)] 72, Asn.qu k33 33 (.slice A xs.length c) xs ok, Asn.blk g1 [.int .i64 a0, .int .i64 (n0 + 1), .slice A m m] 40, Asn.blk g8 [.int .i64 a0, .int .i64 (n0 + 1), .slice A m m] 40]) (show Eq (α := OSk) _ (some (none, (.store 40 (.tmp 2) (.tmp 87)), 0, none)) by kernel_rfl) trivial F (x_store H (k := 2) (cs' := [.int .i64 a0, .int .i64 (n0 + 1), .slice A m m]) rfl (Tryd.sizeOf40 W) (F.slot rfl) (F.slot rfl) rfl (Nat.le_of_ble_eq_true rfl) rfl rfl) ?_
        intro W H
        refine ⟨(fun _ => trivial), ?_⟩
        refine sq2 (W' := W) (show Eq (α := OSk) _ (some (some 3, (.assign (.const (.bool true))), 4, none)) by kernel_rfl) trivial F (by decide) (v := .bool true) (x_assign rfl) (fun _ => trivial) (fun a F => ?_)
        unfold wpSeq
        refine t_normal ?_
        refine c_ret (by kernel_rfl) ?_
        refine p_list (rs := [.cell 2 40, .tmp 3]) (vs := [.agg #[.int .i64 a0, .int .i64 (n0 + 1), .slice A m m], .bool true]) Tryd.results21 (by simp) F (Vals.cell' F rfl (H.blk 2 rfl) Tryd.underlying40 rfl (by kernel_rfl) (Vals.tmp' F rfl .nil)) ?_
        have H := H.quCut 1 rfl m (by omega)
        exact .inr (.inr ⟨by omega, by omega, m, hm, rfl, H.front 2⟩)
    · have hb4d := of_decide_eq_false hb4
      have F := F.at 30 rfl (v' := .bool false) (congrArg Value.bool hb4)
      refine sqoff (e := 30) (show Eq (α := OSk) _ (some (some 31, (.move (.tmp 0)), 23, some (10, true))) by kernel_rfl) (by kernel_rfl) (.inl rfl) F (by decide) (fun a F => ?_)
      refine sqoff (e := 30) (show Eq (α := OSk) _ (some (some 32, (.nilCheck (.tmp 31)), 0, some (10, true))) by kernel_rfl) (by kernel_rfl) (.inl rfl) F (by decide) (fun a F => ?_)
      refine sqoff (e := 30) (show Eq (α := OSk) _ (some (some 33, (.fieldAddr 72 (.tmp 32) 4), 0, some (10, true))) by kernel_rfl) (by kernel_rfl) (.inl rfl) F (by decide) (fun a F => ?_)
      refine sqoff (e := 30) (show Eq (α := OSk) _ (some (some 35, (.move (.tmp 0)), 23, some (10, true))) by kernel_rfl) (by kernel_rfl) (.inl rfl) F (by decide) (fun a F => ?_)
      refine sqoff (e := 30) (show Eq (α := OSk) _ (some (some 36, (.nilCheck (.tmp 35)), 0, some (10, true))) by kernel_rfl) (by kernel_rfl) (.inl rfl) F (by decide) (fun a F => ?_)
      refine sqoff (e := 30) (show Eq (α := OSk) _ (some (some 37, (.fieldAddr 72 (.tmp 36) 2), 0, some (10, true))) by kernel_rfl) (by kernel_rfl) (.inl rfl) F (by decide) (fun a F => ?_)
      refine sqoff1 (e := 30) (show Eq (α := OSk) _ (some (some 34, (.load 3 (.tmp 33)), 3, some (10, true))) by kernel_rfl) (by kernel_rfl) (.inl rfl) F (by decide) (⟨H.get 0 rfl, trivial⟩) (fun a F => ?_)
      refine sqoff1 (e := 30) (show Eq (α := OSk) _ (some (some 38, (.load 3 (.tmp 37)), 3, some (10, true))) by kernel_rfl) (by kernel_rfl) (.inl rfl) F (by decide) (⟨H.get 0 rfl, trivial⟩) (fun a F => ?_)
      refine sqoff (e := 30) (show Eq (α := OSk) _ (some (some 39, (.binOp .lss 3 (.tmp 34) (.tmp 38) 3), 4, some (10, true))) by kernel_rfl) (by kernel_rfl) (.inl rfl) F (by decide) (fun a F => ?_)
      refine sq0 (show Eq (α := OSk) _ (some (some 40, (.pick (.tmp 30) (.tmp 39) (.const (.bool false))), 4, none)) by kernel_rfl) trivial F (by decide) (v := .bool false) (fun W_ => x_pickF (F.slot rfl) rfl) (fun a F => ?_)
      unfold wpSeq
      refine t_normal ?_
      refine c_no (c := .tmp 40) (by kernel_rfl) (F.slot rfl) ?_
      refine c_skip (by kernel_rfl) ?_
      refine t_normal ?_
      refine c_seq (by kernel_rfl) ?_
      refine c_drawn (id := 6) (by kernel_rfl) (by kernel_rfl) (Vs [Asn.blk g [.int .i64 a0, .int .i64 s0, .int .i64 t0, .slice A xs.length c, .int .i64 (k0 + 1), .int .i64 n0] 72]) [0, 1, 3, 7, 0, 16, 48, 112, 240, 511, 1023] [] [(0, 0), (1, 0), (2, 0), (4, 0), (5, 0), (6, 0), (3, 1), (7, 1), (8, 0), (9, 0), (10, 0)] (by kernel_rfl) (fun _ _ d _ _ h => by cases d <;> exact h) (Vs.drew ⟨H.get 0 rfl, trivial⟩) ?_
      have H := H.drew
      generalize World.drew W = W at H ⊢
      refine sq0 (show Eq (α := OSk) _ (some (some 42, (.move (.tmp 0)), 23, none)) by kernel_rfl) trivial F (by decide) (v := .pointer (some ⟨g, 0, none⟩)) (fun W_ => x_move (F.slot rfl)) (fun a F => ?_)
      refine sq0 (show Eq (α := OSk) _ (some (some 43, (.nilCheck (.tmp 42)), 0, none)) by kernel_rfl) trivial F (by decide) (v := .pointer (some ⟨g, 0, none⟩)) (fun W_ => x_nil (F.slot rfl)) (fun a F => ?_)
      refine sq0 (show Eq (α := OSk) _ (some (some 44, (.fieldAddr 72 (.tmp 43) 1), 0, none)) by kernel_rfl) trivial F (by decide) (v := .pointer (some ⟨g, 1, none⟩)) (fun W_ => x_field0 Tryd.underlying72 rfl rfl (Tryd.sizeOf3 W_) (F.slot rfl)) (fun a F => ?_)
      refine sq0 (show Eq (α := OSk) _ (some (some 46, (.move (.tmp 0)), 23, none)) by kernel_rfl) trivial F (by decide) (v := .pointer (some ⟨g, 0, none⟩)) (fun W_ => x_move (F.slot rfl)) (fun a F => ?_)
      refine sq0 (show Eq (α := OSk) _ (some (some 47, (.nilCheck (.tmp 46)), 0, none)) by kernel_rfl) trivial F (by decide) (v := .pointer (some ⟨g, 0, none⟩)) (fun W_ => x_nil (F.slot rfl)) (fun a F => ?_)
      refine sq0 (show Eq (α := OSk) _ (some (some 48, (.fieldAddr 72 (.tmp 47) 3), 0, none)) by kernel_rfl) trivial F (by decide) (v := .pointer (some ⟨g, 3, none⟩)) (fun W_ => x_field0 Tryd.underlying72 rfl rfl (Tryd.sizeOf38 W_) (F.slot rfl)) (fun a F => ?_)
      refine sq1 (show Eq (α := OSk) _ (some (some 45, (.load 3 (.tmp 44)), 3, none)) by kernel_rfl) trivial F (by decide) (⟨H.get 0 rfl, trivial⟩) (v := .int .i64 s0) (fun W_ hV => x_load1 (Tryd.isAgg3 W_) (F.slot rfl) (bcell hV.1 rfl)) (fun a F => ?_)
      refine sq1 (show Eq (α := OSk) _ (some (some 49, (.load 38 (.tmp 48)), 38, none)) by kernel_rfl) trivial F (by decide) (⟨H.get 0 rfl, trivial⟩) (v := .slice A xs.length c) (fun W_ hV => x_load1 (Tryd.isAgg38 W_) (F.slot rfl) (bcell hV.1 rfl)) (fun a F => ?_)
      refine sq0 (show Eq (α := OSk) _ (some (some 50, (.call { callee := (.builtin .len), args := #[(.tmp 49)], argTypes := #[38] }), 3, none)) by kernel_rfl) trivial F (by decide) (v := .int .i64 (xs.length : Int)) (fun W_ => x_lenL Tryd.underlying38 (F.slot rfl)) (fun a F => ?_)
      refine sq0 (show Eq (α := OSk) _ (some (some 51, (.call { callee := (.builtin .min), args := #[(.tmp 45), (.tmp 50)], argTypes := #[3, 3] }), 3, none)) by kernel_rfl) trivial F (by decide) (v := .int .i64 (min s0 (xs.length : Int))) (fun W_ => x_min (F.slot rfl) (F.slot rfl)) (fun a F => ?_)
      refine sq0 (show Eq (α := OSk) _ (some (some 4, (.assign (.tmp 51)), 3, none)) by kernel_rfl) trivial F (by decide) (v := .int .i64 (min s0 (xs.length : Int))) (fun W_ => x_assign (F.slot rfl)) (fun a F => ?_)
      unfold wpSeq
      refine t_normal ?_
      refine c_seq (by kernel_rfl) ?_
      obtain ⟨m, hm⟩ : ∃ m : Nat, (m : Int) = min s0 (xs.length : Int) := ⟨(min s0 (xs.length : Int)).toNat, by omega⟩
      have F := F.at 51 rfl (v' := .int .i64 (m : Int)) (congrArg (Value.int .i64) hm.symm)
      have F := F.at 4 rfl (v' := .int .i64 (m : Int)) (congrArg (Value.int .i64) hm.symm)
      have hcl := (H.qu 1 rfl).read.2.1
      refine c_text (id := 7) (by kernel_rfl) [(0, 2), (1, 2), (2, 2), (3, 2), (4, 2), (5, 2), (6, 2), (7, 2)] (by kernel_rfl) ?_
      refine sq2 (W' := W) (show Eq (α := OSk) _ (some (some 52, (.move (.tmp 0)), 23, none)) by kernel_rfl) trivial F (by decide) (v := .pointer (some ⟨g, 0, none⟩)) (x_move (F.slot rfl)) (fun _ => trivial) (fun a F => ?_)
      refine sq2 (W' := W) (show Eq (α := OSk) _ (some (some 53, (.nilCheck (.tmp 52)), 0, none)) by kernel_rfl) trivial F (by decide) (v := .pointer (some ⟨g, 0, none⟩)) (x_nil (F.slot rfl)) (fun _ => trivial) (fun a F => ?_)
      refine sq2 (W' := W) (show Eq (α := OSk) _ (some (some 54, (.fieldAddr 72 (.tmp 53) 5), 0, none)) by kernel_rfl) trivial F (by decide) (v := .pointer (some ⟨g, 5, none⟩)) (x_field0 Tryd.underlying72 rfl rfl (Tryd.sizeOf3 W) (F.slot rfl)) (fun _ => trivial) (fun a F => ?_)
      refine sq2 (show Eq (α := OSk) _ (some (some 55, (.load 3 (.tmp 54)), 3, none)) by kernel_rfl) trivial F (by decide) (v := .int .i64 n0) (x_load1 (Tryd.isAgg3 W) (F.slot rfl) (H.cell 0 rfl rfl)) (fun _ => trivial) (fun a F => ?_)
      refine sq2 (W' := W) (show Eq (α := OSk) _ (some (some 56, (.binOp .add 3 (.tmp 55) (.const (.int .i64 1)) 3), 3, none)) by kernel_rfl) trivial F (by decide) (v := .int .i64 (IntKind.i64.wrap (n0 + 1))) (x_int (F.slot rfl) rfl rfl) (fun _ => trivial) (fun a F => ?_)
      have F := F.conv (v' := .int .i64 (n0 + 1)) (congrArg (Value.int .i64) (wrap_i64 _ (by omega) (by omega)))
      refine sq2 (W' := W) (show Eq (α := OSk) _ (some (some 57, (.nilCheck (.tmp 52)), 0, none)) by kernel_rfl) trivial F (by decide) (v := .pointer (some ⟨g, 0, none⟩)) (x_nil (F.slot rfl)) (fun _ => trivial) (fun a F => ?_)
      refine sq2 (W' := W) (show Eq (α := OSk) _ (some (some 58, (.fieldAddr 72 (.tmp 57) 5), 0, none)) by kernel_rfl) trivial F (by decide) (v := .pointer (some ⟨g, 5, none⟩)) (x_field0 Tryd.underlying72 rfl rfl (Tryd.sizeOf3 W) (F.slot rfl)) (fun _ => trivial) (fun a F => ?_)
      refine sq_put (M := [Asn.blk g [.int .i64 a0, .int .i64 s0, .int .i64 t0, .slice A xs.length c, .int .i64 (k0 + 1), .int .i64 (n0 + 1)] 72, Asn.qu k33 33 (.slice A xs.length c) xs ok, Asn.blk g1 [.int .i64 0, .int .i64 0, .slice none 0 0] 40]) (show Eq (α := OSk) _ (some (none, (.store 3 (.tmp 58) (.tmp 56)), 0, none)) by kernel_rfl) trivial F (x_store H (k := 0) (cs' := [.int .i64 a0, .int .i64 s0, .int .i64 t0, .slice A xs.length c, .int .i64 (k0 + 1), .int .i64 (n0 + 1)]) rfl (Tryd.sizeOf3 W) (F.slot rfl) (F.slot rfl) rfl (Nat.le_of_ble_eq_true rfl) rfl rfl) ?_
      intro W H
      refine ⟨(fun _ => trivial), ?_⟩
      unfold wpSeq
      refine t_normal ?_
      refine c_seq (by kernel_rfl) ?_
      refine c_drawn (id := 8) (by kernel_rfl) (by kernel_rfl) (Vs [Asn.blk g [.int .i64 a0, .int .i64 s0, .int .i64 t0, .slice A xs.length c, .int .i64 (k0 + 1), .int .i64 (n0 + 1)] 72]) [0, 1, 3, 7, 0, 16, 48, 112, 0, 256, 768, 1792, 0, 0, 16128, 32767, 0, 131071] [17] [(0, 0), (1, 0), (2, 0), (4, 0), (5, 0), (6, 0), (8, 0), (9, 0), (10, 0), (12, 0), (13, 0), (3, 1), (7, 1), (11, 1), (14, 0), (15, 0), (16, 2), (17, 2)] (by kernel_rfl) (fun _ _ d _ _ h => by cases d <;> exact h) (Vs.drew ⟨H.get 0 rfl, trivial⟩) ?_
      have H := H.drew
      generalize World.drew W = W at H ⊢
      refine sq0 (show Eq (α := OSk) _ (some (some 59, (.move (.tmp 0)), 23, none)) by kernel_rfl) trivial F (by decide) (v := .pointer (some ⟨g, 0, none⟩)) (fun W_ => x_move (F.slot rfl)) (fun a F => ?_)
      refine sq0 (show Eq (α := OSk) _ (some (some 60, (.nilCheck (.tmp 59)), 0, none)) by kernel_rfl) trivial F (by decide) (v := .pointer (some ⟨g, 0, none⟩)) (fun W_ => x_nil (F.slot rfl)) (fun a F => ?_)
      refine sq0 (show Eq (α := OSk) _ (some (some 61, (.fieldAddr 72 (.tmp 60) 0), 0, none)) by kernel_rfl) trivial F (by decide) (v := .pointer (some ⟨g, 0, none⟩)) (fun W_ => x_field0 Tryd.underlying72 rfl rfl (Tryd.sizeOf3 W_) (F.slot rfl)) (fun a F => ?_)
      refine sq0 (show Eq (α := OSk) _ (some (some 63, (.move (.tmp 0)), 23, none)) by kernel_rfl) trivial F (by decide) (v := .pointer (some ⟨g, 0, none⟩)) (fun W_ => x_move (F.slot rfl)) (fun a F => ?_)
      refine sq0 (show Eq (α := OSk) _ (some (some 64, (.nilCheck (.tmp 63)), 0, none)) by kernel_rfl) trivial F (by decide) (v := .pointer (some ⟨g, 0, none⟩)) (fun W_ => x_nil (F.slot rfl)) (fun a F => ?_)
      refine sq0 (show Eq (α := OSk) _ (some (some 65, (.fieldAddr 72 (.tmp 64) 5), 0, none)) by kernel_rfl) trivial F (by decide) (v := .pointer (some ⟨g, 5, none⟩)) (fun W_ => x_field0 Tryd.underlying72 rfl rfl (Tryd.sizeOf3 W_) (F.slot rfl)) (fun a F => ?_)
      refine sq0 (show Eq (α := OSk) _ (some (some 67, (.move (.tmp 0)), 23, none)) by kernel_rfl) trivial F (by decide) (v := .pointer (some ⟨g, 0, none⟩)) (fun W_ => x_move (F.slot rfl)) (fun a F => ?_)
      refine sq0 (show Eq (α := OSk) _ (some (some 68, (.nilCheck (.tmp 67)), 0, none)) by kernel_rfl) trivial F (by decide) (v := .pointer (some ⟨g, 0, none⟩)) (fun W_ => x_nil (F.slot rfl)) (fun a F => ?_)
      refine sq0 (show Eq (α := OSk) _ (some (some 69, (.fieldAddr 72 (.tmp 68) 3), 0, none)) by kernel_rfl) trivial F (by decide) (v := .pointer (some ⟨g, 3, none⟩)) (fun W_ => x_field0 Tryd.underlying72 rfl rfl (Tryd.sizeOf38 W_) (F.slot rfl)) (fun a F => ?_)
      refine sq0 (show Eq (α := OSk) _ (some (some 71, (.move (.tmp 4)), 3, none)) by kernel_rfl) trivial F (by decide) (v := .int .i64 (m : Int)) (fun W_ => x_move (F.slot rfl)) (fun a F => ?_)
      refine sq0 (show Eq (α := OSk) _ (some (some 72, (.move (.tmp 4)), 3, none)) by kernel_rfl) trivial F (by decide) (v := .int .i64 (m : Int)) (fun W_ => x_move (F.slot rfl)) (fun a F => ?_)
      refine sq1 (show Eq (α := OSk) _ (some (some 62, (.load 3 (.tmp 61)), 3, none)) by kernel_rfl) trivial F (by decide) (⟨H.get 0 rfl, trivial⟩) (v := .int .i64 a0) (fun W_ hV => x_load1 (Tryd.isAgg3 W_) (F.slot rfl) (bcell hV.1 rfl)) (fun a F => ?_)
      refine sq1 (show Eq (α := OSk) _ (some (some 66, (.load 3 (.tmp 65)), 3, none)) by kernel_rfl) trivial F (by decide) (⟨H.get 0 rfl, trivial⟩) (v := .int .i64 (n0 + 1)) (fun W_ hV => x_load1 (Tryd.isAgg3 W_) (F.slot rfl) (bcell hV.1 rfl)) (fun a F => ?_)
      refine sq1 (show Eq (α := OSk) _ (some (some 70, (.load 38 (.tmp 69)), 38, none)) by kernel_rfl) trivial F (by decide) (⟨H.get 0 rfl, trivial⟩) (v := .slice A xs.length c) (fun W_ hV => x_load1 (Tryd.isAgg38 W_) (F.slot rfl) (bcell hV.1 rfl)) (fun a F => ?_)
      refine sq0 (show Eq (α := OSk) _ (some (some 73, (.slice 38 (.tmp 70) none (some (.tmp 71)) (some (.tmp 72))), 38, none)) by kernel_rfl) trivial F (by decide) (v := .slice A m m) (fun W_ => x_sliceLm Tryd.underlying38 (Tryd.sizeOf33 W_) (F.slot rfl) (F.slot rfl) (F.slot rfl) (by omega)) (fun a F => ?_)
      refine sq0 (show Eq (α := OSk) _ (some (some 74, (.build 40 #[(0, (.tmp 62)), (1, (.tmp 66)), (2, (.tmp 73))]), 40, none)) by kernel_rfl) trivial F (by decide) (v := .agg #[.int .i64 a0, .int .i64 (n0 + 1), .slice A m m]) (fun W_ => by simp [ex, execOp, Instr.build, Tryd.zeroValue40, run_underlying Tryd.underlying40, Instr.fill, Value.cells, F.slot (i := 62) rfl, F.slot (i := 66) rfl, F.slot (i := 73) rfl, Tryd.sizeOf3, Tryd.sizeOf38]) (fun a F => ?_)
      refine sq_new (show Eq (α := OSk) _ (some (some 5, (.alloc 40), 0, none)) by kernel_rfl) trivial F (by decide) H [.int .i64 0, .int .i64 0, .slice none 0 0] 40 (x_alloc Tryd.zeroValue40 rfl) ?_
      intro g11 W a hg11 H F
      refine ⟨(fun _ => ⟨H.get 0 rfl, trivial⟩), ?_⟩
      refine sq_put (M := [Asn.blk g [.int .i64 a0, .int .i64 s0, .int .i64 t0, .slice A xs.length c, .int .i64 (k0 + 1), .int .i64 (n0 + 1)] 72, Asn.qu k33 33 (.slice A xs.length c) xs ok, Asn.blk g1 [.int .i64 0, .int .i64 0, .slice none 0 0] 40, Asn.blk g11 [.int .i64 a0, .int .i64 (n0 + 1), .slice A m m] 40]) (show Eq (α := OSk) _ (some (none, (.store 40 (.tmp 5) (.tmp 74)), 0, none)) by kernel_rfl) trivial F (x_store H (k := 3) (cs' := [.int .i64 a0, .int .i64 (n0 + 1), .slice A m m]) rfl (Tryd.sizeOf40 W) (F.slot rfl) (F.slot rfl) rfl (Nat.le_of_ble_eq_true rfl) rfl rfl) ?_
      intro W H
      refine ⟨(fun h => absurd (by decide) h), ?_⟩
      unfold wpSeq
      refine t_normal ?_
      refine c_seq (by kernel_rfl) ?_
      refine c_text (id := 9) (by kernel_rfl) [(0, 2), (1, 2), (2, 2), (3, 2), (4, 2), (5, 2), (6, 2), (7, 2), (8, 2), (9, 2), (10, 2), (11, 2), (12, 2), (13, 2)] (by kernel_rfl) ?_
      refine sq2 (W' := W) (show Eq (α := OSk) _ (some (some 75, (.move (.tmp 0)), 23, none)) by kernel_rfl) trivial F (by decide) (v := .pointer (some ⟨g, 0, none⟩)) (x_move (F.slot rfl)) (fun _ => trivial) (fun a F => ?_)
      refine sq2 (W' := W) (show Eq (α := OSk) _ (some (some 76, (.move (.tmp 0)), 23, none)) by kernel_rfl) trivial F (by decide) (v := .pointer (some ⟨g, 0, none⟩)) (x_move (F.slot rfl)) (fun _ => trivial) (fun a F => ?_)
      refine sq2 (W' := W) (show Eq (α := OSk) _ (some (some 77, (.move (.tmp 0)), 23, none)) by kernel_rfl) trivial F (by decide) (v := .pointer (some ⟨g, 0, none⟩)) (x_move (F.slot rfl)) (fun _ => trivial) (fun a F => ?_)
      refine sq2 (W' := W) (show Eq (α := OSk) _ (some (some 78, (.nilCheck (.tmp 77)), 0, none)) by kernel_rfl) trivial F (by decide) (v := .pointer (some ⟨g, 0, none⟩)) (x_nil (F.slot rfl)) (fun _ => trivial) (fun a F => ?_)
      refine sq2 (W' := W) (show Eq (α := OSk) _ (some (some 79, (.fieldAddr 72 (.tmp 78) 3), 0, none)) by kernel_rfl) trivial F (by decide) (v := .pointer (some ⟨g, 3, none⟩)) (x_field0 Tryd.underlying72 rfl rfl (Tryd.sizeOf38 W) (F.slot rfl)) (fun _ => trivial) (fun a F => ?_)
      refine sq2 (show Eq (α := OSk) _ (some (some 80, (.load 38 (.tmp 79)), 38, none)) by kernel_rfl) trivial F (by decide) (v := .slice A xs.length c) (x_load1 (Tryd.isAgg38 W) (F.slot rfl) (H.cell 0 rfl rfl)) (fun _ => trivial) (fun a F => ?_)
      refine sq2 (W' := W) (show Eq (α := OSk) _ (some (some 81, (.move (.tmp 4)), 3, none)) by kernel_rfl) trivial F (by decide) (v := .int .i64 (m : Int)) (x_move (F.slot rfl)) (fun _ => trivial) (fun a F => ?_)
      refine sq2 (W' := W) (show Eq (α := OSk) _ (some (some 82, (.slice 38 (.tmp 80) (some (.tmp 81)) none none), 38, none)) by kernel_rfl) trivial F (by decide) (v := .slice (if c = m then A else A.map (·.add (m * 9))) (xs.length - m) (c - m)) (x_sliceLl (z := 9) Tryd.underlying38 (Tryd.sizeOf33 W) (F.slot rfl) (F.slot rfl) (by omega)) (fun _ => trivial) (fun a F => ?_)
      refine sq2 (W' := W) (show Eq (α := OSk) _ (some (some 83, (.nilCheck (.tmp 75)), 0, none)) by kernel_rfl) trivial F (by decide) (v := .pointer (some ⟨g, 0, none⟩)) (x_nil (F.slot rfl)) (fun _ => trivial) (fun a F => ?_)
      refine sq2 (W' := W) (show Eq (α := OSk) _ (some (some 84, (.fieldAddr 72 (.tmp 83) 3), 0, none)) by kernel_rfl) trivial F (by decide) (v := .pointer (some ⟨g, 3, none⟩)) (x_field0 Tryd.underlying72 rfl rfl (Tryd.sizeOf38 W) (F.slot rfl)) (fun _ => trivial) (fun a F => ?_)
      refine sq_put (M := [Asn.blk g [.int .i64 a0, .int .i64 s0, .int .i64 t0, .slice (if c = m then A else A.map (·.add (m * 9))) (xs.length - m) (c - m), .int .i64 (k0 + 1), .int .i64 (n0 + 1)] 72, Asn.qu k33 33 (.slice A xs.length c) xs ok, Asn.blk g1 [.int .i64 0, .int .i64 0, .slice none 0 0] 40, Asn.blk g11 [.int .i64 a0, .int .i64 (n0 + 1), .slice A m m] 40]) (show Eq (α := OSk) _ (some (none, (.store 38 (.tmp 84) (.tmp 82)), 0, none)) by kernel_rfl) trivial F (x_store H (k := 0) (cs' := [.int .i64 a0, .int .i64 s0, .int .i64 t0, .slice (if c = m then A else A.map (·.add (m * 9))) (xs.length - m) (c - m), .int .i64 (k0 + 1), .int .i64 (n0 + 1)]) rfl (Tryd.sizeOf38 W) (F.slot rfl) (F.slot rfl) rfl (Nat.le_of_ble_eq_true rfl) rfl rfl) ?_
      intro W H
      refine ⟨(fun _ => trivial), ?_⟩
      refine sq2 (W' := W) (show Eq (α := OSk) _ (some (some 85, (.nilCheck (.tmp 76)), 0, none)) by kernel_rfl) trivial F (by decide) (v := .pointer (some ⟨g, 0, none⟩)) (x_nil (F.slot rfl)) (fun _ => trivial) (fun a F => ?_)
      refine sq2 (W' := W) (show Eq (α := OSk) _ (some (some 86, (.fieldAddr 72 (.tmp 85) 4), 0, none)) by kernel_rfl) trivial F (by decide) (v := .pointer (some ⟨g, 4, none⟩)) (x_field0 Tryd.underlying72 rfl rfl (Tryd.sizeOf3 W) (F.slot rfl)) (fun _ => trivial) (fun a F => ?_)
      refine sq_put (M := [Asn.blk g [.int .i64 a0, .int .i64 s0, .int .i64 t0, .slice (if c = m then A else A.map (·.add (m * 9))) (xs.length - m) (c - m), .int .i64 0, .int .i64 (n0 + 1)] 72, Asn.qu k33 33 (.slice A xs.length c) xs ok, Asn.blk g1 [.int .i64 0, .int .i64 0, .slice none 0 0] 40, Asn.blk g11 [.int .i64 a0, .int .i64 (n0 + 1), .slice A m m] 40]) (show Eq (α := OSk) _ (some (none, (.store 3 (.tmp 86) (.const (.int .i64 0))), 0, none)) by kernel_rfl) trivial F (x_store H (k := 0) (cs' := [.int .i64 a0, .int .i64 s0, .int .i64 t0, .slice (if c = m then A else A.map (·.add (m * 9))) (xs.length - m) (c - m), .int .i64 0, .int .i64 (n0 + 1)]) rfl (Tryd.sizeOf3 W) (F.slot rfl) rfl rfl (Nat.le_of_ble_eq_true rfl) rfl rfl) ?_
      intro W H
      refine ⟨(fun _ => trivial), ?_⟩
      unfold wpSeq
      refine t_normal ?_
      refine c_seq (by kernel_rfl) ?_
      refine c_text (id := 10) (by kernel_rfl) [(0, 2), (1, 2), (2, 2)] (by kernel_rfl) ?_
      refine sq2 (show Eq (α := OSk) _ (some (some 87, (.load 40 (.tmp 5)), 40, none)) by kernel_rfl) trivial F (by decide) (v := .agg #[.int .i64 a0, .int .i64 (n0 + 1), .slice A m m]) (x_loadB (Tryd.isAgg40 W) [.int .i64 a0, .int .i64 (n0 + 1), .slice A m m] (Tryd.sizeOf40 W) (F.slot rfl) (H.blk 3 rfl)) (fun _ => trivial) (fun a F => ?_)
      refine sq_put (M := [Asn.blk g [.int .i64 a0, .int .i64 s0, .int .i64 t0, .slice (if c = m then A else A.map (·.add (m * 9))) (xs.length - m) (c - m), .int .i64 0, .int .i64 (n0 + 1)] 72, Asn.qu k33 33 (.slice A xs.length c) xs ok, Asn.blk g1 [.int .i64 a0, .int .i64 (n0 + 1), .slice A m m] 40, Asn.blk g11 [.int .i64 a0, .int .i64 (n0 + 1), .slice A m m] 40]) (show Eq (α := OSk) _ (some (none, (.store 40 (.tmp 2) (.tmp 87)), 0, none)) by kernel_rfl) trivial F (x_store H (k := 2) (cs' := [.int .i64 a0, .int .i64 (n0 + 1), .slice A m m]) rfl (Tryd.sizeOf40 W) (F.slot rfl) (F.slot rfl) rfl (Nat.le_of_ble_eq_true rfl) rfl rfl) ?_
      intro W H
      refine ⟨(fun _ => trivial), ?_⟩
      refine sq2 (W' := W) (show Eq (α := OSk) _ (some (some 3, (.assign (.const (.bool true))), 4, none)) by kernel_rfl) trivial F (by decide) (v := .bool true) (x_assign rfl) (fun _ => trivial) (fun a F => ?_)
      unfold wpSeq
      refine t_normal ?_
      refine c_ret (by kernel_rfl) ?_
      refine p_list (rs := [.cell 2 40, .tmp 3]) (vs := [.agg #[.int .i64 a0, .int .i64 (n0 + 1), .slice A m m], .bool true]) Tryd.results21 (by simp) F (Vals.cell' F rfl (H.blk 2 rfl) Tryd.underlying40 rfl (by kernel_rfl) (Vals.tmp' F rfl .nil)) ?_
      have H := H.quCut 1 rfl m (by omega)
      exact .inr (.inr ⟨by omega, by omega, m, hm, rfl, H.front 2⟩)
end Go.Proofs.YtndicjikjcifaaaDoor

/- The document's sealer: Tick. -/
namespace Go.Proofs.YtndicjikjcifaaaDoor
open Go.RowKit Go.Proofs.YtndicjikjcifaaaDoorW.PrintWords Go.Proofs.YtndicjikjcifaaaDoorW.PrintLast
set_option linter.unusedVariables false
set_option linter.unusedSimpArgs false
set_option maxRecDepth 100000
open PB (S33 k33)
/-- What Tick does to the document's sealer and answers. -/
def RTicked (g : Nat) (a0 s0 t0 k0 n0 : Int) (A : Option Addr) (c : Nat) (xs : List S33) (ok : Nat → Prop) (w : World) (Sf Rf : Nat → Prop) (e : Ending) (W : World) : Prop :=
  (xs.length = 0 ∧ e = .returned (.tuple #[.agg #[.int .i64 0, .int .i64 0, .slice none 0 0], .bool false]) ∧ St w Sf Rf [Asn.blk g [.int .i64 a0, .int .i64 s0, .int .i64 t0, .slice A xs.length c, .int .i64 k0, .int .i64 n0] 46, Asn.qu k33 33 (.slice A xs.length c) xs ok] W) ∨
  (xs.length ≠ 0 ∧ (xs.length : Int) < s0 ∧ k0 + 1 < t0 ∧ e = .returned (.tuple #[.agg #[.int .i64 0, .int .i64 0, .slice none 0 0], .bool false]) ∧ St w Sf Rf [Asn.blk g [.int .i64 a0, .int .i64 s0, .int .i64 t0, .slice A xs.length c, .int .i64 (k0 + 1), .int .i64 n0] 46, Asn.qu k33 33 (.slice A xs.length c) xs ok] W) ∨
  (xs.length ≠ 0 ∧ ¬ ((xs.length : Int) < s0 ∧ k0 + 1 < t0) ∧ ∃ (m : Nat) (A' : Option Addr) (c' : Nat) (ok' : Nat → Prop), (m : Int) = min s0 (xs.length : Int) ∧ (xs.take m).length ≤ c' ∧ e = .returned (.tuple #[.agg #[.int .i64 a0, .int .i64 (n0 + 1), .slice A' (xs.take m).length c'], .bool true]) ∧
    St w Sf Rf [Asn.blk g [.int .i64 a0, .int .i64 s0, .int .i64 t0, .slice (if c = m then A else A.map (·.add (m * 9))) (xs.length - m) (c - m), .int .i64 0, .int .i64 (n0 + 1)] 46, Asn.qu k33 33 (.slice (if c = m then A else A.map (·.add (m * 9))) (xs.length - m) (c - m)) (xs.drop m) ok, Asn.rd k33 ok' A' (xs.take m).length (xs.take m)] W)
end Go.Proofs.YtndicjikjcifaaaDoor

/- The program's sealer: Waits. -/
namespace Go.Proofs.YtndicjikjcifaaaDoor
open Go.RowKit Go.Proofs.YtndicjikjcifaaaDoorW.PrintWords Go.Proofs.YtndicjikjcifaaaDoorW.PrintLast
set_option linter.unusedVariables false
set_option linter.unusedSimpArgs false
set_option maxRecDepth 100000
theorem waits_calls (g : Nat) (a0 s0 t0 k0 n0 : Int) (A : Option Addr) (n c : Nat) (w : World) {Sf Rf : Nat → Prop} (H : St w Sf Rf [Asn.blk g [.int .i64 a0, .int .i64 s0, .int .i64 t0, .slice A n c, .int .i64 k0, .int .i64 n0] 72] w) : Calls Tryd.prog 24 #[.pointer (some ⟨g, 0, none⟩)] w fun e W => e = .returned (.int .i64 (n : Int)) ∧ St w Sf Rf [Asn.blk g [.int .i64 a0, .int .i64 s0, .int .i64 t0, .slice A n c, .int .i64 k0, .int .i64 n0] 72] W := by
  refine c_enter2 (args := [.pointer (some ⟨g, 0, none⟩)]) (S := Sf) (R := Rf) (M := [Asn.blk g [.int .i64 a0, .int .i64 s0, .int .i64 t0, .slice A n c, .int .i64 k0, .int .i64 n0] 72]) Tryd.func24 (by kernel_rfl) 8 Tryd.ntmps24 (Nat.le_of_ble_eq_true rfl) (H) (fun a W F H => ?_)
  have F := F.less [(0, .pointer (some ⟨g, 0, none⟩))] (subc rfl sub0)
  refine c_seq (by kernel_rfl) ?_
  refine c_text (id := 0) (by kernel_rfl) [(0, 2)] (by kernel_rfl) ?_
  refine sq2 (W' := W) (show Eq (α := OSk) _ (some (some 2, (.assign (.const (.int .i64 0))), 3, none)) by kernel_rfl) trivial F (by decide) (v := .int .i64 0) (x_assign rfl) (fun _ => trivial) (fun a F => ?_)
  unfold wpSeq
  have H : St w Sf Rf [Asn.blk g [.int .i64 a0, .int .i64 s0, .int .i64 t0, .slice A n c, .int .i64 k0, .int .i64 n0] 72] W := H
  refine t_normal ?_
  refine c_seq (by kernel_rfl) ?_
  refine c_text (id := 1) (by kernel_rfl) [(0, 2), (1, 2), (2, 2), (3, 2), (4, 2), (5, 2)] (by kernel_rfl) ?_
  refine sq2 (W' := W) (show Eq (α := OSk) _ (some (some 3, (.move (.tmp 0)), 23, none)) by kernel_rfl) trivial F (by decide) (v := .pointer (some ⟨g, 0, none⟩)) (x_move (F.slot rfl)) (fun _ => trivial) (fun a F => ?_)
  refine sq2 (W' := W) (show Eq (α := OSk) _ (some (some 4, (.nilCheck (.tmp 3)), 0, none)) by kernel_rfl) trivial F (by decide) (v := .pointer (some ⟨g, 0, none⟩)) (x_nil (F.slot rfl)) (fun _ => trivial) (fun a F => ?_)
  refine sq2 (W' := W) (show Eq (α := OSk) _ (some (some 5, (.fieldAddr 72 (.tmp 4) 3), 0, none)) by kernel_rfl) trivial F (by decide) (v := .pointer (some ⟨g, 3, none⟩)) (x_field0 Tryd.underlying72 rfl rfl (Tryd.sizeOf38 W) (F.slot rfl)) (fun _ => trivial) (fun a F => ?_)
  refine sq2 (show Eq (α := OSk) _ (some (some 6, (.load 38 (.tmp 5)), 38, none)) by kernel_rfl) trivial F (by decide) (v := .slice A n c) (x_load1 (Tryd.isAgg38 W) (F.slot rfl) (H.cell 0 rfl rfl)) (fun _ => trivial) (fun a F => ?_)
  refine sq2 (W' := W) (show Eq (α := OSk) _ (some (some 7, (.call { callee := (.builtin .len), args := #[(.tmp 6)], argTypes := #[38] }), 3, none)) by kernel_rfl) trivial F (by decide) (v := .int .i64 (n : Int)) (x_lenL Tryd.underlying38 (F.slot rfl)) (fun _ => trivial) (fun a F => ?_)
  refine sq2 (W' := W) (show Eq (α := OSk) _ (some (some 2, (.assign (.tmp 7)), 3, none)) by kernel_rfl) trivial F (by decide) (v := .int .i64 (n : Int)) (x_assign (F.slot rfl)) (fun _ => trivial) (fun a F => ?_)
  unfold wpSeq
  refine t_normal ?_
  refine c_ret (by kernel_rfl) ?_
  refine p_tmp Tryd.results24 F rfl ?_
  exact ⟨rfl, H⟩
end Go.Proofs.YtndicjikjcifaaaDoor

/- tx.Decode. -/
namespace Go.Proofs.YtndicjikjcifaaaDoor
open Go.RowKit Go.Shelf Go.Lib Go.Proofs.YtndicjikjcifaaaDoorW.PrintWords Go.Proofs.YtndicjikjcifaaaDoorW.PrintLast
set_option linter.unusedVariables false
set_option linter.unusedSimpArgs false

/-- A block of nine cells, cell by cell. -/
theorem tx9 {W : World} {g : Nat} {b0 b1 b2 b3 b4 b5 b6 b7 b8 : Value} {T : TypeId} (h : W.heap[g]? = some (.cells #[b0, b1, b2, b3, b4, b5, b6, b7, b8] T (0, 0))) :
    W.cell? ⟨g, 0, none⟩ = some b0 ∧ W.cell? ⟨g, 1, none⟩ = some b1 ∧ W.cell? ⟨g, 2, none⟩ = some b2 ∧ W.cell? ⟨g, 3, none⟩ = some b3 ∧ W.cell? ⟨g, 4, none⟩ = some b4 ∧ W.cell? ⟨g, 5, none⟩ = some b5 ∧ W.cell? ⟨g, 6, none⟩ = some b6 ∧ W.cell? ⟨g, 7, none⟩ = some b7 ∧ W.cell? ⟨g, 8, none⟩ = some b8 ∧ W.frozen? ⟨g, 0, none⟩ = false ∧ W.frozen? ⟨g, 1, none⟩ = false ∧ W.frozen? ⟨g, 2, none⟩ = false ∧ W.frozen? ⟨g, 3, none⟩ = false ∧ W.frozen? ⟨g, 4, none⟩ = false ∧ W.frozen? ⟨g, 5, none⟩ = false ∧ W.frozen? ⟨g, 6, none⟩ = false ∧ W.frozen? ⟨g, 7, none⟩ = false ∧ W.frozen? ⟨g, 8, none⟩ = false :=
  ⟨blk_cell h 0, blk_cell h 1, blk_cell h 2, blk_cell h 3, blk_cell h 4, blk_cell h 5, blk_cell h 6, blk_cell h 7, blk_cell h 8, blk_frozen h 0, blk_frozen h 1, blk_frozen h 2, blk_frozen h 3, blk_frozen h 4, blk_frozen h 5, blk_frozen h 6, blk_frozen h 7, blk_frozen h 8⟩
theorem undo_no (g h : Nat) (w : World) (he : w.heap[g]? = some (.cells #[.int .i64 0] 24 (0, 0))) :
    CallsD Tryd.prog 50 #[.pointer (some ⟨g, 0, none⟩), .pointer (some ⟨h, 0, none⟩)] .returning w fun e u' w' => u' = .returning ∧ (e = .returned (.tuple #[]) ∧ w' = w) := by
  have c0 : w.cell? ⟨g, 0, none⟩ = some (.int .i64 0) := blk_cell he 0
  clear he
  go_enter_d Tryd.func50, Tryd.ntmps50
  go_wp2
  go_end0
  exact ⟨rfl, rfl⟩
def zset (w : World) (h : Nat) : World :=
  (((((((((w.setCell ⟨h, 0, none⟩ (.int .i64 0)).setCell ⟨h, 1, none⟩ (.string ⟨#[]⟩)).setCell ⟨h, 2, none⟩ (.string ⟨#[]⟩)).setCell ⟨h, 3, none⟩ (.int .u64 0)).setCell ⟨h, 4, none⟩ (.int .u64 0)).setCell ⟨h, 5, none⟩ (.string ⟨#[]⟩)).setCell ⟨h, 6, none⟩ (.string ⟨#[]⟩)).setCell ⟨h, 7, none⟩ (.slice none 0 0)).setCell ⟨h, 8, none⟩ (.slice none 0 0))
theorem zset_box (w : World) (h : Nat) (b0 b1 b2 b3 b4 b5 b6 b7 b8 : Value) (ht : w.heap[h]? = some (.cells #[b0, b1, b2, b3, b4, b5, b6, b7, b8] 33 (0, 0))) :
    (zset w h).heap[h]? = some (.cells #[.int .i64 0, .string ⟨#[]⟩, .string ⟨#[]⟩, .int .u64 0, .int .u64 0, .string ⟨#[]⟩, .string ⟨#[]⟩, .slice none 0 0, .slice none 0 0] 33 (0, 0)) := by
  have := blk_set (blk_set (blk_set (blk_set (blk_set (blk_set (blk_set (blk_set (blk_set ht 0 (.int .i64 0)) 1 (.string ⟨#[]⟩)) 2 (.string ⟨#[]⟩)) 3 (.int .u64 0)) 4 (.int .u64 0)) 5 (.string ⟨#[]⟩)) 6 (.string ⟨#[]⟩)) 7 (.slice none 0 0)) 8 (.slice none 0 0)
  simpa [zset] using this
theorem zset_blk (w : World) (h g : Nat) (hg : g ≠ h) : (zset w h).heap[g]? = w.heap[g]? := by
  simp only [zset]
  iterate 9 rw [Below.heap_setCell _ _ _ _ (by simpa using hg)]
theorem zset_below {w0 w : World} {h : Nat} (hl : Below w0.heap.size w0 w) (hh : w0.heap.size ≤ h) : Below w0.heap.size w0 (zset w h) := by
  simp only [zset]
  iterate 9 refine Below.setCell ?_ (by simpa using hh) _
  exact hl
theorem undo_yes (g h : Nat) (x : Int) (hx : x ≠ 0) (b0 b1 b2 b3 b4 b5 b6 b7 b8 : Value) (w : World) (he : w.heap[g]? = some (.cells #[.int .i64 x] 24 (0, 0))) (ht : w.heap[h]? = some (.cells #[b0, b1, b2, b3, b4, b5, b6, b7, b8] 33 (0, 0))) :
    CallsD Tryd.prog 50 #[.pointer (some ⟨g, 0, none⟩), .pointer (some ⟨h, 0, none⟩)] .returning w fun e u' w' => u' = .returning ∧ (e = .returned (.tuple #[]) ∧ w' = zset w h) := by
  have c0 : w.cell? ⟨g, 0, none⟩ = some (.int .i64 x) := blk_cell he 0
  have hx : (x == 0) = false := by simpa using hx
  have d0 : w.cell? ⟨h, 0, none⟩ = some b0 := blk_cell ht 0
  have f0 := blk_frozen ht 0
  have d1 : w.cell? ⟨h, 1, none⟩ = some b1 := blk_cell ht 1
  have f1 := blk_frozen ht 1
  have d2 : w.cell? ⟨h, 2, none⟩ = some b2 := blk_cell ht 2
  have f2 := blk_frozen ht 2
  have d3 : w.cell? ⟨h, 3, none⟩ = some b3 := blk_cell ht 3
  have f3 := blk_frozen ht 3
  have d4 : w.cell? ⟨h, 4, none⟩ = some b4 := blk_cell ht 4
  have f4 := blk_frozen ht 4
  have d5 : w.cell? ⟨h, 5, none⟩ = some b5 := blk_cell ht 5
  have f5 := blk_frozen ht 5
  have d6 : w.cell? ⟨h, 6, none⟩ = some b6 := blk_cell ht 6
  have f6 := blk_frozen ht 6
  have d7 : w.cell? ⟨h, 7, none⟩ = some b7 := blk_cell ht 7
  have f7 := blk_frozen ht 7
  have d8 : w.cell? ⟨h, 8, none⟩ = some b8 := blk_cell ht 8
  have f8 := blk_frozen ht 8
  clear he ht
  go_enter_d Tryd.func50, Tryd.ntmps50
  go_wp2
  go_end0
  exact ⟨rfl, rfl⟩

def zagg : Value := .agg #[.int .i64 0, .string ⟨#[]⟩, .string ⟨#[]⟩, .int .u64 0, .int .u64 0, .string ⟨#[]⟩, .string ⟨#[]⟩, .slice none 0 0, .slice none 0 0]
/-- The three boxes at a world. -/
structure Dx (w : World) (b0 b1 b2 b3 b4 b5 b6 b7 b8 : Value) (s : ByteArray) (W : World) : Prop where
  low : Below w.heap.size w W
  tx : W.heap[w.heap.size]? = some (.cells #[b0, b1, b2, b3, b4, b5, b6, b7, b8] 33 (0, 0))
  er : W.heap[w.heap.size + 1]? = some (.cells #[.int .i64 0] 24 (0, 0))
  rd : W.heap[w.heap.size + 1 + 1]? = some (.cells #[.string s] 77 (0, 0))
theorem Dx.size {w W : World} {b0 b1 b2 b3 b4 b5 b6 b7 b8 : Value} {s : ByteArray} (h : Dx w b0 b1 b2 b3 b4 b5 b6 b7 b8 s W) : w.heap.size + 1 + 1 < W.heap.size := by
  have := h.rd
  rcases Nat.lt_or_ge (w.heap.size + 1 + 1) W.heap.size with h | h
  · exact h
  · rw [Array.getElem?_eq_none h] at this; cases this
theorem Dx.read {w W W' : World} {b0 b1 b2 b3 b4 b5 b6 b7 b8 : Value} {s s' : ByteArray} (h : Dx w b0 b1 b2 b3 b4 b5 b6 b7 b8 s W) (hr : Rd (w.heap.size + 1 + 1) s' W W') : Dx w b0 b1 b2 b3 b4 b5 b6 b7 b8 s' W' :=
  ⟨hr.below h.low (by omega), (hr.blk (by omega) (by have := h.size; omega)).trans h.tx, (hr.blk (by omega) (by have := h.size; omega)).trans h.er, hr.box⟩
theorem Dx.step {w W W' : World} {b0 b1 b2 b3 b4 b5 b6 b7 b8 : Value} {s : ByteArray} (h : Dx w b0 b1 b2 b3 b4 b5 b6 b7 b8 s W) (hb : Below W.heap.size W W') : Dx w b0 b1 b2 b3 b4 b5 b6 b7 b8 s W' :=
  ⟨below_then h.low h.low.size hb, (hb.block _ (by have := h.size; omega)).trans h.tx, (hb.block _ (by have := h.size; omega)).trans h.er, (hb.block _ h.size).trans h.rd⟩

theorem Dx.set0 {w W : World} {b0 b1 b2 b3 b4 b5 b6 b7 b8 : Value} {s : ByteArray} (h : Dx w b0 b1 b2 b3 b4 b5 b6 b7 b8 s W) (v : Value) : Dx w v b1 b2 b3 b4 b5 b6 b7 b8 s (W.setCell ⟨w.heap.size, 0, none⟩ v) :=
  ⟨h.low.setCell (by simp) v, by simpa using blk_set h.tx 0 v, (Below.heap_setCell _ _ _ _ (by simp)).trans h.er, (Below.heap_setCell _ _ _ _ (by simp; omega)).trans h.rd⟩
theorem Dx.set1 {w W : World} {b0 b1 b2 b3 b4 b5 b6 b7 b8 : Value} {s : ByteArray} (h : Dx w b0 b1 b2 b3 b4 b5 b6 b7 b8 s W) (v : Value) : Dx w b0 v b2 b3 b4 b5 b6 b7 b8 s (W.setCell ⟨w.heap.size, 1, none⟩ v) :=
  ⟨h.low.setCell (by simp) v, by simpa using blk_set h.tx 1 v, (Below.heap_setCell _ _ _ _ (by simp)).trans h.er, (Below.heap_setCell _ _ _ _ (by simp; omega)).trans h.rd⟩
theorem Dx.set2 {w W : World} {b0 b1 b2 b3 b4 b5 b6 b7 b8 : Value} {s : ByteArray} (h : Dx w b0 b1 b2 b3 b4 b5 b6 b7 b8 s W) (v : Value) : Dx w b0 b1 v b3 b4 b5 b6 b7 b8 s (W.setCell ⟨w.heap.size, 2, none⟩ v) :=
  ⟨h.low.setCell (by simp) v, by simpa using blk_set h.tx 2 v, (Below.heap_setCell _ _ _ _ (by simp)).trans h.er, (Below.heap_setCell _ _ _ _ (by simp; omega)).trans h.rd⟩
theorem Dx.set3 {w W : World} {b0 b1 b2 b3 b4 b5 b6 b7 b8 : Value} {s : ByteArray} (h : Dx w b0 b1 b2 b3 b4 b5 b6 b7 b8 s W) (v : Value) : Dx w b0 b1 b2 v b4 b5 b6 b7 b8 s (W.setCell ⟨w.heap.size, 3, none⟩ v) :=
  ⟨h.low.setCell (by simp) v, by simpa using blk_set h.tx 3 v, (Below.heap_setCell _ _ _ _ (by simp)).trans h.er, (Below.heap_setCell _ _ _ _ (by simp; omega)).trans h.rd⟩
theorem Dx.set4 {w W : World} {b0 b1 b2 b3 b4 b5 b6 b7 b8 : Value} {s : ByteArray} (h : Dx w b0 b1 b2 b3 b4 b5 b6 b7 b8 s W) (v : Value) : Dx w b0 b1 b2 b3 v b5 b6 b7 b8 s (W.setCell ⟨w.heap.size, 4, none⟩ v) :=
  ⟨h.low.setCell (by simp) v, by simpa using blk_set h.tx 4 v, (Below.heap_setCell _ _ _ _ (by simp)).trans h.er, (Below.heap_setCell _ _ _ _ (by simp; omega)).trans h.rd⟩
theorem Dx.set5 {w W : World} {b0 b1 b2 b3 b4 b5 b6 b7 b8 : Value} {s : ByteArray} (h : Dx w b0 b1 b2 b3 b4 b5 b6 b7 b8 s W) (v : Value) : Dx w b0 b1 b2 b3 b4 v b6 b7 b8 s (W.setCell ⟨w.heap.size, 5, none⟩ v) :=
  ⟨h.low.setCell (by simp) v, by simpa using blk_set h.tx 5 v, (Below.heap_setCell _ _ _ _ (by simp)).trans h.er, (Below.heap_setCell _ _ _ _ (by simp; omega)).trans h.rd⟩
theorem Dx.set6 {w W : World} {b0 b1 b2 b3 b4 b5 b6 b7 b8 : Value} {s : ByteArray} (h : Dx w b0 b1 b2 b3 b4 b5 b6 b7 b8 s W) (v : Value) : Dx w b0 b1 b2 b3 b4 b5 v b7 b8 s (W.setCell ⟨w.heap.size, 6, none⟩ v) :=
  ⟨h.low.setCell (by simp) v, by simpa using blk_set h.tx 6 v, (Below.heap_setCell _ _ _ _ (by simp)).trans h.er, (Below.heap_setCell _ _ _ _ (by simp; omega)).trans h.rd⟩
theorem Dx.set7 {w W : World} {b0 b1 b2 b3 b4 b5 b6 b7 b8 : Value} {s : ByteArray} (h : Dx w b0 b1 b2 b3 b4 b5 b6 b7 b8 s W) (v : Value) : Dx w b0 b1 b2 b3 b4 b5 b6 v b8 s (W.setCell ⟨w.heap.size, 7, none⟩ v) :=
  ⟨h.low.setCell (by simp) v, by simpa using blk_set h.tx 7 v, (Below.heap_setCell _ _ _ _ (by simp)).trans h.er, (Below.heap_setCell _ _ _ _ (by simp; omega)).trans h.rd⟩
theorem Dx.set8 {w W : World} {b0 b1 b2 b3 b4 b5 b6 b7 b8 : Value} {s : ByteArray} (h : Dx w b0 b1 b2 b3 b4 b5 b6 b7 b8 s W) (v : Value) : Dx w b0 b1 b2 b3 b4 b5 b6 b7 v s (W.setCell ⟨w.heap.size, 8, none⟩ v) :=
  ⟨h.low.setCell (by simp) v, by simpa using blk_set h.tx 8 v, (Below.heap_setCell _ _ _ _ (by simp)).trans h.er, (Below.heap_setCell _ _ _ _ (by simp; omega)).trans h.rd⟩
theorem int_ok' (p : Nat) (s s' : ByteArray) (n k : Int) (w : World) (hg : gi s 9 0 0 = (n, k, 0)) (hr : rest s k = s') (h : w.heap[p]? = some (.cells #[.string s] 77 (0, 0))) :
    Calls Tryd.prog 52 #[.pointer (some ⟨p, 0, none⟩)] w fun e w' => e = .returned (.int .u64 n) ∧ Rd p s' w w' := by
  have := int_ok p s w h (by rw [hg])
  rw [hg] at this
  subst hr
  exact this
theorem text_ok' (p : Nat) (s s' f : ByteArray) (k : Int) (w : World) (hs : s.size < 4611686018427387904) (hg : gt s = (f, k, 0)) (hr : rest s k = s') (h : w.heap[p]? = some (.cells #[.string s] 77 (0, 0))) :
    Calls Tryd.prog 53 #[.pointer (some ⟨p, 0, none⟩)] w fun e w' => e = .returned (.string f) ∧ Rd p s' w w' := by
  have := text_ok p s w hs h (by rw [hg])
  rw [hg] at this
  subst hr
  exact this
theorem list_ok' (p : Nat) (s s' : ByteArray) (f : List ByteArray) (k : Int) (w : World) (hs : s.size < 4611686018427387904) (hg : gl s 8 = (f, k, 0)) (hr : rest s k = s') (h : w.heap[p]? = some (.cells #[.string s] 77 (0, 0))) :
    Calls Tryd.prog 54 #[.pointer (some ⟨p, 0, none⟩)] w fun e w' => ∃ v, e = .returned v ∧ Kd.R Kd.string 9 w' w.heap.size (fun _ => True) v f ∧ Rd p s' w w' := by
  have := list_ok p s w hs h (by rw [hg])
  rw [hg] at this
  subst hr
  exact this
theorem rest_size (s : ByteArray) (n : Int) : (rest s n).size ≤ s.size := by
  unfold rest
  rw [ByteArray.size_extract]
  omega
theorem Dx.first (w : World) (s : ByteArray) : Dx w (.int .i64 0) (.string ⟨#[]⟩) (.string ⟨#[]⟩) (.int .u64 0) (.int .u64 0) (.string ⟨#[]⟩) (.string ⟨#[]⟩) (.slice none 0 0) (.slice none 0 0) s
    (((w.alloc (.cells #[.int .i64 0, .string ⟨#[]⟩, .string ⟨#[]⟩, .int .u64 0, .int .u64 0, .string ⟨#[]⟩, .string ⟨#[]⟩, .slice none 0 0, .slice none 0 0] 33)).alloc (.cells #[.int .i64 0] 24)).alloc (.cells #[.string s] 77)) :=
  ⟨(((Below.refl _ w).alloc (Nat.le_refl _) _).alloc (by simp) _).alloc (by simp; omega) _, blk_alloc (blk_alloc (blk_new _ _) _) _, blk_alloc (blk_newAt _ _ (by simp)) _, blk_newAt _ _ (by simp)⟩
/-- What the two deferred calls leave behind a panic of ours. -/
theorem Dx.died {w W : World} {b0 b1 b2 b3 b4 b5 b6 b7 b8 : Value} {s : ByteArray} (h : Dx w b0 b1 b2 b3 b4 b5 b6 b7 b8 s W) (x : Int) :
    (W.setCell ⟨w.heap.size + 1, 0, none⟩ (.int .i64 x)).heap[w.heap.size + 1]? = some (.cells #[.int .i64 x] 24 (0, 0)) ∧
    (W.setCell ⟨w.heap.size + 1, 0, none⟩ (.int .i64 x)).heap[w.heap.size]? = some (.cells #[b0, b1, b2, b3, b4, b5, b6, b7, b8] 33 (0, 0)) ∧
    Below w.heap.size w (W.setCell ⟨w.heap.size + 1, 0, none⟩ (.int .i64 x)) :=
  ⟨by simpa using blk_set h.er 0 (.int .i64 x), (Below.heap_setCell _ _ _ _ (by simp)).trans h.tx, h.low.setCell (by simp) _⟩
set_option maxHeartbeats 8000000 in
set_option maxRecDepth 100000 in
theorem dec_no1 (s : ByteArray) (w : World) (HN : Hid ((gi s 9 0 0).2.2 ≠ 0)) :
    Calls Tryd.prog 25 #[.string s] w fun e w' => e = .returned (.tuple #[zagg, .int .i64 (gi s 9 0 0).2.2]) ∧ Below w.heap.size w w' := by
  have hmf : ∀ (fn : Fn) (first cap : Array Value) (w : World), (Instr.makeFunc fn first cap).run Tryd.prog w = .ok (.func fn first cap) w := fun _ _ _ _ => rfl
  go_enter_defers Tryd.func25, Tryd.ntmps25
  have HX := Lib.hid (Dx.first w s)
  go_wp2_with (first
  | (go_at_call 52
     refine (int_no (w.heap.size + 1 + 1) s _ HX.out.rd HN.out).mono ?_
     rintro e w2 ⟨rfl, hB⟩
     have HX := Lib.hid (HX.out.step hB)
     clear hB))
  refine leaves_cons (f := 51) (args := #[.pointer (some ⟨w.heap.size + 1, 0, none⟩)]) (by simp) (by simp [go_sem]) ?_
  refine (caught_panicking ⟨w.heap.size + 1, 0, none⟩ 0 (gi s 9 0 0).2.2 [] _ (blk_cell HX.out.er 0) (blk_frozen HX.out.er 0)).mono ?_
  rintro e u' w'' ⟨rfl, rfl, rfl⟩
  refine leaves_cons (f := 50) (args := #[.pointer (some ⟨w.heap.size + 1, 0, none⟩), .pointer (some ⟨w.heap.size, 0, none⟩)]) (by simp [settle]) (by simp [go_sem]) ?_
  have hdied := HX.out.died (gi s 9 0 0).2.2
  refine (undo_yes (w.heap.size + 1) w.heap.size (gi s 9 0 0).2.2 HN.out _ _ _ _ _ _ _ _ _ _ hdied.1 hdied.2.1).mono ?_
  rintro e u' w'' ⟨rfl, rfl, rfl⟩
  have hz := zset_box _ w.heap.size _ _ _ _ _ _ _ _ _ hdied.2.1
  have hze := (zset_blk _ w.heap.size (w.heap.size + 1) (by omega)).trans hdied.1
  have hzb := zset_below hdied.2.2 (Nat.le_refl _)
  generalize zset _ w.heap.size = Z at hz hze hzb ⊢
  have d0 : Z.cell? ⟨w.heap.size, 0, none⟩ = some (.int .i64 0) := blk_cell hz 0
  have d1 : Z.cell? ⟨w.heap.size, 1, none⟩ = some (.string ⟨#[]⟩) := blk_cell hz 1
  have d2 : Z.cell? ⟨w.heap.size, 2, none⟩ = some (.string ⟨#[]⟩) := blk_cell hz 2
  have d3 : Z.cell? ⟨w.heap.size, 3, none⟩ = some (.int .u64 0) := blk_cell hz 3
  have d4 : Z.cell? ⟨w.heap.size, 4, none⟩ = some (.int .u64 0) := blk_cell hz 4
  have d5 : Z.cell? ⟨w.heap.size, 5, none⟩ = some (.string ⟨#[]⟩) := blk_cell hz 5
  have d6 : Z.cell? ⟨w.heap.size, 6, none⟩ = some (.string ⟨#[]⟩) := blk_cell hz 6
  have d7 : Z.cell? ⟨w.heap.size, 7, none⟩ = some (.slice none 0 0) := blk_cell hz 7
  have d8 : Z.cell? ⟨w.heap.size, 8, none⟩ = some (.slice none 0 0) := blk_cell hz 8
  have de : Z.cell? ⟨w.heap.size + 1, 0, none⟩ = some (.int .i64 ((gi s 9 0 0).2.2)) := blk_cell hze 0
  clear hz hze hdied
  have HZ := Lib.hid hzb
  clear hzb
  simp [Leaves, settle, results, Tryd.results25, go_sem, d0, d1, d2, d3, d4, d5, d6, d7, d8, de]
  exact ⟨rfl, HZ.out⟩
set_option maxHeartbeats 8000000 in
set_option maxRecDepth 100000 in
theorem dec_no2 (s s1 : ByteArray) (kd : Int) (k1 : Int) (w : World) (E1 : Hid (gi s 9 0 0 = (kd, k1, 0))) (R1 : Hid (rest s k1 = s1)) (Z1 : Hid (s1.size < 4611686018427387904)) (HN : Hid ((gt s1).2.2 ≠ 0)) :
    Calls Tryd.prog 25 #[.string s] w fun e w' => e = .returned (.tuple #[zagg, .int .i64 (gt s1).2.2]) ∧ Below w.heap.size w w' := by
  have hmf : ∀ (fn : Fn) (first cap : Array Value) (w : World), (Instr.makeFunc fn first cap).run Tryd.prog w = .ok (.func fn first cap) w := fun _ _ _ _ => rfl
  go_enter_defers Tryd.func25, Tryd.ntmps25
  have HX := Lib.hid (Dx.first w s)
  go_wp2_with (first
  | (go_at_call 52
     refine (int_ok' (w.heap.size + 1 + 1) s s1 kd k1 _ E1.out R1.out HX.out.rd).mono ?_
     rintro e w2 ⟨rfl, hr⟩
     have HX := Lib.hid (HX.out.read hr)
     obtain ⟨t0, t1, t2, t3, t4, t5, t6, t7, t8, u0, u1, u2, u3, u4, u5, u6, u7, u8⟩ := tx9 HX.out.tx
     clear hr)
  | (go_at_call 53
     refine (text_no (w.heap.size + 1 + 1) s1 _ Z1.out HX.out.rd HN.out).mono ?_
     rintro e w2 ⟨rfl, hB⟩
     have HX := Lib.hid (HX.out.step hB)
     clear hB))
  refine leaves_cons (f := 51) (args := #[.pointer (some ⟨w.heap.size + 1, 0, none⟩)]) (by simp) (by simp [go_sem]) ?_
  refine (caught_panicking ⟨w.heap.size + 1, 0, none⟩ 0 (gt s1).2.2 [] _ (blk_cell HX.out.er 0) (blk_frozen HX.out.er 0)).mono ?_
  rintro e u' w'' ⟨rfl, rfl, rfl⟩
  refine leaves_cons (f := 50) (args := #[.pointer (some ⟨w.heap.size + 1, 0, none⟩), .pointer (some ⟨w.heap.size, 0, none⟩)]) (by simp [settle]) (by simp [go_sem]) ?_
  have hdied := HX.out.died (gt s1).2.2
  refine (undo_yes (w.heap.size + 1) w.heap.size (gt s1).2.2 HN.out _ _ _ _ _ _ _ _ _ _ hdied.1 hdied.2.1).mono ?_
  rintro e u' w'' ⟨rfl, rfl, rfl⟩
  have hz := zset_box _ w.heap.size _ _ _ _ _ _ _ _ _ hdied.2.1
  have hze := (zset_blk _ w.heap.size (w.heap.size + 1) (by omega)).trans hdied.1
  have hzb := zset_below hdied.2.2 (Nat.le_refl _)
  generalize zset _ w.heap.size = Z at hz hze hzb ⊢
  have d0 : Z.cell? ⟨w.heap.size, 0, none⟩ = some (.int .i64 0) := blk_cell hz 0
  have d1 : Z.cell? ⟨w.heap.size, 1, none⟩ = some (.string ⟨#[]⟩) := blk_cell hz 1
  have d2 : Z.cell? ⟨w.heap.size, 2, none⟩ = some (.string ⟨#[]⟩) := blk_cell hz 2
  have d3 : Z.cell? ⟨w.heap.size, 3, none⟩ = some (.int .u64 0) := blk_cell hz 3
  have d4 : Z.cell? ⟨w.heap.size, 4, none⟩ = some (.int .u64 0) := blk_cell hz 4
  have d5 : Z.cell? ⟨w.heap.size, 5, none⟩ = some (.string ⟨#[]⟩) := blk_cell hz 5
  have d6 : Z.cell? ⟨w.heap.size, 6, none⟩ = some (.string ⟨#[]⟩) := blk_cell hz 6
  have d7 : Z.cell? ⟨w.heap.size, 7, none⟩ = some (.slice none 0 0) := blk_cell hz 7
  have d8 : Z.cell? ⟨w.heap.size, 8, none⟩ = some (.slice none 0 0) := blk_cell hz 8
  have de : Z.cell? ⟨w.heap.size + 1, 0, none⟩ = some (.int .i64 ((gt s1).2.2)) := blk_cell hze 0
  clear hz hze hdied
  have HZ := Lib.hid hzb
  clear hzb
  simp [Leaves, settle, results, Tryd.results25, go_sem, d0, d1, d2, d3, d4, d5, d6, d7, d8, de]
  exact ⟨rfl, HZ.out⟩
set_option maxHeartbeats 8000000 in
set_option maxRecDepth 100000 in
theorem dec_no3 (s s1 s2 : ByteArray) (kd : Int) (k1 : Int) (f : ByteArray) (k2 : Int) (w : World) (E1 : Hid (gi s 9 0 0 = (kd, k1, 0))) (R1 : Hid (rest s k1 = s1)) (Z1 : Hid (s1.size < 4611686018427387904)) (E2 : Hid (gt s1 = (f, k2, 0))) (R2 : Hid (rest s1 k2 = s2)) (Z2 : Hid (s2.size < 4611686018427387904)) (HN : Hid ((gt s2).2.2 ≠ 0)) :
    Calls Tryd.prog 25 #[.string s] w fun e w' => e = .returned (.tuple #[zagg, .int .i64 (gt s2).2.2]) ∧ Below w.heap.size w w' := by
  have hmf : ∀ (fn : Fn) (first cap : Array Value) (w : World), (Instr.makeFunc fn first cap).run Tryd.prog w = .ok (.func fn first cap) w := fun _ _ _ _ => rfl
  go_enter_defers Tryd.func25, Tryd.ntmps25
  have HX := Lib.hid (Dx.first w s)
  go_wp2_with (first
  | (go_at_call 52
     refine (int_ok' (w.heap.size + 1 + 1) s s1 kd k1 _ E1.out R1.out HX.out.rd).mono ?_
     rintro e w2 ⟨rfl, hr⟩
     have HX := Lib.hid (HX.out.read hr)
     obtain ⟨t0, t1, t2, t3, t4, t5, t6, t7, t8, u0, u1, u2, u3, u4, u5, u6, u7, u8⟩ := tx9 HX.out.tx
     clear hr)
  | (go_at_call 53
     refine (text_ok' (w.heap.size + 1 + 1) s1 s2 f k2 _ Z1.out E2.out R2.out HX.out.rd).mono ?_
     rintro e w2 ⟨rfl, hr⟩
     have HX := Lib.hid (HX.out.read hr)
     obtain ⟨t0, t1, t2, t3, t4, t5, t6, t7, t8, u0, u1, u2, u3, u4, u5, u6, u7, u8⟩ := tx9 HX.out.tx
     clear hr)
  | (go_at_call 53
     refine (text_no (w.heap.size + 1 + 1) s2 _ Z2.out HX.out.rd HN.out).mono ?_
     rintro e w2 ⟨rfl, hB⟩
     have HX := Lib.hid (HX.out.step hB)
     clear hB))
  refine leaves_cons (f := 51) (args := #[.pointer (some ⟨w.heap.size + 1, 0, none⟩)]) (by simp) (by simp [go_sem]) ?_
  refine (caught_panicking ⟨w.heap.size + 1, 0, none⟩ 0 (gt s2).2.2 [] _ (blk_cell HX.out.er 0) (blk_frozen HX.out.er 0)).mono ?_
  rintro e u' w'' ⟨rfl, rfl, rfl⟩
  refine leaves_cons (f := 50) (args := #[.pointer (some ⟨w.heap.size + 1, 0, none⟩), .pointer (some ⟨w.heap.size, 0, none⟩)]) (by simp [settle]) (by simp [go_sem]) ?_
  have hdied := HX.out.died (gt s2).2.2
  refine (undo_yes (w.heap.size + 1) w.heap.size (gt s2).2.2 HN.out _ _ _ _ _ _ _ _ _ _ hdied.1 hdied.2.1).mono ?_
  rintro e u' w'' ⟨rfl, rfl, rfl⟩
  have hz := zset_box _ w.heap.size _ _ _ _ _ _ _ _ _ hdied.2.1
  have hze := (zset_blk _ w.heap.size (w.heap.size + 1) (by omega)).trans hdied.1
  have hzb := zset_below hdied.2.2 (Nat.le_refl _)
  generalize zset _ w.heap.size = Z at hz hze hzb ⊢
  have d0 : Z.cell? ⟨w.heap.size, 0, none⟩ = some (.int .i64 0) := blk_cell hz 0
  have d1 : Z.cell? ⟨w.heap.size, 1, none⟩ = some (.string ⟨#[]⟩) := blk_cell hz 1
  have d2 : Z.cell? ⟨w.heap.size, 2, none⟩ = some (.string ⟨#[]⟩) := blk_cell hz 2
  have d3 : Z.cell? ⟨w.heap.size, 3, none⟩ = some (.int .u64 0) := blk_cell hz 3
  have d4 : Z.cell? ⟨w.heap.size, 4, none⟩ = some (.int .u64 0) := blk_cell hz 4
  have d5 : Z.cell? ⟨w.heap.size, 5, none⟩ = some (.string ⟨#[]⟩) := blk_cell hz 5
  have d6 : Z.cell? ⟨w.heap.size, 6, none⟩ = some (.string ⟨#[]⟩) := blk_cell hz 6
  have d7 : Z.cell? ⟨w.heap.size, 7, none⟩ = some (.slice none 0 0) := blk_cell hz 7
  have d8 : Z.cell? ⟨w.heap.size, 8, none⟩ = some (.slice none 0 0) := blk_cell hz 8
  have de : Z.cell? ⟨w.heap.size + 1, 0, none⟩ = some (.int .i64 ((gt s2).2.2)) := blk_cell hze 0
  clear hz hze hdied
  have HZ := Lib.hid hzb
  clear hzb
  simp [Leaves, settle, results, Tryd.results25, go_sem, d0, d1, d2, d3, d4, d5, d6, d7, d8, de]
  exact ⟨rfl, HZ.out⟩
set_option maxHeartbeats 8000000 in
set_option maxRecDepth 100000 in
theorem dec_no4 (s s1 s2 s3 : ByteArray) (kd : Int) (k1 : Int) (f : ByteArray) (k2 : Int) (t : ByteArray) (k3 : Int) (w : World) (E1 : Hid (gi s 9 0 0 = (kd, k1, 0))) (R1 : Hid (rest s k1 = s1)) (Z1 : Hid (s1.size < 4611686018427387904)) (E2 : Hid (gt s1 = (f, k2, 0))) (R2 : Hid (rest s1 k2 = s2)) (Z2 : Hid (s2.size < 4611686018427387904)) (E3 : Hid (gt s2 = (t, k3, 0))) (R3 : Hid (rest s2 k3 = s3)) (Z3 : Hid (s3.size < 4611686018427387904)) (HN : Hid ((gi s3 9 0 0).2.2 ≠ 0)) :
    Calls Tryd.prog 25 #[.string s] w fun e w' => e = .returned (.tuple #[zagg, .int .i64 (gi s3 9 0 0).2.2]) ∧ Below w.heap.size w w' := by
  have hmf : ∀ (fn : Fn) (first cap : Array Value) (w : World), (Instr.makeFunc fn first cap).run Tryd.prog w = .ok (.func fn first cap) w := fun _ _ _ _ => rfl
  go_enter_defers Tryd.func25, Tryd.ntmps25
  have HX := Lib.hid (Dx.first w s)
  go_wp2_with (first
  | (go_at_call 52
     refine (int_ok' (w.heap.size + 1 + 1) s s1 kd k1 _ E1.out R1.out HX.out.rd).mono ?_
     rintro e w2 ⟨rfl, hr⟩
     have HX := Lib.hid (HX.out.read hr)
     obtain ⟨t0, t1, t2, t3, t4, t5, t6, t7, t8, u0, u1, u2, u3, u4, u5, u6, u7, u8⟩ := tx9 HX.out.tx
     clear hr)
  | (go_at_call 53
     refine (text_ok' (w.heap.size + 1 + 1) s1 s2 f k2 _ Z1.out E2.out R2.out HX.out.rd).mono ?_
     rintro e w2 ⟨rfl, hr⟩
     have HX := Lib.hid (HX.out.read hr)
     obtain ⟨t0, t1, t2, t3, t4, t5, t6, t7, t8, u0, u1, u2, u3, u4, u5, u6, u7, u8⟩ := tx9 HX.out.tx
     clear hr)
  | (go_at_call 53
     refine (text_ok' (w.heap.size + 1 + 1) s2 s3 t k3 _ Z2.out E3.out R3.out HX.out.rd).mono ?_
     rintro e w2 ⟨rfl, hr⟩
     have HX := Lib.hid (HX.out.read hr)
     obtain ⟨t0, t1, t2, t3, t4, t5, t6, t7, t8, u0, u1, u2, u3, u4, u5, u6, u7, u8⟩ := tx9 HX.out.tx
     clear hr)
  | (go_at_call 52
     refine (int_no (w.heap.size + 1 + 1) s3 _ ((HX.out.set1 (.string f)).set2 (.string t)).rd HN.out).mono ?_
     rintro e w2 ⟨rfl, hB⟩
     have HX := Lib.hid (((HX.out.set1 (.string f)).set2 (.string t)).step hB)
     clear hB))
  refine leaves_cons (f := 51) (args := #[.pointer (some ⟨w.heap.size + 1, 0, none⟩)]) (by simp) (by simp [go_sem]) ?_
  refine (caught_panicking ⟨w.heap.size + 1, 0, none⟩ 0 (gi s3 9 0 0).2.2 [] _ (blk_cell HX.out.er 0) (blk_frozen HX.out.er 0)).mono ?_
  rintro e u' w'' ⟨rfl, rfl, rfl⟩
  refine leaves_cons (f := 50) (args := #[.pointer (some ⟨w.heap.size + 1, 0, none⟩), .pointer (some ⟨w.heap.size, 0, none⟩)]) (by simp [settle]) (by simp [go_sem]) ?_
  have hdied := HX.out.died (gi s3 9 0 0).2.2
  refine (undo_yes (w.heap.size + 1) w.heap.size (gi s3 9 0 0).2.2 HN.out _ _ _ _ _ _ _ _ _ _ hdied.1 hdied.2.1).mono ?_
  rintro e u' w'' ⟨rfl, rfl, rfl⟩
  have hz := zset_box _ w.heap.size _ _ _ _ _ _ _ _ _ hdied.2.1
  have hze := (zset_blk _ w.heap.size (w.heap.size + 1) (by omega)).trans hdied.1
  have hzb := zset_below hdied.2.2 (Nat.le_refl _)
  generalize zset _ w.heap.size = Z at hz hze hzb ⊢
  have d0 : Z.cell? ⟨w.heap.size, 0, none⟩ = some (.int .i64 0) := blk_cell hz 0
  have d1 : Z.cell? ⟨w.heap.size, 1, none⟩ = some (.string ⟨#[]⟩) := blk_cell hz 1
  have d2 : Z.cell? ⟨w.heap.size, 2, none⟩ = some (.string ⟨#[]⟩) := blk_cell hz 2
  have d3 : Z.cell? ⟨w.heap.size, 3, none⟩ = some (.int .u64 0) := blk_cell hz 3
  have d4 : Z.cell? ⟨w.heap.size, 4, none⟩ = some (.int .u64 0) := blk_cell hz 4
  have d5 : Z.cell? ⟨w.heap.size, 5, none⟩ = some (.string ⟨#[]⟩) := blk_cell hz 5
  have d6 : Z.cell? ⟨w.heap.size, 6, none⟩ = some (.string ⟨#[]⟩) := blk_cell hz 6
  have d7 : Z.cell? ⟨w.heap.size, 7, none⟩ = some (.slice none 0 0) := blk_cell hz 7
  have d8 : Z.cell? ⟨w.heap.size, 8, none⟩ = some (.slice none 0 0) := blk_cell hz 8
  have de : Z.cell? ⟨w.heap.size + 1, 0, none⟩ = some (.int .i64 ((gi s3 9 0 0).2.2)) := blk_cell hze 0
  clear hz hze hdied
  have HZ := Lib.hid hzb
  clear hzb
  simp [Leaves, settle, results, Tryd.results25, go_sem, d0, d1, d2, d3, d4, d5, d6, d7, d8, de]
  exact ⟨rfl, HZ.out⟩
set_option maxHeartbeats 8000000 in
set_option maxRecDepth 100000 in
theorem dec_no5 (s s1 s2 s3 s4 : ByteArray) (kd : Int) (k1 : Int) (f : ByteArray) (k2 : Int) (t : ByteArray) (k3 : Int) (am : Int) (k4 : Int) (w : World) (E1 : Hid (gi s 9 0 0 = (kd, k1, 0))) (R1 : Hid (rest s k1 = s1)) (Z1 : Hid (s1.size < 4611686018427387904)) (E2 : Hid (gt s1 = (f, k2, 0))) (R2 : Hid (rest s1 k2 = s2)) (Z2 : Hid (s2.size < 4611686018427387904)) (E3 : Hid (gt s2 = (t, k3, 0))) (R3 : Hid (rest s2 k3 = s3)) (Z3 : Hid (s3.size < 4611686018427387904)) (E4 : Hid (gi s3 9 0 0 = (am, k4, 0))) (R4 : Hid (rest s3 k4 = s4)) (Z4 : Hid (s4.size < 4611686018427387904)) (HN : Hid ((gi s4 9 0 0).2.2 ≠ 0)) :
    Calls Tryd.prog 25 #[.string s] w fun e w' => e = .returned (.tuple #[zagg, .int .i64 (gi s4 9 0 0).2.2]) ∧ Below w.heap.size w w' := by
  have hmf : ∀ (fn : Fn) (first cap : Array Value) (w : World), (Instr.makeFunc fn first cap).run Tryd.prog w = .ok (.func fn first cap) w := fun _ _ _ _ => rfl
  go_enter_defers Tryd.func25, Tryd.ntmps25
  have HX := Lib.hid (Dx.first w s)
  go_wp2_with (first
  | (go_at_call 52
     refine (int_ok' (w.heap.size + 1 + 1) s s1 kd k1 _ E1.out R1.out HX.out.rd).mono ?_
     rintro e w2 ⟨rfl, hr⟩
     have HX := Lib.hid (HX.out.read hr)
     obtain ⟨t0, t1, t2, t3, t4, t5, t6, t7, t8, u0, u1, u2, u3, u4, u5, u6, u7, u8⟩ := tx9 HX.out.tx
     clear hr)
  | (go_at_call 53
     refine (text_ok' (w.heap.size + 1 + 1) s1 s2 f k2 _ Z1.out E2.out R2.out HX.out.rd).mono ?_
     rintro e w2 ⟨rfl, hr⟩
     have HX := Lib.hid (HX.out.read hr)
     obtain ⟨t0, t1, t2, t3, t4, t5, t6, t7, t8, u0, u1, u2, u3, u4, u5, u6, u7, u8⟩ := tx9 HX.out.tx
     clear hr)
  | (go_at_call 53
     refine (text_ok' (w.heap.size + 1 + 1) s2 s3 t k3 _ Z2.out E3.out R3.out HX.out.rd).mono ?_
     rintro e w2 ⟨rfl, hr⟩
     have HX := Lib.hid (HX.out.read hr)
     obtain ⟨t0, t1, t2, t3, t4, t5, t6, t7, t8, u0, u1, u2, u3, u4, u5, u6, u7, u8⟩ := tx9 HX.out.tx
     clear hr)
  | (go_at_call 52
     refine (int_ok' (w.heap.size + 1 + 1) s3 s4 am k4 _ E4.out R4.out ((HX.out.set1 (.string f)).set2 (.string t)).rd).mono ?_
     rintro e w2 ⟨rfl, hr⟩
     have HX := Lib.hid (((HX.out.set1 (.string f)).set2 (.string t)).read hr)
     obtain ⟨t0, t1, t2, t3, t4, t5, t6, t7, t8, u0, u1, u2, u3, u4, u5, u6, u7, u8⟩ := tx9 HX.out.tx
     clear hr)
  | (go_at_call 52
     refine (int_no (w.heap.size + 1 + 1) s4 _ HX.out.rd HN.out).mono ?_
     rintro e w2 ⟨rfl, hB⟩
     have HX := Lib.hid (HX.out.step hB)
     clear hB))
  refine leaves_cons (f := 51) (args := #[.pointer (some ⟨w.heap.size + 1, 0, none⟩)]) (by simp) (by simp [go_sem]) ?_
  refine (caught_panicking ⟨w.heap.size + 1, 0, none⟩ 0 (gi s4 9 0 0).2.2 [] _ (blk_cell HX.out.er 0) (blk_frozen HX.out.er 0)).mono ?_
  rintro e u' w'' ⟨rfl, rfl, rfl⟩
  refine leaves_cons (f := 50) (args := #[.pointer (some ⟨w.heap.size + 1, 0, none⟩), .pointer (some ⟨w.heap.size, 0, none⟩)]) (by simp [settle]) (by simp [go_sem]) ?_
  have hdied := HX.out.died (gi s4 9 0 0).2.2
  refine (undo_yes (w.heap.size + 1) w.heap.size (gi s4 9 0 0).2.2 HN.out _ _ _ _ _ _ _ _ _ _ hdied.1 hdied.2.1).mono ?_
  rintro e u' w'' ⟨rfl, rfl, rfl⟩
  have hz := zset_box _ w.heap.size _ _ _ _ _ _ _ _ _ hdied.2.1
  have hze := (zset_blk _ w.heap.size (w.heap.size + 1) (by omega)).trans hdied.1
  have hzb := zset_below hdied.2.2 (Nat.le_refl _)
  generalize zset _ w.heap.size = Z at hz hze hzb ⊢
  have d0 : Z.cell? ⟨w.heap.size, 0, none⟩ = some (.int .i64 0) := blk_cell hz 0
  have d1 : Z.cell? ⟨w.heap.size, 1, none⟩ = some (.string ⟨#[]⟩) := blk_cell hz 1
  have d2 : Z.cell? ⟨w.heap.size, 2, none⟩ = some (.string ⟨#[]⟩) := blk_cell hz 2
  have d3 : Z.cell? ⟨w.heap.size, 3, none⟩ = some (.int .u64 0) := blk_cell hz 3
  have d4 : Z.cell? ⟨w.heap.size, 4, none⟩ = some (.int .u64 0) := blk_cell hz 4
  have d5 : Z.cell? ⟨w.heap.size, 5, none⟩ = some (.string ⟨#[]⟩) := blk_cell hz 5
  have d6 : Z.cell? ⟨w.heap.size, 6, none⟩ = some (.string ⟨#[]⟩) := blk_cell hz 6
  have d7 : Z.cell? ⟨w.heap.size, 7, none⟩ = some (.slice none 0 0) := blk_cell hz 7
  have d8 : Z.cell? ⟨w.heap.size, 8, none⟩ = some (.slice none 0 0) := blk_cell hz 8
  have de : Z.cell? ⟨w.heap.size + 1, 0, none⟩ = some (.int .i64 ((gi s4 9 0 0).2.2)) := blk_cell hze 0
  clear hz hze hdied
  have HZ := Lib.hid hzb
  clear hzb
  simp [Leaves, settle, results, Tryd.results25, go_sem, d0, d1, d2, d3, d4, d5, d6, d7, d8, de]
  exact ⟨rfl, HZ.out⟩
set_option maxHeartbeats 8000000 in
set_option maxRecDepth 100000 in
theorem dec_no6 (s s1 s2 s3 s4 s5 : ByteArray) (kd : Int) (k1 : Int) (f : ByteArray) (k2 : Int) (t : ByteArray) (k3 : Int) (am : Int) (k4 : Int) (nc : Int) (k5 : Int) (w : World) (E1 : Hid (gi s 9 0 0 = (kd, k1, 0))) (R1 : Hid (rest s k1 = s1)) (Z1 : Hid (s1.size < 4611686018427387904)) (E2 : Hid (gt s1 = (f, k2, 0))) (R2 : Hid (rest s1 k2 = s2)) (Z2 : Hid (s2.size < 4611686018427387904)) (E3 : Hid (gt s2 = (t, k3, 0))) (R3 : Hid (rest s2 k3 = s3)) (Z3 : Hid (s3.size < 4611686018427387904)) (E4 : Hid (gi s3 9 0 0 = (am, k4, 0))) (R4 : Hid (rest s3 k4 = s4)) (Z4 : Hid (s4.size < 4611686018427387904)) (E5 : Hid (gi s4 9 0 0 = (nc, k5, 0))) (R5 : Hid (rest s4 k5 = s5)) (Z5 : Hid (s5.size < 4611686018427387904)) (HN : Hid ((gt s5).2.2 ≠ 0)) :
    Calls Tryd.prog 25 #[.string s] w fun e w' => e = .returned (.tuple #[zagg, .int .i64 (gt s5).2.2]) ∧ Below w.heap.size w w' := by
  have hmf : ∀ (fn : Fn) (first cap : Array Value) (w : World), (Instr.makeFunc fn first cap).run Tryd.prog w = .ok (.func fn first cap) w := fun _ _ _ _ => rfl
  go_enter_defers Tryd.func25, Tryd.ntmps25
  have HX := Lib.hid (Dx.first w s)
  go_wp2_with (first
  | (go_at_call 52
     refine (int_ok' (w.heap.size + 1 + 1) s s1 kd k1 _ E1.out R1.out HX.out.rd).mono ?_
     rintro e w2 ⟨rfl, hr⟩
     have HX := Lib.hid (HX.out.read hr)
     obtain ⟨t0, t1, t2, t3, t4, t5, t6, t7, t8, u0, u1, u2, u3, u4, u5, u6, u7, u8⟩ := tx9 HX.out.tx
     clear hr)
  | (go_at_call 53
     refine (text_ok' (w.heap.size + 1 + 1) s1 s2 f k2 _ Z1.out E2.out R2.out HX.out.rd).mono ?_
     rintro e w2 ⟨rfl, hr⟩
     have HX := Lib.hid (HX.out.read hr)
     obtain ⟨t0, t1, t2, t3, t4, t5, t6, t7, t8, u0, u1, u2, u3, u4, u5, u6, u7, u8⟩ := tx9 HX.out.tx
     clear hr)
  | (go_at_call 53
     refine (text_ok' (w.heap.size + 1 + 1) s2 s3 t k3 _ Z2.out E3.out R3.out HX.out.rd).mono ?_
     rintro e w2 ⟨rfl, hr⟩
     have HX := Lib.hid (HX.out.read hr)
     obtain ⟨t0, t1, t2, t3, t4, t5, t6, t7, t8, u0, u1, u2, u3, u4, u5, u6, u7, u8⟩ := tx9 HX.out.tx
     clear hr)
  | (go_at_call 52
     refine (int_ok' (w.heap.size + 1 + 1) s3 s4 am k4 _ E4.out R4.out ((HX.out.set1 (.string f)).set2 (.string t)).rd).mono ?_
     rintro e w2 ⟨rfl, hr⟩
     have HX := Lib.hid (((HX.out.set1 (.string f)).set2 (.string t)).read hr)
     obtain ⟨t0, t1, t2, t3, t4, t5, t6, t7, t8, u0, u1, u2, u3, u4, u5, u6, u7, u8⟩ := tx9 HX.out.tx
     clear hr)
  | (go_at_call 52
     refine (int_ok' (w.heap.size + 1 + 1) s4 s5 nc k5 _ E5.out R5.out HX.out.rd).mono ?_
     rintro e w2 ⟨rfl, hr⟩
     have HX := Lib.hid (HX.out.read hr)
     obtain ⟨t0, t1, t2, t3, t4, t5, t6, t7, t8, u0, u1, u2, u3, u4, u5, u6, u7, u8⟩ := tx9 HX.out.tx
     clear hr)
  | (go_at_call 53
     refine (text_no (w.heap.size + 1 + 1) s5 _ Z5.out ((HX.out.set3 (.int .u64 am)).set4 (.int .u64 nc)).rd HN.out).mono ?_
     rintro e w2 ⟨rfl, hB⟩
     have HX := Lib.hid (((HX.out.set3 (.int .u64 am)).set4 (.int .u64 nc)).step hB)
     clear hB))
  refine leaves_cons (f := 51) (args := #[.pointer (some ⟨w.heap.size + 1, 0, none⟩)]) (by simp) (by simp [go_sem]) ?_
  refine (caught_panicking ⟨w.heap.size + 1, 0, none⟩ 0 (gt s5).2.2 [] _ (blk_cell HX.out.er 0) (blk_frozen HX.out.er 0)).mono ?_
  rintro e u' w'' ⟨rfl, rfl, rfl⟩
  refine leaves_cons (f := 50) (args := #[.pointer (some ⟨w.heap.size + 1, 0, none⟩), .pointer (some ⟨w.heap.size, 0, none⟩)]) (by simp [settle]) (by simp [go_sem]) ?_
  have hdied := HX.out.died (gt s5).2.2
  refine (undo_yes (w.heap.size + 1) w.heap.size (gt s5).2.2 HN.out _ _ _ _ _ _ _ _ _ _ hdied.1 hdied.2.1).mono ?_
  rintro e u' w'' ⟨rfl, rfl, rfl⟩
  have hz := zset_box _ w.heap.size _ _ _ _ _ _ _ _ _ hdied.2.1
  have hze := (zset_blk _ w.heap.size (w.heap.size + 1) (by omega)).trans hdied.1
  have hzb := zset_below hdied.2.2 (Nat.le_refl _)
  generalize zset _ w.heap.size = Z at hz hze hzb ⊢
  have d0 : Z.cell? ⟨w.heap.size, 0, none⟩ = some (.int .i64 0) := blk_cell hz 0
  have d1 : Z.cell? ⟨w.heap.size, 1, none⟩ = some (.string ⟨#[]⟩) := blk_cell hz 1
  have d2 : Z.cell? ⟨w.heap.size, 2, none⟩ = some (.string ⟨#[]⟩) := blk_cell hz 2
  have d3 : Z.cell? ⟨w.heap.size, 3, none⟩ = some (.int .u64 0) := blk_cell hz 3
  have d4 : Z.cell? ⟨w.heap.size, 4, none⟩ = some (.int .u64 0) := blk_cell hz 4
  have d5 : Z.cell? ⟨w.heap.size, 5, none⟩ = some (.string ⟨#[]⟩) := blk_cell hz 5
  have d6 : Z.cell? ⟨w.heap.size, 6, none⟩ = some (.string ⟨#[]⟩) := blk_cell hz 6
  have d7 : Z.cell? ⟨w.heap.size, 7, none⟩ = some (.slice none 0 0) := blk_cell hz 7
  have d8 : Z.cell? ⟨w.heap.size, 8, none⟩ = some (.slice none 0 0) := blk_cell hz 8
  have de : Z.cell? ⟨w.heap.size + 1, 0, none⟩ = some (.int .i64 ((gt s5).2.2)) := blk_cell hze 0
  clear hz hze hdied
  have HZ := Lib.hid hzb
  clear hzb
  simp [Leaves, settle, results, Tryd.results25, go_sem, d0, d1, d2, d3, d4, d5, d6, d7, d8, de]
  exact ⟨rfl, HZ.out⟩
set_option maxHeartbeats 8000000 in
set_option maxRecDepth 100000 in
theorem dec_no7 (s s1 s2 s3 s4 s5 s6 : ByteArray) (kd : Int) (k1 : Int) (f : ByteArray) (k2 : Int) (t : ByteArray) (k3 : Int) (am : Int) (k4 : Int) (nc : Int) (k5 : Int) (ky' : ByteArray) (k6 : Int) (w : World) (E1 : Hid (gi s 9 0 0 = (kd, k1, 0))) (R1 : Hid (rest s k1 = s1)) (Z1 : Hid (s1.size < 4611686018427387904)) (E2 : Hid (gt s1 = (f, k2, 0))) (R2 : Hid (rest s1 k2 = s2)) (Z2 : Hid (s2.size < 4611686018427387904)) (E3 : Hid (gt s2 = (t, k3, 0))) (R3 : Hid (rest s2 k3 = s3)) (Z3 : Hid (s3.size < 4611686018427387904)) (E4 : Hid (gi s3 9 0 0 = (am, k4, 0))) (R4 : Hid (rest s3 k4 = s4)) (Z4 : Hid (s4.size < 4611686018427387904)) (E5 : Hid (gi s4 9 0 0 = (nc, k5, 0))) (R5 : Hid (rest s4 k5 = s5)) (Z5 : Hid (s5.size < 4611686018427387904)) (E6 : Hid (gt s5 = (ky', k6, 0))) (R6 : Hid (rest s5 k6 = s6)) (Z6 : Hid (s6.size < 4611686018427387904)) (HN : Hid ((gt s6).2.2 ≠ 0)) :
    Calls Tryd.prog 25 #[.string s] w fun e w' => e = .returned (.tuple #[zagg, .int .i64 (gt s6).2.2]) ∧ Below w.heap.size w w' := by
  have hmf : ∀ (fn : Fn) (first cap : Array Value) (w : World), (Instr.makeFunc fn first cap).run Tryd.prog w = .ok (.func fn first cap) w := fun _ _ _ _ => rfl
  go_enter_defers Tryd.func25, Tryd.ntmps25
  have HX := Lib.hid (Dx.first w s)
  go_wp2_with (first
  | (go_at_call 52
     refine (int_ok' (w.heap.size + 1 + 1) s s1 kd k1 _ E1.out R1.out HX.out.rd).mono ?_
     rintro e w2 ⟨rfl, hr⟩
     have HX := Lib.hid (HX.out.read hr)
     obtain ⟨t0, t1, t2, t3, t4, t5, t6, t7, t8, u0, u1, u2, u3, u4, u5, u6, u7, u8⟩ := tx9 HX.out.tx
     clear hr)
  | (go_at_call 53
     refine (text_ok' (w.heap.size + 1 + 1) s1 s2 f k2 _ Z1.out E2.out R2.out HX.out.rd).mono ?_
     rintro e w2 ⟨rfl, hr⟩
     have HX := Lib.hid (HX.out.read hr)
     obtain ⟨t0, t1, t2, t3, t4, t5, t6, t7, t8, u0, u1, u2, u3, u4, u5, u6, u7, u8⟩ := tx9 HX.out.tx
     clear hr)
  | (go_at_call 53
     refine (text_ok' (w.heap.size + 1 + 1) s2 s3 t k3 _ Z2.out E3.out R3.out HX.out.rd).mono ?_
     rintro e w2 ⟨rfl, hr⟩
     have HX := Lib.hid (HX.out.read hr)
     obtain ⟨t0, t1, t2, t3, t4, t5, t6, t7, t8, u0, u1, u2, u3, u4, u5, u6, u7, u8⟩ := tx9 HX.out.tx
     clear hr)
  | (go_at_call 52
     refine (int_ok' (w.heap.size + 1 + 1) s3 s4 am k4 _ E4.out R4.out ((HX.out.set1 (.string f)).set2 (.string t)).rd).mono ?_
     rintro e w2 ⟨rfl, hr⟩
     have HX := Lib.hid (((HX.out.set1 (.string f)).set2 (.string t)).read hr)
     obtain ⟨t0, t1, t2, t3, t4, t5, t6, t7, t8, u0, u1, u2, u3, u4, u5, u6, u7, u8⟩ := tx9 HX.out.tx
     clear hr)
  | (go_at_call 52
     refine (int_ok' (w.heap.size + 1 + 1) s4 s5 nc k5 _ E5.out R5.out HX.out.rd).mono ?_
     rintro e w2 ⟨rfl, hr⟩
     have HX := Lib.hid (HX.out.read hr)
     obtain ⟨t0, t1, t2, t3, t4, t5, t6, t7, t8, u0, u1, u2, u3, u4, u5, u6, u7, u8⟩ := tx9 HX.out.tx
     clear hr)
  | (go_at_call 53
     refine (text_ok' (w.heap.size + 1 + 1) s5 s6 ky' k6 _ Z5.out E6.out R6.out ((HX.out.set3 (.int .u64 am)).set4 (.int .u64 nc)).rd).mono ?_
     rintro e w2 ⟨rfl, hr⟩
     have HX := Lib.hid (((HX.out.set3 (.int .u64 am)).set4 (.int .u64 nc)).read hr)
     obtain ⟨t0, t1, t2, t3, t4, t5, t6, t7, t8, u0, u1, u2, u3, u4, u5, u6, u7, u8⟩ := tx9 HX.out.tx
     clear hr)
  | (go_at_call 53
     refine (text_no (w.heap.size + 1 + 1) s6 _ Z6.out HX.out.rd HN.out).mono ?_
     rintro e w2 ⟨rfl, hB⟩
     have HX := Lib.hid (HX.out.step hB)
     clear hB))
  refine leaves_cons (f := 51) (args := #[.pointer (some ⟨w.heap.size + 1, 0, none⟩)]) (by simp) (by simp [go_sem]) ?_
  refine (caught_panicking ⟨w.heap.size + 1, 0, none⟩ 0 (gt s6).2.2 [] _ (blk_cell HX.out.er 0) (blk_frozen HX.out.er 0)).mono ?_
  rintro e u' w'' ⟨rfl, rfl, rfl⟩
  refine leaves_cons (f := 50) (args := #[.pointer (some ⟨w.heap.size + 1, 0, none⟩), .pointer (some ⟨w.heap.size, 0, none⟩)]) (by simp [settle]) (by simp [go_sem]) ?_
  have hdied := HX.out.died (gt s6).2.2
  refine (undo_yes (w.heap.size + 1) w.heap.size (gt s6).2.2 HN.out _ _ _ _ _ _ _ _ _ _ hdied.1 hdied.2.1).mono ?_
  rintro e u' w'' ⟨rfl, rfl, rfl⟩
  have hz := zset_box _ w.heap.size _ _ _ _ _ _ _ _ _ hdied.2.1
  have hze := (zset_blk _ w.heap.size (w.heap.size + 1) (by omega)).trans hdied.1
  have hzb := zset_below hdied.2.2 (Nat.le_refl _)
  generalize zset _ w.heap.size = Z at hz hze hzb ⊢
  have d0 : Z.cell? ⟨w.heap.size, 0, none⟩ = some (.int .i64 0) := blk_cell hz 0
  have d1 : Z.cell? ⟨w.heap.size, 1, none⟩ = some (.string ⟨#[]⟩) := blk_cell hz 1
  have d2 : Z.cell? ⟨w.heap.size, 2, none⟩ = some (.string ⟨#[]⟩) := blk_cell hz 2
  have d3 : Z.cell? ⟨w.heap.size, 3, none⟩ = some (.int .u64 0) := blk_cell hz 3
  have d4 : Z.cell? ⟨w.heap.size, 4, none⟩ = some (.int .u64 0) := blk_cell hz 4
  have d5 : Z.cell? ⟨w.heap.size, 5, none⟩ = some (.string ⟨#[]⟩) := blk_cell hz 5
  have d6 : Z.cell? ⟨w.heap.size, 6, none⟩ = some (.string ⟨#[]⟩) := blk_cell hz 6
  have d7 : Z.cell? ⟨w.heap.size, 7, none⟩ = some (.slice none 0 0) := blk_cell hz 7
  have d8 : Z.cell? ⟨w.heap.size, 8, none⟩ = some (.slice none 0 0) := blk_cell hz 8
  have de : Z.cell? ⟨w.heap.size + 1, 0, none⟩ = some (.int .i64 ((gt s6).2.2)) := blk_cell hze 0
  clear hz hze hdied
  have HZ := Lib.hid hzb
  clear hzb
  simp [Leaves, settle, results, Tryd.results25, go_sem, d0, d1, d2, d3, d4, d5, d6, d7, d8, de]
  exact ⟨rfl, HZ.out⟩
set_option maxHeartbeats 8000000 in
set_option maxRecDepth 100000 in
theorem dec_no8 (s s1 s2 s3 s4 s5 s6 s7 : ByteArray) (kd : Int) (k1 : Int) (f : ByteArray) (k2 : Int) (t : ByteArray) (k3 : Int) (am : Int) (k4 : Int) (nc : Int) (k5 : Int) (ky' : ByteArray) (k6 : Int) (vl : ByteArray) (k7 : Int) (w : World) (E1 : Hid (gi s 9 0 0 = (kd, k1, 0))) (R1 : Hid (rest s k1 = s1)) (Z1 : Hid (s1.size < 4611686018427387904)) (E2 : Hid (gt s1 = (f, k2, 0))) (R2 : Hid (rest s1 k2 = s2)) (Z2 : Hid (s2.size < 4611686018427387904)) (E3 : Hid (gt s2 = (t, k3, 0))) (R3 : Hid (rest s2 k3 = s3)) (Z3 : Hid (s3.size < 4611686018427387904)) (E4 : Hid (gi s3 9 0 0 = (am, k4, 0))) (R4 : Hid (rest s3 k4 = s4)) (Z4 : Hid (s4.size < 4611686018427387904)) (E5 : Hid (gi s4 9 0 0 = (nc, k5, 0))) (R5 : Hid (rest s4 k5 = s5)) (Z5 : Hid (s5.size < 4611686018427387904)) (E6 : Hid (gt s5 = (ky', k6, 0))) (R6 : Hid (rest s5 k6 = s6)) (Z6 : Hid (s6.size < 4611686018427387904)) (E7 : Hid (gt s6 = (vl, k7, 0))) (R7 : Hid (rest s6 k7 = s7)) (Z7 : Hid (s7.size < 4611686018427387904)) (HN : Hid ((gl s7 8).2.2 ≠ 0)) :
    Calls Tryd.prog 25 #[.string s] w fun e w' => e = .returned (.tuple #[zagg, .int .i64 (gl s7 8).2.2]) ∧ Below w.heap.size w w' := by
  have hmf : ∀ (fn : Fn) (first cap : Array Value) (w : World), (Instr.makeFunc fn first cap).run Tryd.prog w = .ok (.func fn first cap) w := fun _ _ _ _ => rfl
  go_enter_defers Tryd.func25, Tryd.ntmps25
  have HX := Lib.hid (Dx.first w s)
  go_wp2_with (first
  | (go_at_call 52
     refine (int_ok' (w.heap.size + 1 + 1) s s1 kd k1 _ E1.out R1.out HX.out.rd).mono ?_
     rintro e w2 ⟨rfl, hr⟩
     have HX := Lib.hid (HX.out.read hr)
     obtain ⟨t0, t1, t2, t3, t4, t5, t6, t7, t8, u0, u1, u2, u3, u4, u5, u6, u7, u8⟩ := tx9 HX.out.tx
     clear hr)
  | (go_at_call 53
     refine (text_ok' (w.heap.size + 1 + 1) s1 s2 f k2 _ Z1.out E2.out R2.out HX.out.rd).mono ?_
     rintro e w2 ⟨rfl, hr⟩
     have HX := Lib.hid (HX.out.read hr)
     obtain ⟨t0, t1, t2, t3, t4, t5, t6, t7, t8, u0, u1, u2, u3, u4, u5, u6, u7, u8⟩ := tx9 HX.out.tx
     clear hr)
  | (go_at_call 53
     refine (text_ok' (w.heap.size + 1 + 1) s2 s3 t k3 _ Z2.out E3.out R3.out HX.out.rd).mono ?_
     rintro e w2 ⟨rfl, hr⟩
     have HX := Lib.hid (HX.out.read hr)
     obtain ⟨t0, t1, t2, t3, t4, t5, t6, t7, t8, u0, u1, u2, u3, u4, u5, u6, u7, u8⟩ := tx9 HX.out.tx
     clear hr)
  | (go_at_call 52
     refine (int_ok' (w.heap.size + 1 + 1) s3 s4 am k4 _ E4.out R4.out ((HX.out.set1 (.string f)).set2 (.string t)).rd).mono ?_
     rintro e w2 ⟨rfl, hr⟩
     have HX := Lib.hid (((HX.out.set1 (.string f)).set2 (.string t)).read hr)
     obtain ⟨t0, t1, t2, t3, t4, t5, t6, t7, t8, u0, u1, u2, u3, u4, u5, u6, u7, u8⟩ := tx9 HX.out.tx
     clear hr)
  | (go_at_call 52
     refine (int_ok' (w.heap.size + 1 + 1) s4 s5 nc k5 _ E5.out R5.out HX.out.rd).mono ?_
     rintro e w2 ⟨rfl, hr⟩
     have HX := Lib.hid (HX.out.read hr)
     obtain ⟨t0, t1, t2, t3, t4, t5, t6, t7, t8, u0, u1, u2, u3, u4, u5, u6, u7, u8⟩ := tx9 HX.out.tx
     clear hr)
  | (go_at_call 53
     refine (text_ok' (w.heap.size + 1 + 1) s5 s6 ky' k6 _ Z5.out E6.out R6.out ((HX.out.set3 (.int .u64 am)).set4 (.int .u64 nc)).rd).mono ?_
     rintro e w2 ⟨rfl, hr⟩
     have HX := Lib.hid (((HX.out.set3 (.int .u64 am)).set4 (.int .u64 nc)).read hr)
     obtain ⟨t0, t1, t2, t3, t4, t5, t6, t7, t8, u0, u1, u2, u3, u4, u5, u6, u7, u8⟩ := tx9 HX.out.tx
     clear hr)
  | (go_at_call 53
     refine (text_ok' (w.heap.size + 1 + 1) s6 s7 vl k7 _ Z6.out E7.out R7.out HX.out.rd).mono ?_
     rintro e w2 ⟨rfl, hr⟩
     have HX := Lib.hid (HX.out.read hr)
     obtain ⟨t0, t1, t2, t3, t4, t5, t6, t7, t8, u0, u1, u2, u3, u4, u5, u6, u7, u8⟩ := tx9 HX.out.tx
     clear hr)
  | (go_at_call 54
     refine (list_no (w.heap.size + 1 + 1) s7 _ Z7.out ((HX.out.set5 (.string ky')).set6 (.string vl)).rd HN.out).mono ?_
     rintro e w2 ⟨rfl, hB⟩
     have HX := Lib.hid (((HX.out.set5 (.string ky')).set6 (.string vl)).step hB)
     clear hB))
  refine leaves_cons (f := 51) (args := #[.pointer (some ⟨w.heap.size + 1, 0, none⟩)]) (by simp) (by simp [go_sem]) ?_
  refine (caught_panicking ⟨w.heap.size + 1, 0, none⟩ 0 (gl s7 8).2.2 [] _ (blk_cell HX.out.er 0) (blk_frozen HX.out.er 0)).mono ?_
  rintro e u' w'' ⟨rfl, rfl, rfl⟩
  refine leaves_cons (f := 50) (args := #[.pointer (some ⟨w.heap.size + 1, 0, none⟩), .pointer (some ⟨w.heap.size, 0, none⟩)]) (by simp [settle]) (by simp [go_sem]) ?_
  have hdied := HX.out.died (gl s7 8).2.2
  refine (undo_yes (w.heap.size + 1) w.heap.size (gl s7 8).2.2 HN.out _ _ _ _ _ _ _ _ _ _ hdied.1 hdied.2.1).mono ?_
  rintro e u' w'' ⟨rfl, rfl, rfl⟩
  have hz := zset_box _ w.heap.size _ _ _ _ _ _ _ _ _ hdied.2.1
  have hze := (zset_blk _ w.heap.size (w.heap.size + 1) (by omega)).trans hdied.1
  have hzb := zset_below hdied.2.2 (Nat.le_refl _)
  generalize zset _ w.heap.size = Z at hz hze hzb ⊢
  have d0 : Z.cell? ⟨w.heap.size, 0, none⟩ = some (.int .i64 0) := blk_cell hz 0
  have d1 : Z.cell? ⟨w.heap.size, 1, none⟩ = some (.string ⟨#[]⟩) := blk_cell hz 1
  have d2 : Z.cell? ⟨w.heap.size, 2, none⟩ = some (.string ⟨#[]⟩) := blk_cell hz 2
  have d3 : Z.cell? ⟨w.heap.size, 3, none⟩ = some (.int .u64 0) := blk_cell hz 3
  have d4 : Z.cell? ⟨w.heap.size, 4, none⟩ = some (.int .u64 0) := blk_cell hz 4
  have d5 : Z.cell? ⟨w.heap.size, 5, none⟩ = some (.string ⟨#[]⟩) := blk_cell hz 5
  have d6 : Z.cell? ⟨w.heap.size, 6, none⟩ = some (.string ⟨#[]⟩) := blk_cell hz 6
  have d7 : Z.cell? ⟨w.heap.size, 7, none⟩ = some (.slice none 0 0) := blk_cell hz 7
  have d8 : Z.cell? ⟨w.heap.size, 8, none⟩ = some (.slice none 0 0) := blk_cell hz 8
  have de : Z.cell? ⟨w.heap.size + 1, 0, none⟩ = some (.int .i64 ((gl s7 8).2.2)) := blk_cell hze 0
  clear hz hze hdied
  have HZ := Lib.hid hzb
  clear hzb
  simp [Leaves, settle, results, Tryd.results25, go_sem, d0, d1, d2, d3, d4, d5, d6, d7, d8, de]
  exact ⟨rfl, HZ.out⟩
set_option maxHeartbeats 8000000 in
set_option maxRecDepth 100000 in
theorem dec_no9 (s s1 s2 s3 s4 s5 s6 s7 s8 : ByteArray) (kd : Int) (k1 : Int) (f : ByteArray) (k2 : Int) (t : ByteArray) (k3 : Int) (am : Int) (k4 : Int) (nc : Int) (k5 : Int) (ky' : ByteArray) (k6 : Int) (vl : ByteArray) (k7 : Int) (rs : List ByteArray) (k8 : Int) (w : World) (E1 : Hid (gi s 9 0 0 = (kd, k1, 0))) (R1 : Hid (rest s k1 = s1)) (Z1 : Hid (s1.size < 4611686018427387904)) (E2 : Hid (gt s1 = (f, k2, 0))) (R2 : Hid (rest s1 k2 = s2)) (Z2 : Hid (s2.size < 4611686018427387904)) (E3 : Hid (gt s2 = (t, k3, 0))) (R3 : Hid (rest s2 k3 = s3)) (Z3 : Hid (s3.size < 4611686018427387904)) (E4 : Hid (gi s3 9 0 0 = (am, k4, 0))) (R4 : Hid (rest s3 k4 = s4)) (Z4 : Hid (s4.size < 4611686018427387904)) (E5 : Hid (gi s4 9 0 0 = (nc, k5, 0))) (R5 : Hid (rest s4 k5 = s5)) (Z5 : Hid (s5.size < 4611686018427387904)) (E6 : Hid (gt s5 = (ky', k6, 0))) (R6 : Hid (rest s5 k6 = s6)) (Z6 : Hid (s6.size < 4611686018427387904)) (E7 : Hid (gt s6 = (vl, k7, 0))) (R7 : Hid (rest s6 k7 = s7)) (Z7 : Hid (s7.size < 4611686018427387904)) (E8 : Hid (gl s7 8 = (rs, k8, 0))) (R8 : Hid (rest s7 k8 = s8)) (Z8 : Hid (s8.size < 4611686018427387904)) (HN : Hid ((gl s8 8).2.2 ≠ 0)) :
    Calls Tryd.prog 25 #[.string s] w fun e w' => e = .returned (.tuple #[zagg, .int .i64 (gl s8 8).2.2]) ∧ Below w.heap.size w w' := by
  have hmf : ∀ (fn : Fn) (first cap : Array Value) (w : World), (Instr.makeFunc fn first cap).run Tryd.prog w = .ok (.func fn first cap) w := fun _ _ _ _ => rfl
  go_enter_defers Tryd.func25, Tryd.ntmps25
  have HX := Lib.hid (Dx.first w s)
  go_wp2_with (first
  | (go_at_call 52
     refine (int_ok' (w.heap.size + 1 + 1) s s1 kd k1 _ E1.out R1.out HX.out.rd).mono ?_
     rintro e w2 ⟨rfl, hr⟩
     have HX := Lib.hid (HX.out.read hr)
     obtain ⟨t0, t1, t2, t3, t4, t5, t6, t7, t8, u0, u1, u2, u3, u4, u5, u6, u7, u8⟩ := tx9 HX.out.tx
     clear hr)
  | (go_at_call 53
     refine (text_ok' (w.heap.size + 1 + 1) s1 s2 f k2 _ Z1.out E2.out R2.out HX.out.rd).mono ?_
     rintro e w2 ⟨rfl, hr⟩
     have HX := Lib.hid (HX.out.read hr)
     obtain ⟨t0, t1, t2, t3, t4, t5, t6, t7, t8, u0, u1, u2, u3, u4, u5, u6, u7, u8⟩ := tx9 HX.out.tx
     clear hr)
  | (go_at_call 53
     refine (text_ok' (w.heap.size + 1 + 1) s2 s3 t k3 _ Z2.out E3.out R3.out HX.out.rd).mono ?_
     rintro e w2 ⟨rfl, hr⟩
     have HX := Lib.hid (HX.out.read hr)
     obtain ⟨t0, t1, t2, t3, t4, t5, t6, t7, t8, u0, u1, u2, u3, u4, u5, u6, u7, u8⟩ := tx9 HX.out.tx
     clear hr)
  | (go_at_call 52
     refine (int_ok' (w.heap.size + 1 + 1) s3 s4 am k4 _ E4.out R4.out ((HX.out.set1 (.string f)).set2 (.string t)).rd).mono ?_
     rintro e w2 ⟨rfl, hr⟩
     have HX := Lib.hid (((HX.out.set1 (.string f)).set2 (.string t)).read hr)
     obtain ⟨t0, t1, t2, t3, t4, t5, t6, t7, t8, u0, u1, u2, u3, u4, u5, u6, u7, u8⟩ := tx9 HX.out.tx
     clear hr)
  | (go_at_call 52
     refine (int_ok' (w.heap.size + 1 + 1) s4 s5 nc k5 _ E5.out R5.out HX.out.rd).mono ?_
     rintro e w2 ⟨rfl, hr⟩
     have HX := Lib.hid (HX.out.read hr)
     obtain ⟨t0, t1, t2, t3, t4, t5, t6, t7, t8, u0, u1, u2, u3, u4, u5, u6, u7, u8⟩ := tx9 HX.out.tx
     clear hr)
  | (go_at_call 53
     refine (text_ok' (w.heap.size + 1 + 1) s5 s6 ky' k6 _ Z5.out E6.out R6.out ((HX.out.set3 (.int .u64 am)).set4 (.int .u64 nc)).rd).mono ?_
     rintro e w2 ⟨rfl, hr⟩
     have HX := Lib.hid (((HX.out.set3 (.int .u64 am)).set4 (.int .u64 nc)).read hr)
     obtain ⟨t0, t1, t2, t3, t4, t5, t6, t7, t8, u0, u1, u2, u3, u4, u5, u6, u7, u8⟩ := tx9 HX.out.tx
     clear hr)
  | (go_at_call 53
     refine (text_ok' (w.heap.size + 1 + 1) s6 s7 vl k7 _ Z6.out E7.out R7.out HX.out.rd).mono ?_
     rintro e w2 ⟨rfl, hr⟩
     have HX := Lib.hid (HX.out.read hr)
     obtain ⟨t0, t1, t2, t3, t4, t5, t6, t7, t8, u0, u1, u2, u3, u4, u5, u6, u7, u8⟩ := tx9 HX.out.tx
     clear hr)
  | (go_at_call 54
     refine (list_ok' (w.heap.size + 1 + 1) s7 s8 rs k8 _ Z7.out E8.out R8.out ((HX.out.set5 (.string ky')).set6 (.string vl)).rd).mono ?_
     rintro e w2 ⟨v7, rfl, hR7, hr⟩
     obtain ⟨A7, c7, rfl, hc7, hC7⟩ := Kd.R_reads hR7
     have HC7 := Lib.hid hc7
     clear hc7 hC7
     have HR7 := Lib.hid hR7
     have HB7 := Lib.hid (((HX.out.set5 (.string ky')).set6 (.string vl)).low.size)
     have HX := Lib.hid (((HX.out.set5 (.string ky')).set6 (.string vl)).read hr)
     obtain ⟨t0, t1, t2, t3, t4, t5, t6, t7, t8, u0, u1, u2, u3, u4, u5, u6, u7, u8⟩ := tx9 HX.out.tx
     clear hr hR7)
  | (go_at_call 54
     refine (list_no (w.heap.size + 1 + 1) s8 _ Z8.out HX.out.rd HN.out).mono ?_
     rintro e w2 ⟨rfl, hB⟩
     have HX := Lib.hid (HX.out.step hB)
     clear hB))
  refine leaves_cons (f := 51) (args := #[.pointer (some ⟨w.heap.size + 1, 0, none⟩)]) (by simp) (by simp [go_sem]) ?_
  refine (caught_panicking ⟨w.heap.size + 1, 0, none⟩ 0 (gl s8 8).2.2 [] _ (blk_cell HX.out.er 0) (blk_frozen HX.out.er 0)).mono ?_
  rintro e u' w'' ⟨rfl, rfl, rfl⟩
  refine leaves_cons (f := 50) (args := #[.pointer (some ⟨w.heap.size + 1, 0, none⟩), .pointer (some ⟨w.heap.size, 0, none⟩)]) (by simp [settle]) (by simp [go_sem]) ?_
  have hdied := HX.out.died (gl s8 8).2.2
  refine (undo_yes (w.heap.size + 1) w.heap.size (gl s8 8).2.2 HN.out _ _ _ _ _ _ _ _ _ _ hdied.1 hdied.2.1).mono ?_
  rintro e u' w'' ⟨rfl, rfl, rfl⟩
  have hz := zset_box _ w.heap.size _ _ _ _ _ _ _ _ _ hdied.2.1
  have hze := (zset_blk _ w.heap.size (w.heap.size + 1) (by omega)).trans hdied.1
  have hzb := zset_below hdied.2.2 (Nat.le_refl _)
  generalize zset _ w.heap.size = Z at hz hze hzb ⊢
  have d0 : Z.cell? ⟨w.heap.size, 0, none⟩ = some (.int .i64 0) := blk_cell hz 0
  have d1 : Z.cell? ⟨w.heap.size, 1, none⟩ = some (.string ⟨#[]⟩) := blk_cell hz 1
  have d2 : Z.cell? ⟨w.heap.size, 2, none⟩ = some (.string ⟨#[]⟩) := blk_cell hz 2
  have d3 : Z.cell? ⟨w.heap.size, 3, none⟩ = some (.int .u64 0) := blk_cell hz 3
  have d4 : Z.cell? ⟨w.heap.size, 4, none⟩ = some (.int .u64 0) := blk_cell hz 4
  have d5 : Z.cell? ⟨w.heap.size, 5, none⟩ = some (.string ⟨#[]⟩) := blk_cell hz 5
  have d6 : Z.cell? ⟨w.heap.size, 6, none⟩ = some (.string ⟨#[]⟩) := blk_cell hz 6
  have d7 : Z.cell? ⟨w.heap.size, 7, none⟩ = some (.slice none 0 0) := blk_cell hz 7
  have d8 : Z.cell? ⟨w.heap.size, 8, none⟩ = some (.slice none 0 0) := blk_cell hz 8
  have de : Z.cell? ⟨w.heap.size + 1, 0, none⟩ = some (.int .i64 ((gl s8 8).2.2)) := blk_cell hze 0
  clear hz hze hdied
  have HZ := Lib.hid hzb
  clear hzb
  simp [Leaves, settle, results, Tryd.results25, go_sem, d0, d1, d2, d3, d4, d5, d6, d7, d8, de]
  exact ⟨rfl, HZ.out⟩
set_option maxHeartbeats 8000000 in
set_option maxRecDepth 100000 in
theorem dec_kind (s s1 s2 s3 s4 s5 s6 s7 s8 s9 : ByteArray) (kd : Int) (k1 : Int) (f : ByteArray) (k2 : Int) (t : ByteArray) (k3 : Int) (am : Int) (k4 : Int) (nc : Int) (k5 : Int) (ky' : ByteArray) (k6 : Int) (vl : ByteArray) (k7 : Int) (rs : List ByteArray) (k8 : Int) (ws : List ByteArray) (k9 : Int) (w : World) (E1 : Hid (gi s 9 0 0 = (kd, k1, 0))) (R1 : Hid (rest s k1 = s1)) (Z1 : Hid (s1.size < 4611686018427387904)) (E2 : Hid (gt s1 = (f, k2, 0))) (R2 : Hid (rest s1 k2 = s2)) (Z2 : Hid (s2.size < 4611686018427387904)) (E3 : Hid (gt s2 = (t, k3, 0))) (R3 : Hid (rest s2 k3 = s3)) (Z3 : Hid (s3.size < 4611686018427387904)) (E4 : Hid (gi s3 9 0 0 = (am, k4, 0))) (R4 : Hid (rest s3 k4 = s4)) (Z4 : Hid (s4.size < 4611686018427387904)) (E5 : Hid (gi s4 9 0 0 = (nc, k5, 0))) (R5 : Hid (rest s4 k5 = s5)) (Z5 : Hid (s5.size < 4611686018427387904)) (E6 : Hid (gt s5 = (ky', k6, 0))) (R6 : Hid (rest s5 k6 = s6)) (Z6 : Hid (s6.size < 4611686018427387904)) (E7 : Hid (gt s6 = (vl, k7, 0))) (R7 : Hid (rest s6 k7 = s7)) (Z7 : Hid (s7.size < 4611686018427387904)) (E8 : Hid (gl s7 8 = (rs, k8, 0))) (R8 : Hid (rest s7 k8 = s8)) (Z8 : Hid (s8.size < 4611686018427387904)) (E9 : Hid (gl s8 8 = (ws, k9, 0))) (R9 : Hid (rest s8 k9 = s9)) (Z9 : Hid (s9.size < 4611686018427387904)) (hk : ¬ kd ≤ 2) :
    Calls Tryd.prog 25 #[.string s] w fun e w' => e = .returned (.tuple #[zagg, .int .i64 2]) ∧ Below w.heap.size w w' := by
  have d1 : decide (kd ≤ 2) = false := decide_eq_false hk
  clear hk
  have hmf : ∀ (fn : Fn) (first cap : Array Value) (w : World), (Instr.makeFunc fn first cap).run Tryd.prog w = .ok (.func fn first cap) w := fun _ _ _ _ => rfl
  go_enter_defers Tryd.func25, Tryd.ntmps25
  have HX := Lib.hid (Dx.first w s)
  go_upto_region 9 with (first
  | (go_at_call 52
     refine (int_ok' (w.heap.size + 1 + 1) s s1 kd k1 _ E1.out R1.out HX.out.rd).mono ?_
     rintro e w2 ⟨rfl, hr⟩
     have HX := Lib.hid (HX.out.read hr)
     obtain ⟨t0, t1, t2, t3, t4, t5, t6, t7, t8, u0, u1, u2, u3, u4, u5, u6, u7, u8⟩ := tx9 HX.out.tx
     clear hr)
  | (go_at_call 53
     refine (text_ok' (w.heap.size + 1 + 1) s1 s2 f k2 _ Z1.out E2.out R2.out HX.out.rd).mono ?_
     rintro e w2 ⟨rfl, hr⟩
     have HX := Lib.hid (HX.out.read hr)
     obtain ⟨t0, t1, t2, t3, t4, t5, t6, t7, t8, u0, u1, u2, u3, u4, u5, u6, u7, u8⟩ := tx9 HX.out.tx
     clear hr)
  | (go_at_call 53
     refine (text_ok' (w.heap.size + 1 + 1) s2 s3 t k3 _ Z2.out E3.out R3.out HX.out.rd).mono ?_
     rintro e w2 ⟨rfl, hr⟩
     have HX := Lib.hid (HX.out.read hr)
     obtain ⟨t0, t1, t2, t3, t4, t5, t6, t7, t8, u0, u1, u2, u3, u4, u5, u6, u7, u8⟩ := tx9 HX.out.tx
     clear hr)
  | (go_at_call 52
     refine (int_ok' (w.heap.size + 1 + 1) s3 s4 am k4 _ E4.out R4.out ((HX.out.set1 (.string f)).set2 (.string t)).rd).mono ?_
     rintro e w2 ⟨rfl, hr⟩
     have HX := Lib.hid (((HX.out.set1 (.string f)).set2 (.string t)).read hr)
     obtain ⟨t0, t1, t2, t3, t4, t5, t6, t7, t8, u0, u1, u2, u3, u4, u5, u6, u7, u8⟩ := tx9 HX.out.tx
     clear hr)
  | (go_at_call 52
     refine (int_ok' (w.heap.size + 1 + 1) s4 s5 nc k5 _ E5.out R5.out HX.out.rd).mono ?_
     rintro e w2 ⟨rfl, hr⟩
     have HX := Lib.hid (HX.out.read hr)
     obtain ⟨t0, t1, t2, t3, t4, t5, t6, t7, t8, u0, u1, u2, u3, u4, u5, u6, u7, u8⟩ := tx9 HX.out.tx
     clear hr)
  | (go_at_call 53
     refine (text_ok' (w.heap.size + 1 + 1) s5 s6 ky' k6 _ Z5.out E6.out R6.out ((HX.out.set3 (.int .u64 am)).set4 (.int .u64 nc)).rd).mono ?_
     rintro e w2 ⟨rfl, hr⟩
     have HX := Lib.hid (((HX.out.set3 (.int .u64 am)).set4 (.int .u64 nc)).read hr)
     obtain ⟨t0, t1, t2, t3, t4, t5, t6, t7, t8, u0, u1, u2, u3, u4, u5, u6, u7, u8⟩ := tx9 HX.out.tx
     clear hr)
  | (go_at_call 53
     refine (text_ok' (w.heap.size + 1 + 1) s6 s7 vl k7 _ Z6.out E7.out R7.out HX.out.rd).mono ?_
     rintro e w2 ⟨rfl, hr⟩
     have HX := Lib.hid (HX.out.read hr)
     obtain ⟨t0, t1, t2, t3, t4, t5, t6, t7, t8, u0, u1, u2, u3, u4, u5, u6, u7, u8⟩ := tx9 HX.out.tx
     clear hr)
  | (go_at_call 54
     refine (list_ok' (w.heap.size + 1 + 1) s7 s8 rs k8 _ Z7.out E8.out R8.out ((HX.out.set5 (.string ky')).set6 (.string vl)).rd).mono ?_
     rintro e w2 ⟨v7, rfl, hR7, hr⟩
     obtain ⟨A7, c7, rfl, hc7, hC7⟩ := Kd.R_reads hR7
     have HC7 := Lib.hid hc7
     clear hc7 hC7
     have HR7 := Lib.hid hR7
     have HB7 := Lib.hid (((HX.out.set5 (.string ky')).set6 (.string vl)).low.size)
     have HX := Lib.hid (((HX.out.set5 (.string ky')).set6 (.string vl)).read hr)
     obtain ⟨t0, t1, t2, t3, t4, t5, t6, t7, t8, u0, u1, u2, u3, u4, u5, u6, u7, u8⟩ := tx9 HX.out.tx
     clear hr hR7)
  | (go_at_call 54
     refine (list_ok' (w.heap.size + 1 + 1) s8 s9 ws k9 _ Z8.out E9.out R9.out HX.out.rd).mono ?_
     rintro e w2 ⟨v8, rfl, hR8, hr⟩
     have HR7 := Lib.hid (hr.row HR7.out)
     obtain ⟨A8, c8, rfl, hc8, hC8⟩ := Kd.R_reads hR8
     have HC8 := Lib.hid hc8
     clear hc8 hC8
     have HR8 := Lib.hid hR8
     have HB8 := Lib.hid (HX.out.low.size)
     have HX := Lib.hid (HX.out.read hr)
     obtain ⟨t0, t1, t2, t3, t4, t5, t6, t7, t8, u0, u1, u2, u3, u4, u5, u6, u7, u8⟩ := tx9 HX.out.tx
     clear hr hR8))
  have HX := Lib.hid ((HX.out.set7 (.slice A7 rs.length c7)).set8 (.slice A8 ws.length c8))
  go_wp2_with (first | (go_at_call 55; first | (with_reducible refine (check_ok _ _).mono ?_; rintro e w'' ⟨rfl, hw⟩; have hw := hw.symm; subst hw) | (with_reducible refine (check_no _ _).mono ?_; rintro e w'' ⟨rfl, hw⟩; have hw := hw.symm; subst hw)))
  refine leaves_cons (f := 51) (args := #[.pointer (some ⟨w.heap.size + 1, 0, none⟩)]) (by simp) (by simp [go_sem]) ?_
  refine (caught_panicking ⟨w.heap.size + 1, 0, none⟩ 0 2 [] _ (blk_cell HX.out.er 0) (blk_frozen HX.out.er 0)).mono ?_
  rintro e u' w'' ⟨rfl, rfl, rfl⟩
  refine leaves_cons (f := 50) (args := #[.pointer (some ⟨w.heap.size + 1, 0, none⟩), .pointer (some ⟨w.heap.size, 0, none⟩)]) (by simp [settle]) (by simp [go_sem]) ?_
  have hdied := HX.out.died 2
  refine (undo_yes (w.heap.size + 1) w.heap.size 2 (by decide) _ _ _ _ _ _ _ _ _ _ hdied.1 hdied.2.1).mono ?_
  rintro e u' w'' ⟨rfl, rfl, rfl⟩
  have hz := zset_box _ w.heap.size _ _ _ _ _ _ _ _ _ hdied.2.1
  have hze := (zset_blk _ w.heap.size (w.heap.size + 1) (by omega)).trans hdied.1
  have hzb := zset_below hdied.2.2 (Nat.le_refl _)
  generalize zset _ w.heap.size = Z at hz hze hzb ⊢
  have d0 : Z.cell? ⟨w.heap.size, 0, none⟩ = some (.int .i64 0) := blk_cell hz 0
  have d1 : Z.cell? ⟨w.heap.size, 1, none⟩ = some (.string ⟨#[]⟩) := blk_cell hz 1
  have d2 : Z.cell? ⟨w.heap.size, 2, none⟩ = some (.string ⟨#[]⟩) := blk_cell hz 2
  have d3 : Z.cell? ⟨w.heap.size, 3, none⟩ = some (.int .u64 0) := blk_cell hz 3
  have d4 : Z.cell? ⟨w.heap.size, 4, none⟩ = some (.int .u64 0) := blk_cell hz 4
  have d5 : Z.cell? ⟨w.heap.size, 5, none⟩ = some (.string ⟨#[]⟩) := blk_cell hz 5
  have d6 : Z.cell? ⟨w.heap.size, 6, none⟩ = some (.string ⟨#[]⟩) := blk_cell hz 6
  have d7 : Z.cell? ⟨w.heap.size, 7, none⟩ = some (.slice none 0 0) := blk_cell hz 7
  have d8 : Z.cell? ⟨w.heap.size, 8, none⟩ = some (.slice none 0 0) := blk_cell hz 8
  have de : Z.cell? ⟨w.heap.size + 1, 0, none⟩ = some (.int .i64 (2)) := blk_cell hze 0
  clear hz hze hdied
  have HZ := Lib.hid hzb
  clear hzb
  simp [Leaves, settle, results, Tryd.results25, go_sem, d0, d1, d2, d3, d4, d5, d6, d7, d8, de]
  exact ⟨rfl, HZ.out⟩
set_option maxHeartbeats 8000000 in
set_option maxRecDepth 100000 in
theorem dec_more (s s1 s2 s3 s4 s5 s6 s7 s8 s9 : ByteArray) (kd : Int) (k1 : Int) (f : ByteArray) (k2 : Int) (t : ByteArray) (k3 : Int) (am : Int) (k4 : Int) (nc : Int) (k5 : Int) (ky' : ByteArray) (k6 : Int) (vl : ByteArray) (k7 : Int) (rs : List ByteArray) (k8 : Int) (ws : List ByteArray) (k9 : Int) (w : World) (E1 : Hid (gi s 9 0 0 = (kd, k1, 0))) (R1 : Hid (rest s k1 = s1)) (Z1 : Hid (s1.size < 4611686018427387904)) (E2 : Hid (gt s1 = (f, k2, 0))) (R2 : Hid (rest s1 k2 = s2)) (Z2 : Hid (s2.size < 4611686018427387904)) (E3 : Hid (gt s2 = (t, k3, 0))) (R3 : Hid (rest s2 k3 = s3)) (Z3 : Hid (s3.size < 4611686018427387904)) (E4 : Hid (gi s3 9 0 0 = (am, k4, 0))) (R4 : Hid (rest s3 k4 = s4)) (Z4 : Hid (s4.size < 4611686018427387904)) (E5 : Hid (gi s4 9 0 0 = (nc, k5, 0))) (R5 : Hid (rest s4 k5 = s5)) (Z5 : Hid (s5.size < 4611686018427387904)) (E6 : Hid (gt s5 = (ky', k6, 0))) (R6 : Hid (rest s5 k6 = s6)) (Z6 : Hid (s6.size < 4611686018427387904)) (E7 : Hid (gt s6 = (vl, k7, 0))) (R7 : Hid (rest s6 k7 = s7)) (Z7 : Hid (s7.size < 4611686018427387904)) (E8 : Hid (gl s7 8 = (rs, k8, 0))) (R8 : Hid (rest s7 k8 = s8)) (Z8 : Hid (s8.size < 4611686018427387904)) (E9 : Hid (gl s8 8 = (ws, k9, 0))) (R9 : Hid (rest s8 k9 = s9)) (Z9 : Hid (s9.size < 4611686018427387904)) (hk : kd ≤ 2) (h9 : s9.toList.isEmpty = false) :
    Calls Tryd.prog 25 #[.string s] w fun e w' => e = .returned (.tuple #[zagg, .int .i64 6]) ∧ Below w.heap.size w w' := by
  have d1 : decide (kd ≤ 2) = true := decide_eq_true hk
  clear hk
  have hmf : ∀ (fn : Fn) (first cap : Array Value) (w : World), (Instr.makeFunc fn first cap).run Tryd.prog w = .ok (.func fn first cap) w := fun _ _ _ _ => rfl
  go_enter_defers Tryd.func25, Tryd.ntmps25
  have HX := Lib.hid (Dx.first w s)
  go_upto_region 9 with (first
  | (go_at_call 52
     refine (int_ok' (w.heap.size + 1 + 1) s s1 kd k1 _ E1.out R1.out HX.out.rd).mono ?_
     rintro e w2 ⟨rfl, hr⟩
     have HX := Lib.hid (HX.out.read hr)
     obtain ⟨t0, t1, t2, t3, t4, t5, t6, t7, t8, u0, u1, u2, u3, u4, u5, u6, u7, u8⟩ := tx9 HX.out.tx
     clear hr)
  | (go_at_call 53
     refine (text_ok' (w.heap.size + 1 + 1) s1 s2 f k2 _ Z1.out E2.out R2.out HX.out.rd).mono ?_
     rintro e w2 ⟨rfl, hr⟩
     have HX := Lib.hid (HX.out.read hr)
     obtain ⟨t0, t1, t2, t3, t4, t5, t6, t7, t8, u0, u1, u2, u3, u4, u5, u6, u7, u8⟩ := tx9 HX.out.tx
     clear hr)
  | (go_at_call 53
     refine (text_ok' (w.heap.size + 1 + 1) s2 s3 t k3 _ Z2.out E3.out R3.out HX.out.rd).mono ?_
     rintro e w2 ⟨rfl, hr⟩
     have HX := Lib.hid (HX.out.read hr)
     obtain ⟨t0, t1, t2, t3, t4, t5, t6, t7, t8, u0, u1, u2, u3, u4, u5, u6, u7, u8⟩ := tx9 HX.out.tx
     clear hr)
  | (go_at_call 52
     refine (int_ok' (w.heap.size + 1 + 1) s3 s4 am k4 _ E4.out R4.out ((HX.out.set1 (.string f)).set2 (.string t)).rd).mono ?_
     rintro e w2 ⟨rfl, hr⟩
     have HX := Lib.hid (((HX.out.set1 (.string f)).set2 (.string t)).read hr)
     obtain ⟨t0, t1, t2, t3, t4, t5, t6, t7, t8, u0, u1, u2, u3, u4, u5, u6, u7, u8⟩ := tx9 HX.out.tx
     clear hr)
  | (go_at_call 52
     refine (int_ok' (w.heap.size + 1 + 1) s4 s5 nc k5 _ E5.out R5.out HX.out.rd).mono ?_
     rintro e w2 ⟨rfl, hr⟩
     have HX := Lib.hid (HX.out.read hr)
     obtain ⟨t0, t1, t2, t3, t4, t5, t6, t7, t8, u0, u1, u2, u3, u4, u5, u6, u7, u8⟩ := tx9 HX.out.tx
     clear hr)
  | (go_at_call 53
     refine (text_ok' (w.heap.size + 1 + 1) s5 s6 ky' k6 _ Z5.out E6.out R6.out ((HX.out.set3 (.int .u64 am)).set4 (.int .u64 nc)).rd).mono ?_
     rintro e w2 ⟨rfl, hr⟩
     have HX := Lib.hid (((HX.out.set3 (.int .u64 am)).set4 (.int .u64 nc)).read hr)
     obtain ⟨t0, t1, t2, t3, t4, t5, t6, t7, t8, u0, u1, u2, u3, u4, u5, u6, u7, u8⟩ := tx9 HX.out.tx
     clear hr)
  | (go_at_call 53
     refine (text_ok' (w.heap.size + 1 + 1) s6 s7 vl k7 _ Z6.out E7.out R7.out HX.out.rd).mono ?_
     rintro e w2 ⟨rfl, hr⟩
     have HX := Lib.hid (HX.out.read hr)
     obtain ⟨t0, t1, t2, t3, t4, t5, t6, t7, t8, u0, u1, u2, u3, u4, u5, u6, u7, u8⟩ := tx9 HX.out.tx
     clear hr)
  | (go_at_call 54
     refine (list_ok' (w.heap.size + 1 + 1) s7 s8 rs k8 _ Z7.out E8.out R8.out ((HX.out.set5 (.string ky')).set6 (.string vl)).rd).mono ?_
     rintro e w2 ⟨v7, rfl, hR7, hr⟩
     obtain ⟨A7, c7, rfl, hc7, hC7⟩ := Kd.R_reads hR7
     have HC7 := Lib.hid hc7
     clear hc7 hC7
     have HR7 := Lib.hid hR7
     have HB7 := Lib.hid (((HX.out.set5 (.string ky')).set6 (.string vl)).low.size)
     have HX := Lib.hid (((HX.out.set5 (.string ky')).set6 (.string vl)).read hr)
     obtain ⟨t0, t1, t2, t3, t4, t5, t6, t7, t8, u0, u1, u2, u3, u4, u5, u6, u7, u8⟩ := tx9 HX.out.tx
     clear hr hR7)
  | (go_at_call 54
     refine (list_ok' (w.heap.size + 1 + 1) s8 s9 ws k9 _ Z8.out E9.out R9.out HX.out.rd).mono ?_
     rintro e w2 ⟨v8, rfl, hR8, hr⟩
     have HR7 := Lib.hid (hr.row HR7.out)
     obtain ⟨A8, c8, rfl, hc8, hC8⟩ := Kd.R_reads hR8
     have HC8 := Lib.hid hc8
     clear hc8 hC8
     have HR8 := Lib.hid hR8
     have HB8 := Lib.hid (HX.out.low.size)
     have HX := Lib.hid (HX.out.read hr)
     obtain ⟨t0, t1, t2, t3, t4, t5, t6, t7, t8, u0, u1, u2, u3, u4, u5, u6, u7, u8⟩ := tx9 HX.out.tx
     clear hr hR8))
  have HX := Lib.hid ((HX.out.set7 (.slice A7 rs.length c7)).set8 (.slice A8 ws.length c8))
  have q9 : _ = some (Value.string s9) := blk_cell HX.out.rd 0
  go_wp2_with (first | (go_at_call 55; first | (with_reducible refine (check_ok _ _).mono ?_; rintro e w'' ⟨rfl, hw⟩; have hw := hw.symm; subst hw) | (with_reducible refine (check_no _ _).mono ?_; rintro e w'' ⟨rfl, hw⟩; have hw := hw.symm; subst hw)))
  refine leaves_cons (f := 51) (args := #[.pointer (some ⟨w.heap.size + 1, 0, none⟩)]) (by simp) (by simp [go_sem]) ?_
  refine (caught_panicking ⟨w.heap.size + 1, 0, none⟩ 0 6 [] _ (blk_cell HX.out.er 0) (blk_frozen HX.out.er 0)).mono ?_
  rintro e u' w'' ⟨rfl, rfl, rfl⟩
  refine leaves_cons (f := 50) (args := #[.pointer (some ⟨w.heap.size + 1, 0, none⟩), .pointer (some ⟨w.heap.size, 0, none⟩)]) (by simp [settle]) (by simp [go_sem]) ?_
  have hdied := HX.out.died 6
  refine (undo_yes (w.heap.size + 1) w.heap.size 6 (by decide) _ _ _ _ _ _ _ _ _ _ hdied.1 hdied.2.1).mono ?_
  rintro e u' w'' ⟨rfl, rfl, rfl⟩
  have hz := zset_box _ w.heap.size _ _ _ _ _ _ _ _ _ hdied.2.1
  have hze := (zset_blk _ w.heap.size (w.heap.size + 1) (by omega)).trans hdied.1
  have hzb := zset_below hdied.2.2 (Nat.le_refl _)
  generalize zset _ w.heap.size = Z at hz hze hzb ⊢
  have d0 : Z.cell? ⟨w.heap.size, 0, none⟩ = some (.int .i64 0) := blk_cell hz 0
  have d1 : Z.cell? ⟨w.heap.size, 1, none⟩ = some (.string ⟨#[]⟩) := blk_cell hz 1
  have d2 : Z.cell? ⟨w.heap.size, 2, none⟩ = some (.string ⟨#[]⟩) := blk_cell hz 2
  have d3 : Z.cell? ⟨w.heap.size, 3, none⟩ = some (.int .u64 0) := blk_cell hz 3
  have d4 : Z.cell? ⟨w.heap.size, 4, none⟩ = some (.int .u64 0) := blk_cell hz 4
  have d5 : Z.cell? ⟨w.heap.size, 5, none⟩ = some (.string ⟨#[]⟩) := blk_cell hz 5
  have d6 : Z.cell? ⟨w.heap.size, 6, none⟩ = some (.string ⟨#[]⟩) := blk_cell hz 6
  have d7 : Z.cell? ⟨w.heap.size, 7, none⟩ = some (.slice none 0 0) := blk_cell hz 7
  have d8 : Z.cell? ⟨w.heap.size, 8, none⟩ = some (.slice none 0 0) := blk_cell hz 8
  have de : Z.cell? ⟨w.heap.size + 1, 0, none⟩ = some (.int .i64 (6)) := blk_cell hze 0
  clear hz hze hdied
  have HZ := Lib.hid hzb
  clear hzb
  simp [Leaves, settle, results, Tryd.results25, go_sem, d0, d1, d2, d3, d4, d5, d6, d7, d8, de]
  exact ⟨rfl, HZ.out⟩
end Go.Proofs.YtndicjikjcifaaaDoor

/- tx.Decode: its last way out, and all ways joined. -/
namespace Go.Proofs.YtndicjikjcifaaaDoor
open Go.RowKit Go.Shelf Go.Lib Go.Proofs.YtndicjikjcifaaaDoorW.PrintWords Go.Proofs.YtndicjikjcifaaaDoorW.PrintLast
set_option linter.unusedVariables false
set_option linter.unusedSimpArgs false

/-- What is read: kind, from, to, amount, nonce, key, value, reads, writes, what is wrong. -/
abbrev Dec := Int × ByteArray × ByteArray × Int × Int × ByteArray × ByteArray × List ByteArray × List ByteArray × Int
def derr (e : Int) : Dec := (0, ⟨#[]⟩, ⟨#[]⟩, 0, 0, ⟨#[]⟩, ⟨#[]⟩, [], [], e)
def fin9 (kd : Int) (f t : ByteArray) (am nc : Int) (ky' vl : ByteArray) (rs ws : List ByteArray) : Dec :=
  if ch kd f t am nc ky' vl rs ws = 0 then (kd, f, t, am, nc, ky', vl, rs, ws, 0) else derr (ch kd f t am nc ky' vl rs ws)
/-- A transaction in a result: its two rows are its own and apart. -/
def DP (r : Dec) (w : World) (e : Ending) (w' : World) : Prop :=
  ∃ v8 v9, e = .returned (.tuple #[.agg #[.int .i64 r.1, .string r.2.1, .string r.2.2.1, .int .u64 r.2.2.2.1, .int .u64 r.2.2.2.2.1, .string r.2.2.2.2.2.1, .string r.2.2.2.2.2.2.1, v8, v9], .int .i64 r.2.2.2.2.2.2.2.2.2])
    ∧ Kd.R Kd.string 9 w' w.heap.size (fun k => some k ≠ v9.ownBlock) v8 r.2.2.2.2.2.2.2.1
    ∧ Kd.R Kd.string 9 w' w.heap.size (fun k => some k ≠ v8.ownBlock) v9 r.2.2.2.2.2.2.2.2.1
    ∧ Below w.heap.size w w'
theorem apart_of {u v : Value} {n : Nat} (h1 : ∀ k, u.ownBlock = some k → k < n) (h2 : ∀ k, v.ownBlock = some k → n ≤ k) : (∀ k, u.ownBlock = some k → some k ≠ v.ownBlock) ∧ (∀ k, v.ownBlock = some k → some k ≠ u.ownBlock) :=
  ⟨fun k hk e => by have := h1 k hk; have := h2 k e.symm; omega, fun k hk e => by have := h2 k hk; have := h1 k e.symm; omega⟩
structure Fx (w : World) (c : Array Value) (x : Int) (v7 v8 : Value) (rs ws : List ByteArray) (Z : World) : Prop where
  low : Below w.heap.size w Z
  tx : Z.heap[w.heap.size]? = some (.cells c 33 (0, 0))
  er : Z.heap[w.heap.size + 1]? = some (.cells #[.int .i64 x] 24 (0, 0))
  r7 : Kd.R Kd.string 9 Z w.heap.size (fun k => some k = v7.ownBlock) v7 rs
  r8 : Kd.R Kd.string 9 Z w.heap.size (fun k => some k = v8.ownBlock) v8 ws
theorem DP_err {w w' : World} {e : Ending} (x : Int) (he : e = .returned (.tuple #[zagg, .int .i64 x])) (hb : Below w.heap.size w w') : DP (derr x) w e w' :=
  ⟨_, _, he, Kd.R_nil _ _ _ _ _, Kd.R_nil _ _ _ _ _, hb⟩
theorem Fx.made {w W : World} {b0 b1 b2 b3 b4 b5 b6 b7 b8 : Value} {s : ByteArray} (h : Dx w b0 b1 b2 b3 b4 b5 b6 b7 b8 s W) {v7 v8 : Value} {rs ws : List ByteArray}
    (r7 : Kd.R Kd.string 9 W w.heap.size (fun k => some k = v7.ownBlock) v7 rs) (r8 : Kd.R Kd.string 9 W w.heap.size (fun k => some k = v8.ownBlock) v8 ws) (c0 c1 c2 c3 c4 c5 c6 c7 c8 : Value) (x : Int) :
    Fx w #[c0, c1, c2, c3, c4, c5, c6, c7, c8] x v7 v8 rs ws
      ((((((((((W.setCell ⟨w.heap.size, 0, none⟩ c0).setCell ⟨w.heap.size, 1, none⟩ c1).setCell ⟨w.heap.size, 2, none⟩ c2).setCell ⟨w.heap.size, 3, none⟩ c3).setCell ⟨w.heap.size, 4, none⟩ c4).setCell ⟨w.heap.size, 5, none⟩ c5).setCell ⟨w.heap.size, 6, none⟩ c6).setCell ⟨w.heap.size, 7, none⟩ c7).setCell ⟨w.heap.size, 8, none⟩ c8).setCell ⟨w.heap.size + 1, 0, none⟩ (.int .i64 x)) := by
  have hd := ((((((((h.set0 c0).set1 c1).set2 c2).set3 c3).set4 c4).set5 c5).set6 c6).set7 c7).set8 c8
  have ht33 : ∀ q, q ∈ 9 :: Kd.string.E → q ≠ 24 := by intro q hq; simp [Kd.string, Kd.scalar] at hq; subst hq; decide
  have D7 := Kd.R_ne r7 h.tx (by decide)
  have D8 := Kd.R_ne r8 h.tx (by decide)
  have E7 := Kd.R_ne r7 h.er (by decide)
  have E8 := Kd.R_ne r8 h.er (by decide)
  refine ⟨hd.low.setCell (by simp) _, (Below.heap_setCell _ _ _ _ (by simp)).trans hd.tx, by simpa using blk_set hd.er 0 (.int .i64 x), ?_, ?_⟩
  · refine Kd.R_step r7 (fun k hk hlt => ?_)
    have n1 : k ≠ w.heap.size := fun e => D7 (by rw [← e]; exact hk)
    have n2 : k ≠ w.heap.size + 1 := fun e => E7 (by rw [← e]; exact hk)
    rw [Below.heap_setCell _ _ _ _ n2]
    iterate 9 rw [Below.heap_setCell _ _ _ _ n1]
  · refine Kd.R_step r8 (fun k hk hlt => ?_)
    have n1 : k ≠ w.heap.size := fun e => D8 (by rw [← e]; exact hk)
    have n2 : k ≠ w.heap.size + 1 := fun e => E8 (by rw [← e]; exact hk)
    rw [Below.heap_setCell _ _ _ _ n2]
    iterate 9 rw [Below.heap_setCell _ _ _ _ n1]
set_option maxHeartbeats 8000000 in
set_option maxRecDepth 100000 in
theorem dec_chk (s s1 s2 s3 s4 s5 s6 s7 s8 s9 : ByteArray) (kd : Int) (k1 : Int) (f : ByteArray) (k2 : Int) (t : ByteArray) (k3 : Int) (am : Int) (k4 : Int) (nc : Int) (k5 : Int) (ky' : ByteArray) (k6 : Int) (vl : ByteArray) (k7 : Int) (rs : List ByteArray) (k8 : Int) (ws : List ByteArray) (k9 : Int) (w : World) (E1 : Hid (gi s 9 0 0 = (kd, k1, 0))) (R1 : Hid (rest s k1 = s1)) (Z1 : Hid (s1.size < 4611686018427387904)) (E2 : Hid (gt s1 = (f, k2, 0))) (R2 : Hid (rest s1 k2 = s2)) (Z2 : Hid (s2.size < 4611686018427387904)) (E3 : Hid (gt s2 = (t, k3, 0))) (R3 : Hid (rest s2 k3 = s3)) (Z3 : Hid (s3.size < 4611686018427387904)) (E4 : Hid (gi s3 9 0 0 = (am, k4, 0))) (R4 : Hid (rest s3 k4 = s4)) (Z4 : Hid (s4.size < 4611686018427387904)) (E5 : Hid (gi s4 9 0 0 = (nc, k5, 0))) (R5 : Hid (rest s4 k5 = s5)) (Z5 : Hid (s5.size < 4611686018427387904)) (E6 : Hid (gt s5 = (ky', k6, 0))) (R6 : Hid (rest s5 k6 = s6)) (Z6 : Hid (s6.size < 4611686018427387904)) (E7 : Hid (gt s6 = (vl, k7, 0))) (R7 : Hid (rest s6 k7 = s7)) (Z7 : Hid (s7.size < 4611686018427387904)) (E8 : Hid (gl s7 8 = (rs, k8, 0))) (R8 : Hid (rest s7 k8 = s8)) (Z8 : Hid (s8.size < 4611686018427387904)) (E9 : Hid (gl s8 8 = (ws, k9, 0))) (R9 : Hid (rest s8 k9 = s9)) (Z9 : Hid (s9.size < 4611686018427387904)) (hk : kd ≤ 2) (hk0 : 0 ≤ kd) (h9 : s9.toList.isEmpty = true) :
    Calls Tryd.prog 25 #[.string s] w fun e w' => DP (fin9 kd f t am nc ky' vl rs ws) w e w' := by
  have d1 : decide (kd ≤ 2) = true := decide_eq_true hk
  have d2 : IntKind.i64.wrap kd = kd := by rw [IntKind.wrap_i64]; omega
  clear hk hk0
  have hmf : ∀ (fn : Fn) (first cap : Array Value) (w : World), (Instr.makeFunc fn first cap).run Tryd.prog w = .ok (.func fn first cap) w := fun _ _ _ _ => rfl
  go_enter_defers Tryd.func25, Tryd.ntmps25
  have HX := Lib.hid (Dx.first w s)
  go_upto_region 9 with (first
  | (go_at_call 52
     refine (int_ok' (w.heap.size + 1 + 1) s s1 kd k1 _ E1.out R1.out HX.out.rd).mono ?_
     rintro e w2 ⟨rfl, hr⟩
     have HX := Lib.hid (HX.out.read hr)
     obtain ⟨t0, t1, t2, t3, t4, t5, t6, t7, t8, u0, u1, u2, u3, u4, u5, u6, u7, u8⟩ := tx9 HX.out.tx
     clear hr)
  | (go_at_call 53
     refine (text_ok' (w.heap.size + 1 + 1) s1 s2 f k2 _ Z1.out E2.out R2.out HX.out.rd).mono ?_
     rintro e w2 ⟨rfl, hr⟩
     have HX := Lib.hid (HX.out.read hr)
     obtain ⟨t0, t1, t2, t3, t4, t5, t6, t7, t8, u0, u1, u2, u3, u4, u5, u6, u7, u8⟩ := tx9 HX.out.tx
     clear hr)
  | (go_at_call 53
     refine (text_ok' (w.heap.size + 1 + 1) s2 s3 t k3 _ Z2.out E3.out R3.out HX.out.rd).mono ?_
     rintro e w2 ⟨rfl, hr⟩
     have HX := Lib.hid (HX.out.read hr)
     obtain ⟨t0, t1, t2, t3, t4, t5, t6, t7, t8, u0, u1, u2, u3, u4, u5, u6, u7, u8⟩ := tx9 HX.out.tx
     clear hr)
  | (go_at_call 52
     refine (int_ok' (w.heap.size + 1 + 1) s3 s4 am k4 _ E4.out R4.out ((HX.out.set1 (.string f)).set2 (.string t)).rd).mono ?_
     rintro e w2 ⟨rfl, hr⟩
     have HX := Lib.hid (((HX.out.set1 (.string f)).set2 (.string t)).read hr)
     obtain ⟨t0, t1, t2, t3, t4, t5, t6, t7, t8, u0, u1, u2, u3, u4, u5, u6, u7, u8⟩ := tx9 HX.out.tx
     clear hr)
  | (go_at_call 52
     refine (int_ok' (w.heap.size + 1 + 1) s4 s5 nc k5 _ E5.out R5.out HX.out.rd).mono ?_
     rintro e w2 ⟨rfl, hr⟩
     have HX := Lib.hid (HX.out.read hr)
     obtain ⟨t0, t1, t2, t3, t4, t5, t6, t7, t8, u0, u1, u2, u3, u4, u5, u6, u7, u8⟩ := tx9 HX.out.tx
     clear hr)
  | (go_at_call 53
     refine (text_ok' (w.heap.size + 1 + 1) s5 s6 ky' k6 _ Z5.out E6.out R6.out ((HX.out.set3 (.int .u64 am)).set4 (.int .u64 nc)).rd).mono ?_
     rintro e w2 ⟨rfl, hr⟩
     have HX := Lib.hid (((HX.out.set3 (.int .u64 am)).set4 (.int .u64 nc)).read hr)
     obtain ⟨t0, t1, t2, t3, t4, t5, t6, t7, t8, u0, u1, u2, u3, u4, u5, u6, u7, u8⟩ := tx9 HX.out.tx
     clear hr)
  | (go_at_call 53
     refine (text_ok' (w.heap.size + 1 + 1) s6 s7 vl k7 _ Z6.out E7.out R7.out HX.out.rd).mono ?_
     rintro e w2 ⟨rfl, hr⟩
     have HX := Lib.hid (HX.out.read hr)
     obtain ⟨t0, t1, t2, t3, t4, t5, t6, t7, t8, u0, u1, u2, u3, u4, u5, u6, u7, u8⟩ := tx9 HX.out.tx
     clear hr)
  | (go_at_call 54
     refine (list_ok' (w.heap.size + 1 + 1) s7 s8 rs k8 _ Z7.out E8.out R8.out ((HX.out.set5 (.string ky')).set6 (.string vl)).rd).mono ?_
     rintro e w2 ⟨v7, rfl, hR7, hr⟩
     obtain ⟨A7, c7, rfl, hc7, hC7⟩ := Kd.R_reads hR7
     have HC7 := Lib.hid hc7
     clear hc7 hC7
     have HR7 := Lib.hid hR7
     have HB7 := Lib.hid (((HX.out.set5 (.string ky')).set6 (.string vl)).low.size)
     have HX := Lib.hid (((HX.out.set5 (.string ky')).set6 (.string vl)).read hr)
     obtain ⟨t0, t1, t2, t3, t4, t5, t6, t7, t8, u0, u1, u2, u3, u4, u5, u6, u7, u8⟩ := tx9 HX.out.tx
     clear hr hR7)
  | (go_at_call 54
     refine (list_ok' (w.heap.size + 1 + 1) s8 s9 ws k9 _ Z8.out E9.out R9.out HX.out.rd).mono ?_
     rintro e w2 ⟨v8, rfl, hR8, hr⟩
     have HN7 := Lib.hid (Kd.R_lt HR7.out)
     have HR7 := Lib.hid (hr.row (Kd.R_mono (Kd.R_bound HR7.out) (ok' := fun k => k < _) (fun k hk => hk.2.2.1)))
     obtain ⟨A8, c8, rfl, hc8, hC8⟩ := Kd.R_reads hR8
     have HC8 := Lib.hid hc8
     clear hc8 hC8
     have HR8 := Lib.hid hR8
     have HB8 := Lib.hid (HX.out.low.size)
     have HX := Lib.hid (HX.out.read hr)
     obtain ⟨t0, t1, t2, t3, t4, t5, t6, t7, t8, u0, u1, u2, u3, u4, u5, u6, u7, u8⟩ := tx9 HX.out.tx
     clear hr hR8))
  have H0 := HX
  have HX := Lib.hid ((HX.out.set7 (.slice A7 rs.length c7)).set8 (.slice A8 ws.length c8))
  have q9 : _ = some (Value.string s9) := blk_cell HX.out.rd 0
  go_upto_region 12 with (first | (go_at_call 55; first | (with_reducible refine (check_ok _ _).mono ?_; rintro e w'' ⟨rfl, hw⟩; have hw := hw.symm; subst hw) | (with_reducible refine (check_no _ _).mono ?_; rintro e w'' ⟨rfl, hw⟩; have hw := hw.symm; subst hw)))
  have HX1 := HX.out.set0 (.int .i64 kd)
  have HX := Lib.hid HX1
  have y0 := blk_cell HX1.tx 0; have z0 := blk_frozen HX1.tx 0; simp only [List.getElem?_toArray, List.getElem?_cons_zero, List.getElem?_cons_succ] at y0
  have y1 := blk_cell HX1.tx 1; have z1 := blk_frozen HX1.tx 1; simp only [List.getElem?_toArray, List.getElem?_cons_zero, List.getElem?_cons_succ] at y1
  have y2 := blk_cell HX1.tx 2; have z2 := blk_frozen HX1.tx 2; simp only [List.getElem?_toArray, List.getElem?_cons_zero, List.getElem?_cons_succ] at y2
  have y3 := blk_cell HX1.tx 3; have z3 := blk_frozen HX1.tx 3; simp only [List.getElem?_toArray, List.getElem?_cons_zero, List.getElem?_cons_succ] at y3
  have y4 := blk_cell HX1.tx 4; have z4 := blk_frozen HX1.tx 4; simp only [List.getElem?_toArray, List.getElem?_cons_zero, List.getElem?_cons_succ] at y4
  have y5 := blk_cell HX1.tx 5; have z5 := blk_frozen HX1.tx 5; simp only [List.getElem?_toArray, List.getElem?_cons_zero, List.getElem?_cons_succ] at y5
  have y6 := blk_cell HX1.tx 6; have z6 := blk_frozen HX1.tx 6; simp only [List.getElem?_toArray, List.getElem?_cons_zero, List.getElem?_cons_succ] at y6
  have y7 := blk_cell HX1.tx 7; have z7 := blk_frozen HX1.tx 7; simp only [List.getElem?_toArray, List.getElem?_cons_zero, List.getElem?_cons_succ] at y7
  have y8 := blk_cell HX1.tx 8; have z8 := blk_frozen HX1.tx 8; simp only [List.getElem?_toArray, List.getElem?_cons_zero, List.getElem?_cons_succ] at y8
  clear HX1
  have ht9 : ∀ q, q ∈ 9 :: Kd.string.E → q ≠ 33 := by intro q hq; simp [Kd.string, Kd.scalar] at hq; subst hq; decide
  have C7 := Lib.hid (C_of_R (Kd.R_drew (Kd.R_set (Kd.R_set (Kd.R_set HR7.out H0.out.tx ht9 7 (.slice A7 rs.length c7)) (H0.out.set7 _).tx ht9 8 (.slice A8 ws.length c8)) ((H0.out.set7 _).set8 _).tx ht9 0 (.int .i64 kd))))
  have C8 := Lib.hid (C_of_R (Kd.R_drew (Kd.R_set (Kd.R_set (Kd.R_set HR8.out H0.out.tx ht9 7 (.slice A7 rs.length c7)) (H0.out.set7 _).tx ht9 8 (.slice A8 ws.length c8)) ((H0.out.set7 _).set8 _).tx ht9 0 (.int .i64 kd))))
  have ht9 := Lib.hid ht9
  go_region_with (first
    | (go_at_call 41
       go_must (refine (chk_calls kd f t am nc ky' vl A7 A8 c7 c8 rs ws _ C7.out HC7.out C8.out HC8.out).mono ?_)
       rintro e w3 ⟨rfl, hB⟩
       have T7 := Lib.hid (Kd.R_tight rfl (Kd.R_lower (Kd.R_below (Kd.R_drew (Kd.R_set (Kd.R_set (Kd.R_set HR7.out H0.out.tx ht9.out 7 (.slice A7 rs.length c7)) (H0.out.set7 _).tx ht9.out 8 (.slice A8 ws.length c8)) ((H0.out.set7 _).set8 _).tx ht9.out 0 (.int .i64 kd))) hB) HB7.out))
       have T8 := Lib.hid (Kd.R_tight rfl (Kd.R_lower (Kd.R_below (Kd.R_drew (Kd.R_set (Kd.R_set (Kd.R_set HR8.out H0.out.tx ht9.out 7 (.slice A7 rs.length c7)) (H0.out.set7 _).tx ht9.out 8 (.slice A8 ws.length c8)) ((H0.out.set7 _).set8 _).tx ht9.out 0 (.int .i64 kd))) hB) HB8.out))
       have P7 := Lib.hid (apart_of HN7.out (Kd.R_base HR8.out))
       have HX := Lib.hid ((HX.out.step ((Below.refl _ _).drew)).step hB)
       clear C7 C8
       clear hB
       have y0 := blk_cell HX.out.tx 0; have z0 := blk_frozen HX.out.tx 0; simp only [List.getElem?_toArray, List.getElem?_cons_zero, List.getElem?_cons_succ] at y0
       have y1 := blk_cell HX.out.tx 1; have z1 := blk_frozen HX.out.tx 1; simp only [List.getElem?_toArray, List.getElem?_cons_zero, List.getElem?_cons_succ] at y1
       have y2 := blk_cell HX.out.tx 2; have z2 := blk_frozen HX.out.tx 2; simp only [List.getElem?_toArray, List.getElem?_cons_zero, List.getElem?_cons_succ] at y2
       have y3 := blk_cell HX.out.tx 3; have z3 := blk_frozen HX.out.tx 3; simp only [List.getElem?_toArray, List.getElem?_cons_zero, List.getElem?_cons_succ] at y3
       have y4 := blk_cell HX.out.tx 4; have z4 := blk_frozen HX.out.tx 4; simp only [List.getElem?_toArray, List.getElem?_cons_zero, List.getElem?_cons_succ] at y4
       have y5 := blk_cell HX.out.tx 5; have z5 := blk_frozen HX.out.tx 5; simp only [List.getElem?_toArray, List.getElem?_cons_zero, List.getElem?_cons_succ] at y5
       have y6 := blk_cell HX.out.tx 6; have z6 := blk_frozen HX.out.tx 6; simp only [List.getElem?_toArray, List.getElem?_cons_zero, List.getElem?_cons_succ] at y6
       have y7 := blk_cell HX.out.tx 7; have z7 := blk_frozen HX.out.tx 7; simp only [List.getElem?_toArray, List.getElem?_cons_zero, List.getElem?_cons_succ] at y7
       have y8 := blk_cell HX.out.tx 8; have z8 := blk_frozen HX.out.tx 8; simp only [List.getElem?_toArray, List.getElem?_cons_zero, List.getElem?_cons_succ] at y8
       have ye : w3.cell? ⟨w.heap.size + 1, 0, none⟩ = some (.int .i64 0) := blk_cell HX.out.er 0
       have ze := blk_frozen HX.out.er 0
       clear HR7 HR8 HN7 HB7 HB8 HC7 HC8 H0))
  all_goals go_wp2
  all_goals
    refine at_world (Fx.made HX.out T7.out T8.out (.int .i64 kd) (.string f) (.string t) (.int .u64 am) (.int .u64 nc) (.string ky') (.string vl) (.slice A7 rs.length c7) (.slice A8 ws.length c8) (ch kd f t am nc ky' vl rs ws)) ?_
    clear y0 y1 y2 y3 y4 y5 y6 y7 y8 ye z0 z1 z2 z3 z4 z5 z6 z7 z8 ze u0 u1 u2 u3 u4 u5 u6 u7 u8 t0 t1 t2 t3 t4 t5 t6 t7 t8 q9 HX T7 T8 ht9 d1 d2 h9
    intro Z HZ
    have HZ := Lib.hid HZ
    refine leaves_cons (f := 51) (args := #[.pointer (some ⟨w.heap.size + 1, 0, none⟩)]) (by simp) (by simp [go_sem]) ?_
    refine (caught_idle ⟨w.heap.size + 1, 0, none⟩ _).mono ?_
    rintro e u' w'' ⟨rfl, rfl, rfl⟩
    refine leaves_cons (f := 50) (args := #[.pointer (some ⟨w.heap.size + 1, 0, none⟩), .pointer (some ⟨w.heap.size, 0, none⟩)]) (by simp [settle]) (by simp [go_sem]) ?_
    by_cases hc : ch kd f t am nc ky' vl rs ws = 0
    · have hze := HZ.out.er
      rw [hc] at hze
      refine (undo_no (w.heap.size + 1) w.heap.size _ hze).mono ?_
      rintro e u' w'' ⟨rfl, rfl, rfl⟩
      have hz := HZ.out.tx
      have e0 := blk_cell hz 0
      have e1 := blk_cell hz 1
      have e2 := blk_cell hz 2
      have e3 := blk_cell hz 3
      have e4 := blk_cell hz 4
      have e5 := blk_cell hz 5
      have e6 := blk_cell hz 6
      have e7 := blk_cell hz 7
      have e8 := blk_cell hz 8
      have e9 := blk_cell hze 0
      simp only [List.getElem?_toArray, List.getElem?_cons_zero, List.getElem?_cons_succ] at e0 e1 e2 e3 e4 e5 e6 e7 e8 e9
      clear hz hze
      rw [fin9, if_pos hc]
      clear hc
      simp [Leaves, settle, results, Tryd.results25, go_sem, e0, e1, e2, e3, e4, e5, e6, e7, e8, e9]
      exact ⟨_, _, rfl, Kd.R_reok rfl HZ.out.r7 P7.out.1, Kd.R_reok rfl HZ.out.r8 P7.out.2, HZ.out.low⟩
    · rw [fin9, if_neg hc]
      refine (undo_yes (w.heap.size + 1) w.heap.size _ hc _ _ _ _ _ _ _ _ _ _ HZ.out.er HZ.out.tx).mono ?_
      rintro e u' w'' ⟨rfl, rfl, rfl⟩
      have hz := zset_box _ w.heap.size _ _ _ _ _ _ _ _ _ HZ.out.tx
      have hze := (zset_blk _ w.heap.size (w.heap.size + 1) (by omega)).trans HZ.out.er
      have hzb := zset_below HZ.out.low (Nat.le_refl _)
      generalize ch kd f t am nc ky' vl rs ws = x at hze hc ⊢
      clear HZ
      generalize zset _ w.heap.size = Y at hz hze hzb ⊢
      have d0 : Y.cell? ⟨w.heap.size, 0, none⟩ = some (.int .i64 0) := blk_cell hz 0
      have d1 : Y.cell? ⟨w.heap.size, 1, none⟩ = some (.string ⟨#[]⟩) := blk_cell hz 1
      have d2 : Y.cell? ⟨w.heap.size, 2, none⟩ = some (.string ⟨#[]⟩) := blk_cell hz 2
      have d3 : Y.cell? ⟨w.heap.size, 3, none⟩ = some (.int .u64 0) := blk_cell hz 3
      have d4 : Y.cell? ⟨w.heap.size, 4, none⟩ = some (.int .u64 0) := blk_cell hz 4
      have d5 : Y.cell? ⟨w.heap.size, 5, none⟩ = some (.string ⟨#[]⟩) := blk_cell hz 5
      have d6 : Y.cell? ⟨w.heap.size, 6, none⟩ = some (.string ⟨#[]⟩) := blk_cell hz 6
      have d7 : Y.cell? ⟨w.heap.size, 7, none⟩ = some (.slice none 0 0) := blk_cell hz 7
      have d8 : Y.cell? ⟨w.heap.size, 8, none⟩ = some (.slice none 0 0) := blk_cell hz 8
      have de : Y.cell? ⟨w.heap.size + 1, 0, none⟩ = some (.int .i64 x) := blk_cell hze 0
      clear hz hze
      have HZ := Lib.hid hzb
      clear hzb hc
      simp [Leaves, settle, results, Tryd.results25, go_sem, d0, d1, d2, d3, d4, d5, d6, d7, d8, de]
      exact DP_err _ rfl HZ.out
end Go.Proofs.YtndicjikjcifaaaDoor

/- tx.Decode: all ways joined. -/
namespace Go.Proofs.YtndicjikjcifaaaDoor
open Go.RowKit Go.Shelf Go.Lib Go.Proofs.YtndicjikjcifaaaDoorW.PrintWords Go.Proofs.YtndicjikjcifaaaDoorW.PrintLast
set_option linter.unusedVariables false
set_option linter.unusedSimpArgs false

def bindE {α : Type} (x : α × Int × Int) (s : ByteArray) (k : α → ByteArray → Dec) : Dec := if x.2.2 = 0 then k x.1 (rest s x.2.1) else derr x.2.2
theorem bindE_no {α : Type} {x : α × Int × Int} {s : ByteArray} {k : α → ByteArray → Dec} (h : x.2.2 ≠ 0) : bindE x s k = derr x.2.2 := if_neg h
theorem bindE_ok {α : Type} {x : α × Int × Int} {s s' : ByteArray} {k : α → ByteArray → Dec} {a : α} {n : Int} (h : x = (a, n, 0)) (hr : rest s n = s') : bindE x s k = k a s' := by
  subst h
  subst hr
  exact if_pos rfl
theorem ok_of {α : Type} {x : α × Int × Int} (h : x.2.2 = 0) : ∃ a n, x = (a, n, 0) := ⟨x.1, x.2.1, by rw [← h]⟩
/-- What tx.Decode answers. -/
def dec (s : ByteArray) : Dec :=
  bindE (gi s 9 0 0) s fun kd s1 => bindE (gt s1) s1 fun f s2 => bindE (gt s2) s2 fun t s3 => bindE (gi s3 9 0 0) s3 fun am s4 => bindE (gi s4 9 0 0) s4 fun nc s5 =>
  bindE (gt s5) s5 fun ky' s6 => bindE (gt s6) s6 fun vl s7 => bindE (gl s7 8) s7 fun rs s8 => bindE (gl s8 8) s8 fun ws s9 =>
  if kd ≤ 2 then (if s9.toList.isEmpty = true then fin9 kd f t am nc ky' vl rs ws else derr 6) else derr 2
theorem dec_calls (s : ByteArray) (w : World) (hs : s.size < 4611686018427387904) :
    Calls Tryd.prog 25 #[.string s] w fun e w' => DP (dec s) w e w' := by
  have D : dec s = dec s := rfl
  conv at D => rhs; unfold dec
  by_cases h1 : (gi s 9 0 0).2.2 = 0
  case neg =>
    rw [D.trans (bindE_no h1)]
    exact (dec_no1 s w (Lib.hid h1)).mono fun e w' h => DP_err _ h.1 h.2
  obtain ⟨kd, k1, E1⟩ := ok_of h1
  have hkd := (gi_ok s 9 0 0 (by omega) h1).1
  rw [E1] at hkd
  obtain ⟨s1, R1⟩ : ∃ s1, rest s k1 = s1 := ⟨_, rfl⟩
  have Z1 : s1.size < 4611686018427387904 := by have := rest_size s k1; rw [R1] at this; omega
  have D := D.trans (bindE_ok E1 R1)
  clear h1
  by_cases h2 : (gt s1).2.2 = 0
  case neg =>
    rw [D.trans (bindE_no h2)]
    exact (dec_no2 s s1 kd k1 w (Lib.hid E1) (Lib.hid R1) (Lib.hid Z1) (Lib.hid h2)).mono fun e w' h => DP_err _ h.1 h.2
  obtain ⟨f, k2, E2⟩ := ok_of h2
  obtain ⟨s2, R2⟩ : ∃ s2, rest s1 k2 = s2 := ⟨_, rfl⟩
  have Z2 : s2.size < 4611686018427387904 := by have := rest_size s1 k2; rw [R2] at this; omega
  have D := D.trans (bindE_ok E2 R2)
  clear h2
  by_cases h3 : (gt s2).2.2 = 0
  case neg =>
    rw [D.trans (bindE_no h3)]
    exact (dec_no3 s s1 s2 kd k1 f k2 w (Lib.hid E1) (Lib.hid R1) (Lib.hid Z1) (Lib.hid E2) (Lib.hid R2) (Lib.hid Z2) (Lib.hid h3)).mono fun e w' h => DP_err _ h.1 h.2
  obtain ⟨t, k3, E3⟩ := ok_of h3
  obtain ⟨s3, R3⟩ : ∃ s3, rest s2 k3 = s3 := ⟨_, rfl⟩
  have Z3 : s3.size < 4611686018427387904 := by have := rest_size s2 k3; rw [R3] at this; omega
  have D := D.trans (bindE_ok E3 R3)
  clear h3
  by_cases h4 : (gi s3 9 0 0).2.2 = 0
  case neg =>
    rw [D.trans (bindE_no h4)]
    exact (dec_no4 s s1 s2 s3 kd k1 f k2 t k3 w (Lib.hid E1) (Lib.hid R1) (Lib.hid Z1) (Lib.hid E2) (Lib.hid R2) (Lib.hid Z2) (Lib.hid E3) (Lib.hid R3) (Lib.hid Z3) (Lib.hid h4)).mono fun e w' h => DP_err _ h.1 h.2
  obtain ⟨am, k4, E4⟩ := ok_of h4
  obtain ⟨s4, R4⟩ : ∃ s4, rest s3 k4 = s4 := ⟨_, rfl⟩
  have Z4 : s4.size < 4611686018427387904 := by have := rest_size s3 k4; rw [R4] at this; omega
  have D := D.trans (bindE_ok E4 R4)
  clear h4
  by_cases h5 : (gi s4 9 0 0).2.2 = 0
  case neg =>
    rw [D.trans (bindE_no h5)]
    exact (dec_no5 s s1 s2 s3 s4 kd k1 f k2 t k3 am k4 w (Lib.hid E1) (Lib.hid R1) (Lib.hid Z1) (Lib.hid E2) (Lib.hid R2) (Lib.hid Z2) (Lib.hid E3) (Lib.hid R3) (Lib.hid Z3) (Lib.hid E4) (Lib.hid R4) (Lib.hid Z4) (Lib.hid h5)).mono fun e w' h => DP_err _ h.1 h.2
  obtain ⟨nc, k5, E5⟩ := ok_of h5
  obtain ⟨s5, R5⟩ : ∃ s5, rest s4 k5 = s5 := ⟨_, rfl⟩
  have Z5 : s5.size < 4611686018427387904 := by have := rest_size s4 k5; rw [R5] at this; omega
  have D := D.trans (bindE_ok E5 R5)
  clear h5
  by_cases h6 : (gt s5).2.2 = 0
  case neg =>
    rw [D.trans (bindE_no h6)]
    exact (dec_no6 s s1 s2 s3 s4 s5 kd k1 f k2 t k3 am k4 nc k5 w (Lib.hid E1) (Lib.hid R1) (Lib.hid Z1) (Lib.hid E2) (Lib.hid R2) (Lib.hid Z2) (Lib.hid E3) (Lib.hid R3) (Lib.hid Z3) (Lib.hid E4) (Lib.hid R4) (Lib.hid Z4) (Lib.hid E5) (Lib.hid R5) (Lib.hid Z5) (Lib.hid h6)).mono fun e w' h => DP_err _ h.1 h.2
  obtain ⟨ky', k6, E6⟩ := ok_of h6
  obtain ⟨s6, R6⟩ : ∃ s6, rest s5 k6 = s6 := ⟨_, rfl⟩
  have Z6 : s6.size < 4611686018427387904 := by have := rest_size s5 k6; rw [R6] at this; omega
  have D := D.trans (bindE_ok E6 R6)
  clear h6
  by_cases h7 : (gt s6).2.2 = 0
  case neg =>
    rw [D.trans (bindE_no h7)]
    exact (dec_no7 s s1 s2 s3 s4 s5 s6 kd k1 f k2 t k3 am k4 nc k5 ky' k6 w (Lib.hid E1) (Lib.hid R1) (Lib.hid Z1) (Lib.hid E2) (Lib.hid R2) (Lib.hid Z2) (Lib.hid E3) (Lib.hid R3) (Lib.hid Z3) (Lib.hid E4) (Lib.hid R4) (Lib.hid Z4) (Lib.hid E5) (Lib.hid R5) (Lib.hid Z5) (Lib.hid E6) (Lib.hid R6) (Lib.hid Z6) (Lib.hid h7)).mono fun e w' h => DP_err _ h.1 h.2
  obtain ⟨vl, k7, E7⟩ := ok_of h7
  obtain ⟨s7, R7⟩ : ∃ s7, rest s6 k7 = s7 := ⟨_, rfl⟩
  have Z7 : s7.size < 4611686018427387904 := by have := rest_size s6 k7; rw [R7] at this; omega
  have D := D.trans (bindE_ok E7 R7)
  clear h7
  by_cases h8 : (gl s7 8).2.2 = 0
  case neg =>
    rw [D.trans (bindE_no h8)]
    exact (dec_no8 s s1 s2 s3 s4 s5 s6 s7 kd k1 f k2 t k3 am k4 nc k5 ky' k6 vl k7 w (Lib.hid E1) (Lib.hid R1) (Lib.hid Z1) (Lib.hid E2) (Lib.hid R2) (Lib.hid Z2) (Lib.hid E3) (Lib.hid R3) (Lib.hid Z3) (Lib.hid E4) (Lib.hid R4) (Lib.hid Z4) (Lib.hid E5) (Lib.hid R5) (Lib.hid Z5) (Lib.hid E6) (Lib.hid R6) (Lib.hid Z6) (Lib.hid E7) (Lib.hid R7) (Lib.hid Z7) (Lib.hid h8)).mono fun e w' h => DP_err _ h.1 h.2
  obtain ⟨rs, k8, E8⟩ := ok_of h8
  obtain ⟨s8, R8⟩ : ∃ s8, rest s7 k8 = s8 := ⟨_, rfl⟩
  have Z8 : s8.size < 4611686018427387904 := by have := rest_size s7 k8; rw [R8] at this; omega
  have D := D.trans (bindE_ok E8 R8)
  clear h8
  by_cases h9 : (gl s8 8).2.2 = 0
  case neg =>
    rw [D.trans (bindE_no h9)]
    exact (dec_no9 s s1 s2 s3 s4 s5 s6 s7 s8 kd k1 f k2 t k3 am k4 nc k5 ky' k6 vl k7 rs k8 w (Lib.hid E1) (Lib.hid R1) (Lib.hid Z1) (Lib.hid E2) (Lib.hid R2) (Lib.hid Z2) (Lib.hid E3) (Lib.hid R3) (Lib.hid Z3) (Lib.hid E4) (Lib.hid R4) (Lib.hid Z4) (Lib.hid E5) (Lib.hid R5) (Lib.hid Z5) (Lib.hid E6) (Lib.hid R6) (Lib.hid Z6) (Lib.hid E7) (Lib.hid R7) (Lib.hid Z7) (Lib.hid E8) (Lib.hid R8) (Lib.hid Z8) (Lib.hid h9)).mono fun e w' h => DP_err _ h.1 h.2
  obtain ⟨ws, k9, E9⟩ := ok_of h9
  obtain ⟨s9, R9⟩ : ∃ s9, rest s8 k9 = s9 := ⟨_, rfl⟩
  have Z9 : s9.size < 4611686018427387904 := by have := rest_size s8 k9; rw [R9] at this; omega
  have D := D.trans (bindE_ok E9 R9)
  clear h9
  rw [D]
  clear D
  by_cases hk : kd ≤ 2
  case neg =>
    rw [if_neg hk]
    exact (dec_kind s s1 s2 s3 s4 s5 s6 s7 s8 s9 kd k1 f k2 t k3 am k4 nc k5 ky' k6 vl k7 rs k8 ws k9 w (Lib.hid E1) (Lib.hid R1) (Lib.hid Z1) (Lib.hid E2) (Lib.hid R2) (Lib.hid Z2) (Lib.hid E3) (Lib.hid R3) (Lib.hid Z3) (Lib.hid E4) (Lib.hid R4) (Lib.hid Z4) (Lib.hid E5) (Lib.hid R5) (Lib.hid Z5) (Lib.hid E6) (Lib.hid R6) (Lib.hid Z6) (Lib.hid E7) (Lib.hid R7) (Lib.hid Z7) (Lib.hid E8) (Lib.hid R8) (Lib.hid Z8) (Lib.hid E9) (Lib.hid R9) (Lib.hid Z9) hk).mono fun e w' h => DP_err _ h.1 h.2
  rw [if_pos hk]
  cases hm : s9.toList.isEmpty with
  | false =>
    rw [if_neg (by simp)]
    exact (dec_more s s1 s2 s3 s4 s5 s6 s7 s8 s9 kd k1 f k2 t k3 am k4 nc k5 ky' k6 vl k7 rs k8 ws k9 w (Lib.hid E1) (Lib.hid R1) (Lib.hid Z1) (Lib.hid E2) (Lib.hid R2) (Lib.hid Z2) (Lib.hid E3) (Lib.hid R3) (Lib.hid Z3) (Lib.hid E4) (Lib.hid R4) (Lib.hid Z4) (Lib.hid E5) (Lib.hid R5) (Lib.hid Z5) (Lib.hid E6) (Lib.hid R6) (Lib.hid Z6) (Lib.hid E7) (Lib.hid R7) (Lib.hid Z7) (Lib.hid E8) (Lib.hid R8) (Lib.hid Z8) (Lib.hid E9) (Lib.hid R9) (Lib.hid Z9) hk hm).mono fun e w' h => DP_err _ h.1 h.2
  | true =>
    rw [if_pos rfl]
    exact dec_chk s s1 s2 s3 s4 s5 s6 s7 s8 s9 kd k1 f k2 t k3 am k4 nc k5 ky' k6 vl k7 rs k8 ws k9 w (Lib.hid E1) (Lib.hid R1) (Lib.hid Z1) (Lib.hid E2) (Lib.hid R2) (Lib.hid Z2) (Lib.hid E3) (Lib.hid R3) (Lib.hid Z3) (Lib.hid E4) (Lib.hid R4) (Lib.hid Z4) (Lib.hid E5) (Lib.hid R5) (Lib.hid Z5) (Lib.hid E6) (Lib.hid R6) (Lib.hid Z6) (Lib.hid E7) (Lib.hid R7) (Lib.hid Z7) (Lib.hid E8) (Lib.hid R8) (Lib.hid Z8) (Lib.hid E9) (Lib.hid R9) (Lib.hid Z9) hk hkd hm
end Go.Proofs.YtndicjikjcifaaaDoor

/- tuskref04.In: its four methods, in total form. -/
namespace Go.Proofs.YtndicjikjcifaaaDoor
open Go.RowKit Go.Shelf Go.Lib Go.Proofs.YtndicjikjcifaaaDoorW.PrintWords Go.Proofs.YtndicjikjcifaaaDoorW.PrintLast
set_option linter.unusedVariables false
set_option linter.unusedSimpArgs false

/-- The step of a reader that remembers its first error. -/
def inG {α : Type} (z : α) (g : ByteArray → α × Int × Int) (S : ByteArray) (E : Int) : α × ByteArray × Int := if E = 0 then ((g S).1, rest S (g S).2.1, (g S).2.2) else (z, S, E)
/-- The reader's block, after what was read. -/
structure Ri (p : Nat) (S : ByteArray) (E : Int) (w w' : World) : Prop where
  box : w'.heap[p]? = some (.cells #[.string S, .int .i64 E] 84 (0, 0))
  only : Only (fun k => k = p) w w'
theorem Ri.of_below {p : Nat} {S S' : ByteArray} {E E' : Int} {w w1 : World} (h : w1.heap[p]? = some (.cells #[.string S, .int .i64 E] 84 (0, 0))) (hd : Below w.heap.size w w1) :
    Ri p S' E' w ((w1.setCell ⟨p, 1, none⟩ (.int .i64 E')).setCell ⟨p, 0, none⟩ (.string S')) :=
  ⟨by simpa using blk_set (blk_set h 1 (.int .i64 E')) 0 (.string S'), ((Only.of_below (S := fun k => k = p) hd).set (p := ⟨p, 1, none⟩) (.inl rfl) _).set (p := ⟨p, 0, none⟩) (.inl rfl) _⟩
theorem Ri.same {p : Nat} {S : ByteArray} {E : Int} {w : World} (h : w.heap[p]? = some (.cells #[.string S, .int .i64 E] 84 (0, 0))) : Ri p S E w w := ⟨h, Only.refl _ _⟩
end Go.Proofs.YtndicjikjcifaaaDoor

/- tuskref04.Decode: the walk. (Laid by wip/tools/refdecgen.py.) -/
namespace Go.Proofs.YtndicjikjcifaaaDoor
open Go.RowKit Go.Shelf Go.Lib Go.Proofs.YtndicjikjcifaaaDoorW.PrintWords Go.Proofs.YtndicjikjcifaaaDoorW.PrintLast
set_option linter.unusedVariables false
set_option linter.unusedSimpArgs false

/-- The three boxes at a world: the result, the reader, the transaction. -/
structure Dy (w : World) (b0 b1 b2 b3 b4 b5 b6 b7 b8 : Value) (s : ByteArray) (E : Int) (W : World) : Prop where
  low : Below w.heap.size w W
  res : W.heap[w.heap.size]? = some (.cells #[.int .i64 0, .string ⟨#[]⟩, .string ⟨#[]⟩, .int .u64 0, .int .u64 0, .string ⟨#[]⟩, .string ⟨#[]⟩, .slice none 0 0, .slice none 0 0] 33 (0, 0))
  inn : W.heap[w.heap.size + 1]? = some (.cells #[.string s, .int .i64 E] 84 (0, 0))
  tx : W.heap[w.heap.size + 1 + 1]? = some (.cells #[b0, b1, b2, b3, b4, b5, b6, b7, b8] 33 (0, 0))
theorem below_low {w W W' : World} {B : Nat} (h : Below B w W) (hb : Below B W W') : Below B w W' :=
  h.trans hb
theorem Dy.size {w W : World} {b0 b1 b2 b3 b4 b5 b6 b7 b8 : Value} {s : ByteArray} {E : Int} (h : Dy w b0 b1 b2 b3 b4 b5 b6 b7 b8 s E W) : w.heap.size + 1 + 1 < W.heap.size := blk_lt h.tx
theorem Dy.read {w W W' : World} {b0 b1 b2 b3 b4 b5 b6 b7 b8 : Value} {s s' : ByteArray} {E E' : Int} (h : Dy w b0 b1 b2 b3 b4 b5 b6 b7 b8 s E W) (hr : Ri (w.heap.size + 1) s' E' W W') : Dy w b0 b1 b2 b3 b4 b5 b6 b7 b8 s' E' W' :=
  ⟨below_low h.low (hr.only.below (B := w.heap.size) h.low.size (fun i hi => by omega)), (hr.only.block _ (blk_lt h.res) (by omega)).trans h.res, hr.box, (hr.only.block _ (blk_lt h.tx) (by omega)).trans h.tx⟩
theorem Dy.step {w W W' : World} {b0 b1 b2 b3 b4 b5 b6 b7 b8 : Value} {s : ByteArray} {E : Int} (h : Dy w b0 b1 b2 b3 b4 b5 b6 b7 b8 s E W) (hb : Below W.heap.size W W') : Dy w b0 b1 b2 b3 b4 b5 b6 b7 b8 s E W' :=
  ⟨below_then h.low h.low.size hb, (hb.block _ (blk_lt h.res)).trans h.res, (hb.block _ (blk_lt h.inn)).trans h.inn, (hb.block _ (blk_lt h.tx)).trans h.tx⟩
theorem Dy.set0 {w W : World} {b0 b1 b2 b3 b4 b5 b6 b7 b8 : Value} {s : ByteArray} {E : Int} (h : Dy w b0 b1 b2 b3 b4 b5 b6 b7 b8 s E W) (v : Value) : Dy w v b1 b2 b3 b4 b5 b6 b7 b8 s E (W.setCell ⟨w.heap.size + 1 + 1, 0, none⟩ v) :=
  ⟨h.low.setCell (by simp; omega) v, (Below.heap_setCell _ _ _ _ (by simp; omega)).trans h.res, (Below.heap_setCell _ _ _ _ (by simp)).trans h.inn, by simpa using blk_set h.tx 0 v⟩
theorem Dy.set1 {w W : World} {b0 b1 b2 b3 b4 b5 b6 b7 b8 : Value} {s : ByteArray} {E : Int} (h : Dy w b0 b1 b2 b3 b4 b5 b6 b7 b8 s E W) (v : Value) : Dy w b0 v b2 b3 b4 b5 b6 b7 b8 s E (W.setCell ⟨w.heap.size + 1 + 1, 1, none⟩ v) :=
  ⟨h.low.setCell (by simp; omega) v, (Below.heap_setCell _ _ _ _ (by simp; omega)).trans h.res, (Below.heap_setCell _ _ _ _ (by simp)).trans h.inn, by simpa using blk_set h.tx 1 v⟩
theorem Dy.set2 {w W : World} {b0 b1 b2 b3 b4 b5 b6 b7 b8 : Value} {s : ByteArray} {E : Int} (h : Dy w b0 b1 b2 b3 b4 b5 b6 b7 b8 s E W) (v : Value) : Dy w b0 b1 v b3 b4 b5 b6 b7 b8 s E (W.setCell ⟨w.heap.size + 1 + 1, 2, none⟩ v) :=
  ⟨h.low.setCell (by simp; omega) v, (Below.heap_setCell _ _ _ _ (by simp; omega)).trans h.res, (Below.heap_setCell _ _ _ _ (by simp)).trans h.inn, by simpa using blk_set h.tx 2 v⟩
theorem Dy.set3 {w W : World} {b0 b1 b2 b3 b4 b5 b6 b7 b8 : Value} {s : ByteArray} {E : Int} (h : Dy w b0 b1 b2 b3 b4 b5 b6 b7 b8 s E W) (v : Value) : Dy w b0 b1 b2 v b4 b5 b6 b7 b8 s E (W.setCell ⟨w.heap.size + 1 + 1, 3, none⟩ v) :=
  ⟨h.low.setCell (by simp; omega) v, (Below.heap_setCell _ _ _ _ (by simp; omega)).trans h.res, (Below.heap_setCell _ _ _ _ (by simp)).trans h.inn, by simpa using blk_set h.tx 3 v⟩
theorem Dy.set4 {w W : World} {b0 b1 b2 b3 b4 b5 b6 b7 b8 : Value} {s : ByteArray} {E : Int} (h : Dy w b0 b1 b2 b3 b4 b5 b6 b7 b8 s E W) (v : Value) : Dy w b0 b1 b2 b3 v b5 b6 b7 b8 s E (W.setCell ⟨w.heap.size + 1 + 1, 4, none⟩ v) :=
  ⟨h.low.setCell (by simp; omega) v, (Below.heap_setCell _ _ _ _ (by simp; omega)).trans h.res, (Below.heap_setCell _ _ _ _ (by simp)).trans h.inn, by simpa using blk_set h.tx 4 v⟩
theorem Dy.set5 {w W : World} {b0 b1 b2 b3 b4 b5 b6 b7 b8 : Value} {s : ByteArray} {E : Int} (h : Dy w b0 b1 b2 b3 b4 b5 b6 b7 b8 s E W) (v : Value) : Dy w b0 b1 b2 b3 b4 v b6 b7 b8 s E (W.setCell ⟨w.heap.size + 1 + 1, 5, none⟩ v) :=
  ⟨h.low.setCell (by simp; omega) v, (Below.heap_setCell _ _ _ _ (by simp; omega)).trans h.res, (Below.heap_setCell _ _ _ _ (by simp)).trans h.inn, by simpa using blk_set h.tx 5 v⟩
theorem Dy.set6 {w W : World} {b0 b1 b2 b3 b4 b5 b6 b7 b8 : Value} {s : ByteArray} {E : Int} (h : Dy w b0 b1 b2 b3 b4 b5 b6 b7 b8 s E W) (v : Value) : Dy w b0 b1 b2 b3 b4 b5 v b7 b8 s E (W.setCell ⟨w.heap.size + 1 + 1, 6, none⟩ v) :=
  ⟨h.low.setCell (by simp; omega) v, (Below.heap_setCell _ _ _ _ (by simp; omega)).trans h.res, (Below.heap_setCell _ _ _ _ (by simp)).trans h.inn, by simpa using blk_set h.tx 6 v⟩
theorem Dy.set7 {w W : World} {b0 b1 b2 b3 b4 b5 b6 b7 b8 : Value} {s : ByteArray} {E : Int} (h : Dy w b0 b1 b2 b3 b4 b5 b6 b7 b8 s E W) (v : Value) : Dy w b0 b1 b2 b3 b4 b5 b6 v b8 s E (W.setCell ⟨w.heap.size + 1 + 1, 7, none⟩ v) :=
  ⟨h.low.setCell (by simp; omega) v, (Below.heap_setCell _ _ _ _ (by simp; omega)).trans h.res, (Below.heap_setCell _ _ _ _ (by simp)).trans h.inn, by simpa using blk_set h.tx 7 v⟩
theorem Dy.set8 {w W : World} {b0 b1 b2 b3 b4 b5 b6 b7 b8 : Value} {s : ByteArray} {E : Int} (h : Dy w b0 b1 b2 b3 b4 b5 b6 b7 b8 s E W) (v : Value) : Dy w b0 b1 b2 b3 b4 b5 b6 b7 v s E (W.setCell ⟨w.heap.size + 1 + 1, 8, none⟩ v) :=
  ⟨h.low.setCell (by simp; omega) v, (Below.heap_setCell _ _ _ _ (by simp; omega)).trans h.res, (Below.heap_setCell _ _ _ _ (by simp)).trans h.inn, by simpa using blk_set h.tx 8 v⟩
theorem Ri.row {p : Nat} {S S' : ByteArray} {E E' : Int} {w w' : World} (h : Ri p S' E' w w') (hb : w.heap[p]? = some (.cells #[.string S, .int .i64 E] 84 (0, 0))) {base : Nat} {v : Value} {xs : List ByteArray}
    (hR : Kd.R Kd.string 9 w base (fun k => some k = v.ownBlock) v xs) : Kd.R Kd.string 9 w' base (fun k => some k = v.ownBlock) v xs :=
  Kd.R_only hR h.only (fun k hk e => Kd.R_ne hR hb (by decide) (by rw [← hk, e]))
theorem Dy.first (w : World) (s : ByteArray) : Dy w (.int .i64 0) (.string ⟨#[]⟩) (.string ⟨#[]⟩) (.int .u64 0) (.int .u64 0) (.string ⟨#[]⟩) (.string ⟨#[]⟩) (.slice none 0 0) (.slice none 0 0) s 0
    (((w.alloc (.cells #[.int .i64 0, .string ⟨#[]⟩, .string ⟨#[]⟩, .int .u64 0, .int .u64 0, .string ⟨#[]⟩, .string ⟨#[]⟩, .slice none 0 0, .slice none 0 0] 33)).alloc (.cells #[.string s, .int .i64 0] 84)).alloc (.cells #[.int .i64 0, .string ⟨#[]⟩, .string ⟨#[]⟩, .int .u64 0, .int .u64 0, .string ⟨#[]⟩, .string ⟨#[]⟩, .slice none 0 0, .slice none 0 0] 33)) :=
  ⟨(((Below.refl _ w).alloc (Nat.le_refl _) _).alloc (by simp) _).alloc (by simp; omega) _, blk_alloc (blk_alloc (blk_new _ _) _) _, blk_alloc (blk_newAt _ _ (by simp)) _, blk_newAt _ _ (by simp)⟩
/-- What comes of what was read. -/
def fin2 (e9 kd : Int) (f t : ByteArray) (am nc : Int) (ky' vl : ByteArray) (rs ws : List ByteArray) (s9 : ByteArray) : Dec :=
  if e9 ≠ 0 then derr e9 else if kd ≤ 2 then (if s9.toList.isEmpty = true then fin9 kd f t am nc ky' vl rs ws else derr 6) else derr 2
structure Dz (w : World) (b0 b1 b2 b3 b4 b5 b6 b7 b8 : Value) (s : ByteArray) (E : Int) (rs ws : List ByteArray) (W : World) : Prop where
  y : Dy w b0 b1 b2 b3 b4 b5 b6 b7 b8 s E W
  r7 : Kd.R Kd.string 9 W w.heap.size (fun k => some k = b7.ownBlock) b7 rs
  r8 : Kd.R Kd.string 9 W w.heap.size (fun k => some k = b8.ownBlock) b8 ws
theorem Dz.read {w W W' : World} {b0 b1 b2 b3 b4 b5 b6 b7 b8 : Value} {s s' : ByteArray} {E E' : Int} {rs ws : List ByteArray} (h : Dz w b0 b1 b2 b3 b4 b5 b6 b7 b8 s E rs ws W) (hr : Ri (w.heap.size + 1) s' E' W W') : Dz w b0 b1 b2 b3 b4 b5 b6 b7 b8 s' E' rs ws W' :=
  ⟨h.y.read hr, hr.row h.y.inn h.r7, hr.row h.y.inn h.r8⟩
theorem Dz.step {w W W' : World} {b0 b1 b2 b3 b4 b5 b6 b7 b8 : Value} {s : ByteArray} {E : Int} {rs ws : List ByteArray} (h : Dz w b0 b1 b2 b3 b4 b5 b6 b7 b8 s E rs ws W) (hb : Below W.heap.size W W') : Dz w b0 b1 b2 b3 b4 b5 b6 b7 b8 s E rs ws W' :=
  ⟨h.y.step hb, Kd.R_below h.r7 hb, Kd.R_below h.r8 hb⟩
theorem Dz.set0 {w W : World} {b0 b1 b2 b3 b4 b5 b6 b7 b8 : Value} {s : ByteArray} {E : Int} {rs ws : List ByteArray} (h : Dz w b0 b1 b2 b3 b4 b5 b6 b7 b8 s E rs ws W) (v : Value) : Dz w v b1 b2 b3 b4 b5 b6 b7 b8 s E rs ws (W.setCell ⟨w.heap.size + 1 + 1, 0, none⟩ v) :=
  have ht : ∀ q, q ∈ 9 :: Kd.string.E → q ≠ 33 := by intro q hq; simp [Kd.string, Kd.scalar] at hq; subst hq; decide
  ⟨h.y.set0 v, Kd.R_set h.r7 h.y.tx ht _ _, Kd.R_set h.r8 h.y.tx ht _ _⟩
structure RdFr (w : World) (c : Array Value) (b7 b8 : Value) (rs ws : List ByteArray) (W : World) : Prop where
  low : Below w.heap.size w W
  res : W.heap[w.heap.size]? = some (.cells c 33 (0, 0))
  r7 : Kd.R Kd.string 9 W w.heap.size (fun k => some k = b7.ownBlock) b7 rs
  r8 : Kd.R Kd.string 9 W w.heap.size (fun k => some k = b8.ownBlock) b8 ws
theorem RdFr.set {w W : World} {c : Array Value} {b7 b8 : Value} {rs ws : List ByteArray} (h : RdFr w c b7 b8 rs ws W) (i : Nat) (v : Value) : RdFr w (c.setIfInBounds i v) b7 b8 rs ws (W.setCell ⟨w.heap.size, i, none⟩ v) :=
  have ht : ∀ q, q ∈ 9 :: Kd.string.E → q ≠ 33 := by intro q hq; simp [Kd.string, Kd.scalar] at hq; subst hq; decide
  ⟨h.low.setCell (by simp) v, blk_set h.res i v, Kd.R_set h.r7 h.res ht _ _, Kd.R_set h.r8 h.res ht _ _⟩
theorem RdFr.made {w W : World} {b0 b1 b2 b3 b4 b5 b6 b7 b8 : Value} {s : ByteArray} {E : Int} {rs ws : List ByteArray} (h : Dz w b0 b1 b2 b3 b4 b5 b6 b7 b8 s E rs ws W) (c0 c1 c2 c3 c4 c5 c6 c7 c8 : Value) :
    RdFr w #[c0, c1, c2, c3, c4, c5, c6, c7, c8] b7 b8 rs ws (((((((((W.setCell ⟨w.heap.size, 0, none⟩ c0).setCell ⟨w.heap.size, 1, none⟩ c1).setCell ⟨w.heap.size, 2, none⟩ c2).setCell ⟨w.heap.size, 3, none⟩ c3).setCell ⟨w.heap.size, 4, none⟩ c4).setCell ⟨w.heap.size, 5, none⟩ c5).setCell ⟨w.heap.size, 6, none⟩ c6).setCell ⟨w.heap.size, 7, none⟩ c7).setCell ⟨w.heap.size, 8, none⟩ c8) := by
  have h0 : RdFr w _ b7 b8 rs ws W := ⟨h.y.low, h.y.res, h.r7, h.r8⟩
  have := ((((((((h0.set 0 c0).set 1 c1).set 2 c2).set 3 c3).set 4 c4).set 5 c5).set 6 c6).set 7 c7).set 8 c8
  simpa using this
theorem RdFr.drew {w W : World} {c : Array Value} {b7 b8 : Value} {rs ws : List ByteArray} (h : RdFr w c b7 b8 rs ws W) : RdFr w c b7 b8 rs ws W.drew :=
  ⟨h.low.drew, h.res, Kd.R_drew h.r7, Kd.R_drew h.r8⟩
end Go.Proofs.YtndicjikjcifaaaDoor


/- tuskref04.Decode: it answers as tx.Decode. -/
namespace Go.Proofs.YtndicjikjcifaaaDoor
open Go.RowKit Go.Shelf Go.Lib Go.Proofs.YtndicjikjcifaaaDoorW.PrintWords Go.Proofs.YtndicjikjcifaaaDoorW.PrintLast
set_option linter.unusedVariables false
set_option linter.unusedSimpArgs false

def D9 (kd : Int) (f : ByteArray) (t : ByteArray) (am : Int) (nc : Int) (ky' : ByteArray) (vl : ByteArray) (rs : List ByteArray) (ws : List ByteArray) (S : ByteArray) (E : Int) : Dec := fin2 E kd f t am nc ky' vl rs ws S
def D8 (kd : Int) (f : ByteArray) (t : ByteArray) (am : Int) (nc : Int) (ky' : ByteArray) (vl : ByteArray) (rs : List ByteArray) (S : ByteArray) (E : Int) : Dec := D9 kd f t am nc ky' vl rs (inG ([] : List ByteArray) (fun s => gl s 8) S E).1 (inG ([] : List ByteArray) (fun s => gl s 8) S E).2.1 (inG ([] : List ByteArray) (fun s => gl s 8) S E).2.2
def D7 (kd : Int) (f : ByteArray) (t : ByteArray) (am : Int) (nc : Int) (ky' : ByteArray) (vl : ByteArray) (S : ByteArray) (E : Int) : Dec := D8 kd f t am nc ky' vl (inG ([] : List ByteArray) (fun s => gl s 8) S E).1 (inG ([] : List ByteArray) (fun s => gl s 8) S E).2.1 (inG ([] : List ByteArray) (fun s => gl s 8) S E).2.2
end Go.Proofs.YtndicjikjcifaaaDoor

/- batch.Decode: what it answers, in plain words. -/
namespace Go.Proofs.YtndicjikjcifaaaDoor
open Go.RowKit Go.Shelf Go.Lib Go.Proofs.YtndicjikjcifaaaDoorW.PrintWords Go.Proofs.YtndicjikjcifaaaDoorW.PrintLast
open PB (S33 k33)
set_option linter.unusedVariables false
set_option linter.unusedSimpArgs false

theorem bgt_size (a : ByteArray) : (gt a).1.size ≤ a.size := by
  have e : (⟨#[]⟩ : ByteArray).size = 0 := rfl
  unfold gt
  repeat' split
  all_goals first | (simp only [ByteArray.size_extract]; omega) | (simp only [e]; omega)
theorem bglL_size (a : ByteArray) : ∀ c p acc M, a.size ≤ M → (∀ x ∈ acc, x.size ≤ M) → ∀ x ∈ (glL a c p acc).1, x.size ≤ M
  | 0, p, acc, M, hM, h, x, hx => h x hx
  | c + 1, p, acc, M, hM, h, x, hx => by
    rw [glL] at hx
    split at hx
    · refine bglL_size a c _ _ M hM (fun y hy => ?_) x hx
      rcases List.mem_append.1 hy with hy | hy
      · exact h y hy
      · rw [List.mem_singleton.1 hy]
        have := bgt_size (a.extract p a.size)
        rw [ByteArray.size_extract] at this
        omega
    · simp at hx
theorem bgl_size (a : ByteArray) (m : Int) : ∀ x ∈ (gl a m).1, x.size ≤ a.size := by
  intro x hx
  unfold gl at hx
  repeat' split at hx
  · simp at hx
  · exact bglL_size a _ _ _ _ (Nat.le_refl _) (by simp) x hx
  · simp at hx
abbrev BDec := Int × Int × List S33 × Int
def bnil (e : Int) : BDec := (0, 0, [], e)
def toS (r : Dec) : S33 := ⟨r.1, r.2.1, r.2.2.1, r.2.2.2.1, r.2.2.2.2.1, r.2.2.2.2.2.1, r.2.2.2.2.2.2.1, r.2.2.2.2.2.2.2.1, r.2.2.2.2.2.2.2.2.1⟩
def errD (r : Dec) : Int := r.2.2.2.2.2.2.2.2.2
/-- All are read, up to the first error. -/
def dall : List ByteArray → List S33 × Int
  | [] => ([], 0)
  | x :: r => if errD (dec x) = 0 then (toS (dec x) :: (dall r).1, (dall r).2) else ([], errD (dec x))
def bfin (a n : Int) (s : ByteArray) (k : Int) (D : List S33 × Int) : BDec :=
  if D.2 = 0 then (if k < (s.size : Int) then bnil 6 else if 6 < a then bnil 2 else if bchk a n D.1 = 0 then (a, n, D.1, 0) else bnil (bchk a n D.1)) else bnil D.2
def bdec2 (a n : Int) (s : ByteArray) : BDec := if (gl s 16).2.2 = 0 then bfin a n s (gl s 16).2.1 (dall (gl s 16).1) else bnil (gl s 16).2.2
def bdec1 (a : Int) (s : ByteArray) : BDec := if (gi s 9 0 0).2.2 = 0 then bdec2 a (gi s 9 0 0).1 (rest s (gi s 9 0 0).2.1) else bnil (gi s 9 0 0).2.2
/-- What batch.Decode answers. -/
def bdec (s : ByteArray) : BDec := if (gi s 9 0 0).2.2 = 0 then bdec1 (gi s 9 0 0).1 (rest s (gi s 9 0 0).2.1) else bnil (gi s 9 0 0).2.2
/-- A batch in a result. -/
def BP (r : BDec) (w : World) (e : Ending) (w' : World) : Prop :=
  ∃ A c, e = .returned (.tuple #[.agg #[.int .i64 r.1, .int .i64 r.2.1, .slice A r.2.2.1.length c], .int .i64 r.2.2.2]) ∧ r.2.2.1.length ≤ c ∧ Foot (fun W => k33.C W A r.2.2.1.length r.2.2.1) w' (fun k => w.heap.size ≤ k ∧ k < w'.heap.size) ∧ Below w.heap.size w w'
theorem dall_at (l : List ByteArray) (j : Nat) (hj : j < l.length) : l.drop j = rdOf ByteArray.empty l (j : Int) :: l.drop (j + 1) := by
  rw [List.drop_eq_getElem_cons hj]
  congr 1
  simp [rdOf, hj]
theorem bdec_tx (s : ByteArray) (w : World) (hs : s.size < 4611686018427387904) {k0 : Int} {f0 t0 : ByteArray} {am0 nc0 : Int} {ky0 vl0 : ByteArray} {rs0 ws0 : List ByteArray} {er : Int} (hr : dec s = (k0, f0, t0, am0, nc0, ky0, vl0, rs0, ws0, er)) :
    Calls Tryd.prog 25 #[.string s] w fun e w' => ∃ A7 c7 A8 c8, e = .returned (.tuple #[.agg #[.int .i64 k0, .string f0, .string t0, .int .u64 am0, .int .u64 nc0, .string ky0, .string vl0, .slice A7 rs0.length c7, .slice A8 ws0.length c8], .int .i64 er])
      ∧ Kd.F Kd.string w' (fun k => w.heap.size ≤ k ∧ k < w'.heap.size) A7 rs0.length rs0 ∧ rs0.length ≤ c7 ∧ Kd.F Kd.string w' (fun k => w.heap.size ≤ k ∧ k < w'.heap.size) A8 ws0.length ws0 ∧ ws0.length ≤ c8 ∧ Below w.heap.size w w' := by
  refine (dec_calls s w hs).mono fun e w' h => ?_
  rw [hr] at h
  obtain ⟨v8, v9, he, h8, h9, hb⟩ := h
  dsimp only at he h8 h9
  obtain ⟨A7, c7, rfl⟩ := Kd.R_slice h8
  obtain ⟨A8, c8, rfl⟩ := Kd.R_slice h9
  exact ⟨A7, c7, A8, c8, he, Kd.F_mono (Kd.R_F (Kd.R_bound h8)) (fun k hk => ⟨hk.2.1, hk.2.2.1⟩), (Kd.R_reads' h8).2.1, Kd.F_mono (Kd.R_F (Kd.R_bound h9)) (fun k hk => ⟨hk.2.1, hk.2.2.1⟩), (Kd.R_reads' h9).2.1, hb⟩
end Go.Proofs.YtndicjikjcifaaaDoor

/- tuskref04.In: its List, for lists of up to 16; what its methods do, in the small logic. -/
namespace Go.Proofs.YtndicjikjcifaaaDoor
open Go.RowKit Go.Shelf Go.Lib Go.Proofs.YtndicjikjcifaaaDoorW.PrintWords Go.Proofs.YtndicjikjcifaaaDoorW.PrintLast
set_option linter.unusedVariables false
set_option linter.unusedSimpArgs false
end Go.Proofs.YtndicjikjcifaaaDoor

/- The document's reader of batches: the plain law. -/
namespace Go.Proofs.YtndicjikjcifaaaDoor
open Go.RowKit Go.Shelf Go.Lib Go.Proofs.YtndicjikjcifaaaDoorW.PrintWords Go.Proofs.YtndicjikjcifaaaDoorW.PrintLast
open PB (S33 k33)
set_option linter.unusedVariables false
set_option linter.unusedSimpArgs false
end Go.Proofs.YtndicjikjcifaaaDoor

/- tuskref05.Same of the same batch; what batch.Decode's lists are like. -/
namespace Go.Proofs.YtndicjikjcifaaaDoor
open Go.RowKit Go.Proofs.YtndicjikjcifaaaDoorW.PrintWords Go.Proofs.YtndicjikjcifaaaDoorW.PrintLast
open PB (S33 k33)
set_option linter.unusedVariables false
set_option linter.unusedSimpArgs false
theorem bsame1_l (xs : List ByteArray) (hx : xs.length < 4611686018427387904) : ∀ d i K, i + d = xs.length → d + 1 ≤ K → PB.tuskref01_Same.l0 K xs xs i = some true
  | 0, i, 0, hi, hK => by omega
  | 0, i, K + 1, hi, hK => by rw [PB.tuskref01_Same.l0, if_neg (by omega)]
  | d + 1, i, 0, hi, hK => by omega
  | d + 1, i, K + 1, hi, hK => by
    have hw : wrap64 ((i : Int) + 1) = ((i + 1 : Nat) : Int) := by rw [w64 _ (by omega) (by omega)]; push_cast; rfl
    rw [PB.tuskref01_Same.l0, if_pos (by omega), if_pos (by omega), if_pos (by omega), if_pos rfl, hw]
    exact bsame1_l xs hx d (i + 1) K (by omega) (by omega)
theorem bsame1 (xs : List ByteArray) (hx : xs.length < 4611686018427387904) (K : Nat) (hK : xs.length + 1 ≤ K) : PB.tuskref01_Same.f K xs xs = some true := by
  rw [PB.tuskref01_Same.f, if_pos rfl]
  exact bsame1_l xs hx xs.length 0 K (by omega) hK
def LenT (t : S33) : Prop := t.f7.length < 4611686018427387904 ∧ t.f8.length < 4611686018427387904
theorem bsame4 (t : S33) (h : LenT t) (K : Nat) (hK : 4611686018427387904 ≤ K) : PB.tuskref04_Same.f K t.f0 t.f1 t.f2 t.f3 t.f4 t.f5 t.f6 t.f7 t.f8 t.f0 t.f1 t.f2 t.f3 t.f4 t.f5 t.f6 t.f7 t.f8 = some true := by
  rw [PB.tuskref04_Same.f]
  have h7 := h.1
  have h8 := h.2
  simp [bsame1 t.f7 h.1 K (by omega), bsame1 t.f8 h.2 K (by omega)]
theorem bsame_l (a n : Int) (l : List S33) (hl : l.length < 4611686018427387904) (hL : ∀ t ∈ l, LenT t) : ∀ d i K, i + d = l.length → d + 4611686018427387905 ≤ K → PB.tuskref05_Same.l0 K (i : Int) a n l a n l = some true
  | 0, i, 0, hi, hK => by omega
  | 0, i, K + 1, hi, hK => by rw [PB.tuskref05_Same.l0, if_neg (by omega)]
  | d + 1, i, 0, hi, hK => by omega
  | d + 1, i, K + 1, hi, hK => by
    have hw : wrap64 ((i : Int) + 1) = ((i + 1 : Nat) : Int) := by rw [w64 _ (by omega) (by omega)]; push_cast; rfl
    have ht : LenT (PB.rd_T33 l (i : Int)) := by
      have e := drop_rd l i (by omega)
      exact hL _ (List.mem_of_mem_drop (i := i) (by rw [e]; exact List.mem_cons_self))
    rw [PB.tuskref05_Same.l0, if_pos (by omega), if_pos (by omega), if_pos (by omega), bsame4 _ ht K (by omega), Option.bind_some, if_pos rfl, hw]
    exact bsame_l a n l hl hL d (i + 1) K (by omega) (by omega)
theorem bsame_calls (a n : Int) (A A' : Option Addr) (c c' : Nat) (l : List S33) (w : World) (hl : l.length < 4611686018427387904) (hL : ∀ t ∈ l, LenT t) (hr : k33.C w A l.length l) (hc : l.length ≤ c) (hr' : k33.C w A' l.length l) (hc' : l.length ≤ c') :
    Calls Tryd.prog 23 #[.agg #[.int .i64 a, .int .i64 n, .slice A l.length c], .agg #[.int .i64 a, .int .i64 n, .slice A' l.length c']] w fun e w' => e = .returned (.bool true) ∧ Below w.heap.size w w' := by
  refine PB.tuskref05_Same.calls (l.length + 4611686018427387906) a n A c l a n A' c' l true w hr hc hr' hc' ?_
  rw [PB.tuskref05_Same.f, if_pos rfl, if_pos rfl, show l.length + 4611686018427387906 = (l.length + 4611686018427387905) + 1 from rfl, PB.tuskref05_Same.j0, if_neg (by simp)]
  exact bsame_l a n l hl hL l.length 0 _ (by omega) (by omega)
end Go.Proofs.YtndicjikjcifaaaDoor

/- tx.Needs, tx.Fits. -/
namespace Go.Proofs
open Go.Shelf
end Go.Proofs
namespace Go.Proofs.YtndicjikjcifaaaDoor
open Go.RowKit Go.Shelf Go.Lib Go.Sort Go.Proofs.YtndicjikjcifaaaDoorW.PrintWords Go.Proofs.YtndicjikjcifaaaDoorW.PrintLast
set_option linter.unusedVariables false
set_option linter.unusedSimpArgs false

def mn (x y : ByteArray) : ByteArray := if lts y x = true then y else x
def mx (x y : ByteArray) : ByteArray := if lts y x = true then x else y
/-- Of a sorted pair each once. -/
def one2 (x y : ByteArray) : List ByteArray := if x.toList = y.toList then [x] else [x, y]
def nA (f : ByteArray) : ByteArray := ⟨#[97, 58]⟩ ++ f
def nK (f : ByteArray) : ByteArray := ⟨#[107, 58]⟩ ++ f
def nB (k : Int) (t ky' : ByteArray) : ByteArray := if k = 2 then nK ky' else nA t
def need (k : Int) (f t : ByteArray) (am nc : Int) (ky' vl : ByteArray) (rs ws : List ByteArray) : List ByteArray :=
  if ch k f t am nc ky' vl rs ws = 0 then one2 (mn (nA f) (nB k t ky')) (mx (nA f) (nB k t ky')) else []
/-- The printer's form. -/
def tx_Needs.f (k : Int) (f t : ByteArray) (am nc : Int) (ky' vl : ByteArray) (rs ws : List ByteArray) : Option (List ByteArray) := some (need k f t am nc ky' vl rs ws)
end Go.Proofs.YtndicjikjcifaaaDoor

namespace Go.Proofs.YtndicjikjcifaaaDoor.POw
open Go.RowKit Go.Proofs.YtndicjikjcifaaaDoorW.PrintWords Go.Proofs.YtndicjikjcifaaaDoorW.PrintLast Go.Proofs.YtndicjikjcifaaaDoorW.PrintMore
attribute [local go_sem] max2_int min2_int max_two min_two max_three min_three max_four min_four   -- for this text's walks alone
set_option linter.unusedVariables false
set_option linter.unusedSimpArgs false

def errW : Option Int → Value
  | none => .nilIface
  | some c => .iface 0 (.int .i64 c)
theorem errW_none : errW none = .nilIface := rfl
theorem errW_some (c : Int) : errW (some c) = .iface 0 (.int .i64 c) := rfl

theorem info9 : (Tryd.prog.info? 9).map (fun i => (i.zero, i.size, i.bytes)) = some (some (.string ⟨#[]⟩), 1, 16) := by kernel_rfl
-- the values' own types

end Go.Proofs.YtndicjikjcifaaaDoor.POw

namespace Go.Proofs.YtndicjikjcifaaaDoor.POw
open Go.RowKit Go.Proofs.YtndicjikjcifaaaDoorW.PrintWords Go.Proofs.YtndicjikjcifaaaDoorW.PrintLast Go.Proofs.YtndicjikjcifaaaDoorW.PrintMore
attribute [local go_sem] max2_int min2_int max_two min_two max_three min_three max_four min_four   -- for this text's walks alone
set_option linter.unusedVariables false
set_option linter.unusedSimpArgs false

/-! ### tusklaw04_Own: function 19 -/
def tusklaw04_Own.f (a0_0 : Int) (a0_1 : ByteArray) (a0_2 : ByteArray) (a0_3 : Int) (a0_4 : Int) (a0_5 : ByteArray) (a0_6 : ByteArray) (l0_7 : List ByteArray) (l0_8 : List ByteArray) : Option (Int × ByteArray × ByteArray × Int × Int × ByteArray × ByteArray × List ByteArray × List ByteArray) := (some (([] : List ByteArray) : List ByteArray)).bind fun y103 => (if y103.length + l0_7.length < 8796093022208 then ((some (([] : List ByteArray) : List ByteArray)).bind fun y109 => (if y109.length + l0_8.length < 8796093022208 then (some (a0_0, a0_1, a0_2, a0_3, a0_4, a0_5, a0_6, (y103 ++ l0_7), (y109 ++ l0_8))) else (none))) else (none))
end Go.Proofs.YtndicjikjcifaaaDoor.POw

/- From an argument's reading as data to a plain Lean value that its cells read as: one lemma a kind of type. No program in sight. -/
namespace Go.Proofs.YtndicjikjcifaaaDoor
open Go.RowKit Go.Proofs.YtndicjikjcifaaaDoorW.PrintWords Go.Proofs.YtndicjikjcifaaaDoorW.PrintLast

/-- Whatever reads as data of type T reads as a value of the kind d, of which G holds. -/
structure Opens (P : Program) (T : TypeId) {α : Type} (d : Kd α) (G : α → Prop) : Prop where
  size : P.cellsOf T = d.sz
  run : ∀ {H : Type} {enc : TypeId × Value → H} {w : World} {fuel : Nat} {cs : List Value} {x : DataW H × List MemPlace},
    DataW.trod enc P w 0 (fun _ => true) true fuel T cs = some x → (x.1.weights P T).all (· ≤ reachBytes) = true → ∃ a, d.K w a cs ∧ G a

section
variable {P : Program} {T : TypeId}
theorem Opens.int (k : IntKind) (hu : P.underlying T = some (.int k)) (hc : P.cellsOf T = 1) : Opens P T (Kd.int k) (fun n => (Lit.int k n).wf = true) :=
  ⟨hc, fun h _ => by
    obtain ⟨n, rfl, _, hw⟩ := DataW.trod_int hu h
    exact ⟨n, rfl, hw⟩⟩
theorem Opens.bool (hu : P.underlying T = some .bool) (hc : P.cellsOf T = 1) : Opens P T Kd.bool (fun _ => True) :=
  ⟨hc, fun h _ => by
    obtain ⟨n, rfl, _⟩ := DataW.trod_bool hu h
    exact ⟨n, rfl, trivial⟩⟩
theorem Opens.string (hu : P.underlying T = some .string) (hc : P.cellsOf T = 1) : Opens P T Kd.string (fun s => s.size ≤ 140737488351232) :=
  ⟨hc, fun h hw => by
    obtain ⟨s, rfl, rfl, hs⟩ := DataW.trod_string hu h
    refine ⟨s, rfl, ?_⟩
    have : s.data.toList.length ≤ reachBytes := by simpa [DataW.weights] using hw
    simpa [reachBytes] using this⟩

theorem cells_get {w : World} {base n : Nat} {a : Addr} {cs : List Value} (h : w.cells? base a n = some cs) : cs.length = n ∧ ∀ i u, cs[i]? = some u → w.cell? (a.add i) = some u := by
  unfold World.cells? at h
  split at h
  · have hl : cs.length = n := by simpa using mapM_some_length h
    refine ⟨hl, fun i u hu => ?_⟩
    have hi : i < n := by rw [← hl]; exact (List.getElem?_eq_some_iff.1 hu).1
    have := mapM_some_get h i i (by simp [hi])
    rw [this, hu]
  · cases h

theorem weightsAll_mem {H : Type} {e : TypeId} : ∀ {l : List (DataW H)} {d : DataW H}, d ∈ l → ∀ n ∈ d.weights P e, n ∈ DataW.weightsAll P e l
  | x :: r, d, h, n, hn => by
    rw [DataW.weightsAll]
    rcases List.mem_cons.1 h with rfl | h
    · exact List.mem_append_left _ hn
    · exact List.mem_append_right _ (weightsAll_mem h n hn)

theorem choose_list {α : Type} {Q : Nat → α → Prop} (n : Nat) (h : ∀ i, i < n → ∃ a, Q i a) : ∃ l : List α, l.length = n ∧ ∀ i a, l[i]? = some a → Q i a := by
  induction n with
  | zero => exact ⟨[], rfl, fun i a h => by simp at h⟩
  | succ n ih =>
    obtain ⟨l, hl, hq⟩ := ih (fun i hi => h i (by omega))
    obtain ⟨a, ha⟩ := h n (by omega)
    refine ⟨l ++ [a], by simp [hl], fun i b hb => ?_⟩
    rcases Nat.lt_or_ge i n with hi | hi
    · rw [List.getElem?_append_left (by omega)] at hb
      exact hq i b hb
    · have : i = n := by
        have := (List.getElem?_eq_some_iff.1 hb).1
        simp [hl] at this
        omega
      subst this
      rw [List.getElem?_append_right (by omega), hl] at hb
      simp at hb
      exact hb ▸ ha

theorem Opens.slice {e : TypeId} {α : Type} {d : Kd α} {G : α → Prop} (hu : P.underlying T = some (.slice e)) (hc : P.cellsOf T = 1) (he : Opens P e d G) (B : Nat) (hB : P.bytesOf e = B) :
    Opens P T (Kd.slice e d) (fun l => (∀ a ∈ l, G a) ∧ l.length * B ≤ 140737488351232 ∧ l.length ≤ maxLen) := by
  refine ⟨hc, fun {H} {enc} {w} {fuel} {cs} {x} h hw => ?_⟩
  rcases Go.Deep.open_slice hu h with ⟨rfl, _⟩ | ⟨a, len, cap, m, n, D, Pl, rfl, _, hl, hm, hmm, rfl, hx⟩
  · exact ⟨[], ⟨none, 0, rfl, Nat.le_refl _, rfl, by simp, fun h => by simp at h⟩, fun a h => by simp at h, by simp, by simp⟩
  · simp only [if_true] at hmm
    subst hmm
    have hw' : ∀ i, i < len → ((D i).weights P e).all (· ≤ reachBytes) = true := by
      intro i hi
      rw [List.all_eq_true] at hw ⊢
      intro z hz
      refine hw z ?_
      simp only [DataW.weights, hu]
      refine List.mem_cons_of_mem _ (List.mem_append_left _ (weightsAll_mem (d := D i) ?_ z hz))
      exact List.mem_map.2 ⟨i, by simpa using hi, rfl⟩
    have hlen : len * B ≤ 140737488351232 := by
      rw [List.all_eq_true] at hw
      have h1 := hw (((List.range len).map D).length * P.bytesOf e + ((List.range (m - len)).map fun j => D (len + j)).length * P.bytesOf e) (by
        simp only [DataW.weights, hu, Nat.add_mul]
        exact List.mem_cons_self)
      rw [hB] at h1
      simp [reachBytes] at h1
      omega
    obtain ⟨l, hll, hq⟩ := choose_list (Q := fun i a' => ∃ c, c.length = d.sz ∧ d.K w a' c ∧ (∀ j u, c[j]? = some u → w.cell? (a.add (i * d.sz + j)) = some u) ∧ G a') len (fun i hi => by
      obtain ⟨cs', hcs, ht⟩ := hx i (by omega)
      obtain ⟨a', hK, hG⟩ := he.run ht (hw' i hi)
      have hcg := cells_get hcs
      rw [he.size] at hcg
      refine ⟨a', cs', hcg.1, hK, fun j u hu => ?_, hG⟩
      have := hcg.2 j u hu
      rwa [add_add] at this)
    refine ⟨l, ⟨some a, m, by rw [hll], by omega, rfl, by rw [hll]; unfold maxLen at hm; omega, fun _ => ⟨a, rfl, fun j p hp => ?_⟩⟩, fun p hp => ?_, by rw [hll]; exact hlen, by rw [hll]; omega⟩
    · obtain ⟨c, h1, h2, h3, _⟩ := hq j p hp
      exact ⟨c, h1, h2, h3⟩
    · obtain ⟨j, hj⟩ := List.mem_iff_getElem?.1 hp
      obtain ⟨c, _, _, _, h4⟩ := hq j p hj
      exact h4

/-- The same of fields in line, from cell number o on. -/
structure Fields (P : Program) (fs : List Field) (o : Nat) {α : Type} (d : Kd α) (G : α → Prop) : Prop where
  run : ∀ {H : Type} {enc : TypeId × Value → H} {w : World} {fuel : Nat} {cs : List Value} {xs : List (DataW H × List MemPlace)}, xs.length = fs.length →
    (∀ (i : Nat) (f : Field), fs[i]? = some f → DataW.trod enc P w 0 (fun _ => true) true fuel f.type ((cs.drop f.offset).take (P.cellsOf f.type)) = xs[i]?) →
    (DataW.weightsEach P (fs.map (·.type)) (xs.map (·.1))).all (· ≤ reachBytes) = true → cs.length = o + d.sz → ∃ a, d.K w a (cs.drop o) ∧ G a
theorem Fields.one {f : Field} {o : Nat} {α : Type} {d : Kd α} {G : α → Prop} (ho : f.offset = o) (h : Opens P f.type d G) : Fields P [f] o d G :=
  ⟨fun {H} {enc} {w} {fuel} {cs} {xs} hl ht hw hc => by
    match xs, hl with
    | [x], _ =>
      have h1 := ht 0 f rfl
      rw [ho, h.size, List.take_of_length_le (by rw [List.length_drop]; omega)] at h1
      refine h.run h1 ?_
      simpa [DataW.weightsEach] using hw⟩
theorem Fields.cons {f : Field} {fs : List Field} {o : Nat} {α β : Type} {d : Kd α} {d' : Kd β} {G : α → Prop} {G' : β → Prop} (ho : f.offset = o) (h : Opens P f.type d G) (h' : Fields P fs (o + d.sz) d' G') :
    Fields P (f :: fs) o (Kd.pair d d') (fun x => G x.1 ∧ G' x.2) :=
  ⟨fun {H} {enc} {w} {fuel} {cs} {xs} hl ht hw hc => by
    match xs, hl with
    | x :: xs, hl =>
      have h1 := ht 0 f rfl
      rw [ho, h.size] at h1
      have hsz : (Kd.pair d d').sz = d.sz + d'.sz := rfl
      rw [hsz] at hc
      simp only [List.map_cons, DataW.weightsEach, List.all_append, Bool.and_eq_true] at hw
      obtain ⟨a, ha, hG⟩ := h.run h1 hw.1
      obtain ⟨b, hb, hG'⟩ := h'.run (cs := cs) (xs := xs) (by simpa using hl) (fun i f hf => by simpa using ht (i + 1) f (by simpa using hf)) hw.2 (by omega)
      refine ⟨(a, b), ⟨(cs.drop o).take d.sz, cs.drop (o + d.sz), ?_, ha, hb⟩, hG, hG'⟩
      rw [← List.drop_drop, List.take_append_drop]⟩
theorem Opens.struct {fs : Array Field} {α : Type} {d : Kd α} {G : α → Prop} (hu : P.underlying T = some (.struct fs)) (hc : P.cellsOf T = d.sz) (h : Fields P fs.toList 0 d G) : Opens P T d G :=
  ⟨hc, fun {H} {enc} {w} {fuel} {cs} {x} ht hw => by
    obtain ⟨xs, n, _, rfl, hl, hxl, hf⟩ := DataW.trod_struct hu ht
    obtain ⟨a, ha, hG⟩ := h.run (cs := cs) (xs := xs) (by simpa using hxl) (fun i f hi => hf i f (by simpa using hi)) (by simpa [DataW.weights, hu] using hw) (by omega)
    exact ⟨a, by simpa using ha, hG⟩⟩
theorem Opens.iso {α β : Type} {d : Kd α} {G : α → Prop} (h : Opens P T d G) (f : β → α) (g : α → β) (hfg : ∀ a, f (g a) = a) : Opens P T (Kd.iso d f) (fun b => G (f b)) :=
  ⟨h.size, fun ht hw => by
    obtain ⟨a, ha, hG⟩ := h.run ht hw
    exact ⟨g a, by show d.K _ (f (g a)) _; rw [hfg]; exact ha, by show G (f (g a)); rw [hfg]; exact hG⟩⟩
end
end Go.Proofs.YtndicjikjcifaaaDoor

/- tusklaw04.Own, tuskref04.Same in a form of one line each; what a transaction argument is. -/
namespace Go.Proofs.YtndicjikjcifaaaDoor
open Go.RowKit Go.Shelf Go.Lib Go.Proofs.YtndicjikjcifaaaDoorW.PrintWords Go.Proofs.YtndicjikjcifaaaDoorW.PrintLast
open Go.Proofs.YtndicjikjcifaaaDoor.POw
set_option linter.unusedVariables false
set_option linter.unusedSimpArgs false

/-- What is known of a transaction that came in. -/
structure TxIn (w : World) (k : Int) (f t : ByteArray) (am nc : Int) (ky' vl : ByteArray) (A B : Option Addr) (c d : Nat) (rs ws : List ByteArray) : Prop where
  r : Kd.C Kd.string w A rs.length rs
  rc : rs.length ≤ c
  s : Kd.C Kd.string w B ws.length ws
  sc : ws.length ≤ d
  am : 0 ≤ am
  nc : 0 ≤ nc
  rl : rs.length * 16 ≤ 140737488351232
  sl : ws.length * 16 ≤ 140737488351232
  f : f.size ≤ 140737488351232
  t : t.size ≤ 140737488351232
  ky : ky'.size ≤ 140737488351232
  vl : vl.size ≤ 140737488351232
  rz : ∀ a ∈ rs, a.size ≤ 140737488351232
  sz : ∀ a ∈ ws, a.size ≤ 140737488351232
theorem TxIn.below {w w' : World} {k : Int} {f t : ByteArray} {am nc : Int} {ky' vl : ByteArray} {A B : Option Addr} {c d : Nat} {rs ws : List ByteArray} (h : TxIn w k f t am nc ky' vl A B c d rs ws) (hb : Below w.heap.size w w') : TxIn w' k f t am nc ky' vl A B c d rs ws :=
  { h with r := Kd.C_below h.r hb, s := Kd.C_below h.s hb }
end Go.Proofs.YtndicjikjcifaaaDoor

/- The sealers' answers, case by case; an operation (a tick, or a transaction to add) as it came in; Own's copies and what they lead to. -/
namespace Go.Proofs.YtndicjikjcifaaaDoor
open Go.RowKit Go.Proofs.YtndicjikjcifaaaDoorW.PrintWords Go.Proofs.YtndicjikjcifaaaDoorW.PrintLast
open PB (S33 k33)
set_option linter.unusedVariables false
set_option linter.unusedSimpArgs false
/-- A sealer's block. -/
abbrev sl6 (a0 s0 t0 : Int) (A : Option Addr) (n c : Nat) (k0 n0 : Int) : List Value := [.int .i64 a0, .int .i64 s0, .int .i64 t0, .slice A n c, .int .i64 k0, .int .i64 n0]
section
variable {T : TypeId} {z a0 s0 t0 k0 n0 : Int} {g : Nat} {A : Option Addr} {c : Nat} {xs : List S33} {ok : Nat → Prop} {t : S33} {w : World} {Sf Rf : Nat → Prop} {M : List Asn} {e : Ending} {W : World}
theorem AddP.no (h : AddP T z g a0 s0 t0 k0 n0 A c xs ok t w Sf Rf M e W) (hz : z ≠ 0) : e = .returned (.int .i64 z) ∧ St w Sf Rf (Asn.blk g (sl6 a0 s0 t0 A xs.length c k0 n0) T :: Asn.qu k33 33 (.slice A xs.length c) xs ok :: M) W := by
  rcases h with ⟨_, h1, h2⟩ | ⟨h0, _⟩ | ⟨h0, _⟩
  · exact ⟨h1, h2⟩
  · exact absurd h0 hz
  · exact absurd h0 hz
theorem AddP.in_ (h : AddP T z g a0 s0 t0 k0 n0 A c xs ok t w Sf Rf M e W) (hz : z = 0) (hf : ¬ (xs.length : Int) ≥ 4 * s0) : e = .returned (.int .i64 0) ∧ ∃ A' c' ok', St w Sf Rf (Asn.blk g (sl6 a0 s0 t0 A' (xs ++ [t]).length c' k0 n0) T :: Asn.qu k33 33 (.slice A' (xs ++ [t]).length c') (xs ++ [t]) ok' :: M) W := by
  rcases h with ⟨h0, _⟩ | ⟨_, h0, _⟩ | ⟨_, _, h1, h2⟩
  · exact absurd hz h0
  · exact absurd h0 hf
  · exact ⟨h1, h2⟩
abbrev cutA (A : Option Addr) (c m : Nat) : Option Addr := if c = m then A else A.map (·.add (m * 9))
theorem Ticked.none (h : Ticked g a0 s0 t0 k0 n0 A c xs ok w Sf Rf e W) (h0 : xs.length = 0) : e = .returned (.tuple #[.agg #[.int .i64 0, .int .i64 0, .slice Option.none 0 0], .bool false]) ∧ St w Sf Rf [Asn.blk g (sl6 a0 s0 t0 A xs.length c k0 n0) 72, Asn.qu k33 33 (.slice A xs.length c) xs ok] W := by
  rcases h with ⟨_, h1, h2⟩ | ⟨h1, _⟩ | ⟨h1, _⟩
  · exact ⟨h1, h2⟩
  · exact absurd h0 h1
  · exact absurd h0 h1
theorem Ticked.wait (h : Ticked g a0 s0 t0 k0 n0 A c xs ok w Sf Rf e W) (h0 : xs.length ≠ 0) (hw : (xs.length : Int) < s0 ∧ k0 + 1 < t0) : e = .returned (.tuple #[.agg #[.int .i64 0, .int .i64 0, .slice Option.none 0 0], .bool false]) ∧ St w Sf Rf [Asn.blk g (sl6 a0 s0 t0 A xs.length c (k0 + 1) n0) 72, Asn.qu k33 33 (.slice A xs.length c) xs ok] W := by
  rcases h with ⟨h1, _⟩ | ⟨_, _, _, h1, h2⟩ | ⟨_, h1, _⟩
  · exact absurd h1 h0
  · exact ⟨h1, h2⟩
  · exact absurd hw h1
theorem Ticked.seal (h : Ticked g a0 s0 t0 k0 n0 A c xs ok w Sf Rf e W) (h0 : xs.length ≠ 0) (hw : ¬ ((xs.length : Int) < s0 ∧ k0 + 1 < t0)) (m : Nat) (hm : (m : Int) = min s0 (xs.length : Int)) : e = .returned (.tuple #[.agg #[.int .i64 a0, .int .i64 (n0 + 1), .slice A (xs.take m).length m], .bool true]) ∧
    St w Sf Rf [Asn.blk g (sl6 a0 s0 t0 (cutA A c m) (xs.drop m).length (c - m) 0 (n0 + 1)) 72, Asn.qf k33 33 (.slice (cutA A c m) (xs.drop m).length (c - m)) (xs.drop m) ok A (xs.take m).length (xs.take m)] W := by
  rcases h with ⟨h1, _⟩ | ⟨_, h1, h2, _⟩ | ⟨_, _, m', hm', h1, h2⟩
  · exact absurd h1 h0
  · exact absurd ⟨h1, h2⟩ hw
  · obtain rfl : m = m' := by omega
    rw [List.length_take, List.length_drop, Nat.min_eq_left (by omega)]
    exact ⟨h1, h2⟩
theorem RTicked.none (h : RTicked g a0 s0 t0 k0 n0 A c xs ok w Sf Rf e W) (h0 : xs.length = 0) : e = .returned (.tuple #[.agg #[.int .i64 0, .int .i64 0, .slice Option.none 0 0], .bool false]) ∧ St w Sf Rf [Asn.blk g (sl6 a0 s0 t0 A xs.length c k0 n0) 46, Asn.qu k33 33 (.slice A xs.length c) xs ok] W := by
  rcases h with ⟨_, h1, h2⟩ | ⟨h1, _⟩ | ⟨h1, _⟩
  · exact ⟨h1, h2⟩
  · exact absurd h0 h1
  · exact absurd h0 h1
theorem RTicked.wait (h : RTicked g a0 s0 t0 k0 n0 A c xs ok w Sf Rf e W) (h0 : xs.length ≠ 0) (hw : (xs.length : Int) < s0 ∧ k0 + 1 < t0) : e = .returned (.tuple #[.agg #[.int .i64 0, .int .i64 0, .slice Option.none 0 0], .bool false]) ∧ St w Sf Rf [Asn.blk g (sl6 a0 s0 t0 A xs.length c (k0 + 1) n0) 46, Asn.qu k33 33 (.slice A xs.length c) xs ok] W := by
  rcases h with ⟨h1, _⟩ | ⟨_, _, _, h1, h2⟩ | ⟨_, h1, _⟩
  · exact absurd h1 h0
  · exact ⟨h1, h2⟩
  · exact absurd hw h1
theorem RTicked.seal (h : RTicked g a0 s0 t0 k0 n0 A c xs ok w Sf Rf e W) (h0 : xs.length ≠ 0) (hw : ¬ ((xs.length : Int) < s0 ∧ k0 + 1 < t0)) (m : Nat) (hm : (m : Int) = min s0 (xs.length : Int)) : ∃ (A' : Option Addr) (c' : Nat) (ok' : Nat → Prop), (xs.take m).length ≤ c' ∧ e = .returned (.tuple #[.agg #[.int .i64 a0, .int .i64 (n0 + 1), .slice A' (xs.take m).length c'], .bool true]) ∧
    St w Sf Rf [Asn.blk g (sl6 a0 s0 t0 (cutA A c m) (xs.drop m).length (c - m) 0 (n0 + 1)) 46, Asn.qu k33 33 (.slice (cutA A c m) (xs.drop m).length (c - m)) (xs.drop m) ok, Asn.rd k33 ok' A' (xs.take m).length (xs.take m)] W := by
  rcases h with ⟨h1, _⟩ | ⟨_, h1, h2, _⟩ | ⟨_, _, m', A', c', ok', hm', h1, h2, h3⟩
  · exact absurd h1 h0
  · exact absurd ⟨h1, h2⟩ hw
  · obtain rfl : m = m' := by omega
    rw [List.length_drop]
    exact ⟨A', c', ok', h1, h2, h3⟩
theorem SealNew.is (h : SealNew T a0 s0 t0 w e W) (hk : SealOk a0 s0 t0) : ∃ g, e = .returned (.tuple #[.pointer (some ⟨g, 0, none⟩), .int .i64 0]) ∧ w.heap.size ≤ g ∧ W.heap[g]? = some (.cells (sl6 a0 s0 t0 Option.none 0 0 0 0).toArray T (0, 0)) ∧ Below w.heap.size w W := h.1 hk
theorem SealNew.no (h : SealNew T a0 s0 t0 w e W) (hk : ¬ SealOk a0 s0 t0) : e = .returned (.tuple #[.pointer Option.none, .int .i64 2]) ∧ Below w.heap.size w W := h.2 hk
/-- A block that a call made. -/
theorem St.newBlk {w W W' : World} {S R : Nat → Prop} {M : List Asn} {g : Nat} {cs : List Value} {T : TypeId} (H : St w S R M W) (hb : Below W.heap.size W W') (hg : W.heap.size ≤ g) (h : W'.heap[g]? = some (.cells cs.toArray T (0, 0))) : St w S R (M ++ [Asn.blk g cs T]) W' :=
  H.fresh hb _ h (fun k hk => by
    rcases hk with hk | hk
    · exact (show k = g from hk) ▸ ⟨hg, blk_lt h⟩
    · cases hk)
end
theorem chT_len {t : S33} (h : chT t = 0) : LenT t := by
  have hF := ch_fine (show ch t.f0 t.f1 t.f2 t.f3 t.f4 t.f5 t.f6 t.f7 t.f8 = 0 from h)
  have h7 := (ke_zero hF.rs).1
  have h8 := (ke_zero hF.ws).1
  exact ⟨by omega, by omega⟩
end Go.Proofs.YtndicjikjcifaaaDoor

namespace Go.Proofs.YtndicjikjcifaaaDoor.PFt
open Go.RowKit Go.Proofs.YtndicjikjcifaaaDoorW.PrintWords Go.Proofs.YtndicjikjcifaaaDoorW.PrintLast Go.Proofs.YtndicjikjcifaaaDoorW.PrintMore
attribute [local go_sem] max2_int min2_int max_two min_two max_three min_three max_four min_four   -- for this text's walks alone
set_option linter.unusedVariables false
set_option linter.unusedSimpArgs false

def errW : Option Int → Value
  | none => .nilIface
  | some c => .iface 0 (.int .i64 c)
theorem errW_none : errW none = .nilIface := rfl
theorem errW_some (c : Int) : errW (some c) = .iface 0 (.int .i64 c) := rfl

-- the values' own types
/-! #### struct type 33 -/
structure S33 where
  f0 : Int
  f1 : ByteArray
  f2 : ByteArray
  f3 : Int
  f4 : Int
  f5 : ByteArray
  f6 : ByteArray
  f7 : (List ByteArray)
  f8 : (List ByteArray)
def z33 : S33 := ⟨(0 : Int), (⟨#[]⟩ : ByteArray), (⟨#[]⟩ : ByteArray), (0 : Int), (0 : Int), (⟨#[]⟩ : ByteArray), (⟨#[]⟩ : ByteArray), ([] : List ByteArray), ([] : List ByteArray)⟩
def k33 : Kd S33 := Kd.iso (Kd.pair (Kd.int .i64) (Kd.pair Kd.string (Kd.pair Kd.string (Kd.pair (Kd.int .u64) (Kd.pair (Kd.int .u64) (Kd.pair Kd.string (Kd.pair Kd.string (Kd.pair (Kd.slice 9 Kd.string) (Kd.slice 9 Kd.string))))))))) (fun x : S33 => (x.f0, x.f1, x.f2, x.f3, x.f4, x.f5, x.f6, x.f7, x.f8))
theorem k33_open {w : World} {x : S33} {cs : List Value} (h : k33.K w x cs) : ∃ A7 c7 A8 c8, cs = [.int .i64 x.f0, .string x.f1, .string x.f2, .int .u64 x.f3, .int .u64 x.f4, .string x.f5, .string x.f6, .slice A7 x.f7.length c7, .slice A8 x.f8.length c8] ∧ x.f7.length ≤ c7 ∧ Kd.string.C w A7 x.f7.length x.f7 ∧ x.f8.length ≤ c8 ∧ Kd.string.C w A8 x.f8.length x.f8 := by
  obtain ⟨_, _, rfl, rfl, ⟨_, _, rfl, rfl, ⟨_, _, rfl, rfl, ⟨_, _, rfl, rfl, ⟨_, _, rfl, rfl, ⟨_, _, rfl, rfl, ⟨_, _, rfl, rfl, ⟨_, _, rfl, ⟨A7, c7, rfl, l7, g7⟩, ⟨A8, c8, rfl, l8, g8⟩⟩⟩⟩⟩⟩⟩⟩⟩ := h
  exact ⟨A7, c7, A8, c8, rfl, l7, g7, l8, g8⟩
theorem k33_mk (w : World) (x : S33) {A7 : Option Addr} {c7 : Nat} (l7 : x.f7.length ≤ c7) (g7 : Kd.string.C w A7 x.f7.length x.f7) {A8 : Option Addr} {c8 : Nat} (l8 : x.f8.length ≤ c8) (g8 : Kd.string.C w A8 x.f8.length x.f8) : k33.K w x [.int .i64 x.f0, .string x.f1, .string x.f2, .int .u64 x.f3, .int .u64 x.f4, .string x.f5, .string x.f6, .slice A7 x.f7.length c7, .slice A8 x.f8.length c8] := ⟨[.int .i64 x.f0], [.string x.f1, .string x.f2, .int .u64 x.f3, .int .u64 x.f4, .string x.f5, .string x.f6, .slice A7 x.f7.length c7, .slice A8 x.f8.length c8], rfl, rfl, ⟨[.string x.f1], [.string x.f2, .int .u64 x.f3, .int .u64 x.f4, .string x.f5, .string x.f6, .slice A7 x.f7.length c7, .slice A8 x.f8.length c8], rfl, rfl, ⟨[.string x.f2], [.int .u64 x.f3, .int .u64 x.f4, .string x.f5, .string x.f6, .slice A7 x.f7.length c7, .slice A8 x.f8.length c8], rfl, rfl, ⟨[.int .u64 x.f3], [.int .u64 x.f4, .string x.f5, .string x.f6, .slice A7 x.f7.length c7, .slice A8 x.f8.length c8], rfl, rfl, ⟨[.int .u64 x.f4], [.string x.f5, .string x.f6, .slice A7 x.f7.length c7, .slice A8 x.f8.length c8], rfl, rfl, ⟨[.string x.f5], [.string x.f6, .slice A7 x.f7.length c7, .slice A8 x.f8.length c8], rfl, rfl, ⟨[.string x.f6], [.slice A7 x.f7.length c7, .slice A8 x.f8.length c8], rfl, rfl, ⟨[.slice A7 x.f7.length c7], [.slice A8 x.f8.length c8], rfl, ⟨A7, c7, rfl, l7, g7⟩, ⟨A8, c8, rfl, l8, g8⟩⟩⟩⟩⟩⟩⟩⟩⟩
def rd_T33 (xs : List S33) (i : Int) : S33 := xs.getD i.toNat z33
theorem at_T33 {w : World} {A : Option Addr} {n : Nat} {xs : List S33} (h : Kd.C k33 w A n xs) (i : Int) (h0 : 0 ≤ i) (h1 : i < n) : ∃ ad A7 c7 A8 c8, A = some ad ∧ w.cell? (ad.add (i.toNat * 9)) = some (.int .i64 (rd_T33 xs i).f0) ∧ w.cell? ⟨(ad.add (i.toNat * 9)).block, (ad.add (i.toNat * 9)).off + 1, none⟩ = some (.string (rd_T33 xs i).f1) ∧ w.cell? ⟨(ad.add (i.toNat * 9)).block, (ad.add (i.toNat * 9)).off + 2, none⟩ = some (.string (rd_T33 xs i).f2) ∧ w.cell? ⟨(ad.add (i.toNat * 9)).block, (ad.add (i.toNat * 9)).off + 3, none⟩ = some (.int .u64 (rd_T33 xs i).f3) ∧ w.cell? ⟨(ad.add (i.toNat * 9)).block, (ad.add (i.toNat * 9)).off + 4, none⟩ = some (.int .u64 (rd_T33 xs i).f4) ∧ w.cell? ⟨(ad.add (i.toNat * 9)).block, (ad.add (i.toNat * 9)).off + 5, none⟩ = some (.string (rd_T33 xs i).f5) ∧ w.cell? ⟨(ad.add (i.toNat * 9)).block, (ad.add (i.toNat * 9)).off + 6, none⟩ = some (.string (rd_T33 xs i).f6) ∧ w.cell? ⟨(ad.add (i.toNat * 9)).block, (ad.add (i.toNat * 9)).off + 7, none⟩ = some (.slice A7 (rd_T33 xs i).f7.length c7) ∧ w.cell? ⟨(ad.add (i.toNat * 9)).block, (ad.add (i.toNat * 9)).off + 8, none⟩ = some (.slice A8 (rd_T33 xs i).f8.length c8) ∧ (rd_T33 xs i).f7.length ≤ c7 ∧ Kd.string.C w A7 (rd_T33 xs i).f7.length (rd_T33 xs i).f7 ∧ (rd_T33 xs i).f8.length ≤ c8 ∧ Kd.string.C w A8 (rd_T33 xs i).f8.length (rd_T33 xs i).f8 := by
  obtain ⟨ad, c, e, _, hK, hc0⟩ := Kd.C_get h z33 i h0 h1
  have hc : ∀ j u, c[j]? = some u → w.cell? (ad.add (i.toNat * 9 + j)) = some u := hc0
  obtain ⟨A7, c7, A8, c8, rfl, l7, g7, l8, g8⟩ := k33_open hK
  exact ⟨ad, A7, c7, A8, c8, e, hc 0 _ rfl, by rw [← add_field _ _ 1 (by omega)]; exact hc 1 _ rfl, by rw [← add_field _ _ 2 (by omega)]; exact hc 2 _ rfl, by rw [← add_field _ _ 3 (by omega)]; exact hc 3 _ rfl, by rw [← add_field _ _ 4 (by omega)]; exact hc 4 _ rfl, by rw [← add_field _ _ 5 (by omega)]; exact hc 5 _ rfl, by rw [← add_field _ _ 6 (by omega)]; exact hc 6 _ rfl, by rw [← add_field _ _ 7 (by omega)]; exact hc 7 _ rfl, by rw [← add_field _ _ 8 (by omega)]; exact hc 8 _ rfl, l7, g7, l8, g8⟩

end Go.Proofs.YtndicjikjcifaaaDoor.PFt

namespace Go.Proofs.YtndicjikjcifaaaDoor.PFt
open Go.RowKit Go.Proofs.YtndicjikjcifaaaDoorW.PrintWords Go.Proofs.YtndicjikjcifaaaDoorW.PrintLast Go.Proofs.YtndicjikjcifaaaDoorW.PrintMore
attribute [local go_sem] max2_int min2_int max_two min_two max_three min_three max_four min_four   -- for this text's walks alone
set_option linter.unusedVariables false
set_option linter.unusedSimpArgs false

/-! ### tx_Needs: function 44 -/
-- IMPORT Derived.Test.YtndicjikjcifaaaDoorTxneed

/-! ### slices_Index_string_string: function 95 -/
def slices_Index_string_string.l0 : Nat → List ByteArray → ByteArray → Int → Int → Option (Int)
  | 0, _, _, _, _ => none
  | k + 1, x0, x1, x7, x8 => if x8 < x7 then (if 0 ≤ x8 then (if x8 < (x0.length : Int) then (if x1.toList = (rdOf ByteArray.empty x0 x8).toList then (some x8) else (slices_Index_string_string.l0 k x0 x1 x7 (wrap64 (x8 + 1)))) else (none)) else (none)) else (some (-1))
def slices_Index_string_string.f (k : Nat) (l0 : List ByteArray) (a1 : ByteArray) : Option (Int) := slices_Index_string_string.l0 k l0 a1 (l0.length : Int) 0
theorem slices_Index_string_string.mono_l : ∀ k, (∀ y0 y1 y2 y3, LeO (slices_Index_string_string.l0 k y0 y1 y2 y3) (slices_Index_string_string.l0 (k + 1) y0 y1 y2 y3))
  | 0 => fun _ _ _ _ r h => by simp [slices_Index_string_string.l0] at h
  | k + 1 => by
    have ih0 := slices_Index_string_string.mono_l k
    · intro y0 y1 y2 y3
      unfold slices_Index_string_string.l0
      repeat' first
      | (with_reducible exact ih0 _ _ _ _)
      | (with_reducible exact LeO.refl _)
      | (with_reducible exact LeO.none _)
      | (with_reducible refine LeO.ite ?_ ?_)
      | (with_reducible refine LeO.bind ?_ (fun _ => ?_))
      | exact ih0 _ _ _ _
      | exact LeO.none _
      | refine LeO.ite ?_ ?_
      | refine LeO.bind ?_ (fun _ => ?_)
theorem slices_Index_string_string.mono : ∀ a0 a1 k, LeO (slices_Index_string_string.f k a0 a1) (slices_Index_string_string.f (k + 1) a0 a1) := by
  intro a0 a1 k
  have ih0 := slices_Index_string_string.mono_l k
  unfold slices_Index_string_string.f
  repeat' first
      | (with_reducible exact ih0 _ _ _ _)
      | (with_reducible exact LeO.refl _)
      | (with_reducible exact LeO.none _)
      | (with_reducible refine LeO.ite ?_ ?_)
      | (with_reducible refine LeO.bind ?_ (fun _ => ?_))
      | exact ih0 _ _ _ _
      | exact LeO.none _
      | refine LeO.ite ?_ ?_
      | refine LeO.bind ?_ (fun _ => ?_)
/-! ### slices_Contains_string_string: function 76 -/
def slices_Contains_string_string.f (k : Nat) (l0 : List ByteArray) (a1 : ByteArray) : Option (Bool) := (slices_Index_string_string.f k l0 a1).bind fun t102 => (some (decide (t102 ≥ 0)))
theorem slices_Contains_string_string.mono : ∀ a0 a1 k, LeO (slices_Contains_string_string.f k a0 a1) (slices_Contains_string_string.f (k + 1) a0 a1) := by
  intro a0 a1 k
  unfold slices_Contains_string_string.f
  repeat' first
      | (with_reducible exact slices_Index_string_string.mono _ _ _)
      | (with_reducible exact LeO.refl _)
      | (with_reducible exact LeO.none _)
      | (with_reducible refine LeO.ite ?_ ?_)
      | (with_reducible refine LeO.bind ?_ (fun _ => ?_))
      | exact slices_Index_string_string.mono _ _ _
      | exact LeO.none _
      | refine LeO.ite ?_ ?_
      | refine LeO.bind ?_ (fun _ => ?_)
/-! ### tx_Fits: function 46 -/
def tx_Fits.l0 : Nat → List ByteArray → List ByteArray → Int → Int → Int → ByteArray → ByteArray → Int → Int → ByteArray → ByteArray → List ByteArray → List ByteArray → Option (Bool)
  | 0, _, _, _, _, _, _, _, _, _, _, _, _, _ => none
  | k + 1, x3, x8, x9, x10, x104000, x104001, x104002, x104003, x104004, x104005, x104006, x104007, x104008 => if x10 < x9 then (if 0 ≤ x10 then (if x10 < (x8.length : Int) then ((slices_Contains_string_string.f k x104008 (rdOf ByteArray.empty x8 x10)).bind fun t108 => (if t108 = true then (tx_Fits.l0 k x3 x8 x9 (wrap64 (x10 + 1)) x104000 x104001 x104002 x104003 x104004 x104005 x104006 x104007 x104008) else (some false))) else (none)) else (none)) else (some (decide ((x3.length : Int) > 0)))
def tx_Fits.f (k : Nat) (a0_0 : Int) (a0_1 : ByteArray) (a0_2 : ByteArray) (a0_3 : Int) (a0_4 : Int) (a0_5 : ByteArray) (a0_6 : ByteArray) (l0_7 : List ByteArray) (l0_8 : List ByteArray) : Option (Bool) := (tx_Needs.f a0_0 a0_1 a0_2 a0_3 a0_4 a0_5 a0_6 l0_7 l0_8).bind fun t104 => (tx_Fits.l0 k t104 t104 (t104.length : Int) 0 a0_0 a0_1 a0_2 a0_3 a0_4 a0_5 a0_6 l0_7 l0_8)
theorem tx_Fits.mono_l : ∀ k, (∀ y0 y1 y2 y3 y4 y5 y6 y7 y8 y9 y10 y11 y12, LeO (tx_Fits.l0 k y0 y1 y2 y3 y4 y5 y6 y7 y8 y9 y10 y11 y12) (tx_Fits.l0 (k + 1) y0 y1 y2 y3 y4 y5 y6 y7 y8 y9 y10 y11 y12))
  | 0 => fun _ _ _ _ _ _ _ _ _ _ _ _ _ r h => by simp [tx_Fits.l0] at h
  | k + 1 => by
    have ih0 := tx_Fits.mono_l k
    · intro y0 y1 y2 y3 y4 y5 y6 y7 y8 y9 y10 y11 y12
      unfold tx_Fits.l0
      repeat' first
      | (with_reducible exact ih0 _ _ _ _ _ _ _ _ _ _ _ _ _)
      | (with_reducible exact slices_Contains_string_string.mono _ _ _)
      | (with_reducible exact LeO.refl _)
      | (with_reducible exact LeO.none _)
      | (with_reducible refine LeO.ite ?_ ?_)
      | (with_reducible refine LeO.bind ?_ (fun _ => ?_))
      | exact ih0 _ _ _ _ _ _ _ _ _ _ _ _ _
      | exact slices_Contains_string_string.mono _ _ _
      | exact LeO.none _
      | refine LeO.ite ?_ ?_
      | refine LeO.bind ?_ (fun _ => ?_)
theorem tx_Fits.mono : ∀ a0 a1 a2 a3 a4 a5 a6 a7 a8 k, LeO (tx_Fits.f k a0 a1 a2 a3 a4 a5 a6 a7 a8) (tx_Fits.f (k + 1) a0 a1 a2 a3 a4 a5 a6 a7 a8) := by
  intro a0 a1 a2 a3 a4 a5 a6 a7 a8 k
  have ih0 := tx_Fits.mono_l k
  unfold tx_Fits.f
  repeat' first
      | (with_reducible exact ih0 _ _ _ _ _ _ _ _ _ _ _ _ _)
      | (with_reducible exact slices_Contains_string_string.mono _ _ _)
      | (with_reducible exact LeO.refl _)
      | (with_reducible exact LeO.none _)
      | (with_reducible refine LeO.ite ?_ ?_)
      | (with_reducible refine LeO.bind ?_ (fun _ => ?_))
      | exact ih0 _ _ _ _ _ _ _ _ _ _ _ _ _
      | exact slices_Contains_string_string.mono _ _ _
      | exact LeO.none _
      | refine LeO.ite ?_ ?_
      | refine LeO.bind ?_ (fun _ => ?_)
end Go.Proofs.YtndicjikjcifaaaDoor.PFt

/- tx.Fits: what is needed is declared. -/
namespace Go.Proofs.YtndicjikjcifaaaDoor
open Go.RowKit Go.Shelf Go.Lib Go.Proofs.YtndicjikjcifaaaDoorW.PrintWords Go.Proofs.YtndicjikjcifaaaDoorW.PrintLast
open Go.Proofs.YtndicjikjcifaaaDoor.PFt
set_option linter.unusedVariables false
set_option linter.unusedSimpArgs false

end Go.Proofs.YtndicjikjcifaaaDoor

/- tusklaw04.pay, works: one transaction that is as it should be. -/
namespace Go.Proofs.YtndicjikjcifaaaDoor
open Go.RowKit Go.Shelf Go.Lib Go.Proofs.YtndicjikjcifaaaDoorW.PrintWords Go.Proofs.YtndicjikjcifaaaDoorW.PrintLast
set_option linter.unusedVariables false
set_option linter.unusedSimpArgs false

def bab : ByteArray := ⟨#[97, 98]⟩
def bc : ByteArray := ⟨#[99]⟩
def kab : ByteArray := ⟨#[97, 58, 97, 98]⟩
def kc : ByteArray := ⟨#[97, 58, 99]⟩
end Go.Proofs.YtndicjikjcifaaaDoor

/- Literals of one-cell elements; the laws' own transaction. -/
namespace Go.Proofs.YtndicjikjcifaaaDoor
open Go.RowKit Go.Proofs.YtndicjikjcifaaaDoorW.PrintWords Go.Proofs.YtndicjikjcifaaaDoorW.PrintLast
open PB (S33 k33)
set_option linter.unusedVariables false
set_option linter.unusedSimpArgs false
theorem wrap_u64 (x : Int) (h0 : 0 ≤ x) (h1 : x < 18446744073709551616) : IntKind.u64.wrap x = x := by
  simp [IntKind.wrap, IntKind.bits, IntKind.signed]; omega
section
variable {P : Program} {T : TypeId}
theorem run_lit1 {t : TypeId} {bytes : Nat} {z : Value} (hu : P.underlying t = some (.slice T)) (hi : (P.info? T).map (fun i => (i.zero, i.size, i.bytes)) = some (some z, 1, bytes)) (hz : z.cells.size = 1) (vs : List Value) (h1 : ∀ v ∈ vs, v.cells = #[v]) (h0 : 0 < vs.length) (hm : vs.length ≤ 16777216) (parts : Array (Nat × Value))
    (hp : parts.toList = (vs.zipIdx 0).map fun x => (x.2, x.1)) (W : World) :
    (Instr.buildSlice t vs.length parts).run P W = .ok (.slice (some ⟨W.heap.size, 0, none⟩) vs.length vs.length) (W.alloc (.cells vs.toArray T)) := by
  cases hie : P.info? T with
  | none => simp [hie] at hi
  | some ie =>
    simp only [hie, Option.map_some, Option.some.injEq, Prod.mk.injEq] at hi
    obtain ⟨e1, e2, e3⟩ := hi
    refine run_buildSlice W t T vs.length _ vs.toArray ie z hu hie e1 (by rw [e2]; omega) (by rw [e2]; omega) ?_
    rw [e2, hp]
    exact Great.fill_flat vs _ h1 (by simp)
end
section
variable {P : Program} {ops : Array Oper} {Q : Exit → Act → World → Prop} {V : World → Prop} {ds : List Nat} {π : List (Nat × Nat)} {a : Act} {W W' w : World} {n i d1 m : Nat} {L : List (Nat × Value)} {ty t T : TypeId} {S R : Nat → Prop} {M : List Asn}
/-- A literal of one-cell elements: a new block. -/
theorem sq_lit {g : Option (Nat × Bool)} {z : Value} {bytes : Nat} {parts : Array (Nat × Operand)} (vs : List Value) (hi : (ops[i]?).map sk = some (some d1, .buildSlice t m parts, ty, g)) (hg : On ops L g) (F : Fr n L a) (hd : d1 < n) (hm : m = vs.length)
    (ht : P.underlying t = some (.slice T)) (hinfo : (P.info? T).map (fun i => (i.zero, i.size, i.bytes)) = some (some z, 1, bytes)) (hz : z.cells.size = 1) (h1 : ∀ v ∈ vs, v.cells = #[v]) (h0 : 0 < vs.length) (hs : vs.length ≤ 16777216)
    (hp : (parts.map fun (i, x) => (i, a.eval x)).toList = (vs.zipIdx 0).map fun x => (x.2, x.1)) (H : St w S R M W)
    (h : ∀ b W' a', w.heap.size ≤ b → St w S R (M ++ [Asn.blk b vs T]) W' → Fr n ((d1, .slice (some ⟨b, 0, none⟩) m m) :: L) a' → (i ∉ ds → V W') ∧ wpSeq P ops Q V ds π a' W') : wpSeq P ops Q V ds ((i, 2) :: π) a W := by
  subst hm
  have hh := fun a' => h W.heap.size (W.alloc (.cells vs.toArray T)) a' H.low.size (H.alloc vs T)
  refine sqw hi hg F fun o K ho hK => ?_
  obtain ⟨e1, e2, e3⟩ := sk_eq ho
  unfold Oper.wp execOp
  rw [e2]
  have := run_lit1 (P := P) ht hinfo hz vs h1 h0 hs _ hp W
  simp only [this, Sem.run_bind, Result.andThen_ok]
  have q := hh _ (F.put d1 hd _)
  rw [← e1] at q
  exact hK _ _ q.1 q.2
end
theorem strs_foot {W : World} {g : Nat} {T : TypeId} (xs : List ByteArray) (hb : W.heap[g]? = some (.cells (xs.map Value.string).toArray T (0, 0))) (hn : xs.length ≤ 9223372036854775807) : Foot (fun W => Kd.string.C W (some ⟨g, 0, none⟩) xs.length xs) W (fun k => k = g) := fun W' hW => by
  have hb' := (hW g rfl (blk_lt hb)).trans hb
  refine ⟨rfl, hn, fun _ => ⟨_, rfl, fun j p hj => ⟨[.string p], rfl, rfl, fun i u hu => ?_⟩⟩⟩
  rw [addo, blk_cell hb']
  have hi : i = 0 := by have := (List.getElem?_eq_some_iff.1 hu).1; simp at this; omega
  subst hi
  obtain rfl : Value.string p = u := by simpa using hu
  have hz : Kd.string.sz = 1 := rfl
  simp [hz, hj]
/-- The laws' own transaction. -/
def payT (n : Int) : S33 := ⟨1, bab, bc, 5, n, ⟨#[]⟩, ⟨#[]⟩, [], [kab, kc]⟩
theorem ch_payT (n : Int) (h : n ≤ 4611686018427387903) : chT (payT n) = 0 := by
  have h1 : nm bab = true := by decide +kernel
  have h2 : nm bc = true := by decide +kernel
  have h3 : ky kab = true := by decide +kernel
  have h4 : ky kc = true := by decide +kernel
  have h5 : lts kab kc = true := by rw [lts, Lib.toList_data, Lib.toList_data]; decide +kernel
  have h6 : (⟨#[]⟩ : ByteArray).toList.isEmpty = true := by rw [Lib.toList_data]; rfl
  simp [chT, payT, ch, chF, chR, ke, keL, h1, h2, h3, h4, h5, h6, h]
/-- pay(n)'s answer. -/
def PayP (n : Int) (w : World) (e : Ending) (W : World) : Prop :=
  ∃ B, e = .returned (.agg #[.int .i64 (payT n).f0, .string (payT n).f1, .string (payT n).f2, .int .u64 (payT n).f3, .int .u64 (payT n).f4, .string (payT n).f5, .string (payT n).f6, .slice none (payT n).f7.length 0, .slice B (payT n).f8.length 2])
    ∧ Foot (fun W => k33.K W (payT n) [.int .i64 (payT n).f0, .string (payT n).f1, .string (payT n).f2, .int .u64 (payT n).f3, .int .u64 (payT n).f4, .string (payT n).f5, .string (payT n).f6, .slice none (payT n).f7.length 0, .slice B (payT n).f8.length 2]) W (fun k => w.heap.size ≤ k) ∧ Below w.heap.size w W
end Go.Proofs.YtndicjikjcifaaaDoor

/- tusklaw05.pay. -/
namespace Go.Proofs.YtndicjikjcifaaaDoor
open Go.RowKit Go.Proofs.YtndicjikjcifaaaDoorW.PrintWords Go.Proofs.YtndicjikjcifaaaDoorW.PrintLast
set_option linter.unusedVariables false
set_option linter.unusedSimpArgs false
set_option maxRecDepth 100000
open PB (S33 k33)
theorem pay5_calls (n : Int) (h0 : 0 ≤ n) (h1 : n < 4611686018427387904) (w : World) : Calls Tryd.prog 38 #[.int .i64 n] w (PayP n w) := by
  refine c_enter2 (args := [.int .i64 n]) (S := (fun _ => False)) (R := (fun _ => True)) (M := []) Tryd.func38 (by kernel_rfl) 7 Tryd.ntmps38 (Nat.le_of_ble_eq_true rfl) (St.first w (fun _ => False) (fun _ => True)) (fun a W F H => ?_)
  have F := F.less [(0, .int .i64 n)] (subc rfl sub0)
  refine c_seq (by kernel_rfl) ?_
  refine c_text (id := 0) (by kernel_rfl) [(0, 2)] (by kernel_rfl) ?_
  refine sq_new (show Eq (α := OSk) _ (some (some 2, (.alloc 33), 0, none)) by kernel_rfl) trivial F (by decide) H [.int .i64 0, .string ⟨#[]⟩, .string ⟨#[]⟩, .int .u64 0, .int .u64 0, .string ⟨#[]⟩, .string ⟨#[]⟩, .slice none 0 0, .slice none 0 0] 33 (x_alloc Tryd.zeroValue33 rfl) ?_
  intro g1 W a hg1 H F
  refine ⟨(fun _ => trivial), ?_⟩
  unfold wpSeq
  have H : St w (fun _ => False) (fun _ => True) [Asn.blk g1 [.int .i64 0, .string ⟨#[]⟩, .string ⟨#[]⟩, .int .u64 0, .int .u64 0, .string ⟨#[]⟩, .string ⟨#[]⟩, .slice none 0 0, .slice none 0 0] 33] W := H
  refine t_normal ?_
  refine c_seq (by kernel_rfl) ?_
  refine c_text (id := 1) (by kernel_rfl) [(0, 2), (1, 2), (2, 2), (3, 2), (4, 2)] (by kernel_rfl) ?_
  refine sq2 (W' := W) (show Eq (α := OSk) _ (some (some 3, (.move (.tmp 0)), 3, none)) by kernel_rfl) trivial F (by decide) (v := .int .i64 n) (x_move (F.slot rfl)) (fun _ => trivial) (fun a F => ?_)
  refine sq2 (W' := W) (show Eq (α := OSk) _ (some (some 4, (.convert 3 30 (.tmp 3)), 30, none)) by kernel_rfl) trivial F (by decide) (v := .int .u64 (IntKind.u64.wrap n)) (x_conv Tryd.underlying3 Tryd.underlying30 (F.slot rfl)) (fun _ => trivial) (fun a F => ?_)
  have F := F.conv (v' := .int .u64 n) (congrArg (Value.int .u64) (wrap_u64 _ h0 (by omega)))
  refine sq_lit [.string ⟨#[97, 58, 97, 98]⟩, .string ⟨#[97, 58, 99]⟩] (show Eq (α := OSk) _ (some (some 5, (.buildSlice 31 2 #[(0, (.const (.string { data := #[97, 58, 97, 98] }))), (1, (.const (.string { data := #[97, 58, 99] })))]), 31, none)) by kernel_rfl) trivial F (by decide) rfl Tryd.underlying31 (show (Tryd.prog.info? 9).map (fun i => (i.zero, i.size, i.bytes)) = some (some (.string ⟨#[]⟩), 1, 16) by kernel_rfl) rfl (by simp [Value.cells]) (by decide) (by decide) (by simp [Act.eval]) H ?_
  intro g2 W a hg2 H F
  refine ⟨(fun _ => trivial), ?_⟩
  refine sq2 (W' := W) (show Eq (α := OSk) _ (some (some 6, (.build 33 #[(0, (.const (.int .i64 1))), (1, (.const (.string { data := #[97, 98] }))), (2, (.const (.string { data := #[99] }))), (3, (.const (.int .u64 5))), (4, (.tmp 4)), (8, (.tmp 5))]), 33, none)) by kernel_rfl) trivial F (by decide) (v := .agg #[.int .i64 1, .string ⟨#[97, 98]⟩, .string ⟨#[99]⟩, .int .u64 5, .int .u64 n, .string ⟨#[]⟩, .string ⟨#[]⟩, .slice none 0 0, .slice (some ⟨g2, 0, none⟩) 2 2]) (by simp [ex, execOp, Instr.build, Tryd.zeroValue33, run_underlying Tryd.underlying33, Instr.fill, Value.cells, ev_c, F.slot (i := 4) rfl, F.slot (i := 5) rfl, Tryd.sizeOf3, Tryd.sizeOf9, Tryd.sizeOf30, Tryd.sizeOf31]) (fun _ => trivial) (fun a F => ?_)
  refine sq_put (M := [Asn.blk g1 [.int .i64 1, .string ⟨#[97, 98]⟩, .string ⟨#[99]⟩, .int .u64 5, .int .u64 n, .string ⟨#[]⟩, .string ⟨#[]⟩, .slice none 0 0, .slice (some ⟨g2, 0, none⟩) 2 2] 33, Asn.blk g2 [.string ⟨#[97, 58, 97, 98]⟩, .string ⟨#[97, 58, 99]⟩] 9]) (show Eq (α := OSk) _ (some (none, (.store 33 (.tmp 2) (.tmp 6)), 0, none)) by kernel_rfl) trivial F (x_store H (k := 0) (cs' := [.int .i64 1, .string ⟨#[97, 98]⟩, .string ⟨#[99]⟩, .int .u64 5, .int .u64 n, .string ⟨#[]⟩, .string ⟨#[]⟩, .slice none 0 0, .slice (some ⟨g2, 0, none⟩) 2 2]) rfl (Tryd.sizeOf33 W) (F.slot rfl) (F.slot rfl) rfl (Nat.le_of_ble_eq_true rfl) rfl rfl) ?_
  intro W H
  refine ⟨(fun _ => trivial), ?_⟩
  unfold wpSeq
  refine t_normal ?_
  refine c_ret (by kernel_rfl) ?_
  refine p_cell Tryd.results38 F rfl (H.blk 0 rfl) (Tryd.isAgg33 W) (Tryd.sizeOf33 W) ?_
  have hf := strs_foot [kab, kc] (H.blk 1 rfl) (by decide)
  exact ⟨some ⟨g2, 0, none⟩, rfl, Foot.mono (fk_tx (payT n) (Nat.le_refl _) (Foot.mono (Kd.F_nil _ _ (fun _ => False)) (fun k h => h.elim)) (Nat.le_refl _) hf) (fun k (hk : k = g2) => hk ▸ hg2), H.ends⟩
end Go.Proofs.YtndicjikjcifaaaDoor
