/- BatchReads. -/
import Derived.Test.YtndicjikjcifaaaDoorBatdec
import Derived.Test.YtndicjikjcifaaaDoorBatrdec
import Derived.Test.YtndicjikjcifaaaDoorBatsame
namespace Go.Proofs.YtndicjikjcifaaaDoor
open Go.RowKit Go.Proofs.YtndicjikjcifaaaDoorW.PrintWords Go.Proofs.YtndicjikjcifaaaDoorW.PrintLast
set_option linter.unusedVariables false
set_option linter.unusedSimpArgs false
set_option maxRecDepth 100000
open PB (S33 k33)
theorem bdec_c {s : ByteArray} {w : World} (hs : s.size < 4611686018427387904) {a n : Int} {l : List S33} {er : Int} (hr : bdec s = (a, n, l, er)) : Calls Tryd.prog 28 #[.string s] w fun e w' => ∃ A c, e = .returned (.tuple #[.agg #[.int .i64 a, .int .i64 n, .slice A l.length c], .int .i64 er]) ∧ l.length ≤ c ∧ Foot (fun W => k33.C W A l.length l) w' (fun k => w.heap.size ≤ k ∧ k < w'.heap.size) ∧ Below w.heap.size w w' := by
  have := bdec_calls s w hs
  rw [hr] at this
  exact this
theorem rbdec_c {s : ByteArray} {w : World} (hs : s.size < 4611686018427387904) {a n : Int} {l : List S33} {er : Int} (hr : bdec s = (a, n, l, er)) : Calls Tryd.prog 29 #[.string s] w fun e w' => ∃ A c, e = .returned (.tuple #[.agg #[.int .i64 a, .int .i64 n, .slice A l.length c], .int .i64 er]) ∧ l.length ≤ c ∧ Foot (fun W => k33.C W A l.length l) w' (fun k => w.heap.size ≤ k ∧ k < w'.heap.size) ∧ Below w.heap.size w w' := by
  have := rbdec_calls s w hs
  rw [hr] at this
  exact this
theorem batchReads_calls (s : ByteArray) (w : World) (hs : s.size < 4611686018427387904) :
    Calls Tryd.prog 5 #[.string s] w fun e w' => e = .returned (.bool true) ∧ Below w.heap.size w w' := by
  obtain ⟨x1, x2, l, er, hr⟩ : ∃ a b c d, bdec s = (a, b, c, d) := ⟨_, _, _, _, rfl⟩
  refine c_enter2 (args := [.string s]) (S := (fun _ => False)) (R := (fun _ => True)) (M := []) Tryd.func5 (by kernel_rfl) 28 Tryd.ntmps5 (Nat.le_of_ble_eq_true rfl) (St.first w (fun _ => False) (fun _ => True)) (fun a W F H => ?_)
  have F := F.less [(0, .string s)] (subc rfl sub0)
  refine c_seq (by kernel_rfl) ?_
  refine c_text (id := 0) (by kernel_rfl) [(0, 2)] (by kernel_rfl) ?_
  refine sq2 (W' := W) (show Eq (α := OSk) _ (some (some 2, (.assign (.const (.bool false))), 4, none)) by kernel_rfl) trivial F (by decide) (v := .bool false) (x_assign rfl) (fun _ => trivial) (fun a F => ?_)
  unfold wpSeq
  have H : St w (fun _ => False) (fun _ => True) [] W := H
  refine t_normal ?_
  refine c_seq (by kernel_rfl) ?_
  refine c_seq (by kernel_rfl) ?_
  refine c_text (id := 1) (by kernel_rfl) [(0, 2), (1, 2), (2, 2)] (by kernel_rfl) ?_
  refine sq2 (W' := W) (show Eq (α := OSk) _ (some (some 7, (.move (.tmp 0)), 9, none)) by kernel_rfl) trivial F (by decide) (v := .string s) (x_move (F.slot rfl)) (fun _ => trivial) (fun a F => ?_)
  refine sq2 (W' := W) (show Eq (α := OSk) _ (some (some 8, (.call { callee := (.builtin .len), args := #[(.tmp 7)], argTypes := #[9] }), 3, none)) by kernel_rfl) trivial F (by decide) (v := .int .i64 (s.size : Int)) (x_lenS Tryd.underlying9 (F.slot rfl)) (fun _ => trivial) (fun a F => ?_)
  refine sq2 (W' := W) (show Eq (α := OSk) _ (some (some 9, (.binOp .gtr 3 (.tmp 8) (.const (.int .i64 20000)) 3), 4, none)) by kernel_rfl) trivial F (by decide) (v := .bool (decide ((s.size : Int) > (20000 : Int)))) (x_int (F.slot rfl) rfl rfl) (fun _ => trivial) (fun a F => ?_)
  unfold wpSeq
  refine t_normal ?_
  rcases bool_or (decide ((s.size : Int) > (20000 : Int))) with hb1 | hb1
  · have hb1d := of_decide_eq_true hb1
    have F := F.at 9 rfl (v' := .bool true) (congrArg Value.bool hb1)
    refine c_yes (c := .tmp 9) (by kernel_rfl) (F.slot rfl) ?_
    refine c_seq (by kernel_rfl) ?_
    refine c_text (id := 2) (by kernel_rfl) [(0, 2)] (by kernel_rfl) ?_
    refine sq2 (W' := W) (show Eq (α := OSk) _ (some (some 2, (.assign (.const (.bool true))), 4, none)) by kernel_rfl) trivial F (by decide) (v := .bool true) (x_assign rfl) (fun _ => trivial) (fun a F => ?_)
    unfold wpSeq
    refine t_normal ?_
    refine c_ret (by kernel_rfl) ?_
    refine t_ret ?_
    refine p_tmp Tryd.results5 F rfl ?_
    exact ⟨by simp, H.ends⟩
  · have hb1d := of_decide_eq_false hb1
    have F := F.at 9 rfl (v' := .bool false) (congrArg Value.bool hb1)
    refine c_no (c := .tmp 9) (by kernel_rfl) (F.slot rfl) ?_
    refine c_skip (by kernel_rfl) ?_
    refine t_normal ?_
    refine c_seq (by kernel_rfl) ?_
    refine c_text (id := 3) (by kernel_rfl) [(0, 2), (1, 2), (2, 2), (3, 2), (4, 2), (5, 2), (6, 2), (7, 2)] (by kernel_rfl) ?_
    refine sq2 (W' := W) (show Eq (α := OSk) _ (some (some 11, (.move (.tmp 0)), 9, none)) by kernel_rfl) trivial F (by decide) (v := .string s) (x_move (F.slot rfl)) (fun _ => trivial) (fun a F => ?_)
    refine sqc (show Eq (α := OSk) _ (some (some 12, (.call { callee := (.value (.func 28)), args := #[(.tmp 11)], argTypes := #[9] }), 52, none)) by kernel_rfl) trivial F (by decide) (x_call Tryd.func28 (by kernel_rfl) rfl (args_1 (F.slot rfl))) (bdec_c hs hr) ?_
    rintro e W ⟨A1, c1, rfl, hc1, hF, hb⟩
    refine ⟨_, rfl, fun a F => ?_⟩
    have H := H.freshF hb _ _ hF (fun k hk => hk.1)
    have H : St w (fun _ => False) (fun _ => True) [Asn.ft (fun W => k33.C W A1 l.length l) _] W := H
    refine ⟨(fun _ => trivial), ?_⟩
    refine sq2 (W' := W) (show Eq (α := OSk) _ (some (some 10, (.move (.tmp 12)), 52, none)) by kernel_rfl) trivial F (by decide) (v := .tuple #[.agg #[.int .i64 x1, .int .i64 x2, .slice A1 l.length c1], .int .i64 er]) (x_move (F.slot rfl)) (fun _ => trivial) (fun a F => ?_)
    refine sq2 (W' := W) (show Eq (α := OSk) _ (some (some 13, (.extract (.tmp 10) 0), 40, none)) by kernel_rfl) trivial F (by decide) (v := .agg #[.int .i64 x1, .int .i64 x2, .slice A1 l.length c1]) (x_extract (F.slot rfl) rfl) (fun _ => trivial) (fun a F => ?_)
    refine sq2 (W' := W) (show Eq (α := OSk) _ (some (some 14, (.extract (.tmp 10) 1), 24, none)) by kernel_rfl) trivial F (by decide) (v := .int .i64 er) (x_extract (F.slot rfl) rfl) (fun _ => trivial) (fun a F => ?_)
    refine sq_new (show Eq (α := OSk) _ (some (some 3, (.alloc 40), 0, none)) by kernel_rfl) trivial F (by decide) H [.int .i64 0, .int .i64 0, .slice none 0 0] 40 (x_alloc Tryd.zeroValue40 rfl) ?_
    intro g2 W a hg2 H F
    refine ⟨(fun _ => trivial), ?_⟩
    refine sq_put (M := [Asn.ft (fun W => k33.C W A1 l.length l) _, Asn.blk g2 [.int .i64 x1, .int .i64 x2, .slice A1 l.length c1] 40]) (show Eq (α := OSk) _ (some (none, (.store 40 (.tmp 3) (.tmp 13)), 0, none)) by kernel_rfl) trivial F (x_store H (k := 1) (cs' := [.int .i64 x1, .int .i64 x2, .slice A1 l.length c1]) rfl (Tryd.sizeOf40 W) (F.slot rfl) (F.slot rfl) rfl (Nat.le_of_ble_eq_true rfl) rfl rfl) ?_
    intro W H
    refine ⟨(fun _ => trivial), ?_⟩
    refine sq2 (W' := W) (show Eq (α := OSk) _ (some (some 4, (.assign (.tmp 14)), 24, none)) by kernel_rfl) trivial F (by decide) (v := .int .i64 er) (x_assign (F.slot rfl)) (fun _ => trivial) (fun a F => ?_)
    unfold wpSeq
    refine t_normal ?_
    refine c_seq (by kernel_rfl) ?_
    refine c_text (id := 4) (by kernel_rfl) [(0, 2), (1, 2), (2, 2), (3, 2), (4, 2), (5, 2), (6, 2), (7, 2)] (by kernel_rfl) ?_
    refine sq2 (W' := W) (show Eq (α := OSk) _ (some (some 16, (.move (.tmp 0)), 9, none)) by kernel_rfl) trivial F (by decide) (v := .string s) (x_move (F.slot rfl)) (fun _ => trivial) (fun a F => ?_)
    refine sqc (show Eq (α := OSk) _ (some (some 17, (.call { callee := (.value (.func 29)), args := #[(.tmp 16)], argTypes := #[9] }), 52, none)) by kernel_rfl) trivial F (by decide) (x_call Tryd.func29 (by kernel_rfl) rfl (args_1 (F.slot rfl))) (rbdec_c hs hr) ?_
    rintro e W ⟨A2, c2, rfl, hc2, hF, hb⟩
    refine ⟨_, rfl, fun a F => ?_⟩
    have H := H.freshF hb _ _ hF (fun k hk => hk.1)
    have H : St w (fun _ => False) (fun _ => True) [Asn.ft (fun W => k33.C W A1 l.length l) _, Asn.blk g2 [.int .i64 x1, .int .i64 x2, .slice A1 l.length c1] 40, Asn.ft (fun W => k33.C W A2 l.length l) _] W := H
    refine ⟨(fun _ => trivial), ?_⟩
    refine sq2 (W' := W) (show Eq (α := OSk) _ (some (some 15, (.move (.tmp 17)), 52, none)) by kernel_rfl) trivial F (by decide) (v := .tuple #[.agg #[.int .i64 x1, .int .i64 x2, .slice A2 l.length c2], .int .i64 er]) (x_move (F.slot rfl)) (fun _ => trivial) (fun a F => ?_)
    refine sq2 (W' := W) (show Eq (α := OSk) _ (some (some 18, (.extract (.tmp 15) 0), 40, none)) by kernel_rfl) trivial F (by decide) (v := .agg #[.int .i64 x1, .int .i64 x2, .slice A2 l.length c2]) (x_extract (F.slot rfl) rfl) (fun _ => trivial) (fun a F => ?_)
    refine sq2 (W' := W) (show Eq (α := OSk) _ (some (some 19, (.extract (.tmp 15) 1), 24, none)) by kernel_rfl) trivial F (by decide) (v := .int .i64 er) (x_extract (F.slot rfl) rfl) (fun _ => trivial) (fun a F => ?_)
    refine sq_new (show Eq (α := OSk) _ (some (some 5, (.alloc 40), 0, none)) by kernel_rfl) trivial F (by decide) H [.int .i64 0, .int .i64 0, .slice none 0 0] 40 (x_alloc Tryd.zeroValue40 rfl) ?_
    intro g3 W a hg3 H F
    refine ⟨(fun _ => trivial), ?_⟩
    refine sq_put (M := [Asn.ft (fun W => k33.C W A1 l.length l) _, Asn.blk g2 [.int .i64 x1, .int .i64 x2, .slice A1 l.length c1] 40, Asn.ft (fun W => k33.C W A2 l.length l) _, Asn.blk g3 [.int .i64 x1, .int .i64 x2, .slice A2 l.length c2] 40]) (show Eq (α := OSk) _ (some (none, (.store 40 (.tmp 5) (.tmp 18)), 0, none)) by kernel_rfl) trivial F (x_store H (k := 3) (cs' := [.int .i64 x1, .int .i64 x2, .slice A2 l.length c2]) rfl (Tryd.sizeOf40 W) (F.slot rfl) (F.slot rfl) rfl (Nat.le_of_ble_eq_true rfl) rfl rfl) ?_
    intro W H
    refine ⟨(fun _ => trivial), ?_⟩
    refine sq2 (W' := W) (show Eq (α := OSk) _ (some (some 6, (.assign (.tmp 19)), 24, none)) by kernel_rfl) trivial F (by decide) (v := .int .i64 er) (x_assign (F.slot rfl)) (fun _ => trivial) (fun a F => ?_)
    unfold wpSeq
    refine t_normal ?_
    refine c_seq (by kernel_rfl) ?_
    refine c_text (id := 5) (by kernel_rfl) [(0, 2), (1, 2), (2, 2), (3, 2), (4, 2), (5, 2), (6, 2), (7, 2), (8, 2)] (by kernel_rfl) ?_
    refine sq2 (show Eq (α := OSk) _ (some (some 20, (.load 40 (.tmp 3)), 40, none)) by kernel_rfl) trivial F (by decide) (v := .agg #[.int .i64 x1, .int .i64 x2, .slice A1 l.length c1]) (x_loadB (Tryd.isAgg40 W) [.int .i64 x1, .int .i64 x2, .slice A1 l.length c1] (Tryd.sizeOf40 W) (F.slot rfl) (H.blk 1 rfl)) (fun _ => trivial) (fun a F => ?_)
    refine sq2 (show Eq (α := OSk) _ (some (some 21, (.load 40 (.tmp 5)), 40, none)) by kernel_rfl) trivial F (by decide) (v := .agg #[.int .i64 x1, .int .i64 x2, .slice A2 l.length c2]) (x_loadB (Tryd.isAgg40 W) [.int .i64 x1, .int .i64 x2, .slice A2 l.length c2] (Tryd.sizeOf40 W) (F.slot rfl) (H.blk 3 rfl)) (fun _ => trivial) (fun a F => ?_)
    have hl := bdec_lens s
    rw [hr] at hl
    refine sqc (show Eq (α := OSk) _ (some (some 22, (.call { callee := (.value (.func 23)), args := #[(.tmp 20), (.tmp 21)], argTypes := #[40, 40] }), 4, none)) by kernel_rfl) trivial F (by decide) (x_call Tryd.func23 (by kernel_rfl) rfl (args_2 (F.slot rfl) (F.slot rfl))) (bsame_calls x1 x2 A1 A2 c1 c2 l W (by have := hl.2; dsimp only at this; omega) hl.1 (H.rd 0 rfl) hc1 (H.rd 2 rfl) hc2) ?_
    rintro e W ⟨rfl, hb⟩
    refine ⟨_, rfl, fun a F => ?_⟩
    have H := H.below hb
    refine ⟨(fun _ => trivial), ?_⟩
    refine sq2 (W' := W) (show Eq (α := OSk) _ (some (some 23, (.move (.tmp 22)), 4, none)) by kernel_rfl) trivial F (by decide) (v := .bool true) (x_move (F.slot rfl)) (fun _ => trivial) (fun a F => ?_)
    refine sq2 (W' := W) (show Eq (α := OSk) _ (some (some 24, (.move (.tmp 4)), 24, some (3, true))) by kernel_rfl) ⟨23, by kernel_rfl, rfl⟩ F (by decide) (v := .int .i64 er) (x_move (F.slot rfl)) (fun _ => trivial) (fun a F => ?_)
    refine sq2 (W' := W) (show Eq (α := OSk) _ (some (some 25, (.move (.tmp 6)), 24, some (3, true))) by kernel_rfl) ⟨23, by kernel_rfl, rfl⟩ F (by decide) (v := .int .i64 er) (x_move (F.slot rfl)) (fun _ => trivial) (fun a F => ?_)
    refine sq2 (W' := W) (show Eq (α := OSk) _ (some (some 26, (.binOp .eql 24 (.tmp 24) (.tmp 25) 24), 4, some (3, true))) by kernel_rfl) ⟨23, by kernel_rfl, rfl⟩ F (by decide) (v := .bool (er == er)) (x_int (F.slot rfl) (F.slot rfl) rfl) (fun _ => trivial) (fun a F => ?_)
    refine sq2 (W' := W) (show Eq (α := OSk) _ (some (some 27, (.pick (.tmp 23) (.tmp 26) (.const (.bool false))), 4, none)) by kernel_rfl) trivial F (by decide) (v := .bool (er == er)) (x_pickT (F.slot rfl) (F.slot rfl)) (fun _ => trivial) (fun a F => ?_)
    refine sq2 (W' := W) (show Eq (α := OSk) _ (some (some 2, (.assign (.tmp 27)), 4, none)) by kernel_rfl) trivial F (by decide) (v := .bool (er == er)) (x_assign (F.slot rfl)) (fun _ => trivial) (fun a F => ?_)
    unfold wpSeq
    refine t_normal ?_
    refine c_ret (by kernel_rfl) ?_
    refine p_tmp Tryd.results5 F rfl ?_
    exact ⟨by simp, H.ends⟩
end Go.Proofs.YtndicjikjcifaaaDoor
