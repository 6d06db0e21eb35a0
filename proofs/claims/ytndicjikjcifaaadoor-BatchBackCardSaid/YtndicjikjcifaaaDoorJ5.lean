/- Texts joined by wip/tools/slim2.py: Batdec, Batrdec, Batreads, Bwp, Bworks, Blake, Hku, Mixreg, Mixcol, Mixblock. -/
import Derived.Test.YtndicjikjcifaaaDoorJ4
import Derived.Test.YtndicjikjcifaaaDoorJ3
import Derived.WalkKit
import Derived.Test.YtndicjikjcifaaaDoorJ1
import Derived.Lib.Strings
import Derived.Laws.IdiomStrings
import Derived.Test.YtndicjikjcifaaaDoorProg
/- batch.Decode. -/
namespace Go.Proofs.YtndicjikjcifaaaDoor
open Go.RowKit Go.Proofs.YtndicjikjcifaaaDoorW.PrintWords Go.Proofs.YtndicjikjcifaaaDoorW.PrintLast
set_option linter.unusedVariables false
set_option linter.unusedSimpArgs false
set_option maxRecDepth 100000
open PB (S33 k33)
set_option maxHeartbeats 1000000 in
theorem bdec_calls (s0 : ByteArray) (w : World) (hs0 : s0.size < 4611686018427387904) :
    Calls Tryd.prog 28 #[.string s0] w fun e w' => BP (bdec s0) w e w' := by
  refine c_enter2 (args := [.string s0]) (S := (fun _ => False)) (R := (fun _ => False)) (M := []) Tryd.func28 (by kernel_rfl) 93 Tryd.ntmps28 (Nat.le_of_ble_eq_true rfl) (St.first w (fun _ => False) (fun _ => False)) (fun a W F H => ?_)
  have F := F.less [(0, .string s0)] (subc rfl sub0)
  refine c_seq (by kernel_rfl) ?_
  refine c_text (id := 0) (by kernel_rfl) [(0, 2), (1, 2)] (by kernel_rfl) ?_
  refine sq_new (o_s 2 (.alloc 40) 0 (by kernel_rfl)) trivial F (by decide) H [.int .i64 0, .int .i64 0, .slice none 0 0] 40 (x_alloc Tryd.zeroValue40 rfl) ?_
  intro g1 W a hg1 H F
  refine ⟨(fun _ => trivial), ?_⟩
  refine q2 (o_s 3 (.assign (.const (.int .i64 0))) 24 (by kernel_rfl)) F (by decide) (v := .int .i64 0) (x_assign rfl) (fun a F => ?_)
  unfold wpSeq
  have H : St w (fun _ => False) (fun _ => False) [Asn.blk g1 [.int .i64 0, .int .i64 0, .slice none 0 0] 40] W := H
  refine t_normal ?_
  refine c_seq (by kernel_rfl) ?_
  refine c_text (id := 1) (by kernel_rfl) [(0, 2)] (by kernel_rfl) ?_
  refine sq_new (o_s 4 (.alloc 87) 0 (by kernel_rfl)) trivial F (by decide) H [.int .i64 0, .int .i64 0] 87 (x_alloc Tryd.zeroValue87 rfl) ?_
  intro g2 W a hg2 H F
  refine ⟨(fun _ => trivial), ?_⟩
  unfold wpSeq
  have H : St w (fun _ => False) (fun _ => False) [Asn.blk g1 [.int .i64 0, .int .i64 0, .slice none 0 0] 40, Asn.blk g2 [.int .i64 0, .int .i64 0] 87] W := H
  refine t_normal ?_
  refine c_seq (by kernel_rfl) ?_
  refine c_seq (by kernel_rfl) ?_
  refine c_text (id := 2) (by kernel_rfl) [(0, 2)] (by kernel_rfl) ?_
  refine q2 (o_s 18 (.move (.const (.int .i64 0))) 3 (by kernel_rfl)) F (by decide) (v := .int .i64 0) (x_move rfl) (fun a F => ?_)
  unfold wpSeq
  refine t_normal ?_
  refine c_block (id := 0) (by kernel_rfl) ?_
  refine c_loop (by kernel_rfl) (fun k a W => ∃ (i : Int) (x : Int) (y : Int) (s : ByteArray), Fr 93 [(2, .pointer (some ⟨g1, 0, none⟩)), (4, .pointer (some ⟨g2, 0, none⟩)), (0, .string s), (18, .int .i64 i)] a ∧ St w (fun _ => False) (fun _ => False) [Asn.blk g1 [.int .i64 0, .int .i64 0, .slice none 0 0] 40, Asn.blk g2 [.int .i64 x, .int .i64 y] 87] W ∧ (s.size < 4611686018427387904) ∧ ((k : Int) + i = 3) ∧ ((i = 0 ∧ y = 0 ∧ bdec s0 = bdec s) ∨ (i = 1 ∧ y = 0 ∧ bdec s0 = bdec1 x s) ∨ (i = 2 ∧ bdec s0 = bdec2 x y s))) 3 ⟨0, 0, 0, s0, F.less _ (subc rfl (subc rfl (subc rfl (subc rfl sub0)))), H, hs0, (by omega), (.inl ⟨rfl, rfl, rfl⟩)⟩ ?_
  rintro k a W ⟨i, x, y, s, F, H, HS, hq, hc⟩
  refine c_seq (by kernel_rfl) ?_
  rcases hc with ⟨rfl, rfl, HF⟩ | ⟨rfl, rfl, HF⟩ | ⟨rfl, HF⟩
  · refine c_text (id := 3) (by kernel_rfl) [(0, 2)] (by kernel_rfl) ?_
    refine q2 (o_s 19 (.binOp .lss 3 (.tmp 18) (.const (.int .i64 2)) 3) 0 (by kernel_rfl)) F (by decide) (v := .bool true) (x_int (F.slot rfl) rfl rfl) (fun a F => ?_)
    unfold wpSeq
    have H : St w (fun _ => False) (fun _ => False) [Asn.blk g1 [.int .i64 0, .int .i64 0, .slice none 0 0] 40, Asn.blk g2 [.int .i64 x, .int .i64 0] 87] W := H
    refine t_normal ?_
    refine c_seq (by kernel_rfl) ?_
    refine c_yes (c := .tmp 19) (by kernel_rfl) (F.slot rfl) ?_
    refine c_skip (by kernel_rfl) ?_
    refine t_normal ?_
    refine c_seq (by kernel_rfl) ?_
    refine c_block (id := 1) (by kernel_rfl) ?_
    refine c_seq (by kernel_rfl) ?_
    refine c_text (id := 4) (by kernel_rfl) [(0, 2), (1, 2)] (by kernel_rfl) ?_
    refine q2 (o_s 20 (.move (.tmp 18)) 3 (by kernel_rfl)) F (by decide) (x_move (F.slot rfl)) (fun a F => ?_)
    refine q2 (o_s 5 (.assign (.tmp 20)) 3 (by kernel_rfl)) F (by decide) (v := .int .i64 0) (x_assign (F.slot rfl)) (fun a F => ?_)
    unfold wpSeq
    refine t_normal ?_
    refine c_seq (by kernel_rfl) ?_
    refine c_text (id := 5) (by kernel_rfl) [(0, 2), (1, 2), (2, 2), (3, 2), (4, 2), (5, 2), (6, 2), (7, 2), (8, 2)] (by kernel_rfl) ?_
    refine q2 (o_s 22 (.move (.tmp 0)) 9 (by kernel_rfl)) F (by decide) (x_move (F.slot rfl)) (fun a F => ?_)
    obtain ⟨a1, k1, z1, hG⟩ : ∃ a k z, gi s 9 0 0 = (a, k, z) := ⟨_, _, _, rfl⟩
    refine sqc (o_s 23 (.call { callee := (.value (.func 60)), args := #[(.tmp 22)], argTypes := #[9] }) 88 (by kernel_rfl)) trivial F (by decide) (x_call Tryd.func60 (by kernel_rfl) rfl (args_1 (F.slot rfl))) (wire_GetInt.calls s a1 k1 z1 W (congrArg some hG)) ?_
    rintro e W ⟨rfl, hd⟩
    refine ⟨_, rfl, fun a F => ?_⟩
    have H := H.below (drawn_below hd)
    refine ⟨(fun _ => trivial), ?_⟩
    refine q2 (o_s 21 (.move (.tmp 23)) 88 (by kernel_rfl)) F (by decide) (x_move (F.slot rfl)) (fun a F => ?_)
    refine q2 (o_s 24 (.extract (.tmp 21) 0) 2 (by kernel_rfl)) F (by decide) (v := .int .i64 a1) (x_extract (F.slot rfl) rfl) (fun a F => ?_)
    refine q2 (o_s 25 (.extract (.tmp 21) 1) 3 (by kernel_rfl)) F (by decide) (v := .int .i64 k1) (x_extract (F.slot rfl) rfl) (fun a F => ?_)
    refine q2 (o_s 26 (.extract (.tmp 21) 2) 24 (by kernel_rfl)) F (by decide) (v := .int .i64 z1) (x_extract (F.slot rfl) rfl) (fun a F => ?_)
    refine q2 (o_s 6 (.assign (.tmp 24)) 2 (by kernel_rfl)) F (by decide) (v := .int .i64 a1) (x_assign (F.slot rfl)) (fun a F => ?_)
    refine q2 (o_s 7 (.assign (.tmp 25)) 3 (by kernel_rfl)) F (by decide) (v := .int .i64 k1) (x_assign (F.slot rfl)) (fun a F => ?_)
    refine q2 (o_s 8 (.assign (.tmp 26)) 24 (by kernel_rfl)) F (by decide) (v := .int .i64 z1) (x_assign (F.slot rfl)) (fun a F => ?_)
    unfold wpSeq
    refine t_normal ?_
    refine c_seq (by kernel_rfl) ?_
    refine c_seq (by kernel_rfl) ?_
    refine c_text (id := 6) (by kernel_rfl) [(0, 2), (1, 2)] (by kernel_rfl) ?_
    refine q2 (o_s 27 (.move (.tmp 8)) 24 (by kernel_rfl)) F (by decide) (x_move (F.slot rfl)) (fun a F => ?_)
    refine q2 (o_s 28 (.binOp .neq 24 (.tmp 27) (.const (.int .i64 0)) 24) 4 (by kernel_rfl)) F (by decide) (v := .bool (z1 != (0 : Int))) (x_int (F.slot rfl) rfl rfl) (fun a F => ?_)
    unfold wpSeq
    refine t_normal ?_
    rcases bool_or (z1 != (0 : Int)) with hb3 | hb3
    · have F := F.at 28 rfl (v' := .bool true) (congrArg Value.bool hb3)
      refine c_yes (c := .tmp 28) (by kernel_rfl) (F.slot rfl) ?_
      refine c_seq (by kernel_rfl) ?_
      refine c_text (id := 7) (by kernel_rfl) [(0, 2), (1, 2), (2, 2), (3, 2)] (by kernel_rfl) ?_
      refine q2 (o_s 29 (.build 40 #[]) 40 (by kernel_rfl)) F (by decide) (v := .agg #[.int .i64 0, .int .i64 0, .slice none 0 0]) (by simp [ex, execOp, Instr.build, Tryd.zeroValue40, run_underlying Tryd.underlying40, Instr.fill, Value.cells, Tryd.sizeOf3, Tryd.sizeOf38]) (fun a F => ?_)
      refine q2 (o_s 30 (.move (.tmp 8)) 24 (by kernel_rfl)) F (by decide) (x_move (F.slot rfl)) (fun a F => ?_)
      refine sq_put (M := [Asn.blk g1 [.int .i64 0, .int .i64 0, .slice none 0 0] 40, Asn.blk g2 [.int .i64 x, .int .i64 0] 87]) (o_n (.store 40 (.tmp 2) (.tmp 29)) 0 (by kernel_rfl)) trivial F (x_store H (k := 0) (cs' := [.int .i64 0, .int .i64 0, .slice none 0 0]) rfl (Tryd.sizeOf40 W) (F.slot rfl) (F.slot rfl) rfl (Nat.le_of_ble_eq_true rfl) rfl rfl) ?_
      intro W H
      refine ⟨(fun _ => trivial), ?_⟩
      refine q2 (o_s 3 (.assign (.tmp 30)) 24 (by kernel_rfl)) F (by decide) (v := .int .i64 z1) (x_assign (F.slot rfl)) (fun a F => ?_)
      unfold wpSeq
      refine t_normal ?_
      refine c_ret (by kernel_rfl) ?_
      refine t_ret ?_
      refine b_ret ?_
      refine t_ret ?_
      refine t_ret ?_
      refine b_ret ?_
      refine t_ret ?_
      refine p_list (rs := [.cell 2 40, .tmp 3]) (vs := [.agg #[.int .i64 0, .int .i64 0, .slice none 0 0], .int .i64 z1]) Tryd.results28 (by simp) F (Vals.cell' F rfl (H.blk 0 rfl) Tryd.underlying40 rfl (by kernel_rfl) (Vals.tmp' F rfl .nil)) ?_
      have hz : z1 ≠ 0 := by simpa using hb3
      have HF : bdec s0 = bnil z1 := by have := HF.trans (if_neg (by rw [hG]; exact hz)); rw [hG] at this; exact this
      rw [HF]
      exact ⟨none, 0, rfl, Nat.le_refl _, fun _ _ => Kd.C_nil _ _, H.ends⟩
    · have F := F.at 28 rfl (v' := .bool false) (congrArg Value.bool hb3)
      refine c_no (c := .tmp 28) (by kernel_rfl) (F.slot rfl) ?_
      refine c_skip (by kernel_rfl) ?_
      refine t_normal ?_
      obtain rfl : z1 = 0 := by simpa using hb3
      have HF : bdec s0 = bdec1 a1 (rest s k1) := by have := HF.trans (if_pos (by rw [hG])); rw [hG] at this; exact this
      have hg := gi_ok s 9 0 0 (by omega) (by rw [hG])
      rw [hG] at hg; dsimp only at hg
      refine c_drawn (id := 8) (by kernel_rfl) (by kernel_rfl) (Vs []) [0, 0, 0, 0, 12, 3, 35, 127] [] [(0, 0), (1, 0), (2, 0), (3, 0), (4, 0), (5, 0), (6, 2), (7, 0)] (by kernel_rfl) (fun _ _ d _ _ h => by cases d <;> exact h) (trivial) ?_
      have H := H.drew
      generalize World.drew W = W at H ⊢
      refine q0 (o_s 31 (.move (.tmp 5)) 3 (by kernel_rfl)) F (by decide) (fun W_ => x_move (F.slot rfl)) (fun a F => ?_)
      refine q0 (o_s 32 (.move (.tmp 6)) 2 (by kernel_rfl)) F (by decide) (fun W_ => x_move (F.slot rfl)) (fun a F => ?_)
      refine q0 (o_s 33 (.move (.tmp 0)) 9 (by kernel_rfl)) F (by decide) (fun W_ => x_move (F.slot rfl)) (fun a F => ?_)
      refine q0 (o_s 34 (.move (.tmp 7)) 3 (by kernel_rfl)) F (by decide) (fun W_ => x_move (F.slot rfl)) (fun a F => ?_)
      refine q0 (o_s 35 (.slice 9 (.tmp 33) (some (.tmp 34)) none none) 9 (by kernel_rfl)) F (by decide) (v := .string (rest s k1)) (fun W_ => x_sliceS Tryd.underlying9 (F.slot rfl) (F.slot rfl) (by omega) (by omega)) (fun a F => ?_)
      refine q0 (o_s 36 (.indexAddr 87 (.tmp 4) (.tmp 31)) 0 (by kernel_rfl)) F (by decide) (v := .pointer (some ⟨g2, 0, none⟩)) (fun W_ => x_ixc Tryd.underlying87 (Tryd.sizeOf2 W_) (F.slot rfl) (F.slot rfl) (by decide)) (fun a F => ?_)
      refine sq_put (M := [Asn.blk g1 [.int .i64 0, .int .i64 0, .slice none 0 0] 40, Asn.blk g2 [.int .i64 a1, .int .i64 0] 87]) (o_n (.store 2 (.tmp 36) (.tmp 32)) 0 (by kernel_rfl)) trivial F (x_store H (k := 1) (cs' := [.int .i64 a1, .int .i64 0]) rfl (Tryd.sizeOf2 W) (F.slot rfl) (F.slot rfl) rfl (Nat.le_of_ble_eq_true rfl) rfl rfl) ?_
      intro W H
      refine ⟨(fun _ => trivial), ?_⟩
      refine q0 (o_s 0 (.assign (.tmp 35)) 9 (by kernel_rfl)) F (by decide) (v := .string (rest s k1)) (fun W_ => x_assign (F.slot rfl)) (fun a F => ?_)
      unfold wpSeq
      refine b_normal ?_
      refine t_normal ?_
      refine c_text (id := 9) (by kernel_rfl) [(0, 2), (1, 2)] (by kernel_rfl) ?_
      refine q2 (o_s 37 (.binOp .add 3 (.tmp 18) (.const (.int .i64 1)) 3) 3 (by kernel_rfl)) F (by decide) (v := .int .i64 1) (x_int (F.slot rfl) rfl rfl) (fun a F => ?_)
      refine q2 (o_s 18 (.move (.tmp 37)) 3 (by kernel_rfl)) F (by decide) (x_move (F.slot rfl)) (fun a F => ?_)
      unfold wpSeq
      refine t_normal ?_
      have F_ := F
      exact ⟨k - 1, by omega, (1 : Int), a1, 0, (rest s k1), F.less _ (subc rfl (subc rfl (subc rfl (subc rfl sub0)))), H, (by have := rest_size s k1; omega), by omega, .inr (.inl ⟨rfl, rfl, HF⟩)⟩
  · refine c_text (id := 3) (by kernel_rfl) [(0, 2)] (by kernel_rfl) ?_
    refine q2 (o_s 19 (.binOp .lss 3 (.tmp 18) (.const (.int .i64 2)) 3) 0 (by kernel_rfl)) F (by decide) (v := .bool true) (x_int (F.slot rfl) rfl rfl) (fun a F => ?_)
    unfold wpSeq
    have H : St w (fun _ => False) (fun _ => False) [Asn.blk g1 [.int .i64 0, .int .i64 0, .slice none 0 0] 40, Asn.blk g2 [.int .i64 x, .int .i64 0] 87] W := H
    refine t_normal ?_
    refine c_seq (by kernel_rfl) ?_
    refine c_yes (c := .tmp 19) (by kernel_rfl) (F.slot rfl) ?_
    refine c_skip (by kernel_rfl) ?_
    refine t_normal ?_
    refine c_seq (by kernel_rfl) ?_
    refine c_block (id := 1) (by kernel_rfl) ?_
    refine c_seq (by kernel_rfl) ?_
    refine c_text (id := 4) (by kernel_rfl) [(0, 2), (1, 2)] (by kernel_rfl) ?_
    refine q2 (o_s 20 (.move (.tmp 18)) 3 (by kernel_rfl)) F (by decide) (x_move (F.slot rfl)) (fun a F => ?_)
    refine q2 (o_s 5 (.assign (.tmp 20)) 3 (by kernel_rfl)) F (by decide) (v := .int .i64 1) (x_assign (F.slot rfl)) (fun a F => ?_)
    unfold wpSeq
    refine t_normal ?_
    refine c_seq (by kernel_rfl) ?_
    refine c_text (id := 5) (by kernel_rfl) [(0, 2), (1, 2), (2, 2), (3, 2), (4, 2), (5, 2), (6, 2), (7, 2), (8, 2)] (by kernel_rfl) ?_
    refine q2 (o_s 22 (.move (.tmp 0)) 9 (by kernel_rfl)) F (by decide) (x_move (F.slot rfl)) (fun a F => ?_)
    obtain ⟨a1, k1, z1, hG⟩ : ∃ a k z, gi s 9 0 0 = (a, k, z) := ⟨_, _, _, rfl⟩
    refine sqc (o_s 23 (.call { callee := (.value (.func 60)), args := #[(.tmp 22)], argTypes := #[9] }) 88 (by kernel_rfl)) trivial F (by decide) (x_call Tryd.func60 (by kernel_rfl) rfl (args_1 (F.slot rfl))) (wire_GetInt.calls s a1 k1 z1 W (congrArg some hG)) ?_
    rintro e W ⟨rfl, hd⟩
    refine ⟨_, rfl, fun a F => ?_⟩
    have H := H.below (drawn_below hd)
    refine ⟨(fun _ => trivial), ?_⟩
    refine q2 (o_s 21 (.move (.tmp 23)) 88 (by kernel_rfl)) F (by decide) (x_move (F.slot rfl)) (fun a F => ?_)
    refine q2 (o_s 24 (.extract (.tmp 21) 0) 2 (by kernel_rfl)) F (by decide) (v := .int .i64 a1) (x_extract (F.slot rfl) rfl) (fun a F => ?_)
    refine q2 (o_s 25 (.extract (.tmp 21) 1) 3 (by kernel_rfl)) F (by decide) (v := .int .i64 k1) (x_extract (F.slot rfl) rfl) (fun a F => ?_)
    refine q2 (o_s 26 (.extract (.tmp 21) 2) 24 (by kernel_rfl)) F (by decide) (v := .int .i64 z1) (x_extract (F.slot rfl) rfl) (fun a F => ?_)
    refine q2 (o_s 6 (.assign (.tmp 24)) 2 (by kernel_rfl)) F (by decide) (v := .int .i64 a1) (x_assign (F.slot rfl)) (fun a F => ?_)
    refine q2 (o_s 7 (.assign (.tmp 25)) 3 (by kernel_rfl)) F (by decide) (v := .int .i64 k1) (x_assign (F.slot rfl)) (fun a F => ?_)
    refine q2 (o_s 8 (.assign (.tmp 26)) 24 (by kernel_rfl)) F (by decide) (v := .int .i64 z1) (x_assign (F.slot rfl)) (fun a F => ?_)
    unfold wpSeq
    refine t_normal ?_
    refine c_seq (by kernel_rfl) ?_
    refine c_seq (by kernel_rfl) ?_
    refine c_text (id := 6) (by kernel_rfl) [(0, 2), (1, 2)] (by kernel_rfl) ?_
    refine q2 (o_s 27 (.move (.tmp 8)) 24 (by kernel_rfl)) F (by decide) (x_move (F.slot rfl)) (fun a F => ?_)
    refine q2 (o_s 28 (.binOp .neq 24 (.tmp 27) (.const (.int .i64 0)) 24) 4 (by kernel_rfl)) F (by decide) (v := .bool (z1 != (0 : Int))) (x_int (F.slot rfl) rfl rfl) (fun a F => ?_)
    unfold wpSeq
    refine t_normal ?_
    rcases bool_or (z1 != (0 : Int)) with hb5 | hb5
    · have F := F.at 28 rfl (v' := .bool true) (congrArg Value.bool hb5)
      refine c_yes (c := .tmp 28) (by kernel_rfl) (F.slot rfl) ?_
      refine c_seq (by kernel_rfl) ?_
      refine c_text (id := 7) (by kernel_rfl) [(0, 2), (1, 2), (2, 2), (3, 2)] (by kernel_rfl) ?_
      refine q2 (o_s 29 (.build 40 #[]) 40 (by kernel_rfl)) F (by decide) (v := .agg #[.int .i64 0, .int .i64 0, .slice none 0 0]) (by simp [ex, execOp, Instr.build, Tryd.zeroValue40, run_underlying Tryd.underlying40, Instr.fill, Value.cells, Tryd.sizeOf3, Tryd.sizeOf38]) (fun a F => ?_)
      refine q2 (o_s 30 (.move (.tmp 8)) 24 (by kernel_rfl)) F (by decide) (x_move (F.slot rfl)) (fun a F => ?_)
      refine sq_put (M := [Asn.blk g1 [.int .i64 0, .int .i64 0, .slice none 0 0] 40, Asn.blk g2 [.int .i64 x, .int .i64 0] 87]) (o_n (.store 40 (.tmp 2) (.tmp 29)) 0 (by kernel_rfl)) trivial F (x_store H (k := 0) (cs' := [.int .i64 0, .int .i64 0, .slice none 0 0]) rfl (Tryd.sizeOf40 W) (F.slot rfl) (F.slot rfl) rfl (Nat.le_of_ble_eq_true rfl) rfl rfl) ?_
      intro W H
      refine ⟨(fun _ => trivial), ?_⟩
      refine q2 (o_s 3 (.assign (.tmp 30)) 24 (by kernel_rfl)) F (by decide) (v := .int .i64 z1) (x_assign (F.slot rfl)) (fun a F => ?_)
      unfold wpSeq
      refine t_normal ?_
      refine c_ret (by kernel_rfl) ?_
      refine t_ret ?_
      refine b_ret ?_
      refine t_ret ?_
      refine t_ret ?_
      refine b_ret ?_
      refine t_ret ?_
      refine p_list (rs := [.cell 2 40, .tmp 3]) (vs := [.agg #[.int .i64 0, .int .i64 0, .slice none 0 0], .int .i64 z1]) Tryd.results28 (by simp) F (Vals.cell' F rfl (H.blk 0 rfl) Tryd.underlying40 rfl (by kernel_rfl) (Vals.tmp' F rfl .nil)) ?_
      have hz : z1 ≠ 0 := by simpa using hb5
      have HF : bdec s0 = bnil z1 := by have := HF.trans (if_neg (by rw [hG]; exact hz)); rw [hG] at this; exact this
      rw [HF]
      exact ⟨none, 0, rfl, Nat.le_refl _, fun _ _ => Kd.C_nil _ _, H.ends⟩
    · have F := F.at 28 rfl (v' := .bool false) (congrArg Value.bool hb5)
      refine c_no (c := .tmp 28) (by kernel_rfl) (F.slot rfl) ?_
      refine c_skip (by kernel_rfl) ?_
      refine t_normal ?_
      obtain rfl : z1 = 0 := by simpa using hb5
      have HF : bdec s0 = bdec2 x a1 (rest s k1) := by have := HF.trans (if_pos (by rw [hG])); rw [hG] at this; exact this
      have hg := gi_ok s 9 0 0 (by omega) (by rw [hG])
      rw [hG] at hg; dsimp only at hg
      refine c_drawn (id := 8) (by kernel_rfl) (by kernel_rfl) (Vs []) [0, 0, 0, 0, 12, 3, 35, 127] [] [(0, 0), (1, 0), (2, 0), (3, 0), (4, 0), (5, 0), (6, 2), (7, 0)] (by kernel_rfl) (fun _ _ d _ _ h => by cases d <;> exact h) (trivial) ?_
      have H := H.drew
      generalize World.drew W = W at H ⊢
      refine q0 (o_s 31 (.move (.tmp 5)) 3 (by kernel_rfl)) F (by decide) (fun W_ => x_move (F.slot rfl)) (fun a F => ?_)
      refine q0 (o_s 32 (.move (.tmp 6)) 2 (by kernel_rfl)) F (by decide) (fun W_ => x_move (F.slot rfl)) (fun a F => ?_)
      refine q0 (o_s 33 (.move (.tmp 0)) 9 (by kernel_rfl)) F (by decide) (fun W_ => x_move (F.slot rfl)) (fun a F => ?_)
      refine q0 (o_s 34 (.move (.tmp 7)) 3 (by kernel_rfl)) F (by decide) (fun W_ => x_move (F.slot rfl)) (fun a F => ?_)
      refine q0 (o_s 35 (.slice 9 (.tmp 33) (some (.tmp 34)) none none) 9 (by kernel_rfl)) F (by decide) (v := .string (rest s k1)) (fun W_ => x_sliceS Tryd.underlying9 (F.slot rfl) (F.slot rfl) (by omega) (by omega)) (fun a F => ?_)
      refine q0 (o_s 36 (.indexAddr 87 (.tmp 4) (.tmp 31)) 0 (by kernel_rfl)) F (by decide) (v := .pointer (some ⟨g2, 1, none⟩)) (fun W_ => x_ixc Tryd.underlying87 (Tryd.sizeOf2 W_) (F.slot rfl) (F.slot rfl) (by decide)) (fun a F => ?_)
      refine sq_put (M := [Asn.blk g1 [.int .i64 0, .int .i64 0, .slice none 0 0] 40, Asn.blk g2 [.int .i64 x, .int .i64 a1] 87]) (o_n (.store 2 (.tmp 36) (.tmp 32)) 0 (by kernel_rfl)) trivial F (x_store H (k := 1) (cs' := [.int .i64 x, .int .i64 a1]) rfl (Tryd.sizeOf2 W) (F.slot rfl) (F.slot rfl) rfl (Nat.le_of_ble_eq_true rfl) rfl rfl) ?_
      intro W H
      refine ⟨(fun _ => trivial), ?_⟩
      refine q0 (o_s 0 (.assign (.tmp 35)) 9 (by kernel_rfl)) F (by decide) (v := .string (rest s k1)) (fun W_ => x_assign (F.slot rfl)) (fun a F => ?_)
      unfold wpSeq
      refine b_normal ?_
      refine t_normal ?_
      refine c_text (id := 9) (by kernel_rfl) [(0, 2), (1, 2)] (by kernel_rfl) ?_
      refine q2 (o_s 37 (.binOp .add 3 (.tmp 18) (.const (.int .i64 1)) 3) 3 (by kernel_rfl)) F (by decide) (v := .int .i64 2) (x_int (F.slot rfl) rfl rfl) (fun a F => ?_)
      refine q2 (o_s 18 (.move (.tmp 37)) 3 (by kernel_rfl)) F (by decide) (x_move (F.slot rfl)) (fun a F => ?_)
      unfold wpSeq
      refine t_normal ?_
      have F_ := F
      exact ⟨k - 1, by omega, (2 : Int), x, a1, (rest s k1), F.less _ (subc rfl (subc rfl (subc rfl (subc rfl sub0)))), H, (by have := rest_size s k1; omega), by omega, .inr (.inr ⟨rfl, HF⟩)⟩
  · refine c_text (id := 3) (by kernel_rfl) [(0, 2)] (by kernel_rfl) ?_
    refine q2 (o_s 19 (.binOp .lss 3 (.tmp 18) (.const (.int .i64 2)) 3) 0 (by kernel_rfl)) F (by decide) (v := .bool false) (x_int (F.slot rfl) rfl rfl) (fun a F => ?_)
    unfold wpSeq
    have H : St w (fun _ => False) (fun _ => False) [Asn.blk g1 [.int .i64 0, .int .i64 0, .slice none 0 0] 40, Asn.blk g2 [.int .i64 x, .int .i64 y] 87] W := H
    refine t_normal ?_
    refine c_seq (by kernel_rfl) ?_
    refine c_no (c := .tmp 19) (by kernel_rfl) (F.slot rfl) ?_
    refine c_exit (id := 0) (by kernel_rfl) ?_
    refine t_exit ?_
    refine t_exit ?_
    refine b_here ?_
    refine t_normal ?_
    refine c_seq (by kernel_rfl) ?_
    refine c_text (id := 10) (by kernel_rfl) [(0, 2), (1, 2), (2, 2), (3, 2), (4, 2), (5, 2), (6, 2), (7, 2), (8, 2)] (by kernel_rfl) ?_
    refine q2 (o_s 39 (.move (.tmp 0)) 9 (by kernel_rfl)) F (by decide) (x_move (F.slot rfl)) (fun a F => ?_)
    obtain ⟨l, k1, z1, hG⟩ : ∃ l k z, gl s 16 = (l, k, z) := ⟨_, _, _, rfl⟩
    refine sqc (o_s 40 (.call { callee := (.value (.func 61)), args := #[(.tmp 39), (.const (.int .i64 16))], argTypes := #[9, 3] }) 90 (by kernel_rfl)) trivial F (by decide) (x_call Tryd.func61 (by kernel_rfl) rfl (args_2 (F.slot rfl) rfl)) (PWi.wire_GetList.calls 17 s 16 l k1 z1 W ((wire_list s HS 16 (by omega) 17 (by omega)).trans (congrArg some hG))) ?_
    rintro e W ⟨v9, rfl, hR, hd⟩
    refine ⟨_, rfl, fun a F => ?_⟩
    obtain ⟨A, c, rfl, hc9, hC⟩ := Kd.R_reads hR
    have H := H.freshF hd _ _ (Kd.R_F (Kd.R_bound hR)) (fun k hk => hk.2.1)
    have H : St w (fun _ => False) (fun _ => False) [Asn.blk g1 [.int .i64 0, .int .i64 0, .slice none 0 0] 40, Asn.blk g2 [.int .i64 x, .int .i64 y] 87, Asn.rd Kd.string _ A l.length l] W := H
    refine ⟨(fun _ => trivial), ?_⟩
    refine q2 (o_s 38 (.move (.tmp 40)) 90 (by kernel_rfl)) F (by decide) (x_move (F.slot rfl)) (fun a F => ?_)
    refine q2 (o_s 41 (.extract (.tmp 38) 0) 31 (by kernel_rfl)) F (by decide) (v := .slice A l.length c) (x_extract (F.slot rfl) rfl) (fun a F => ?_)
    refine q2 (o_s 42 (.extract (.tmp 38) 1) 3 (by kernel_rfl)) F (by decide) (v := .int .i64 k1) (x_extract (F.slot rfl) rfl) (fun a F => ?_)
    refine q2 (o_s 43 (.extract (.tmp 38) 2) 24 (by kernel_rfl)) F (by decide) (v := .int .i64 z1) (x_extract (F.slot rfl) rfl) (fun a F => ?_)
    refine q2 (o_s 9 (.assign (.tmp 41)) 31 (by kernel_rfl)) F (by decide) (v := .slice A l.length c) (x_assign (F.slot rfl)) (fun a F => ?_)
    refine q2 (o_s 10 (.assign (.tmp 42)) 3 (by kernel_rfl)) F (by decide) (v := .int .i64 k1) (x_assign (F.slot rfl)) (fun a F => ?_)
    refine q2 (o_s 11 (.assign (.tmp 43)) 24 (by kernel_rfl)) F (by decide) (v := .int .i64 z1) (x_assign (F.slot rfl)) (fun a F => ?_)
    unfold wpSeq
    refine t_normal ?_
    refine c_seq (by kernel_rfl) ?_
    refine c_seq (by kernel_rfl) ?_
    refine c_text (id := 11) (by kernel_rfl) [(0, 2), (1, 2)] (by kernel_rfl) ?_
    refine q2 (o_s 44 (.move (.tmp 11)) 24 (by kernel_rfl)) F (by decide) (x_move (F.slot rfl)) (fun a F => ?_)
    refine q2 (o_s 45 (.binOp .neq 24 (.tmp 44) (.const (.int .i64 0)) 24) 4 (by kernel_rfl)) F (by decide) (v := .bool (z1 != (0 : Int))) (x_int (F.slot rfl) rfl rfl) (fun a F => ?_)
    unfold wpSeq
    refine t_normal ?_
    rcases bool_or (z1 != (0 : Int)) with hb7 | hb7
    · have F := F.at 45 rfl (v' := .bool true) (congrArg Value.bool hb7)
      refine c_yes (c := .tmp 45) (by kernel_rfl) (F.slot rfl) ?_
      refine c_seq (by kernel_rfl) ?_
      refine c_text (id := 12) (by kernel_rfl) [(0, 2), (1, 2), (2, 2), (3, 2)] (by kernel_rfl) ?_
      refine q2 (o_s 46 (.build 40 #[]) 40 (by kernel_rfl)) F (by decide) (v := .agg #[.int .i64 0, .int .i64 0, .slice none 0 0]) (by simp [ex, execOp, Instr.build, Tryd.zeroValue40, run_underlying Tryd.underlying40, Instr.fill, Value.cells, Tryd.sizeOf3, Tryd.sizeOf38]) (fun a F => ?_)
      refine q2 (o_s 47 (.move (.tmp 11)) 24 (by kernel_rfl)) F (by decide) (x_move (F.slot rfl)) (fun a F => ?_)
      refine sq_put (M := [Asn.blk g1 [.int .i64 0, .int .i64 0, .slice none 0 0] 40, Asn.blk g2 [.int .i64 x, .int .i64 y] 87, Asn.rd Kd.string _ A l.length l]) (o_n (.store 40 (.tmp 2) (.tmp 46)) 0 (by kernel_rfl)) trivial F (x_store H (k := 0) (cs' := [.int .i64 0, .int .i64 0, .slice none 0 0]) rfl (Tryd.sizeOf40 W) (F.slot rfl) (F.slot rfl) rfl (Nat.le_of_ble_eq_true rfl) rfl rfl) ?_
      intro W H
      refine ⟨(fun _ => trivial), ?_⟩
      refine q2 (o_s 3 (.assign (.tmp 47)) 24 (by kernel_rfl)) F (by decide) (v := .int .i64 z1) (x_assign (F.slot rfl)) (fun a F => ?_)
      unfold wpSeq
      refine t_normal ?_
      refine c_ret (by kernel_rfl) ?_
      refine t_ret ?_
      refine p_list (rs := [.cell 2 40, .tmp 3]) (vs := [.agg #[.int .i64 0, .int .i64 0, .slice none 0 0], .int .i64 z1]) Tryd.results28 (by simp) F (Vals.cell' F rfl (H.blk 0 rfl) Tryd.underlying40 rfl (by kernel_rfl) (Vals.tmp' F rfl .nil)) ?_
      have hz : z1 ≠ 0 := by simpa using hb7
      have HF : bdec s0 = bnil z1 := by have := HF.trans (if_neg (by rw [hG]; exact hz)); rw [hG] at this; exact this
      rw [HF]
      exact ⟨none, 0, rfl, Nat.le_refl _, fun _ _ => Kd.C_nil _ _, H.ends⟩
    · have F := F.at 45 rfl (v' := .bool false) (congrArg Value.bool hb7)
      refine c_no (c := .tmp 45) (by kernel_rfl) (F.slot rfl) ?_
      refine c_skip (by kernel_rfl) ?_
      refine t_normal ?_
      refine c_seq (by kernel_rfl) ?_
      obtain rfl : z1 = 0 := by simpa using hb7
      have hg := gl_ok s 16 (by rw [hG])
      have HF : bdec s0 = bfin x y s k1 (dall l) := by have := HF.trans (if_pos (by rw [hG])); rw [hG] at this; exact this
      have HL0 : ∀ x ∈ l, x.size < 4611686018427387904 := by
        intro x hx
        have h1 := bgl_size s 16 x (by rw [hG]; exact hx)
        omega
      rw [hG] at hg; dsimp only at hg
      refine c_text (id := 13) (by kernel_rfl) [(0, 2), (1, 2), (2, 2), (3, 2), (4, 2), (5, 2), (6, 2)] (by kernel_rfl) ?_
      refine q2 (o_s 48 (.indexAddr 87 (.tmp 4) (.const (.int .i64 0))) 0 (by kernel_rfl)) F (by decide) (v := .pointer (some ⟨g2, 0, none⟩)) (x_ixc Tryd.underlying87 (Tryd.sizeOf2 W) (F.slot rfl) rfl (by decide)) (fun a F => ?_)
      refine q2 (o_s 49 (.load 2 (.tmp 48)) 2 (by kernel_rfl)) F (by decide) (v := .int .i64 x) (x_load1 (Tryd.isAgg2 W) (F.slot rfl) (H.cell 1 rfl rfl)) (fun a F => ?_)
      refine q2 (o_s 50 (.indexAddr 87 (.tmp 4) (.const (.int .i64 1))) 0 (by kernel_rfl)) F (by decide) (v := .pointer (some ⟨g2, 1, none⟩)) (x_ixc Tryd.underlying87 (Tryd.sizeOf2 W) (F.slot rfl) rfl (by decide)) (fun a F => ?_)
      refine q2 (o_s 51 (.load 2 (.tmp 50)) 2 (by kernel_rfl)) F (by decide) (v := .int .i64 y) (x_load1 (Tryd.isAgg2 W) (F.slot rfl) (H.cell 1 rfl rfl)) (fun a F => ?_)
      refine q2 (o_s 52 (.build 40 #[(0, (.tmp 49)), (1, (.tmp 51))]) 40 (by kernel_rfl)) F (by decide) (v := .agg #[.int .i64 x, .int .i64 y, .slice none 0 0]) (by simp [ex, execOp, Instr.build, Tryd.zeroValue40, run_underlying Tryd.underlying40, Instr.fill, Value.cells, F.slot (i := 49) rfl, F.slot (i := 51) rfl, Tryd.sizeOf3, Tryd.sizeOf38]) (fun a F => ?_)
      refine sq_new (o_s 12 (.alloc 40) 0 (by kernel_rfl)) trivial F (by decide) H [.int .i64 0, .int .i64 0, .slice none 0 0] 40 (x_alloc Tryd.zeroValue40 rfl) ?_
      intro g8 W a hg8 H F
      refine ⟨(fun _ => trivial), ?_⟩
      refine sq_put (M := [Asn.blk g1 [.int .i64 0, .int .i64 0, .slice none 0 0] 40, Asn.blk g2 [.int .i64 x, .int .i64 y] 87, Asn.rd Kd.string _ A l.length l, Asn.blk g8 [.int .i64 x, .int .i64 y, .slice none 0 0] 40]) (o_n (.store 40 (.tmp 12) (.tmp 52)) 0 (by kernel_rfl)) trivial F (x_store H (k := 3) (cs' := [.int .i64 x, .int .i64 y, .slice none 0 0]) rfl (Tryd.sizeOf40 W) (F.slot rfl) (F.slot rfl) rfl (Nat.le_of_ble_eq_true rfl) rfl rfl) ?_
      intro W H
      refine ⟨(fun _ => trivial), ?_⟩
      unfold wpSeq
      refine t_normal ?_
      refine c_seq (by kernel_rfl) ?_
      refine c_seq (by kernel_rfl) ?_
      have H := H.quNil k33 33
      have H : St w (fun _ => False) (fun _ => False) [Asn.blk g1 [.int .i64 0, .int .i64 0, .slice none 0 0] 40, Asn.blk g2 [.int .i64 x, .int .i64 y] 87, Asn.rd Kd.string _ A l.length l, Asn.blk g8 [.int .i64 x, .int .i64 y, .slice none 0 0] 40, Asn.qu k33 33 (.slice none 0 0) ([] : List S33) (fun _ => False)] W := H
      refine c_text (id := 14) (by kernel_rfl) [(0, 2), (1, 2), (2, 2)] (by kernel_rfl) ?_
      refine q2 (o_s 53 (.move (.tmp 9)) 31 (by kernel_rfl)) F (by decide) (x_move (F.slot rfl)) (fun a F => ?_)
      refine q2 (o_s 54 (.call { callee := (.builtin .len), args := #[(.tmp 53)], argTypes := #[31] }) 3 (by kernel_rfl)) F (by decide) (v := .int .i64 (l.length : Int)) (x_lenL Tryd.underlying31 (F.slot rfl)) (fun a F => ?_)
      refine q2 (o_s 55 (.move (.const (.int .i64 0))) 3 (by kernel_rfl)) F (by decide) (v := .int .i64 0) (x_move rfl) (fun a F => ?_)
      unfold wpSeq
      refine t_normal ?_
      refine c_block (id := 2) (by kernel_rfl) ?_
      refine c_loop (by kernel_rfl) (fun k a W => ∃ (j : Nat) (acc : List S33) (A1 : Option Addr) (c1 : Nat) (ok : Nat → Prop), Fr 93 [(2, .pointer (some ⟨g1, 0, none⟩)), (4, .pointer (some ⟨g2, 0, none⟩)), (0, .string s), (18, .int .i64 2), (19, .bool false), (39, .string s), (40, .tuple #[.slice A l.length c, .int .i64 k1, .int .i64 0]), (38, .tuple #[.slice A l.length c, .int .i64 k1, .int .i64 0]), (41, .slice A l.length c), (42, .int .i64 k1), (43, .int .i64 0), (9, .slice A l.length c), (10, .int .i64 k1), (11, .int .i64 0), (44, .int .i64 0), (45, .bool false), (48, .pointer (some ⟨g2, 0, none⟩)), (49, .int .i64 x), (50, .pointer (some ⟨g2, 1, none⟩)), (51, .int .i64 y), (52, .agg #[.int .i64 x, .int .i64 y, .slice none 0 0]), (12, .pointer (some ⟨g8, 0, none⟩)), (53, .slice A l.length c), (54, .int .i64 (l.length : Int)), (55, .int .i64 (j : Int))] a ∧ St w (fun _ => False) (fun _ => False) [Asn.blk g1 [.int .i64 0, .int .i64 0, .slice none 0 0] 40, Asn.blk g2 [.int .i64 x, .int .i64 y] 87, Asn.rd Kd.string _ A l.length l, Asn.blk g8 [.int .i64 x, .int .i64 y, .slice A1 acc.length c1] 40, Asn.qu k33 33 (.slice A1 acc.length c1) acc ok] W ∧ (j ≤ l.length) ∧ (k + j = l.length) ∧ (acc.length = j) ∧ (dall l = (acc ++ (dall (l.drop j)).1, (dall (l.drop j)).2))) l.length ⟨0, [], none, 0, (fun _ => False), F.less _ (subc rfl (subc rfl (subc rfl (subc rfl (subc rfl (subc rfl (subc rfl (subc rfl (subc rfl (subc rfl (subc rfl (subc rfl (subc rfl (subc rfl (subc rfl (subc rfl (subc rfl (subc rfl (subc rfl (subc rfl (subc rfl (subc rfl (subc rfl (subc rfl (subc rfl sub0))))))))))))))))))))))))), H, (Nat.zero_le _), rfl, rfl, rfl⟩ ?_
      rintro k a W ⟨j, acc, A1, c1, ok, F, H, hj, hkj, hacc, HD⟩
      refine c_seq (by kernel_rfl) ?_
      refine c_text (id := 15) (by kernel_rfl) [(0, 2)] (by kernel_rfl) ?_
      refine q2 (o_s 56 (.binOp .lss 3 (.tmp 55) (.tmp 54) 3) 0 (by kernel_rfl)) F (by decide) (v := .bool (decide ((j : Int) < (l.length : Int)))) (x_int (F.slot rfl) (F.slot rfl) rfl) (fun a F => ?_)
      unfold wpSeq
      have H : St w (fun _ => False) (fun _ => False) [Asn.blk g1 [.int .i64 0, .int .i64 0, .slice none 0 0] 40, Asn.blk g2 [.int .i64 x, .int .i64 y] 87, Asn.rd Kd.string _ A l.length l, Asn.blk g8 [.int .i64 x, .int .i64 y, .slice A1 acc.length c1] 40, Asn.qu k33 33 (.slice A1 acc.length c1) acc ok] W := H
      refine t_normal ?_
      refine c_seq (by kernel_rfl) ?_
      rcases bool_or (decide ((j : Int) < (l.length : Int))) with hb9 | hb9
      · have hb9d := of_decide_eq_true hb9
        have F := F.at 56 rfl (v' := .bool true) (congrArg Value.bool hb9)
        refine c_yes (c := .tmp 56) (by kernel_rfl) (F.slot rfl) ?_
        refine c_skip (by kernel_rfl) ?_
        refine t_normal ?_
        refine c_seq (by kernel_rfl) ?_
        refine c_block (id := 3) (by kernel_rfl) ?_
        refine c_seq (by kernel_rfl) ?_
        refine c_text (id := 16) (by kernel_rfl) [(0, 2), (1, 2), (2, 2)] (by kernel_rfl) ?_
        obtain ⟨ad, hA, hx⟩ := Kd.at_string (H.rd 2 rfl) (j : Int) (by omega) (by omega)
        have hx : W.cell? (ad.add j) = some (.string (rdOf ByteArray.empty l (j : Int))) := hx
        obtain ⟨b, hb⟩ : ∃ b, rdOf ByteArray.empty l (j : Int) = b := ⟨_, rfl⟩
        have hbs : b.size < 4611686018427387904 := by
          have e : rdOf ByteArray.empty l (j : Int) = l[j] := by simp [rdOf, show j < l.length by omega]
          rw [← hb, e]; exact HL0 _ (List.getElem_mem _)
        have hd := dall_at l j (by omega)
        rw [hb] at hx hd
        have F := F.at 53 rfl (v' := .slice (some ad) l.length c) (by rw [hA])
        refine q2 (o_s 57 (.indexAddr 31 (.tmp 53) (.tmp 55)) 0 (by kernel_rfl)) F (by decide) (v := .pointer (some (ad.add j))) (x_indexSl1 (n := l.length) (c := c) (ad := ad) (i := (j : Int)) Tryd.underlying31 (Tryd.sizeOf9 W) (F.slot rfl) (F.slot rfl) (by omega) (by omega)) (fun a F => ?_)
        refine q2 (o_s 58 (.load 9 (.tmp 57)) 9 (by kernel_rfl)) F (by decide) (v := .string b) (x_load1 (Tryd.isAgg9 W) (F.slot rfl) hx) (fun a F => ?_)
        refine q2 (o_s 14 (.assign (.tmp 58)) 9 (by kernel_rfl)) F (by decide) (v := .string b) (x_assign (F.slot rfl)) (fun a F => ?_)
        unfold wpSeq
        refine t_normal ?_
        refine c_seq (by kernel_rfl) ?_
        refine c_text (id := 17) (by kernel_rfl) [(0, 2), (1, 2), (2, 2), (3, 2), (4, 2), (5, 2), (6, 2), (7, 2)] (by kernel_rfl) ?_
        refine q2 (o_s 60 (.move (.tmp 14)) 9 (by kernel_rfl)) F (by decide) (x_move (F.slot rfl)) (fun a F => ?_)
        obtain ⟨k0, f0, t0, am0, nc0, ky0, vl0, rs0, ws0, er, hr⟩ : ∃ a1 a2 a3 a4 a5 a6 a7 a8 a9 a10, dec b = (a1, a2, a3, a4, a5, a6, a7, a8, a9, a10) := ⟨_, _, _, _, _, _, _, _, _, _, rfl⟩
        refine sqc (o_s 61 (.call { callee := (.value (.func 25)), args := #[(.tmp 60)], argTypes := #[9] }) 48 (by kernel_rfl)) trivial F (by decide) (x_call Tryd.func25 (by kernel_rfl) rfl (args_1 (F.slot rfl))) (bdec_tx b W hbs hr) ?_
        rintro e W ⟨A7, c7, A8, c8, rfl, hF7, hl7, hF8, hl8, hB⟩
        refine ⟨_, rfl, fun a F => ?_⟩
        have H := H.freshF hB _ _ (fk_tx (toS (k0, f0, t0, am0, nc0, ky0, vl0, rs0, ws0, er)) hl7 hF7 hl8 hF8) (fun k hk => hk.1)
        have H : St w (fun _ => False) (fun _ => False) [Asn.blk g1 [.int .i64 0, .int .i64 0, .slice none 0 0] 40, Asn.blk g2 [.int .i64 x, .int .i64 y] 87, Asn.rd Kd.string _ A l.length l, Asn.blk g8 [.int .i64 x, .int .i64 y, .slice A1 acc.length c1] 40, Asn.qu k33 33 (.slice A1 acc.length c1) acc ok, Asn.fk k33 _ (toS (k0, f0, t0, am0, nc0, ky0, vl0, rs0, ws0, er)) [.int .i64 k0, .string f0, .string t0, .int .u64 am0, .int .u64 nc0, .string ky0, .string vl0, .slice A7 rs0.length c7, .slice A8 ws0.length c8]] W := H
        refine ⟨(fun _ => trivial), ?_⟩
        refine q2 (o_s 59 (.move (.tmp 61)) 48 (by kernel_rfl)) F (by decide) (x_move (F.slot rfl)) (fun a F => ?_)
        refine q2 (o_s 62 (.extract (.tmp 59) 0) 33 (by kernel_rfl)) F (by decide) (v := .agg #[.int .i64 k0, .string f0, .string t0, .int .u64 am0, .int .u64 nc0, .string ky0, .string vl0, .slice A7 rs0.length c7, .slice A8 ws0.length c8]) (x_extract (F.slot rfl) rfl) (fun a F => ?_)
        refine q2 (o_s 63 (.extract (.tmp 59) 1) 24 (by kernel_rfl)) F (by decide) (v := .int .i64 er) (x_extract (F.slot rfl) rfl) (fun a F => ?_)
        refine sq_new (o_s 15 (.alloc 33) 0 (by kernel_rfl)) trivial F (by decide) H [.int .i64 0, .string ⟨#[]⟩, .string ⟨#[]⟩, .int .u64 0, .int .u64 0, .string ⟨#[]⟩, .string ⟨#[]⟩, .slice none 0 0, .slice none 0 0] 33 (x_alloc Tryd.zeroValue33 rfl) ?_
        intro g10 W a hg10 H F
        refine ⟨(fun _ => trivial), ?_⟩
        refine sq_put (M := [Asn.blk g1 [.int .i64 0, .int .i64 0, .slice none 0 0] 40, Asn.blk g2 [.int .i64 x, .int .i64 y] 87, Asn.rd Kd.string _ A l.length l, Asn.blk g8 [.int .i64 x, .int .i64 y, .slice A1 acc.length c1] 40, Asn.qu k33 33 (.slice A1 acc.length c1) acc ok, Asn.fk k33 _ (toS (k0, f0, t0, am0, nc0, ky0, vl0, rs0, ws0, er)) [.int .i64 k0, .string f0, .string t0, .int .u64 am0, .int .u64 nc0, .string ky0, .string vl0, .slice A7 rs0.length c7, .slice A8 ws0.length c8], Asn.blk g10 [.int .i64 k0, .string f0, .string t0, .int .u64 am0, .int .u64 nc0, .string ky0, .string vl0, .slice A7 rs0.length c7, .slice A8 ws0.length c8] 33]) (o_n (.store 33 (.tmp 15) (.tmp 62)) 0 (by kernel_rfl)) trivial F (x_store H (k := 6) (cs' := [.int .i64 k0, .string f0, .string t0, .int .u64 am0, .int .u64 nc0, .string ky0, .string vl0, .slice A7 rs0.length c7, .slice A8 ws0.length c8]) rfl (Tryd.sizeOf33 W) (F.slot rfl) (F.slot rfl) rfl (Nat.le_of_ble_eq_true rfl) rfl rfl) ?_
        intro W H
        refine ⟨(fun _ => trivial), ?_⟩
        refine q2 (o_s 16 (.assign (.tmp 63)) 24 (by kernel_rfl)) F (by decide) (v := .int .i64 er) (x_assign (F.slot rfl)) (fun a F => ?_)
        unfold wpSeq
        refine t_normal ?_
        refine c_seq (by kernel_rfl) ?_
        refine c_seq (by kernel_rfl) ?_
        refine c_text (id := 18) (by kernel_rfl) [(0, 2), (1, 2)] (by kernel_rfl) ?_
        refine q2 (o_s 64 (.move (.tmp 16)) 24 (by kernel_rfl)) F (by decide) (x_move (F.slot rfl)) (fun a F => ?_)
        refine q2 (o_s 65 (.binOp .neq 24 (.tmp 64) (.const (.int .i64 0)) 24) 4 (by kernel_rfl)) F (by decide) (v := .bool (er != (0 : Int))) (x_int (F.slot rfl) rfl rfl) (fun a F => ?_)
        unfold wpSeq
        refine t_normal ?_
        rcases bool_or (er != (0 : Int)) with hb11 | hb11
        · have F := F.at 65 rfl (v' := .bool true) (congrArg Value.bool hb11)
          refine c_yes (c := .tmp 65) (by kernel_rfl) (F.slot rfl) ?_
          refine c_seq (by kernel_rfl) ?_
          refine c_text (id := 19) (by kernel_rfl) [(0, 2), (1, 2), (2, 2), (3, 2)] (by kernel_rfl) ?_
          refine q2 (o_s 66 (.build 40 #[]) 40 (by kernel_rfl)) F (by decide) (v := .agg #[.int .i64 0, .int .i64 0, .slice none 0 0]) (by simp [ex, execOp, Instr.build, Tryd.zeroValue40, run_underlying Tryd.underlying40, Instr.fill, Value.cells, Tryd.sizeOf3, Tryd.sizeOf38]) (fun a F => ?_)
          refine q2 (o_s 67 (.move (.tmp 16)) 24 (by kernel_rfl)) F (by decide) (x_move (F.slot rfl)) (fun a F => ?_)
          refine sq_put (M := [Asn.blk g1 [.int .i64 0, .int .i64 0, .slice none 0 0] 40, Asn.blk g2 [.int .i64 x, .int .i64 y] 87, Asn.rd Kd.string _ A l.length l, Asn.blk g8 [.int .i64 x, .int .i64 y, .slice A1 acc.length c1] 40, Asn.qu k33 33 (.slice A1 acc.length c1) acc ok, Asn.fk k33 _ (toS (k0, f0, t0, am0, nc0, ky0, vl0, rs0, ws0, er)) [.int .i64 k0, .string f0, .string t0, .int .u64 am0, .int .u64 nc0, .string ky0, .string vl0, .slice A7 rs0.length c7, .slice A8 ws0.length c8], Asn.blk g10 [.int .i64 k0, .string f0, .string t0, .int .u64 am0, .int .u64 nc0, .string ky0, .string vl0, .slice A7 rs0.length c7, .slice A8 ws0.length c8] 33]) (o_n (.store 40 (.tmp 2) (.tmp 66)) 0 (by kernel_rfl)) trivial F (x_store H (k := 0) (cs' := [.int .i64 0, .int .i64 0, .slice none 0 0]) rfl (Tryd.sizeOf40 W) (F.slot rfl) (F.slot rfl) rfl (Nat.le_of_ble_eq_true rfl) rfl rfl) ?_
          intro W H
          refine ⟨(fun _ => trivial), ?_⟩
          refine q2 (o_s 3 (.assign (.tmp 67)) 24 (by kernel_rfl)) F (by decide) (v := .int .i64 er) (x_assign (F.slot rfl)) (fun a F => ?_)
          unfold wpSeq
          refine t_normal ?_
          refine c_ret (by kernel_rfl) ?_
          refine t_ret ?_
          refine b_ret ?_
          refine t_ret ?_
          refine t_ret ?_
          refine b_ret ?_
          refine t_ret ?_
          refine p_list (rs := [.cell 2 40, .tmp 3]) (vs := [.agg #[.int .i64 0, .int .i64 0, .slice none 0 0], .int .i64 er]) Tryd.results28 (by simp) F (Vals.cell' F rfl (H.blk 0 rfl) Tryd.underlying40 rfl (by kernel_rfl) (Vals.tmp' F rfl .nil)) ?_
          have hz : er ≠ 0 := by simpa using hb11
          have hn : errD (k0, f0, t0, am0, nc0, ky0, vl0, rs0, ws0, er) ≠ 0 := hz
          have HF : bdec s0 = bnil er := by rw [HF, HD, hd, dall, hr, if_neg hn]; exact if_neg hz
          rw [HF]
          exact ⟨none, 0, rfl, Nat.le_refl _, fun _ _ => Kd.C_nil _ _, H.ends⟩
        · have F := F.at 65 rfl (v' := .bool false) (congrArg Value.bool hb11)
          refine c_no (c := .tmp 65) (by kernel_rfl) (F.slot rfl) ?_
          refine c_skip (by kernel_rfl) ?_
          refine t_normal ?_
          obtain rfl : er = 0 := by simpa using hb11
          have HD : dall l = ((acc ++ [(toS (k0, f0, t0, am0, nc0, ky0, vl0, rs0, ws0, 0))]) ++ (dall (l.drop (j + 1))).1, (dall (l.drop (j + 1))).2) := by
            rw [HD, hd, dall, hr, if_pos (show errD _ = 0 from rfl), List.append_assoc]; rfl
          refine c_text (id := 20) (by kernel_rfl) [(0, 2), (1, 2), (2, 2), (3, 2), (4, 2), (5, 2), (6, 2)] (by kernel_rfl) ?_
          refine q2 (o_s 68 (.fieldAddr 40 (.tmp 12) 2) 0 (by kernel_rfl)) F (by decide) (v := .pointer (some ⟨g8, 2, none⟩)) (x_field0 Tryd.underlying40 rfl rfl (Tryd.sizeOf38 W) (F.slot rfl)) (fun a F => ?_)
          refine q2 (o_s 69 (.load 38 (.tmp 68)) 38 (by kernel_rfl)) F (by decide) (v := .slice A1 acc.length c1) (x_load1 (Tryd.isAgg38 W) (F.slot rfl) (H.cell 3 rfl rfl)) (fun a F => ?_)
          refine q2 (o_s 70 (.load 33 (.tmp 15)) 33 (by kernel_rfl)) F (by decide) (v := .agg #[.int .i64 k0, .string f0, .string t0, .int .u64 am0, .int .u64 nc0, .string ky0, .string vl0, .slice A7 rs0.length c7, .slice A8 ws0.length c8]) (x_loadB (Tryd.isAgg33 W) [.int .i64 k0, .string f0, .string t0, .int .u64 am0, .int .u64 nc0, .string ky0, .string vl0, .slice A7 rs0.length c7, .slice A8 ws0.length c8] (Tryd.sizeOf33 W) (F.slot rfl) (H.blk 6 rfl)) (fun a F => ?_)
          refine sq_bapp k33 4 5 (by decide) (o_s 71 (.buildSlice 38 1 #[(0, (.tmp 70))]) 38 (by kernel_rfl)) trivial (o_s 72 (.call { callee := (.builtin .append), args := #[(.tmp 69), (.tmp 71)], argTypes := #[38, 38] }) 38 (by kernel_rfl)) (fun _ => trivial) F (by decide) (by decide) rfl (fun a F => F.slot rfl) (F.slot rfl) rfl Tryd.underlying38 PB.info33 rfl (by decide) (by decide) (by decide) H rfl rfl (by omega) (fun W H => (fun _ => trivial)) ?_
          intro v_ W a H F
          obtain ⟨A2, c2, rfl, hc2⟩ := (H.qu 4 rfl).form
          have H : St w (fun _ => False) (fun _ => False) [Asn.blk g1 [.int .i64 0, .int .i64 0, .slice none 0 0] 40, Asn.blk g2 [.int .i64 x, .int .i64 y] 87, Asn.rd Kd.string _ A l.length l, Asn.blk g8 [.int .i64 x, .int .i64 y, .slice A1 acc.length c1] 40, Asn.qu k33 33 (.slice A2 ((acc ++ [(toS (k0, f0, t0, am0, nc0, ky0, vl0, rs0, ws0, 0))]).length) c2) (acc ++ [(toS (k0, f0, t0, am0, nc0, ky0, vl0, rs0, ws0, 0))]) _, Asn.fk k33 _ (toS (k0, f0, t0, am0, nc0, ky0, vl0, rs0, ws0, 0)) [.int .i64 k0, .string f0, .string t0, .int .u64 am0, .int .u64 nc0, .string ky0, .string vl0, .slice A7 rs0.length c7, .slice A8 ws0.length c8], Asn.blk g10 [.int .i64 k0, .string f0, .string t0, .int .u64 am0, .int .u64 nc0, .string ky0, .string vl0, .slice A7 rs0.length c7, .slice A8 ws0.length c8] 33] W := H
          refine ⟨(fun _ => trivial), ?_⟩
          refine q2 (o_s 73 (.fieldAddr 40 (.tmp 12) 2) 0 (by kernel_rfl)) F (by decide) (v := .pointer (some ⟨g8, 2, none⟩)) (x_field0 Tryd.underlying40 rfl rfl (Tryd.sizeOf38 W) (F.slot rfl)) (fun a F => ?_)
          refine sq_put (M := [Asn.blk g1 [.int .i64 0, .int .i64 0, .slice none 0 0] 40, Asn.blk g2 [.int .i64 x, .int .i64 y] 87, Asn.rd Kd.string _ A l.length l, Asn.blk g8 [.int .i64 x, .int .i64 y, .slice A2 ((acc ++ [(toS (k0, f0, t0, am0, nc0, ky0, vl0, rs0, ws0, 0))]).length) c2] 40, Asn.qu k33 33 (.slice A2 ((acc ++ [(toS (k0, f0, t0, am0, nc0, ky0, vl0, rs0, ws0, 0))]).length) c2) (acc ++ [(toS (k0, f0, t0, am0, nc0, ky0, vl0, rs0, ws0, 0))]) _, Asn.fk k33 _ (toS (k0, f0, t0, am0, nc0, ky0, vl0, rs0, ws0, 0)) [.int .i64 k0, .string f0, .string t0, .int .u64 am0, .int .u64 nc0, .string ky0, .string vl0, .slice A7 rs0.length c7, .slice A8 ws0.length c8], Asn.blk g10 [.int .i64 k0, .string f0, .string t0, .int .u64 am0, .int .u64 nc0, .string ky0, .string vl0, .slice A7 rs0.length c7, .slice A8 ws0.length c8] 33]) (o_n (.store 38 (.tmp 73) (.tmp 72)) 0 (by kernel_rfl)) trivial F (x_store H (k := 3) (cs' := [.int .i64 x, .int .i64 y, .slice A2 ((acc ++ [(toS (k0, f0, t0, am0, nc0, ky0, vl0, rs0, ws0, 0))]).length) c2]) rfl (Tryd.sizeOf38 W) (F.slot rfl) (F.slot rfl) rfl (Nat.le_of_ble_eq_true rfl) rfl rfl) ?_
          intro W H
          refine ⟨(fun _ => trivial), ?_⟩
          unfold wpSeq
          refine b_normal ?_
          refine t_normal ?_
          have H := H.front 5
          have H : St w (fun _ => False) (fun _ => False) [Asn.blk g1 [.int .i64 0, .int .i64 0, .slice none 0 0] 40, Asn.blk g2 [.int .i64 x, .int .i64 y] 87, Asn.rd Kd.string _ A l.length l, Asn.blk g8 [.int .i64 x, .int .i64 y, .slice A2 ((acc ++ [(toS (k0, f0, t0, am0, nc0, ky0, vl0, rs0, ws0, 0))]).length) c2] 40, Asn.qu k33 33 (.slice A2 ((acc ++ [(toS (k0, f0, t0, am0, nc0, ky0, vl0, rs0, ws0, 0))]).length) c2) (acc ++ [(toS (k0, f0, t0, am0, nc0, ky0, vl0, rs0, ws0, 0))]) _] W := H
          refine c_text (id := 21) (by kernel_rfl) [(0, 2), (1, 2)] (by kernel_rfl) ?_
          refine q2 (o_s 74 (.binOp .add 3 (.tmp 55) (.const (.int .i64 1)) 3) 3 (by kernel_rfl)) F (by decide) (v := .int .i64 (IntKind.i64.wrap ((j : Int) + 1))) (x_int (F.slot rfl) rfl rfl) (fun a F => ?_)
          refine q2 (o_s 55 (.move (.tmp 74)) 3 (by kernel_rfl)) F (by decide) (x_move (F.slot rfl)) (fun a F => ?_)
          unfold wpSeq
          refine t_normal ?_
          have F_ := F
          have F := F.at 55 rfl (v' := .int .i64 ((j + 1 : Nat) : Int)) (congrArg (Value.int .i64) ((wrap_i64 _ (by omega) (by omega)).trans (by omega)))
          have F := F.at 53 rfl (v' := .slice A l.length c) (by rw [hA])
          exact ⟨k - 1, by omega, j + 1, _, _, _, _, F.less _ (subc rfl (subc rfl (subc rfl (subc rfl (subc rfl (subc rfl (subc rfl (subc rfl (subc rfl (subc rfl (subc rfl (subc rfl (subc rfl (subc rfl (subc rfl (subc rfl (subc rfl (subc rfl (subc rfl (subc rfl (subc rfl (subc rfl (subc rfl (subc rfl (subc rfl sub0))))))))))))))))))))))))), H, (by omega), (by omega), (by simp [hacc]), HD⟩
      · have hb9d := of_decide_eq_false hb9
        have F := F.at 56 rfl (v' := .bool false) (congrArg Value.bool hb9)
        refine c_no (c := .tmp 56) (by kernel_rfl) (F.slot rfl) ?_
        refine c_exit (id := 2) (by kernel_rfl) ?_
        refine t_exit ?_
        refine t_exit ?_
        refine b_here ?_
        refine t_normal ?_
        refine c_seq (by kernel_rfl) ?_
        refine c_block (id := 4) (by kernel_rfl) ?_
        refine c_seq (by kernel_rfl) ?_
        refine c_text (id := 22) (by kernel_rfl) [(0, 2), (1, 2), (2, 2), (3, 2), (4, 2)] (by kernel_rfl) ?_
        refine q2 (o_s 76 (.move (.tmp 0)) 9 (by kernel_rfl)) F (by decide) (x_move (F.slot rfl)) (fun a F => ?_)
        refine q2 (o_s 77 (.call { callee := (.builtin .len), args := #[(.tmp 76)], argTypes := #[9] }) 3 (by kernel_rfl)) F (by decide) (v := .int .i64 (s.size : Int)) (x_lenS Tryd.underlying9 (F.slot rfl)) (fun a F => ?_)
        refine q2 (o_s 78 (.move (.tmp 10)) 3 (by kernel_rfl)) F (by decide) (x_move (F.slot rfl)) (fun a F => ?_)
        refine q2 (o_s 79 (.binOp .gtr 3 (.tmp 77) (.tmp 78) 3) 4 (by kernel_rfl)) F (by decide) (v := .bool (decide ((s.size : Int) > k1))) (x_int (F.slot rfl) (F.slot rfl) rfl) (fun a F => ?_)
        refine q2 (o_s 75 (.assign (.tmp 79)) 4 (by kernel_rfl)) F (by decide) (v := .bool (decide ((s.size : Int) > k1))) (x_assign (F.slot rfl)) (fun a F => ?_)
        unfold wpSeq
        refine t_normal ?_
        rcases bool_or (decide ((s.size : Int) > k1)) with hb12 | hb12
        · have hb12d := of_decide_eq_true hb12
          have F := F.at 75 rfl (v' := .bool true) (congrArg Value.bool hb12)
          refine c_yes (c := .tmp 75) (by kernel_rfl) (F.slot rfl) ?_
          refine c_seq (by kernel_rfl) ?_
          refine c_text (id := 23) (by kernel_rfl) [(0, 2), (1, 2), (2, 2)] (by kernel_rfl) ?_
          refine q2 (o_s 80 (.build 40 #[]) 40 (by kernel_rfl)) F (by decide) (v := .agg #[.int .i64 0, .int .i64 0, .slice none 0 0]) (by simp [ex, execOp, Instr.build, Tryd.zeroValue40, run_underlying Tryd.underlying40, Instr.fill, Value.cells, Tryd.sizeOf3, Tryd.sizeOf38]) (fun a F => ?_)
          refine sq_put (M := [Asn.blk g1 [.int .i64 0, .int .i64 0, .slice none 0 0] 40, Asn.blk g2 [.int .i64 x, .int .i64 y] 87, Asn.rd Kd.string _ A l.length l, Asn.blk g8 [.int .i64 x, .int .i64 y, .slice A1 acc.length c1] 40, Asn.qu k33 33 (.slice A1 acc.length c1) acc ok]) (o_n (.store 40 (.tmp 2) (.tmp 80)) 0 (by kernel_rfl)) trivial F (x_store H (k := 0) (cs' := [.int .i64 0, .int .i64 0, .slice none 0 0]) rfl (Tryd.sizeOf40 W) (F.slot rfl) (F.slot rfl) rfl (Nat.le_of_ble_eq_true rfl) rfl rfl) ?_
          intro W H
          refine ⟨(fun _ => trivial), ?_⟩
          refine q2 (o_s 3 (.assign (.const (.int .i64 6))) 24 (by kernel_rfl)) F (by decide) (v := .int .i64 6) (x_assign rfl) (fun a F => ?_)
          unfold wpSeq
          refine t_normal ?_
          refine c_ret (by kernel_rfl) ?_
          refine b_ret ?_
          refine t_ret ?_
          refine p_list (rs := [.cell 2 40, .tmp 3]) (vs := [.agg #[.int .i64 0, .int .i64 0, .slice none 0 0], .int .i64 6]) Tryd.results28 (by simp) F (Vals.cell' F rfl (H.blk 0 rfl) Tryd.underlying40 rfl (by kernel_rfl) (Vals.tmp' F rfl .nil)) ?_
          obtain rfl : j = l.length := by omega
          have hD : dall l = (acc, 0) := by rw [HD, List.drop_eq_nil_of_le (Nat.le_refl _)]; simp [dall]
          rw [HF, hD]
          rw [show bfin x y s k1 (acc, 0) = bnil 6 from (if_pos rfl).trans (if_pos (by omega))]
          exact ⟨none, 0, rfl, Nat.le_refl _, fun _ _ => Kd.C_nil _ _, H.ends⟩
        · have hb12d := of_decide_eq_false hb12
          have F := F.at 75 rfl (v' := .bool false) (congrArg Value.bool hb12)
          refine c_no (c := .tmp 75) (by kernel_rfl) (F.slot rfl) ?_
          refine c_seq (by kernel_rfl) ?_
          refine c_text (id := 24) (by kernel_rfl) [(0, 2), (1, 2), (2, 2), (3, 2)] (by kernel_rfl) ?_
          refine q2 (o_s 82 (.fieldAddr 40 (.tmp 12) 0) 0 (by kernel_rfl)) F (by decide) (v := .pointer (some ⟨g8, 0, none⟩)) (x_field0 Tryd.underlying40 rfl rfl (Tryd.sizeOf3 W) (F.slot rfl)) (fun a F => ?_)
          refine q2 (o_s 83 (.load 3 (.tmp 82)) 3 (by kernel_rfl)) F (by decide) (v := .int .i64 x) (x_load1 (Tryd.isAgg3 W) (F.slot rfl) (H.cell 3 rfl rfl)) (fun a F => ?_)
          refine q2 (o_s 84 (.binOp .gtr 3 (.tmp 83) (.const (.int .i64 6)) 3) 4 (by kernel_rfl)) F (by decide) (v := .bool (decide (x > (6 : Int)))) (x_int (F.slot rfl) rfl rfl) (fun a F => ?_)
          refine q2 (o_s 81 (.assign (.tmp 84)) 4 (by kernel_rfl)) F (by decide) (v := .bool (decide (x > (6 : Int)))) (x_assign (F.slot rfl)) (fun a F => ?_)
          unfold wpSeq
          refine t_normal ?_
          rcases bool_or (decide (x > (6 : Int))) with hb13 | hb13
          · have hb13d := of_decide_eq_true hb13
            have F := F.at 81 rfl (v' := .bool true) (congrArg Value.bool hb13)
            refine c_yes (c := .tmp 81) (by kernel_rfl) (F.slot rfl) ?_
            refine c_seq (by kernel_rfl) ?_
            refine c_text (id := 25) (by kernel_rfl) [(0, 2), (1, 2), (2, 2)] (by kernel_rfl) ?_
            refine q2 (o_s 85 (.build 40 #[]) 40 (by kernel_rfl)) F (by decide) (v := .agg #[.int .i64 0, .int .i64 0, .slice none 0 0]) (by simp [ex, execOp, Instr.build, Tryd.zeroValue40, run_underlying Tryd.underlying40, Instr.fill, Value.cells, Tryd.sizeOf3, Tryd.sizeOf38]) (fun a F => ?_)
            refine sq_put (M := [Asn.blk g1 [.int .i64 0, .int .i64 0, .slice none 0 0] 40, Asn.blk g2 [.int .i64 x, .int .i64 y] 87, Asn.rd Kd.string _ A l.length l, Asn.blk g8 [.int .i64 x, .int .i64 y, .slice A1 acc.length c1] 40, Asn.qu k33 33 (.slice A1 acc.length c1) acc ok]) (o_n (.store 40 (.tmp 2) (.tmp 85)) 0 (by kernel_rfl)) trivial F (x_store H (k := 0) (cs' := [.int .i64 0, .int .i64 0, .slice none 0 0]) rfl (Tryd.sizeOf40 W) (F.slot rfl) (F.slot rfl) rfl (Nat.le_of_ble_eq_true rfl) rfl rfl) ?_
            intro W H
            refine ⟨(fun _ => trivial), ?_⟩
            refine q2 (o_s 3 (.assign (.const (.int .i64 2))) 24 (by kernel_rfl)) F (by decide) (v := .int .i64 2) (x_assign rfl) (fun a F => ?_)
            unfold wpSeq
            refine t_normal ?_
            refine c_ret (by kernel_rfl) ?_
            refine b_ret ?_
            refine t_ret ?_
            refine p_list (rs := [.cell 2 40, .tmp 3]) (vs := [.agg #[.int .i64 0, .int .i64 0, .slice none 0 0], .int .i64 2]) Tryd.results28 (by simp) F (Vals.cell' F rfl (H.blk 0 rfl) Tryd.underlying40 rfl (by kernel_rfl) (Vals.tmp' F rfl .nil)) ?_
            obtain rfl : j = l.length := by omega
            have hD : dall l = (acc, 0) := by rw [HD, List.drop_eq_nil_of_le (Nat.le_refl _)]; simp [dall]
            rw [HF, hD]
            rw [show bfin x y s k1 (acc, 0) = bnil 2 from (if_pos rfl).trans ((if_neg (by omega)).trans (if_pos (by omega)))]
            exact ⟨none, 0, rfl, Nat.le_refl _, fun _ _ => Kd.C_nil _ _, H.ends⟩
          · have hb13d := of_decide_eq_false hb13
            have F := F.at 81 rfl (v' := .bool false) (congrArg Value.bool hb13)
            refine c_no (c := .tmp 81) (by kernel_rfl) (F.slot rfl) ?_
            refine c_skip (by kernel_rfl) ?_
            refine b_normal ?_
            refine t_normal ?_
            refine c_seq (by kernel_rfl) ?_
            refine c_seq (by kernel_rfl) ?_
            refine c_text (id := 26) (by kernel_rfl) [(0, 2), (1, 2), (2, 2)] (by kernel_rfl) ?_
            refine q2 (o_s 86 (.load 40 (.tmp 12)) 40 (by kernel_rfl)) F (by decide) (v := .agg #[.int .i64 x, .int .i64 y, .slice A1 acc.length c1]) (x_loadB (Tryd.isAgg40 W) [.int .i64 x, .int .i64 y, .slice A1 acc.length c1] (Tryd.sizeOf40 W) (F.slot rfl) (H.blk 3 rfl)) (fun a F => ?_)
            obtain ⟨z2, hz2⟩ : ∃ z, bchk x y acc = z := ⟨_, rfl⟩
            have HK := bchk_calls x y A1 c1 acc W (by omega) (H.qu 4 rfl).read.2.2 (H.qu 4 rfl).read.2.1
            rw [hz2] at HK
            refine sqc (o_s 87 (.call { callee := (.value (.func 33)), args := #[(.tmp 86)], argTypes := #[40] }) 24 (by kernel_rfl)) trivial F (by decide) (x_call Tryd.func33 (by kernel_rfl) rfl (args_1 (F.slot rfl))) (HK) ?_
            rintro e W ⟨rfl, hB⟩
            refine ⟨_, rfl, fun a F => ?_⟩
            have H := H.below hB
            refine ⟨(fun _ => trivial), ?_⟩
            refine q2 (o_s 17 (.assign (.tmp 87)) 24 (by kernel_rfl)) F (by decide) (v := .int .i64 z2) (x_assign (F.slot rfl)) (fun a F => ?_)
            unfold wpSeq
            refine t_normal ?_
            refine c_seq (by kernel_rfl) ?_
            refine c_text (id := 27) (by kernel_rfl) [(0, 2), (1, 2)] (by kernel_rfl) ?_
            refine q2 (o_s 88 (.move (.tmp 17)) 24 (by kernel_rfl)) F (by decide) (x_move (F.slot rfl)) (fun a F => ?_)
            refine q2 (o_s 89 (.binOp .neq 24 (.tmp 88) (.const (.int .i64 0)) 24) 4 (by kernel_rfl)) F (by decide) (v := .bool (z2 != (0 : Int))) (x_int (F.slot rfl) rfl rfl) (fun a F => ?_)
            unfold wpSeq
            refine t_normal ?_
            rcases bool_or (z2 != (0 : Int)) with hb14 | hb14
            · have F := F.at 89 rfl (v' := .bool true) (congrArg Value.bool hb14)
              refine c_yes (c := .tmp 89) (by kernel_rfl) (F.slot rfl) ?_
              refine c_seq (by kernel_rfl) ?_
              refine c_text (id := 28) (by kernel_rfl) [(0, 2), (1, 2), (2, 2), (3, 2)] (by kernel_rfl) ?_
              refine q2 (o_s 90 (.build 40 #[]) 40 (by kernel_rfl)) F (by decide) (v := .agg #[.int .i64 0, .int .i64 0, .slice none 0 0]) (by simp [ex, execOp, Instr.build, Tryd.zeroValue40, run_underlying Tryd.underlying40, Instr.fill, Value.cells, Tryd.sizeOf3, Tryd.sizeOf38]) (fun a F => ?_)
              refine q2 (o_s 91 (.move (.tmp 17)) 24 (by kernel_rfl)) F (by decide) (x_move (F.slot rfl)) (fun a F => ?_)
              refine sq_put (M := [Asn.blk g1 [.int .i64 0, .int .i64 0, .slice none 0 0] 40, Asn.blk g2 [.int .i64 x, .int .i64 y] 87, Asn.rd Kd.string _ A l.length l, Asn.blk g8 [.int .i64 x, .int .i64 y, .slice A1 acc.length c1] 40, Asn.qu k33 33 (.slice A1 acc.length c1) acc ok]) (o_n (.store 40 (.tmp 2) (.tmp 90)) 0 (by kernel_rfl)) trivial F (x_store H (k := 0) (cs' := [.int .i64 0, .int .i64 0, .slice none 0 0]) rfl (Tryd.sizeOf40 W) (F.slot rfl) (F.slot rfl) rfl (Nat.le_of_ble_eq_true rfl) rfl rfl) ?_
              intro W H
              refine ⟨(fun _ => trivial), ?_⟩
              refine q2 (o_s 3 (.assign (.tmp 91)) 24 (by kernel_rfl)) F (by decide) (v := .int .i64 z2) (x_assign (F.slot rfl)) (fun a F => ?_)
              unfold wpSeq
              refine t_normal ?_
              refine c_ret (by kernel_rfl) ?_
              refine t_ret ?_
              refine p_list (rs := [.cell 2 40, .tmp 3]) (vs := [.agg #[.int .i64 0, .int .i64 0, .slice none 0 0], .int .i64 z2]) Tryd.results28 (by simp) F (Vals.cell' F rfl (H.blk 0 rfl) Tryd.underlying40 rfl (by kernel_rfl) (Vals.tmp' F rfl .nil)) ?_
              obtain rfl : j = l.length := by omega
              have hD : dall l = (acc, 0) := by rw [HD, List.drop_eq_nil_of_le (Nat.le_refl _)]; simp [dall]
              rw [HF, hD]
              have hz : z2 ≠ 0 := by simpa using hb14
              rw [show bfin x y s k1 (acc, 0) = bnil z2 from (if_pos rfl).trans ((if_neg (by omega)).trans ((if_neg (by omega)).trans ((if_neg (by rw [hz2]; exact hz)).trans (by rw [hz2]))))]
              exact ⟨none, 0, rfl, Nat.le_refl _, fun _ _ => Kd.C_nil _ _, H.ends⟩
            · have F := F.at 89 rfl (v' := .bool false) (congrArg Value.bool hb14)
              refine c_no (c := .tmp 89) (by kernel_rfl) (F.slot rfl) ?_
              refine c_skip (by kernel_rfl) ?_
              refine t_normal ?_
              refine c_seq (by kernel_rfl) ?_
              refine c_text (id := 29) (by kernel_rfl) [(0, 2), (1, 2), (2, 2)] (by kernel_rfl) ?_
              refine q2 (o_s 92 (.load 40 (.tmp 12)) 40 (by kernel_rfl)) F (by decide) (v := .agg #[.int .i64 x, .int .i64 y, .slice A1 acc.length c1]) (x_loadB (Tryd.isAgg40 W) [.int .i64 x, .int .i64 y, .slice A1 acc.length c1] (Tryd.sizeOf40 W) (F.slot rfl) (H.blk 3 rfl)) (fun a F => ?_)
              refine sq_put (M := [Asn.blk g1 [.int .i64 x, .int .i64 y, .slice A1 acc.length c1] 40, Asn.blk g2 [.int .i64 x, .int .i64 y] 87, Asn.rd Kd.string _ A l.length l, Asn.blk g8 [.int .i64 x, .int .i64 y, .slice A1 acc.length c1] 40, Asn.qu k33 33 (.slice A1 acc.length c1) acc ok]) (o_n (.store 40 (.tmp 2) (.tmp 92)) 0 (by kernel_rfl)) trivial F (x_store H (k := 0) (cs' := [.int .i64 x, .int .i64 y, .slice A1 acc.length c1]) rfl (Tryd.sizeOf40 W) (F.slot rfl) (F.slot rfl) rfl (Nat.le_of_ble_eq_true rfl) rfl rfl) ?_
              intro W H
              refine ⟨(fun _ => trivial), ?_⟩
              refine q2 (o_s 3 (.assign (.const (.int .i64 0))) 24 (by kernel_rfl)) F (by decide) (v := .int .i64 0) (x_assign rfl) (fun a F => ?_)
              unfold wpSeq
              refine t_normal ?_
              refine c_ret (by kernel_rfl) ?_
              refine p_list (rs := [.cell 2 40, .tmp 3]) (vs := [.agg #[.int .i64 x, .int .i64 y, .slice A1 acc.length c1], .int .i64 0]) Tryd.results28 (by simp) F (Vals.cell' F rfl (H.blk 0 rfl) Tryd.underlying40 rfl (by kernel_rfl) (Vals.tmp' F rfl .nil)) ?_
              obtain rfl : j = l.length := by omega
              have hD : dall l = (acc, 0) := by rw [HD, List.drop_eq_nil_of_le (Nat.le_refl _)]; simp [dall]
              rw [HF, hD]
              have hz : z2 = 0 := by simpa using hb14
              rw [show bfin x y s k1 (acc, 0) = (x, y, acc, 0) from (if_pos rfl).trans ((if_neg (by omega)).trans ((if_neg (by omega)).trans (if_pos (hz2.trans hz))))]
              exact ⟨A1, c1, rfl, (H.qu 4 rfl).read.2.1, H.quFresh 4 rfl, H.ends⟩
end Go.Proofs.YtndicjikjcifaaaDoor

/- tuskref05.Decode. -/
namespace Go.Proofs.YtndicjikjcifaaaDoor
open Go.RowKit Go.Proofs.YtndicjikjcifaaaDoorW.PrintWords Go.Proofs.YtndicjikjcifaaaDoorW.PrintLast
set_option linter.unusedVariables false
set_option linter.unusedSimpArgs false
set_option maxRecDepth 100000
open PB (S33 k33)
end Go.Proofs.YtndicjikjcifaaaDoor

/- BatchReads. -/
namespace Go.Proofs.YtndicjikjcifaaaDoor
open Go.RowKit Go.Proofs.YtndicjikjcifaaaDoorW.PrintWords Go.Proofs.YtndicjikjcifaaaDoorW.PrintLast
set_option linter.unusedVariables false
set_option linter.unusedSimpArgs false
set_option maxRecDepth 100000
open PB (S33 k33)
theorem bdec_c {s : ByteArray} {w : World} (hs : s.size < 4611686018427387904) {a n : Int} {l : List S33} {er : Int} (hr : bdec s = (a, n, l, er)) : Calls Tryd.prog 28 #[.string s] w fun e w' => ∃ A c, e = .returned (.tuple #[.agg #[.int .i64 a, .int .i64 n, .slice A l.length c], .int .i64 er]) ∧ l.length ≤ c ∧ Foot (fun W => k33.C W A l.length l) w' (fun k => w.heap.size ≤ k ∧ k < w'.heap.size) ∧ Below w.heap.size w w' := by
  have := bdec_calls s w hs
  rw [hr] at this
  exact this
end Go.Proofs.YtndicjikjcifaaaDoor

/- What the laws' works() rests on; batch.Encode and batch.Decode of a batch that is right. -/
namespace Go.Proofs.YtndicjikjcifaaaDoor
open Go.RowKit Go.Proofs.YtndicjikjcifaaaDoorW.PrintWords Go.Proofs.YtndicjikjcifaaaDoorW.PrintLast
open PB (S33 k33)
set_option linter.unusedVariables false
set_option linter.unusedSimpArgs false
theorem benc_ok (au n : Int) (A : Option Addr) (c : Nat) (l : List S33) (w : World) (hr : k33.C w A l.length l) (hc : l.length ≤ c) (hp : ∀ t ∈ l, 0 ≤ t.f3 ∧ 0 ≤ t.f4) (hb : bchk au n l = 0) :
    Calls Tryd.prog 31 #[.agg #[.int .i64 au, .int .i64 n, .slice A l.length c]] w fun e w' => e = .returned (.tuple #[.string (bencB au n l), .int .i64 0]) ∧ Below w.heap.size w w' := by
  have h16 := (bchk_ok hb).2.2.2.2.2.1
  have := benc_calls' au n A c l w hr hc (by omega) hp
  rw [show benc au n l = (bencB au n l, 0) from if_pos hb] at this
  exact this
theorem bencB_size {au n : Int} {l : List S33} (hb : bchk au n l = 0) : (bencB au n l).size ≤ 30000 := by
  have := benc_size au n l
  rw [show benc au n l = (bencB au n l, 0) from if_pos hb] at this
  exact this
theorem bdec_ok {au n : Int} {l : List S33} (w : World) (hb : bchk au n l = 0) (hp : ∀ t ∈ l, 0 ≤ t.f3 ∧ 0 ≤ t.f4) :
    Calls Tryd.prog 28 #[.string (bencB au n l)] w fun e w' => ∃ A c, e = .returned (.tuple #[.agg #[.int .i64 au, .int .i64 n, .slice A l.length c], .int .i64 0]) ∧ l.length ≤ c ∧ Foot (fun W => k33.C W A l.length l) w' (fun k => w.heap.size ≤ k ∧ k < w'.heap.size) ∧ Below w.heap.size w w' :=
  bdec_c (by have := bencB_size hb; omega) (bdec_enc hb hp)
theorem pay_lims (n : Int) (h0 : 0 ≤ n) : 0 ≤ (payT n).f3 ∧ 0 ≤ (payT n).f4 := ⟨(by decide : (0 : Int) ≤ 5), h0⟩
def L3 : List S33 := (([] ++ [payT 1]) ++ [payT 2]) ++ [payT 3]
theorem L3_take : L3.take 2 = [payT 1, payT 2] := rfl
theorem L3_chk : bchk 1 (0 + 1) (L3.take 2) = 0 := by
  have h1 := ch_payT 1 (by decide)
  have h2 := ch_payT 2 (by decide)
  rw [L3_take]
  simp [bchk, bchL, h1, h2]
theorem L3_pos : ∀ t ∈ L3.take 2, 0 ≤ t.f3 ∧ 0 ≤ t.f4 := by
  rw [L3_take]
  intro t ht
  rcases List.mem_cons.1 ht with rfl | ht
  · exact pay_lims 1 (by decide)
  · rw [List.mem_singleton.1 ht]; exact pay_lims 2 (by decide)
theorem L3_len : ∀ t ∈ L3.take 2, LenT t := fun t ht => chT_len ((bchk_ok L3_chk).2.2.2.2.2.2 t ht)
end Go.Proofs.YtndicjikjcifaaaDoor

/- tusklaw05.works. -/
namespace Go.Proofs.YtndicjikjcifaaaDoor
open Go.RowKit Go.Proofs.YtndicjikjcifaaaDoorW.PrintWords Go.Proofs.YtndicjikjcifaaaDoorW.PrintLast
set_option linter.unusedVariables false
set_option linter.unusedSimpArgs false
set_option maxRecDepth 100000
open PB (S33 k33)
set_option maxHeartbeats 1000000 in
theorem bworks_calls (w : World) : Calls Tryd.prog 37 #[] w fun e W => e = .returned (.bool true) ∧ Below w.heap.size w W := by
  have hok : SealOk 1 2 3 := by unfold SealOk; omega
  refine c_enter2 (args := []) (S := (fun _ => False)) (R := (fun _ => True)) (M := []) Tryd.func37 (by kernel_rfl) 73 Tryd.ntmps37 (Nat.le_of_ble_eq_true rfl) (St.first w (fun _ => False) (fun _ => True)) (fun a W F H => ?_)
  have F := F.less [] sub0
  refine c_seq (by kernel_rfl) ?_
  refine c_text (id := 0) (by kernel_rfl) [(0, 2)] (by kernel_rfl) ?_
  refine q2 (o_s 0 (.assign (.const (.bool false))) 4 (by kernel_rfl)) F (by decide) (v := .bool false) (x_assign rfl) (fun a F => ?_)
  unfold wpSeq
  have H : St w (fun _ => False) (fun _ => True) [] W := H
  refine t_normal ?_
  refine c_seq (by kernel_rfl) ?_
  refine c_text (id := 1) (by kernel_rfl) [(0, 2), (1, 2), (2, 2), (3, 2), (4, 2), (5, 2)] (by kernel_rfl) ?_
  refine sqc (o_s 10 (.call { callee := (.value (.func 16)), args := #[(.const (.int .i64 1)), (.const (.int .i64 2)), (.const (.int .i64 3))], argTypes := #[3, 3, 3] }) 25 (by kernel_rfl)) trivial F (by decide) (x_call Tryd.func16 (by kernel_rfl) rfl (args_3 rfl rfl rfl)) ((new_calls 1 2 3 W).mono (fun _ _ h => h.is hok)) ?_
  rintro e W ⟨ga, rfl, hga, hbga, hB⟩
  refine ⟨_, rfl, fun a F => ?_⟩
  have H := H.newBlk hB hga hbga
  have H : St w (fun _ => False) (fun _ => True) [Asn.blk ga [.int .i64 1, .int .i64 2, .int .i64 3, .slice none 0 0, .int .i64 0, .int .i64 0] 72] W := H
  refine ⟨(fun _ => trivial), ?_⟩
  refine q2 (o_s 9 (.move (.tmp 10)) 25 (by kernel_rfl)) F (by decide) (x_move (F.slot rfl)) (fun a F => ?_)
  refine q2 (o_s 11 (.extract (.tmp 9) 0) 23 (by kernel_rfl)) F (by decide) (v := .pointer (some ⟨ga, 0, none⟩)) (x_extract (F.slot rfl) rfl) (fun a F => ?_)
  refine q2 (o_s 12 (.extract (.tmp 9) 1) 24 (by kernel_rfl)) F (by decide) (v := .int .i64 0) (x_extract (F.slot rfl) rfl) (fun a F => ?_)
  refine q2 (o_s 1 (.assign (.tmp 11)) 23 (by kernel_rfl)) F (by decide) (v := .pointer (some ⟨ga, 0, none⟩)) (x_assign (F.slot rfl)) (fun a F => ?_)
  refine q2 (o_s 2 (.assign (.tmp 12)) 24 (by kernel_rfl)) F (by decide) (v := .int .i64 0) (x_assign (F.slot rfl)) (fun a F => ?_)
  unfold wpSeq
  refine t_normal ?_
  refine c_seq (by kernel_rfl) ?_
  refine c_seq (by kernel_rfl) ?_
  refine c_text (id := 2) (by kernel_rfl) [(0, 2), (1, 2), (2, 2), (3, 2), (4, 2), (5, 2)] (by kernel_rfl) ?_
  refine q2 (o_s 13 (.move (.tmp 2)) 24 (by kernel_rfl)) F (by decide) (x_move (F.slot rfl)) (fun a F => ?_)
  refine q2 (o_s 14 (.binOp .neq 24 (.tmp 13) (.const (.int .i64 0)) 24) 4 (by kernel_rfl)) F (by decide) (v := .bool false) (x_int (F.slot rfl) rfl rfl) (fun a F => ?_)
  refine q2 (o_s 15 (.move (.tmp 14)) 4 (by kernel_rfl)) F (by decide) (x_move (F.slot rfl)) (fun a F => ?_)
  refine sq2 (W' := W) (o_g 16 (.move (.tmp 1)) 23 2 false (by kernel_rfl)) ⟨15, by kernel_rfl, rfl⟩ F (by decide) (v := .pointer (some ⟨ga, 0, none⟩)) (x_move (F.slot rfl)) (fun _ => trivial) (fun a F => ?_)
  refine sq2 (W' := W) (o_g 17 (.binOp .eql 23 (.tmp 16) (.const (.pointer none)) 23) 4 2 false (by kernel_rfl)) ⟨15, by kernel_rfl, rfl⟩ F (by decide) (v := .bool false) (x_bin (F.slot rfl) rfl rfl) (fun _ => trivial) (fun a F => ?_)
  refine q2 (o_s 18 (.pick (.tmp 15) (.const (.bool true)) (.tmp 17)) 4 (by kernel_rfl)) F (by decide) (v := .bool false) (x_pickF (F.slot rfl) (F.slot rfl)) (fun a F => ?_)
  unfold wpSeq
  refine t_normal ?_
  refine c_no (c := .tmp 18) (by kernel_rfl) (F.slot rfl) ?_
  refine c_skip (by kernel_rfl) ?_
  refine t_normal ?_
  refine c_seq (by kernel_rfl) ?_
  have H := H.quNil k33 33
  refine c_text (id := 4) (by kernel_rfl) [(0, 2), (1, 2), (2, 2)] (by kernel_rfl) ?_
  refine q2 (o_s 19 (.move (.tmp 1)) 23 (by kernel_rfl)) F (by decide) (x_move (F.slot rfl)) (fun a F => ?_)
  refine sqc (o_s 20 (.call { callee := (.value (.func 38)), args := #[(.const (.int .i64 1))], argTypes := #[3] }) 33 (by kernel_rfl)) trivial F (by decide) (x_call Tryd.func38 (by kernel_rfl) rfl (args_1 rfl)) (pay5_calls 1 (by decide) (by decide) W) ?_
  rintro e W ⟨B1, rfl, hF, hB⟩
  refine ⟨_, rfl, fun a F => ?_⟩
  have H := H.freshF hB _ _ hF (fun k hk => hk)
  have H : St w (fun _ => False) (fun _ => True) [Asn.blk ga [.int .i64 1, .int .i64 2, .int .i64 3, .slice none 0 0, .int .i64 0, .int .i64 0] 72, Asn.qu k33 33 (.slice none 0 0) ([] : List S33) (fun _ => False), Asn.fk k33 _ (payT 1) [.int .i64 ((payT 1).f0), .string ((payT 1).f1), .string ((payT 1).f2), .int .u64 ((payT 1).f3), .int .u64 ((payT 1).f4), .string ((payT 1).f5), .string ((payT 1).f6), .slice none ((payT 1).f7.length) 0, .slice B1 ((payT 1).f8.length) 2]] W := H
  refine ⟨(fun _ => trivial), ?_⟩
  have HS := H.select [0, 1, 2] [Asn.blk ga [.int .i64 1, .int .i64 2, .int .i64 3, .slice none 0 0, .int .i64 0, .int .i64 0] 72, Asn.qu k33 33 (.slice none 0 0) ([] : List S33) (fun _ => False), Asn.fk k33 _ (payT 1) [.int .i64 ((payT 1).f0), .string ((payT 1).f1), .string ((payT 1).f2), .int .u64 ((payT 1).f3), .int .u64 ((payT 1).f4), .string ((payT 1).f5), .string ((payT 1).f6), .slice none ((payT 1).f7.length) 0, .slice B1 ((payT 1).f8.length) 2]] rfl (by decide)
  refine sqc (o_s 21 (.call { callee := (.value (.func 18)), args := #[(.tmp 19), (.tmp 20)], argTypes := #[23, 33] }) 24 (by kernel_rfl)) trivial F (by decide) (x_call Tryd.func18 (by kernel_rfl) rfl (args_2 (F.slot rfl) (F.slot rfl))) ((add_calls ga 1 2 3 0 0 none 0 ([] : List S33) (fun _ => False) _ (payT 1) none B1 0 2 W (by decide) (by decide) HS).mono (fun _ _ h => h.in_ (ch_payT 1 (by decide)) (by decide))) ?_
  rintro e W ⟨rfl, Ap1, cp1, okp1, H1⟩
  refine ⟨_, rfl, fun a F => ?_⟩
  have H := H.back [0, 1, 2] [Asn.blk ga [.int .i64 1, .int .i64 2, .int .i64 3, .slice none 0 0, .int .i64 0, .int .i64 0] 72, Asn.qu k33 33 (.slice none 0 0) ([] : List S33) (fun _ => False), Asn.fk k33 _ (payT 1) [.int .i64 ((payT 1).f0), .string ((payT 1).f1), .string ((payT 1).f2), .int .u64 ((payT 1).f3), .int .u64 ((payT 1).f4), .string ((payT 1).f5), .string ((payT 1).f6), .slice none ((payT 1).f7.length) 0, .slice B1 ((payT 1).f8.length) 2]] rfl (by decide) [Asn.blk ga [.int .i64 1, .int .i64 2, .int .i64 3, .slice Ap1 ((([] : List S33) ++ [(payT 1)]).length) cp1, .int .i64 0, .int .i64 0] 72, Asn.qu k33 33 (.slice Ap1 ((([] : List S33) ++ [(payT 1)]).length) cp1) (([] : List S33) ++ [(payT 1)]) okp1, Asn.fk k33 _ (payT 1) [.int .i64 ((payT 1).f0), .string ((payT 1).f1), .string ((payT 1).f2), .int .u64 ((payT 1).f3), .int .u64 ((payT 1).f4), .string ((payT 1).f5), .string ((payT 1).f6), .slice none ((payT 1).f7.length) 0, .slice B1 ((payT 1).f8.length) 2]] [] rfl H1
  clear HS H1
  have H : St w (fun _ => False) (fun _ => True) [Asn.blk ga [.int .i64 1, .int .i64 2, .int .i64 3, .slice Ap1 ((([] : List S33) ++ [(payT 1)]).length) cp1, .int .i64 0, .int .i64 0] 72, Asn.qu k33 33 (.slice Ap1 ((([] : List S33) ++ [(payT 1)]).length) cp1) (([] : List S33) ++ [(payT 1)]) okp1, Asn.fk k33 _ (payT 1) [.int .i64 ((payT 1).f0), .string ((payT 1).f1), .string ((payT 1).f2), .int .u64 ((payT 1).f3), .int .u64 ((payT 1).f4), .string ((payT 1).f5), .string ((payT 1).f6), .slice none ((payT 1).f7.length) 0, .slice B1 ((payT 1).f8.length) 2]] W := H
  refine ⟨(fun _ => trivial), ?_⟩
  unfold wpSeq
  refine t_normal ?_
  refine c_seq (by kernel_rfl) ?_
  refine c_text (id := 5) (by kernel_rfl) [(0, 2), (1, 2), (2, 2)] (by kernel_rfl) ?_
  refine q2 (o_s 22 (.move (.tmp 1)) 23 (by kernel_rfl)) F (by decide) (x_move (F.slot rfl)) (fun a F => ?_)
  refine sqc (o_s 23 (.call { callee := (.value (.func 38)), args := #[(.const (.int .i64 2))], argTypes := #[3] }) 33 (by kernel_rfl)) trivial F (by decide) (x_call Tryd.func38 (by kernel_rfl) rfl (args_1 rfl)) (pay5_calls 2 (by decide) (by decide) W) ?_
  rintro e W ⟨B2, rfl, hF, hB⟩
  refine ⟨_, rfl, fun a F => ?_⟩
  have H := H.freshF hB _ _ hF (fun k hk => hk)
  have H : St w (fun _ => False) (fun _ => True) [Asn.blk ga [.int .i64 1, .int .i64 2, .int .i64 3, .slice Ap1 ((([] : List S33) ++ [(payT 1)]).length) cp1, .int .i64 0, .int .i64 0] 72, Asn.qu k33 33 (.slice Ap1 ((([] : List S33) ++ [(payT 1)]).length) cp1) (([] : List S33) ++ [(payT 1)]) okp1, Asn.fk k33 _ (payT 1) [.int .i64 ((payT 1).f0), .string ((payT 1).f1), .string ((payT 1).f2), .int .u64 ((payT 1).f3), .int .u64 ((payT 1).f4), .string ((payT 1).f5), .string ((payT 1).f6), .slice none ((payT 1).f7.length) 0, .slice B1 ((payT 1).f8.length) 2], Asn.fk k33 _ (payT 2) [.int .i64 ((payT 2).f0), .string ((payT 2).f1), .string ((payT 2).f2), .int .u64 ((payT 2).f3), .int .u64 ((payT 2).f4), .string ((payT 2).f5), .string ((payT 2).f6), .slice none ((payT 2).f7.length) 0, .slice B2 ((payT 2).f8.length) 2]] W := H
  refine ⟨(fun _ => trivial), ?_⟩
  have HS := H.select [0, 1, 3] [Asn.blk ga [.int .i64 1, .int .i64 2, .int .i64 3, .slice Ap1 ((([] : List S33) ++ [(payT 1)]).length) cp1, .int .i64 0, .int .i64 0] 72, Asn.qu k33 33 (.slice Ap1 ((([] : List S33) ++ [(payT 1)]).length) cp1) (([] : List S33) ++ [(payT 1)]) okp1, Asn.fk k33 _ (payT 2) [.int .i64 ((payT 2).f0), .string ((payT 2).f1), .string ((payT 2).f2), .int .u64 ((payT 2).f3), .int .u64 ((payT 2).f4), .string ((payT 2).f5), .string ((payT 2).f6), .slice none ((payT 2).f7.length) 0, .slice B2 ((payT 2).f8.length) 2]] rfl (by decide)
  refine sqc (o_s 24 (.call { callee := (.value (.func 18)), args := #[(.tmp 22), (.tmp 23)], argTypes := #[23, 33] }) 24 (by kernel_rfl)) trivial F (by decide) (x_call Tryd.func18 (by kernel_rfl) rfl (args_2 (F.slot rfl) (F.slot rfl))) ((add_calls ga 1 2 3 0 0 Ap1 cp1 (([] : List S33) ++ [(payT 1)]) okp1 _ (payT 2) none B2 0 2 W (by decide) (by decide) HS).mono (fun _ _ h => h.in_ (ch_payT 2 (by decide)) (by decide))) ?_
  rintro e W ⟨rfl, Ap2, cp2, okp2, H1⟩
  refine ⟨_, rfl, fun a F => ?_⟩
  have H := H.back [0, 1, 3] [Asn.blk ga [.int .i64 1, .int .i64 2, .int .i64 3, .slice Ap1 ((([] : List S33) ++ [(payT 1)]).length) cp1, .int .i64 0, .int .i64 0] 72, Asn.qu k33 33 (.slice Ap1 ((([] : List S33) ++ [(payT 1)]).length) cp1) (([] : List S33) ++ [(payT 1)]) okp1, Asn.fk k33 _ (payT 2) [.int .i64 ((payT 2).f0), .string ((payT 2).f1), .string ((payT 2).f2), .int .u64 ((payT 2).f3), .int .u64 ((payT 2).f4), .string ((payT 2).f5), .string ((payT 2).f6), .slice none ((payT 2).f7.length) 0, .slice B2 ((payT 2).f8.length) 2]] rfl (by decide) [Asn.blk ga [.int .i64 1, .int .i64 2, .int .i64 3, .slice Ap2 (((([] : List S33) ++ [(payT 1)]) ++ [(payT 2)]).length) cp2, .int .i64 0, .int .i64 0] 72, Asn.qu k33 33 (.slice Ap2 (((([] : List S33) ++ [(payT 1)]) ++ [(payT 2)]).length) cp2) ((([] : List S33) ++ [(payT 1)]) ++ [(payT 2)]) okp2, Asn.fk k33 _ (payT 2) [.int .i64 ((payT 2).f0), .string ((payT 2).f1), .string ((payT 2).f2), .int .u64 ((payT 2).f3), .int .u64 ((payT 2).f4), .string ((payT 2).f5), .string ((payT 2).f6), .slice none ((payT 2).f7.length) 0, .slice B2 ((payT 2).f8.length) 2]] [] rfl H1
  clear HS H1
  have H : St w (fun _ => False) (fun _ => True) [Asn.blk ga [.int .i64 1, .int .i64 2, .int .i64 3, .slice Ap2 (((([] : List S33) ++ [(payT 1)]) ++ [(payT 2)]).length) cp2, .int .i64 0, .int .i64 0] 72, Asn.qu k33 33 (.slice Ap2 (((([] : List S33) ++ [(payT 1)]) ++ [(payT 2)]).length) cp2) ((([] : List S33) ++ [(payT 1)]) ++ [(payT 2)]) okp2, Asn.fk k33 _ (payT 1) [.int .i64 ((payT 1).f0), .string ((payT 1).f1), .string ((payT 1).f2), .int .u64 ((payT 1).f3), .int .u64 ((payT 1).f4), .string ((payT 1).f5), .string ((payT 1).f6), .slice none ((payT 1).f7.length) 0, .slice B1 ((payT 1).f8.length) 2], Asn.fk k33 _ (payT 2) [.int .i64 ((payT 2).f0), .string ((payT 2).f1), .string ((payT 2).f2), .int .u64 ((payT 2).f3), .int .u64 ((payT 2).f4), .string ((payT 2).f5), .string ((payT 2).f6), .slice none ((payT 2).f7.length) 0, .slice B2 ((payT 2).f8.length) 2]] W := H
  refine ⟨(fun _ => trivial), ?_⟩
  unfold wpSeq
  refine t_normal ?_
  refine c_seq (by kernel_rfl) ?_
  refine c_text (id := 6) (by kernel_rfl) [(0, 2), (1, 2), (2, 2)] (by kernel_rfl) ?_
  refine q2 (o_s 25 (.move (.tmp 1)) 23 (by kernel_rfl)) F (by decide) (x_move (F.slot rfl)) (fun a F => ?_)
  refine sqc (o_s 26 (.call { callee := (.value (.func 38)), args := #[(.const (.int .i64 3))], argTypes := #[3] }) 33 (by kernel_rfl)) trivial F (by decide) (x_call Tryd.func38 (by kernel_rfl) rfl (args_1 rfl)) (pay5_calls 3 (by decide) (by decide) W) ?_
  rintro e W ⟨B3, rfl, hF, hB⟩
  refine ⟨_, rfl, fun a F => ?_⟩
  have H := H.freshF hB _ _ hF (fun k hk => hk)
  have H : St w (fun _ => False) (fun _ => True) [Asn.blk ga [.int .i64 1, .int .i64 2, .int .i64 3, .slice Ap2 (((([] : List S33) ++ [(payT 1)]) ++ [(payT 2)]).length) cp2, .int .i64 0, .int .i64 0] 72, Asn.qu k33 33 (.slice Ap2 (((([] : List S33) ++ [(payT 1)]) ++ [(payT 2)]).length) cp2) ((([] : List S33) ++ [(payT 1)]) ++ [(payT 2)]) okp2, Asn.fk k33 _ (payT 1) [.int .i64 ((payT 1).f0), .string ((payT 1).f1), .string ((payT 1).f2), .int .u64 ((payT 1).f3), .int .u64 ((payT 1).f4), .string ((payT 1).f5), .string ((payT 1).f6), .slice none ((payT 1).f7.length) 0, .slice B1 ((payT 1).f8.length) 2], Asn.fk k33 _ (payT 2) [.int .i64 ((payT 2).f0), .string ((payT 2).f1), .string ((payT 2).f2), .int .u64 ((payT 2).f3), .int .u64 ((payT 2).f4), .string ((payT 2).f5), .string ((payT 2).f6), .slice none ((payT 2).f7.length) 0, .slice B2 ((payT 2).f8.length) 2], Asn.fk k33 _ (payT 3) [.int .i64 ((payT 3).f0), .string ((payT 3).f1), .string ((payT 3).f2), .int .u64 ((payT 3).f3), .int .u64 ((payT 3).f4), .string ((payT 3).f5), .string ((payT 3).f6), .slice none ((payT 3).f7.length) 0, .slice B3 ((payT 3).f8.length) 2]] W := H
  refine ⟨(fun _ => trivial), ?_⟩
  have HS := H.select [0, 1, 4] [Asn.blk ga [.int .i64 1, .int .i64 2, .int .i64 3, .slice Ap2 (((([] : List S33) ++ [(payT 1)]) ++ [(payT 2)]).length) cp2, .int .i64 0, .int .i64 0] 72, Asn.qu k33 33 (.slice Ap2 (((([] : List S33) ++ [(payT 1)]) ++ [(payT 2)]).length) cp2) ((([] : List S33) ++ [(payT 1)]) ++ [(payT 2)]) okp2, Asn.fk k33 _ (payT 3) [.int .i64 ((payT 3).f0), .string ((payT 3).f1), .string ((payT 3).f2), .int .u64 ((payT 3).f3), .int .u64 ((payT 3).f4), .string ((payT 3).f5), .string ((payT 3).f6), .slice none ((payT 3).f7.length) 0, .slice B3 ((payT 3).f8.length) 2]] rfl (by decide)
  refine sqc (o_s 27 (.call { callee := (.value (.func 18)), args := #[(.tmp 25), (.tmp 26)], argTypes := #[23, 33] }) 24 (by kernel_rfl)) trivial F (by decide) (x_call Tryd.func18 (by kernel_rfl) rfl (args_2 (F.slot rfl) (F.slot rfl))) ((add_calls ga 1 2 3 0 0 Ap2 cp2 ((([] : List S33) ++ [(payT 1)]) ++ [(payT 2)]) okp2 _ (payT 3) none B3 0 2 W (by decide) (by decide) HS).mono (fun _ _ h => h.in_ (ch_payT 3 (by decide)) (by decide))) ?_
  rintro e W ⟨rfl, Ap3, cp3, okp3, H1⟩
  refine ⟨_, rfl, fun a F => ?_⟩
  have H := H.back [0, 1, 4] [Asn.blk ga [.int .i64 1, .int .i64 2, .int .i64 3, .slice Ap2 (((([] : List S33) ++ [(payT 1)]) ++ [(payT 2)]).length) cp2, .int .i64 0, .int .i64 0] 72, Asn.qu k33 33 (.slice Ap2 (((([] : List S33) ++ [(payT 1)]) ++ [(payT 2)]).length) cp2) ((([] : List S33) ++ [(payT 1)]) ++ [(payT 2)]) okp2, Asn.fk k33 _ (payT 3) [.int .i64 ((payT 3).f0), .string ((payT 3).f1), .string ((payT 3).f2), .int .u64 ((payT 3).f3), .int .u64 ((payT 3).f4), .string ((payT 3).f5), .string ((payT 3).f6), .slice none ((payT 3).f7.length) 0, .slice B3 ((payT 3).f8.length) 2]] rfl (by decide) [Asn.blk ga [.int .i64 1, .int .i64 2, .int .i64 3, .slice Ap3 ((((([] : List S33) ++ [(payT 1)]) ++ [(payT 2)]) ++ [(payT 3)]).length) cp3, .int .i64 0, .int .i64 0] 72, Asn.qu k33 33 (.slice Ap3 ((((([] : List S33) ++ [(payT 1)]) ++ [(payT 2)]) ++ [(payT 3)]).length) cp3) (((([] : List S33) ++ [(payT 1)]) ++ [(payT 2)]) ++ [(payT 3)]) okp3, Asn.fk k33 _ (payT 3) [.int .i64 ((payT 3).f0), .string ((payT 3).f1), .string ((payT 3).f2), .int .u64 ((payT 3).f3), .int .u64 ((payT 3).f4), .string ((payT 3).f5), .string ((payT 3).f6), .slice none ((payT 3).f7.length) 0, .slice B3 ((payT 3).f8.length) 2]] [] rfl H1
  clear HS H1
  have H : St w (fun _ => False) (fun _ => True) [Asn.blk ga [.int .i64 1, .int .i64 2, .int .i64 3, .slice Ap3 ((((([] : List S33) ++ [(payT 1)]) ++ [(payT 2)]) ++ [(payT 3)]).length) cp3, .int .i64 0, .int .i64 0] 72, Asn.qu k33 33 (.slice Ap3 ((((([] : List S33) ++ [(payT 1)]) ++ [(payT 2)]) ++ [(payT 3)]).length) cp3) (((([] : List S33) ++ [(payT 1)]) ++ [(payT 2)]) ++ [(payT 3)]) okp3, Asn.fk k33 _ (payT 1) [.int .i64 ((payT 1).f0), .string ((payT 1).f1), .string ((payT 1).f2), .int .u64 ((payT 1).f3), .int .u64 ((payT 1).f4), .string ((payT 1).f5), .string ((payT 1).f6), .slice none ((payT 1).f7.length) 0, .slice B1 ((payT 1).f8.length) 2], Asn.fk k33 _ (payT 2) [.int .i64 ((payT 2).f0), .string ((payT 2).f1), .string ((payT 2).f2), .int .u64 ((payT 2).f3), .int .u64 ((payT 2).f4), .string ((payT 2).f5), .string ((payT 2).f6), .slice none ((payT 2).f7.length) 0, .slice B2 ((payT 2).f8.length) 2], Asn.fk k33 _ (payT 3) [.int .i64 ((payT 3).f0), .string ((payT 3).f1), .string ((payT 3).f2), .int .u64 ((payT 3).f3), .int .u64 ((payT 3).f4), .string ((payT 3).f5), .string ((payT 3).f6), .slice none ((payT 3).f7.length) 0, .slice B3 ((payT 3).f8.length) 2]] W := H
  refine ⟨(fun _ => trivial), ?_⟩
  unfold wpSeq
  refine t_normal ?_
  refine c_seq (by kernel_rfl) ?_
  have H : St w (fun _ => False) (fun _ => True) [Asn.blk ga [.int .i64 1, .int .i64 2, .int .i64 3, .slice Ap3 L3.length cp3, .int .i64 0, .int .i64 0] 72, Asn.qu k33 33 (.slice Ap3 L3.length cp3) L3 okp3, Asn.fk k33 _ (payT 1) [.int .i64 ((payT 1).f0), .string ((payT 1).f1), .string ((payT 1).f2), .int .u64 ((payT 1).f3), .int .u64 ((payT 1).f4), .string ((payT 1).f5), .string ((payT 1).f6), .slice none ((payT 1).f7.length) 0, .slice B1 ((payT 1).f8.length) 2], Asn.fk k33 _ (payT 2) [.int .i64 ((payT 2).f0), .string ((payT 2).f1), .string ((payT 2).f2), .int .u64 ((payT 2).f3), .int .u64 ((payT 2).f4), .string ((payT 2).f5), .string ((payT 2).f6), .slice none ((payT 2).f7.length) 0, .slice B2 ((payT 2).f8.length) 2], Asn.fk k33 _ (payT 3) [.int .i64 ((payT 3).f0), .string ((payT 3).f1), .string ((payT 3).f2), .int .u64 ((payT 3).f3), .int .u64 ((payT 3).f4), .string ((payT 3).f5), .string ((payT 3).f6), .slice none ((payT 3).f7.length) 0, .slice B3 ((payT 3).f8.length) 2]] W := H
  refine c_text (id := 7) (by kernel_rfl) [(0, 2), (1, 2), (2, 2), (3, 2), (4, 2), (5, 2), (6, 2), (7, 2)] (by kernel_rfl) ?_
  refine q2 (o_s 29 (.move (.tmp 1)) 23 (by kernel_rfl)) F (by decide) (x_move (F.slot rfl)) (fun a F => ?_)
  have HS := H.select [0, 1] [Asn.blk ga [.int .i64 1, .int .i64 2, .int .i64 3, .slice Ap3 L3.length cp3, .int .i64 0, .int .i64 0] 72, Asn.qu k33 33 (.slice Ap3 L3.length cp3) L3 okp3] rfl (by decide)
  refine sqc (o_s 30 (.call { callee := (.value (.func 21)), args := #[(.tmp 29)], argTypes := #[23] }) 41 (by kernel_rfl)) trivial F (by decide) (x_call Tryd.func21 (by kernel_rfl) rfl (args_1 (F.slot rfl))) ((tick_calls ga 1 2 3 0 0 Ap3 cp3 L3 okp3 W (by decide) (by decide) (by decide) (by decide) (by decide) (by decide) (by decide) HS).mono (fun _ _ h => h.seal (by decide) (by decide) 2 (by decide))) ?_
  rintro e W ⟨rfl, H1⟩
  refine ⟨_, rfl, fun a F => ?_⟩
  have H := H.back [0, 1] [Asn.blk ga [.int .i64 1, .int .i64 2, .int .i64 3, .slice Ap3 L3.length cp3, .int .i64 0, .int .i64 0] 72, Asn.qu k33 33 (.slice Ap3 L3.length cp3) L3 okp3] rfl (by decide) [Asn.blk ga [.int .i64 1, .int .i64 2, .int .i64 3, .slice (cutA Ap3 cp3 2) ((L3.drop 2).length) (cp3 - 2), .int .i64 0, .int .i64 (0 + 1)] 72, Asn.qf k33 33 (.slice (cutA Ap3 cp3 2) (L3.drop 2).length (cp3 - 2)) (L3.drop 2) okp3 Ap3 (L3.take 2).length (L3.take 2)] [] rfl H1
  clear HS H1
  have H : St w (fun _ => False) (fun _ => True) [Asn.blk ga [.int .i64 1, .int .i64 2, .int .i64 3, .slice (cutA Ap3 cp3 2) ((L3.drop 2).length) (cp3 - 2), .int .i64 0, .int .i64 (0 + 1)] 72, Asn.qf k33 33 (.slice (cutA Ap3 cp3 2) (L3.drop 2).length (cp3 - 2)) (L3.drop 2) okp3 Ap3 (L3.take 2).length (L3.take 2), Asn.fk k33 _ (payT 1) [.int .i64 ((payT 1).f0), .string ((payT 1).f1), .string ((payT 1).f2), .int .u64 ((payT 1).f3), .int .u64 ((payT 1).f4), .string ((payT 1).f5), .string ((payT 1).f6), .slice none ((payT 1).f7.length) 0, .slice B1 ((payT 1).f8.length) 2], Asn.fk k33 _ (payT 2) [.int .i64 ((payT 2).f0), .string ((payT 2).f1), .string ((payT 2).f2), .int .u64 ((payT 2).f3), .int .u64 ((payT 2).f4), .string ((payT 2).f5), .string ((payT 2).f6), .slice none ((payT 2).f7.length) 0, .slice B2 ((payT 2).f8.length) 2], Asn.fk k33 _ (payT 3) [.int .i64 ((payT 3).f0), .string ((payT 3).f1), .string ((payT 3).f2), .int .u64 ((payT 3).f3), .int .u64 ((payT 3).f4), .string ((payT 3).f5), .string ((payT 3).f6), .slice none ((payT 3).f7.length) 0, .slice B3 ((payT 3).f8.length) 2]] W := H
  refine ⟨(fun _ => trivial), ?_⟩
  refine q2 (o_s 28 (.move (.tmp 30)) 41 (by kernel_rfl)) F (by decide) (x_move (F.slot rfl)) (fun a F => ?_)
  refine q2 (o_s 31 (.extract (.tmp 28) 0) 40 (by kernel_rfl)) F (by decide) (v := .agg #[.int .i64 1, .int .i64 (0 + 1), .slice Ap3 ((L3.take 2).length) 2]) (x_extract (F.slot rfl) rfl) (fun a F => ?_)
  refine q2 (o_s 32 (.extract (.tmp 28) 1) 4 (by kernel_rfl)) F (by decide) (v := .bool true) (x_extract (F.slot rfl) rfl) (fun a F => ?_)
  refine sq_new (o_s 3 (.alloc 40) 0 (by kernel_rfl)) trivial F (by decide) H [.int .i64 0, .int .i64 0, .slice none 0 0] 40 (x_alloc Tryd.zeroValue40 rfl) ?_
  intro g1 W a hg1 H F
  refine ⟨(fun _ => trivial), ?_⟩
  refine sq_put (M := [Asn.blk ga [.int .i64 1, .int .i64 2, .int .i64 3, .slice (cutA Ap3 cp3 2) ((L3.drop 2).length) (cp3 - 2), .int .i64 0, .int .i64 (0 + 1)] 72, Asn.qf k33 33 (.slice (cutA Ap3 cp3 2) (L3.drop 2).length (cp3 - 2)) (L3.drop 2) okp3 Ap3 (L3.take 2).length (L3.take 2), Asn.fk k33 _ (payT 1) [.int .i64 ((payT 1).f0), .string ((payT 1).f1), .string ((payT 1).f2), .int .u64 ((payT 1).f3), .int .u64 ((payT 1).f4), .string ((payT 1).f5), .string ((payT 1).f6), .slice none ((payT 1).f7.length) 0, .slice B1 ((payT 1).f8.length) 2], Asn.fk k33 _ (payT 2) [.int .i64 ((payT 2).f0), .string ((payT 2).f1), .string ((payT 2).f2), .int .u64 ((payT 2).f3), .int .u64 ((payT 2).f4), .string ((payT 2).f5), .string ((payT 2).f6), .slice none ((payT 2).f7.length) 0, .slice B2 ((payT 2).f8.length) 2], Asn.fk k33 _ (payT 3) [.int .i64 ((payT 3).f0), .string ((payT 3).f1), .string ((payT 3).f2), .int .u64 ((payT 3).f3), .int .u64 ((payT 3).f4), .string ((payT 3).f5), .string ((payT 3).f6), .slice none ((payT 3).f7.length) 0, .slice B3 ((payT 3).f8.length) 2], Asn.blk g1 [.int .i64 1, .int .i64 (0 + 1), .slice Ap3 ((L3.take 2).length) 2] 40]) (o_n (.store 40 (.tmp 3) (.tmp 31)) 0 (by kernel_rfl)) trivial F (x_store H (k := 5) (cs' := [.int .i64 1, .int .i64 (0 + 1), .slice Ap3 ((L3.take 2).length) 2]) rfl (Tryd.sizeOf40 W) (F.slot rfl) (F.slot rfl) rfl (Nat.le_of_ble_eq_true rfl) rfl rfl) ?_
  intro W H
  refine ⟨(fun _ => trivial), ?_⟩
  refine q2 (o_s 4 (.assign (.tmp 32)) 4 (by kernel_rfl)) F (by decide) (v := .bool true) (x_assign (F.slot rfl)) (fun a F => ?_)
  unfold wpSeq
  refine t_normal ?_
  refine c_seq (by kernel_rfl) ?_
  refine c_text (id := 8) (by kernel_rfl) [(0, 2), (1, 2), (2, 2), (3, 2), (4, 2), (5, 2), (6, 2)] (by kernel_rfl) ?_
  refine q2 (o_s 34 (.load 40 (.tmp 3)) 40 (by kernel_rfl)) F (by decide) (v := .agg #[.int .i64 1, .int .i64 (0 + 1), .slice Ap3 ((L3.take 2).length) 2]) (x_loadB (Tryd.isAgg40 W) [.int .i64 1, .int .i64 (0 + 1), .slice Ap3 ((L3.take 2).length) 2] (Tryd.sizeOf40 W) (F.slot rfl) (H.blk 5 rfl)) (fun a F => ?_)
  refine sqc (o_s 35 (.call { callee := (.value (.func 31)), args := #[(.tmp 34)], argTypes := #[40] }) 55 (by kernel_rfl)) trivial F (by decide) (x_call Tryd.func31 (by kernel_rfl) rfl (args_1 (F.slot rfl))) (benc_ok 1 (0 + 1) Ap3 2 (L3.take 2) W (H.qfRead 1 rfl) (by decide) L3_pos L3_chk) ?_
  rintro e W ⟨rfl, hB⟩
  refine ⟨_, rfl, fun a F => ?_⟩
  have H := H.below hB
  refine ⟨(fun _ => trivial), ?_⟩
  refine q2 (o_s 33 (.move (.tmp 35)) 55 (by kernel_rfl)) F (by decide) (x_move (F.slot rfl)) (fun a F => ?_)
  refine q2 (o_s 36 (.extract (.tmp 33) 0) 9 (by kernel_rfl)) F (by decide) (v := .string (bencB 1 (0 + 1) (L3.take 2))) (x_extract (F.slot rfl) rfl) (fun a F => ?_)
  refine q2 (o_s 37 (.extract (.tmp 33) 1) 24 (by kernel_rfl)) F (by decide) (v := .int .i64 0) (x_extract (F.slot rfl) rfl) (fun a F => ?_)
  refine q2 (o_s 5 (.assign (.tmp 36)) 9 (by kernel_rfl)) F (by decide) (v := .string (bencB 1 (0 + 1) (L3.take 2))) (x_assign (F.slot rfl)) (fun a F => ?_)
  refine q2 (o_s 6 (.assign (.tmp 37)) 24 (by kernel_rfl)) F (by decide) (v := .int .i64 0) (x_assign (F.slot rfl)) (fun a F => ?_)
  unfold wpSeq
  refine t_normal ?_
  refine c_seq (by kernel_rfl) ?_
  refine c_text (id := 9) (by kernel_rfl) [(0, 2), (1, 2), (2, 2), (3, 2), (4, 2), (5, 2), (6, 2), (7, 2)] (by kernel_rfl) ?_
  refine q2 (o_s 39 (.move (.tmp 5)) 9 (by kernel_rfl)) F (by decide) (x_move (F.slot rfl)) (fun a F => ?_)
  refine sqc (o_s 40 (.call { callee := (.value (.func 28)), args := #[(.tmp 39)], argTypes := #[9] }) 52 (by kernel_rfl)) trivial F (by decide) (x_call Tryd.func28 (by kernel_rfl) rfl (args_1 (F.slot rfl))) (bdec_ok W L3_chk L3_pos) ?_
  rintro e W ⟨Ad, cd, rfl, hcd, hF, hB⟩
  refine ⟨_, rfl, fun a F => ?_⟩
  have H := H.freshF hB _ _ hF (fun k hk => hk.1)
  have H : St w (fun _ => False) (fun _ => True) [Asn.blk ga [.int .i64 1, .int .i64 2, .int .i64 3, .slice (cutA Ap3 cp3 2) ((L3.drop 2).length) (cp3 - 2), .int .i64 0, .int .i64 (0 + 1)] 72, Asn.qf k33 33 (.slice (cutA Ap3 cp3 2) (L3.drop 2).length (cp3 - 2)) (L3.drop 2) okp3 Ap3 (L3.take 2).length (L3.take 2), Asn.fk k33 _ (payT 1) [.int .i64 ((payT 1).f0), .string ((payT 1).f1), .string ((payT 1).f2), .int .u64 ((payT 1).f3), .int .u64 ((payT 1).f4), .string ((payT 1).f5), .string ((payT 1).f6), .slice none ((payT 1).f7.length) 0, .slice B1 ((payT 1).f8.length) 2], Asn.fk k33 _ (payT 2) [.int .i64 ((payT 2).f0), .string ((payT 2).f1), .string ((payT 2).f2), .int .u64 ((payT 2).f3), .int .u64 ((payT 2).f4), .string ((payT 2).f5), .string ((payT 2).f6), .slice none ((payT 2).f7.length) 0, .slice B2 ((payT 2).f8.length) 2], Asn.fk k33 _ (payT 3) [.int .i64 ((payT 3).f0), .string ((payT 3).f1), .string ((payT 3).f2), .int .u64 ((payT 3).f3), .int .u64 ((payT 3).f4), .string ((payT 3).f5), .string ((payT 3).f6), .slice none ((payT 3).f7.length) 0, .slice B3 ((payT 3).f8.length) 2], Asn.blk g1 [.int .i64 1, .int .i64 (0 + 1), .slice Ap3 ((L3.take 2).length) 2] 40, Asn.rd k33 _ Ad ((L3.take 2).length) (L3.take 2)] W := H
  refine ⟨(fun _ => trivial), ?_⟩
  refine q2 (o_s 38 (.move (.tmp 40)) 52 (by kernel_rfl)) F (by decide) (x_move (F.slot rfl)) (fun a F => ?_)
  refine q2 (o_s 41 (.extract (.tmp 38) 0) 40 (by kernel_rfl)) F (by decide) (v := .agg #[.int .i64 1, .int .i64 (0 + 1), .slice Ad ((L3.take 2).length) cd]) (x_extract (F.slot rfl) rfl) (fun a F => ?_)
  refine q2 (o_s 42 (.extract (.tmp 38) 1) 24 (by kernel_rfl)) F (by decide) (v := .int .i64 0) (x_extract (F.slot rfl) rfl) (fun a F => ?_)
  refine sq_new (o_s 7 (.alloc 40) 0 (by kernel_rfl)) trivial F (by decide) H [.int .i64 0, .int .i64 0, .slice none 0 0] 40 (x_alloc Tryd.zeroValue40 rfl) ?_
  intro g2 W a hg2 H F
  refine ⟨(fun _ => trivial), ?_⟩
  refine sq_put (M := [Asn.blk ga [.int .i64 1, .int .i64 2, .int .i64 3, .slice (cutA Ap3 cp3 2) ((L3.drop 2).length) (cp3 - 2), .int .i64 0, .int .i64 (0 + 1)] 72, Asn.qf k33 33 (.slice (cutA Ap3 cp3 2) (L3.drop 2).length (cp3 - 2)) (L3.drop 2) okp3 Ap3 (L3.take 2).length (L3.take 2), Asn.fk k33 _ (payT 1) [.int .i64 ((payT 1).f0), .string ((payT 1).f1), .string ((payT 1).f2), .int .u64 ((payT 1).f3), .int .u64 ((payT 1).f4), .string ((payT 1).f5), .string ((payT 1).f6), .slice none ((payT 1).f7.length) 0, .slice B1 ((payT 1).f8.length) 2], Asn.fk k33 _ (payT 2) [.int .i64 ((payT 2).f0), .string ((payT 2).f1), .string ((payT 2).f2), .int .u64 ((payT 2).f3), .int .u64 ((payT 2).f4), .string ((payT 2).f5), .string ((payT 2).f6), .slice none ((payT 2).f7.length) 0, .slice B2 ((payT 2).f8.length) 2], Asn.fk k33 _ (payT 3) [.int .i64 ((payT 3).f0), .string ((payT 3).f1), .string ((payT 3).f2), .int .u64 ((payT 3).f3), .int .u64 ((payT 3).f4), .string ((payT 3).f5), .string ((payT 3).f6), .slice none ((payT 3).f7.length) 0, .slice B3 ((payT 3).f8.length) 2], Asn.blk g1 [.int .i64 1, .int .i64 (0 + 1), .slice Ap3 ((L3.take 2).length) 2] 40, Asn.rd k33 _ Ad ((L3.take 2).length) (L3.take 2), Asn.blk g2 [.int .i64 1, .int .i64 (0 + 1), .slice Ad ((L3.take 2).length) cd] 40]) (o_n (.store 40 (.tmp 7) (.tmp 41)) 0 (by kernel_rfl)) trivial F (x_store H (k := 7) (cs' := [.int .i64 1, .int .i64 (0 + 1), .slice Ad ((L3.take 2).length) cd]) rfl (Tryd.sizeOf40 W) (F.slot rfl) (F.slot rfl) rfl (Nat.le_of_ble_eq_true rfl) rfl rfl) ?_
  intro W H
  refine ⟨(fun _ => trivial), ?_⟩
  refine q2 (o_s 8 (.assign (.tmp 42)) 24 (by kernel_rfl)) F (by decide) (v := .int .i64 0) (x_assign (F.slot rfl)) (fun a F => ?_)
  unfold wpSeq
  refine t_normal ?_
  refine c_seq (by kernel_rfl) ?_
  refine c_text (id := 10) (by kernel_rfl) [(0, 2), (1, 2), (2, 2), (3, 2), (4, 2), (5, 2), (6, 2), (7, 2), (8, 2), (9, 2), (10, 2), (11, 2), (12, 2), (13, 2), (14, 2), (15, 2), (16, 2), (17, 2), (18, 2), (19, 2), (20, 2), (21, 2), (22, 2), (23, 2), (24, 2), (25, 2), (26, 2), (27, 2), (28, 2), (29, 2), (30, 2)] (by kernel_rfl) ?_
  refine q2 (o_s 43 (.move (.tmp 4)) 4 (by kernel_rfl)) F (by decide) (x_move (F.slot rfl)) (fun a F => ?_)
  refine q2 (o_s 44 (.move (.tmp 43)) 4 (by kernel_rfl)) F (by decide) (x_move (F.slot rfl)) (fun a F => ?_)
  refine sq2 (W' := W) (o_g 45 (.fieldAddr 40 (.tmp 3) 1) 0 1 true (by kernel_rfl)) ⟨44, by kernel_rfl, rfl⟩ F (by decide) (v := .pointer (some ⟨g1, 1, none⟩)) (x_field0 Tryd.underlying40 rfl rfl (Tryd.sizeOf3 W) (F.slot rfl)) (fun _ => trivial) (fun a F => ?_)
  refine sq2 (o_g 46 (.load 3 (.tmp 45)) 3 1 true (by kernel_rfl)) ⟨44, by kernel_rfl, rfl⟩ F (by decide) (v := .int .i64 (0 + 1)) (x_load1 (Tryd.isAgg3 W) (F.slot rfl) (H.cell 5 rfl rfl)) (fun _ => trivial) (fun a F => ?_)
  refine sq2 (W' := W) (o_g 47 (.binOp .eql 3 (.tmp 46) (.const (.int .i64 1)) 3) 4 1 true (by kernel_rfl)) ⟨44, by kernel_rfl, rfl⟩ F (by decide) (v := .bool ((0 + 1) == (1 : Int))) (x_int (F.slot rfl) rfl rfl) (fun _ => trivial) (fun a F => ?_)
  refine q2 (o_s 48 (.pick (.tmp 44) (.tmp 47) (.const (.bool false))) 4 (by kernel_rfl)) F (by decide) (v := .bool ((0 + 1) == (1 : Int))) (x_pickT (F.slot rfl) (F.slot rfl)) (fun a F => ?_)
  refine q2 (o_s 49 (.move (.tmp 48)) 4 (by kernel_rfl)) F (by decide) (x_move (F.slot rfl)) (fun a F => ?_)
  have hb3 : ((0 + 1) == (1 : Int)) = true := by decide
  have F := F.at 49 rfl (v' := .bool true) (congrArg Value.bool hb3)
  refine sq2 (W' := W) (o_g 50 (.fieldAddr 40 (.tmp 3) 2) 0 6 true (by kernel_rfl)) ⟨49, by kernel_rfl, rfl⟩ F (by decide) (v := .pointer (some ⟨g1, 2, none⟩)) (x_field0 Tryd.underlying40 rfl rfl (Tryd.sizeOf38 W) (F.slot rfl)) (fun _ => trivial) (fun a F => ?_)
  refine sq2 (o_g 51 (.load 38 (.tmp 50)) 38 6 true (by kernel_rfl)) ⟨49, by kernel_rfl, rfl⟩ F (by decide) (v := .slice Ap3 ((L3.take 2).length) 2) (x_load1 (Tryd.isAgg38 W) (F.slot rfl) (H.cell 5 rfl rfl)) (fun _ => trivial) (fun a F => ?_)
  refine sq2 (W' := W) (o_g 52 (.call { callee := (.builtin .len), args := #[(.tmp 51)], argTypes := #[38] }) 3 6 true (by kernel_rfl)) ⟨49, by kernel_rfl, rfl⟩ F (by decide) (v := .int .i64 ((L3.take 2).length : Int)) (x_lenL Tryd.underlying38 (F.slot rfl)) (fun _ => trivial) (fun a F => ?_)
  refine sq2 (W' := W) (o_g 53 (.binOp .eql 3 (.tmp 52) (.const (.int .i64 2)) 3) 4 6 true (by kernel_rfl)) ⟨49, by kernel_rfl, rfl⟩ F (by decide) (v := .bool (((L3.take 2).length : Int) == (2 : Int))) (x_int (F.slot rfl) rfl rfl) (fun _ => trivial) (fun a F => ?_)
  refine q2 (o_s 54 (.pick (.tmp 49) (.tmp 53) (.const (.bool false))) 4 (by kernel_rfl)) F (by decide) (v := .bool (((L3.take 2).length : Int) == (2 : Int))) (x_pickT (F.slot rfl) (F.slot rfl)) (fun a F => ?_)
  refine q2 (o_s 55 (.move (.tmp 54)) 4 (by kernel_rfl)) F (by decide) (x_move (F.slot rfl)) (fun a F => ?_)
  have hb4 : (((L3.take 2).length : Int) == (2 : Int)) = true := by decide
  have F := F.at 55 rfl (v' := .bool true) (congrArg Value.bool hb4)
  refine sq2 (W' := W) (o_g 56 (.move (.tmp 1)) 23 12 true (by kernel_rfl)) ⟨55, by kernel_rfl, rfl⟩ F (by decide) (v := .pointer (some ⟨ga, 0, none⟩)) (x_move (F.slot rfl)) (fun _ => trivial) (fun a F => ?_)
  have HS := H.select [0] [Asn.blk ga [.int .i64 1, .int .i64 2, .int .i64 3, .slice (cutA Ap3 cp3 2) ((L3.drop 2).length) (cp3 - 2), .int .i64 0, .int .i64 (0 + 1)] 72] rfl (by decide)
  refine sqc (o_g 57 (.call { callee := (.value (.func 24)), args := #[(.tmp 56)], argTypes := #[23] }) 3 12 true (by kernel_rfl)) ⟨55, by kernel_rfl, rfl⟩ F (by decide) (x_call Tryd.func24 (by kernel_rfl) rfl (args_1 (F.slot rfl))) (waits_calls ga 1 2 3 0 (0 + 1) (cutA Ap3 cp3 2) ((L3.drop 2).length) (cp3 - 2)  W HS) ?_
  rintro e W ⟨rfl, H1⟩
  refine ⟨_, rfl, fun a F => ?_⟩
  have H := H.back [0] [Asn.blk ga [.int .i64 1, .int .i64 2, .int .i64 3, .slice (cutA Ap3 cp3 2) ((L3.drop 2).length) (cp3 - 2), .int .i64 0, .int .i64 (0 + 1)] 72] rfl (by decide) [Asn.blk ga [.int .i64 1, .int .i64 2, .int .i64 3, .slice (cutA Ap3 cp3 2) ((L3.drop 2).length) (cp3 - 2), .int .i64 0, .int .i64 (0 + 1)] 72] [] rfl H1
  clear HS H1
  refine ⟨(fun _ => trivial), ?_⟩
  refine sq2 (W' := W) (o_g 58 (.binOp .eql 3 (.tmp 57) (.const (.int .i64 1)) 3) 4 12 true (by kernel_rfl)) ⟨55, by kernel_rfl, rfl⟩ F (by decide) (v := .bool (((L3.drop 2).length : Int) == (1 : Int))) (x_int (F.slot rfl) rfl rfl) (fun _ => trivial) (fun a F => ?_)
  refine q2 (o_s 59 (.pick (.tmp 55) (.tmp 58) (.const (.bool false))) 4 (by kernel_rfl)) F (by decide) (v := .bool (((L3.drop 2).length : Int) == (1 : Int))) (x_pickT (F.slot rfl) (F.slot rfl)) (fun a F => ?_)
  refine q2 (o_s 60 (.move (.tmp 59)) 4 (by kernel_rfl)) F (by decide) (x_move (F.slot rfl)) (fun a F => ?_)
  have hb5 : (((L3.drop 2).length : Int) == (1 : Int)) = true := by decide
  have F := F.at 60 rfl (v' := .bool true) (congrArg Value.bool hb5)
  refine sq2 (W' := W) (o_g 61 (.move (.tmp 6)) 24 17 true (by kernel_rfl)) ⟨60, by kernel_rfl, rfl⟩ F (by decide) (v := .int .i64 0) (x_move (F.slot rfl)) (fun _ => trivial) (fun a F => ?_)
  refine sq2 (W' := W) (o_g 62 (.binOp .eql 24 (.tmp 61) (.const (.int .i64 0)) 24) 4 17 true (by kernel_rfl)) ⟨60, by kernel_rfl, rfl⟩ F (by decide) (v := .bool true) (x_int (F.slot rfl) rfl rfl) (fun _ => trivial) (fun a F => ?_)
  refine q2 (o_s 63 (.pick (.tmp 60) (.tmp 62) (.const (.bool false))) 4 (by kernel_rfl)) F (by decide) (v := .bool true) (x_pickT (F.slot rfl) (F.slot rfl)) (fun a F => ?_)
  refine q2 (o_s 64 (.move (.tmp 63)) 4 (by kernel_rfl)) F (by decide) (x_move (F.slot rfl)) (fun a F => ?_)
  refine sq2 (W' := W) (o_g 65 (.move (.tmp 8)) 24 21 true (by kernel_rfl)) ⟨64, by kernel_rfl, rfl⟩ F (by decide) (v := .int .i64 0) (x_move (F.slot rfl)) (fun _ => trivial) (fun a F => ?_)
  refine sq2 (W' := W) (o_g 66 (.binOp .eql 24 (.tmp 65) (.const (.int .i64 0)) 24) 4 21 true (by kernel_rfl)) ⟨64, by kernel_rfl, rfl⟩ F (by decide) (v := .bool true) (x_int (F.slot rfl) rfl rfl) (fun _ => trivial) (fun a F => ?_)
  refine q2 (o_s 67 (.pick (.tmp 64) (.tmp 66) (.const (.bool false))) 4 (by kernel_rfl)) F (by decide) (v := .bool true) (x_pickT (F.slot rfl) (F.slot rfl)) (fun a F => ?_)
  refine q2 (o_s 68 (.move (.tmp 67)) 4 (by kernel_rfl)) F (by decide) (x_move (F.slot rfl)) (fun a F => ?_)
  refine sq2 (o_g 69 (.load 40 (.tmp 7)) 40 25 true (by kernel_rfl)) ⟨68, by kernel_rfl, rfl⟩ F (by decide) (v := .agg #[.int .i64 1, .int .i64 (0 + 1), .slice Ad ((L3.take 2).length) cd]) (x_loadB (Tryd.isAgg40 W) [.int .i64 1, .int .i64 (0 + 1), .slice Ad ((L3.take 2).length) cd] (Tryd.sizeOf40 W) (F.slot rfl) (H.blk 7 rfl)) (fun _ => trivial) (fun a F => ?_)
  refine sq2 (o_g 70 (.load 40 (.tmp 3)) 40 25 true (by kernel_rfl)) ⟨68, by kernel_rfl, rfl⟩ F (by decide) (v := .agg #[.int .i64 1, .int .i64 (0 + 1), .slice Ap3 ((L3.take 2).length) 2]) (x_loadB (Tryd.isAgg40 W) [.int .i64 1, .int .i64 (0 + 1), .slice Ap3 ((L3.take 2).length) 2] (Tryd.sizeOf40 W) (F.slot rfl) (H.blk 5 rfl)) (fun _ => trivial) (fun a F => ?_)
  refine sqc (o_g 71 (.call { callee := (.value (.func 23)), args := #[(.tmp 69), (.tmp 70)], argTypes := #[40, 40] }) 4 25 true (by kernel_rfl)) ⟨68, by kernel_rfl, rfl⟩ F (by decide) (x_call Tryd.func23 (by kernel_rfl) rfl (args_2 (F.slot rfl) (F.slot rfl))) (bsame_calls 1 (0 + 1) Ad Ap3 cd 2 (L3.take 2) W (by decide) L3_len (H.rd 6 rfl) hcd (H.qfRead 1 rfl) (by decide)) ?_
  rintro e W ⟨rfl, hB⟩
  refine ⟨_, rfl, fun a F => ?_⟩
  have H := H.below hB
  refine ⟨(fun _ => trivial), ?_⟩
  refine q2 (o_s 72 (.pick (.tmp 68) (.tmp 71) (.const (.bool false))) 4 (by kernel_rfl)) F (by decide) (v := .bool true) (x_pickT (F.slot rfl) (F.slot rfl)) (fun a F => ?_)
  refine q2 (o_s 0 (.assign (.tmp 72)) 4 (by kernel_rfl)) F (by decide) (v := .bool true) (x_assign (F.slot rfl)) (fun a F => ?_)
  unfold wpSeq
  have F := F.less [(0, .bool true), (10, .tuple #[.pointer (some ⟨ga, 0, none⟩), .int .i64 0]), (9, .tuple #[.pointer (some ⟨ga, 0, none⟩), .int .i64 0]), (11, .pointer (some ⟨ga, 0, none⟩)), (12, .int .i64 0), (1, .pointer (some ⟨ga, 0, none⟩)), (2, .int .i64 0), (13, .int .i64 0), (14, .bool false), (15, .bool false), (16, .pointer (some ⟨ga, 0, none⟩)), (17, .bool false), (18, .bool false), (19, .pointer (some ⟨ga, 0, none⟩)), (20, .agg #[.int .i64 ((payT 1).f0), .string ((payT 1).f1), .string ((payT 1).f2), .int .u64 ((payT 1).f3), .int .u64 ((payT 1).f4), .string ((payT 1).f5), .string ((payT 1).f6), .slice none ((payT 1).f7.length) 0, .slice B1 ((payT 1).f8.length) 2]), (22, .pointer (some ⟨ga, 0, none⟩)), (23, .agg #[.int .i64 ((payT 2).f0), .string ((payT 2).f1), .string ((payT 2).f2), .int .u64 ((payT 2).f3), .int .u64 ((payT 2).f4), .string ((payT 2).f5), .string ((payT 2).f6), .slice none ((payT 2).f7.length) 0, .slice B2 ((payT 2).f8.length) 2]), (25, .pointer (some ⟨ga, 0, none⟩)), (26, .agg #[.int .i64 ((payT 3).f0), .string ((payT 3).f1), .string ((payT 3).f2), .int .u64 ((payT 3).f3), .int .u64 ((payT 3).f4), .string ((payT 3).f5), .string ((payT 3).f6), .slice none ((payT 3).f7.length) 0, .slice B3 ((payT 3).f8.length) 2]), (29, .pointer (some ⟨ga, 0, none⟩)), (30, .tuple #[.agg #[.int .i64 1, .int .i64 (0 + 1), .slice Ap3 ((L3.take 2).length) 2], .bool true]), (28, .tuple #[.agg #[.int .i64 1, .int .i64 (0 + 1), .slice Ap3 ((L3.take 2).length) 2], .bool true]), (31, .agg #[.int .i64 1, .int .i64 (0 + 1), .slice Ap3 ((L3.take 2).length) 2]), (32, .bool true), (3, .pointer (some ⟨g1, 0, none⟩)), (34, .agg #[.int .i64 1, .int .i64 (0 + 1), .slice Ap3 ((L3.take 2).length) 2]), (35, .tuple #[.string (bencB 1 (0 + 1) (L3.take 2)), .int .i64 0]), (33, .tuple #[.string (bencB 1 (0 + 1) (L3.take 2)), .int .i64 0]), (36, .string (bencB 1 (0 + 1) (L3.take 2))), (37, .int .i64 0), (5, .string (bencB 1 (0 + 1) (L3.take 2))), (39, .string (bencB 1 (0 + 1) (L3.take 2))), (40, .tuple #[.agg #[.int .i64 1, .int .i64 (0 + 1), .slice Ad ((L3.take 2).length) cd], .int .i64 0]), (38, .tuple #[.agg #[.int .i64 1, .int .i64 (0 + 1), .slice Ad ((L3.take 2).length) cd], .int .i64 0]), (41, .agg #[.int .i64 1, .int .i64 (0 + 1), .slice Ad ((L3.take 2).length) cd]), (42, .int .i64 0), (7, .pointer (some ⟨g2, 0, none⟩))] (subc rfl (subc rfl (subc rfl (subc rfl (subc rfl (subc rfl (subc rfl (subc rfl (subc rfl (subc rfl (subc rfl (subc rfl (subc rfl (subc rfl (subc rfl (subc rfl (subc rfl (subc rfl (subc rfl (subc rfl (subc rfl (subc rfl (subc rfl (subc rfl (subc rfl (subc rfl (subc rfl (subc rfl (subc rfl (subc rfl (subc rfl (subc rfl (subc rfl (subc rfl (subc rfl (subc rfl (subc rfl sub0)))))))))))))))))))))))))))))))))))))
  refine t_normal ?_
  refine c_ret (by kernel_rfl) ?_
  refine p_tmp Tryd.results37 F rfl ?_
  exact ⟨rfl, H.ends⟩
end Go.Proofs.YtndicjikjcifaaaDoor

/- BLAKE2s as plain mathematics over words of 32 bits. No program in sight. -/
namespace Go.Proofs.YtndicjikjcifaaaDoor.Bl
open Go
set_option linter.unusedSimpArgs false
set_option linter.unusedVariables false
abbrev B32 := BitVec 32
abbrev u (x : B32) : Value := .int .u32 (x.toNat : Int)
theorem wrap_u (n : Int) : IntKind.u32.wrap n = n % 4294967296 := by simp [IntKind.wrap, IntKind.bits, IntKind.signed]
theorem ofInt_u (x : B32) : BitVec.ofInt 32 (x.toNat : Int) = x := by
  rw [BitVec.ofInt_natCast]; simp
theorem wrap_toNat (x : B32) : IntKind.u32.wrap (x.toNat : Int) = (x.toNat : Int) := by
  rw [wrap_u]; have := x.isLt; omega
theorem add_u (x y : B32) : IntKind.u32.wrap ((x.toNat : Int) + (y.toNat : Int)) = ((x + y).toNat : Int) := by
  rw [wrap_u, BitVec.toNat_add]; omega
theorem shl_u (x : B32) (n : Nat) (_ : n ≤ 32) : IntKind.u32.wrap ((x.toNat : Int) * 2 ^ n) = ((x <<< n).toNat : Int) := by
  rw [wrap_u, BitVec.toNat_shiftLeft, Nat.shiftLeft_eq]
  have e : ((x.toNat : Int) * 2 ^ n) = ((x.toNat * 2 ^ n : Nat) : Int) := by push_cast; rfl
  rw [e]; omega
theorem shr_u (x : B32) (n : Nat) : Int.fdiv (x.toNat : Int) (2 ^ n) = ((x >>> n).toNat : Int) := by
  rw [BitVec.toNat_ushiftRight, Nat.shiftRight_eq_div_pow]
  have e : ((2 : Int) ^ n) = ((2 ^ n : Nat) : Int) := by push_cast; rfl
  rw [e, Int.fdiv_eq_ediv_of_nonneg _ (Int.natCast_nonneg _)]
  rfl
def rotr (x : B32) (n : Nat) : B32 := (x >>> n) ||| (x <<< (32 - n))
def mixF (a b c d x y : B32) : B32 × B32 × B32 × B32 :=
  (a + b + x + rotr (b ^^^ (c + rotr (d ^^^ (a + b + x)) 16)) 12 + y,
   rotr (rotr (b ^^^ (c + rotr (d ^^^ (a + b + x)) 16)) 12 ^^^ (c + rotr (d ^^^ (a + b + x)) 16 + rotr (rotr (d ^^^ (a + b + x)) 16 ^^^ (a + b + x + rotr (b ^^^ (c + rotr (d ^^^ (a + b + x)) 16)) 12 + y)) 8)) 7,
   c + rotr (d ^^^ (a + b + x)) 16 + rotr (rotr (d ^^^ (a + b + x)) 16 ^^^ (a + b + x + rotr (b ^^^ (c + rotr (d ^^^ (a + b + x)) 16)) 12 + y)) 8,
   rotr (rotr (d ^^^ (a + b + x)) 16 ^^^ (a + b + x + rotr (b ^^^ (c + rotr (d ^^^ (a + b + x)) 16)) 12 + y)) 8)
abbrev Words := Nat → B32
def upd (W : Words) (i : Nat) (v : B32) : Words := fun j => if j = i then v else W j
theorem upd_same (W : Words) (i : Nat) (v : B32) : upd W i v i = v := if_pos rfl
theorem upd_other (W : Words) {i j : Nat} (v : B32) (h : j ≠ i) : upd W i v j = W j := if_neg h
def quad (p q k l : Nat) (x y : B32) (W : Words) : Words := fun j =>
  if j = p then (mixF (W p) (W q) (W k) (W l) x y).1 else if j = q then (mixF (W p) (W q) (W k) (W l) x y).2.1 else if j = k then (mixF (W p) (W q) (W k) (W l) x y).2.2.1 else if j = l then (mixF (W p) (W q) (W k) (W l) x y).2.2.2 else W j
theorem quad_steps (p q k l : Nat) (x y : B32) (W W1 W2 W3 W4 W5 W6 W7 W8 : Words) (h1 : p ≠ q) (h2 : p ≠ k) (h3 : p ≠ l) (h4 : q ≠ k) (h5 : q ≠ l) (h6 : k ≠ l)
    (e1 : W1 = upd W p (W p + (W q + x))) (e2 : W2 = upd W1 l (rotr (W1 l ^^^ W1 p) 16)) (e3 : W3 = upd W2 k (W2 k + W2 l)) (e4 : W4 = upd W3 q (rotr (W3 q ^^^ W3 k) 12))
    (e5 : W5 = upd W4 p (W4 p + (W4 q + y))) (e6 : W6 = upd W5 l (rotr (W5 l ^^^ W5 p) 8)) (e7 : W7 = upd W6 k (W6 k + W6 l)) (e8 : W8 = upd W7 q (rotr (W7 q ^^^ W7 k) 7)) : W8 = quad p q k l x y W := by
  subst e1 e2 e3 e4 e5 e6 e7 e8
  have a1 := h1.symm
  have a2 := h2.symm
  have a3 := h3.symm
  have a4 := h4.symm
  have a5 := h5.symm
  have a6 := h6.symm
  funext j
  simp only [upd, quad, mixF, if_neg h1, if_neg h2, if_neg h3, if_neg h4, if_neg h5, if_neg h6, if_neg a1, if_neg a2, if_neg a3, if_neg a4, if_neg a5, if_neg a6, if_true, ← BitVec.add_assoc]
  by_cases j1 : j = p
  · subst j1; simp [h1, h2, h3]
  · by_cases j2 : j = q
    · subst j2; simp [h4, h5, j1]
    · by_cases j3 : j = k
      · subst j3; simp [h6, j1, j2]
      · by_cases j4 : j = l
        · subst j4; simp [j1, j2, j3]
        · simp [j1, j2, j3, j4]
def colsF (m : Words) (r : Nat → Nat) (W : Words) : Words :=
  quad 3 7 11 15 (m (r 6)) (m (r 7)) (quad 2 6 10 14 (m (r 4)) (m (r 5)) (quad 1 5 9 13 (m (r 2)) (m (r 3)) (quad 0 4 8 12 (m (r 0)) (m (r 1)) W)))
def diagsF (m : Words) (r : Nat → Nat) (W : Words) : Words :=
  quad 3 4 9 14 (m (r 14)) (m (r 15)) (quad 2 7 8 13 (m (r 12)) (m (r 13)) (quad 1 6 11 12 (m (r 10)) (m (r 11)) (quad 0 5 10 15 (m (r 8)) (m (r 9)) W)))
def rowsL : List (List Nat) := [
  [0, 1, 2, 3, 4, 5, 6, 7, 8, 9, 10, 11, 12, 13, 14, 15],
  [14, 10, 4, 8, 9, 15, 13, 6, 1, 12, 0, 2, 11, 7, 5, 3],
  [11, 8, 12, 0, 5, 2, 15, 13, 10, 14, 3, 6, 7, 1, 9, 4],
  [7, 9, 3, 1, 13, 12, 11, 14, 2, 6, 5, 10, 4, 0, 15, 8],
  [9, 0, 5, 7, 2, 4, 10, 15, 14, 1, 11, 12, 6, 8, 3, 13],
  [2, 12, 6, 10, 0, 11, 8, 3, 4, 13, 7, 5, 15, 14, 1, 9],
  [12, 5, 1, 15, 14, 13, 4, 10, 0, 7, 6, 3, 9, 2, 8, 11],
  [13, 11, 7, 14, 12, 1, 3, 9, 5, 0, 15, 4, 8, 6, 2, 10],
  [6, 15, 14, 9, 11, 3, 0, 8, 12, 2, 13, 7, 1, 4, 10, 5],
  [10, 2, 8, 4, 7, 6, 1, 5, 15, 11, 9, 14, 3, 12, 13, 0]]
def rowF (i : Nat) : Nat → Nat := fun j => (rowsL.getD i []).getD j 0
theorem rowF_lt (i j : Nat) : rowF i j < 16 := by
  have h : ∀ l ∈ rowsL, ∀ x ∈ l, x < 16 := by decide
  unfold rowF
  rw [List.getD_eq_getElem?_getD, List.getD_eq_getElem?_getD]
  cases h1 : rowsL[i]? with
  | none => simp
  | some l =>
    cases h2 : l[j]? with
    | none => simp [h2]
    | some x => simpa [h2] using h l (List.mem_of_getElem? h1) x (List.mem_of_getElem? h2)
def firstsL : List B32 := [0x6A09E667, 0xBB67AE85, 0x3C6EF372, 0xA54FF53A, 0x510E527F, 0x9B05688C, 0x1F83D9AB, 0x5BE0CD19]
def firstsF : Words := fun i => firstsL.getD i 0
def rounds (m : Words) : Nat → Words → Words
  | 0, W => W
  | n + 1, W => let V := rounds m n W; diagsF m (rowF n) (colsF m (rowF n) V)
def by8 (s : List UInt8) (i : Nat) : B32 := BitVec.ofNat 32 (s.getD i 0).toNat
def loadF (s : List UInt8) : Words := fun j => ((by8 s (4 * j) ||| by8 s (4 * j + 1) <<< 8) ||| by8 s (4 * j + 2) <<< 16) ||| by8 s (4 * j + 3) <<< 24
def startF (h : Words) (t : B32) (last : Bool) : Words := fun j =>
  if j < 8 then h j else if j = 12 then firstsF 4 ^^^ t else if j = 14 then (if last = true then ~~~(firstsF 6) else firstsF 6) else firstsF (j - 8)
def blockF (h : Words) (s : List UInt8) (upto : Int) (last : Bool) : Words := fun j =>
  h j ^^^ (rounds (loadF s) 10 (startF h (BitVec.ofInt 32 upto) last) j ^^^ rounds (loadF s) 10 (startF h (BitVec.ofInt 32 upto) last) (j + 8))
def finF (s : List UInt8) (done : Int) : Nat → Nat → Words → Words
  | 0, at_, h => blockF h (s.drop at_) (done + s.length) true
  | n + 1, at_, h => if 64 < s.length - at_ then finF s done n (at_ + 64) (blockF h ((s.drop at_).take 64) (done + at_ + 64) false) else blockF h (s.drop at_) (done + s.length) true
def byteL (x : B32) : List UInt8 := [UInt8.ofNat x.toNat, UInt8.ofNat (x >>> 8).toNat, UInt8.ofNat (x >>> 16).toNat, UInt8.ofNat (x >>> 24).toNat]
def outF (h : Words) : List UInt8 := (List.range 8).flatMap fun i => byteL (h i)
theorem outF_length (h : Words) : (outF h).length = 32 := by simp [outF, byteL, List.range_succ]
def beginF (k : Nat) : Words := fun j => if j = 0 then firstsF 0 ^^^ (0x01010020 ^^^ BitVec.ofNat 32 (256 * k)) else firstsF j
def sumF (s : List UInt8) : List UInt8 := outF (finF s 0 s.length 0 (beginF 0))
end Go.Proofs.YtndicjikjcifaaaDoor.Bl

/- Words of 32 bits in the small logic; arrays of sixteen. -/
namespace Go.Proofs.YtndicjikjcifaaaDoor
open Go.RowKit Go.Proofs.YtndicjikjcifaaaDoorW.PrintWords Go.Proofs.YtndicjikjcifaaaDoorW.PrintLast Bl
set_option linter.unusedVariables false
set_option linter.unusedSimpArgs false
set_option linter.unusedSectionVars false
theorem ubits_xor (x y : B32) : bits .xor .u32 (x.toNat : Int) (y.toNat : Int) = ((x ^^^ y).toNat : Int) := by
  show IntKind.u32.wrap ((BitVec.ofInt 32 (x.toNat : Int) ^^^ BitVec.ofInt 32 (y.toNat : Int)).toNat : Int) = _
  rw [ofInt_u, ofInt_u]; exact wrap_toNat _
theorem ubits_or (x y : B32) : bits .or .u32 (x.toNat : Int) (y.toNat : Int) = ((x ||| y).toNat : Int) := by
  show IntKind.u32.wrap ((BitVec.ofInt 32 (x.toNat : Int) ||| BitVec.ofInt 32 (y.toNat : Int)).toNat : Int) = _
  rw [ofInt_u, ofInt_u]; exact wrap_toNat _
def wsN (n : Nat) (W : Words) : List Value := (List.range n).map (fun i => u (W i))
abbrev ws (W : Words) : List Value := wsN 16 W
theorem wsN_len (n : Nat) (W : Words) : (wsN n W).length = n := by simp [wsN]
theorem ws_at {n : Nat} (W : Words) {i : Nat} (h : i < n) : (wsN n W)[i]? = some (u (W i)) := by simp [wsN, h]
theorem ws_upd {n : Nat} (W : Words) {i : Nat} (h : i < n) (v : B32) : (wsN n W).set i (u v) = wsN n (upd W i v) := by
  apply List.ext_getElem?
  intro j
  rw [List.getElem?_set]
  by_cases hj : j < n
  · rw [ws_at _ hj]
    by_cases e : i = j
    · subst e; rw [if_pos rfl, if_pos (by rw [wsN_len]; exact hj), ws_at _ hj, upd_same]
    · rw [if_neg e, ws_at _ hj, upd_other _ _ (fun h => e h.symm)]
  · have h1 : (wsN n W)[j]? = none := List.getElem?_eq_none (by rw [wsN_len]; omega)
    have h2 : (wsN n (upd W i v))[j]? = none := List.getElem?_eq_none (by rw [wsN_len]; omega)
    have e : i ≠ j := by omega
    rw [if_neg e, h1, h2]
def rs (r : Nat → Nat) : List Value := (List.range 16).map (fun i => .int .i64 (r i : Int))
theorem rs_at (r : Nat → Nat) {i : Nat} (h : i < 16) : (rs r)[i]? = some (.int .i64 (r i : Int)) := by simp [rs, h]
section
variable {P : Program} {a : Act} {W : World} {x y : Operand} {t yt ty : TypeId}
theorem x_add32 {p q : B32} (hx : a.eval x = u p) (hy : a.eval y = u q) : (ex a (.binOp .add t x y yt) ty).run P W = .ok (.value (u (p + q))) W := by
  have := x_int (P := P) (W := W) (t := t) (yt := yt) (ty := ty) (o := .add) (v := .int .u32 (IntKind.u32.wrap ((p.toNat : Int) + (q.toNat : Int)))) hx hy rfl
  rw [add_u] at this; exact this
theorem x_xor32 {p q : B32} (hx : a.eval x = u p) (hy : a.eval y = u q) : (ex a (.binOp .xor t x y yt) ty).run P W = .ok (.value (u (p ^^^ q))) W := by
  have := x_int (P := P) (W := W) (t := t) (yt := yt) (ty := ty) (o := .xor) (v := .int .u32 (bits .xor .u32 (p.toNat : Int) (q.toNat : Int))) hx hy rfl
  rw [ubits_xor] at this; exact this
theorem x_or32 {p q : B32} (hx : a.eval x = u p) (hy : a.eval y = u q) : (ex a (.binOp .or t x y yt) ty).run P W = .ok (.value (u (p ||| q))) W := by
  have := x_int (P := P) (W := W) (t := t) (yt := yt) (ty := ty) (o := .or) (v := .int .u32 (bits .or .u32 (p.toNat : Int) (q.toNat : Int))) hx hy rfl
  rw [ubits_or] at this; exact this
theorem x_shl32 {p : B32} {j : IntKind} {n : Nat} (hn : n ≤ 32) (hx : a.eval x = u p) (hy : a.eval y = .int j (n : Int)) : (ex a (.binOp .shl t x y yt) ty).run P W = .ok (.value (u (p <<< n))) W := by
  have := x_shift (P := P) (W := W) (t := t) (yt := yt) (ty := ty) (o := .shl) (v := .int .u32 (IntKind.u32.wrap ((p.toNat : Int) * 2 ^ n))) hx hy (by
    have e : min n 32 = n := Nat.min_eq_left hn
    have h0 : ¬ ((n : Int) < 0) := by omega
    simp [binOp, eqGuard, Op.shift, h0, IntKind.bits, e])
  rw [shl_u p n hn] at this; exact this
theorem x_shr32 {p : B32} {j : IntKind} {n : Nat} (hn : n ≤ 32) (hx : a.eval x = u p) (hy : a.eval y = .int j (n : Int)) : (ex a (.binOp .shr t x y yt) ty).run P W = .ok (.value (u (p >>> n))) W := by
  have := x_shift (P := P) (W := W) (t := t) (yt := yt) (ty := ty) (o := .shr) (v := .int .u32 (Int.fdiv (p.toNat : Int) (2 ^ n))) hx hy (by
    have e : min n 32 = n := Nat.min_eq_left hn
    have h0 : ¬ ((n : Int) < 0) := by omega
    have e2 : (2 : Int) ^ n = ((2 ^ n : Nat) : Int) := by push_cast; rfl
    simp [binOp, eqGuard, Op.shift, h0, IntKind.bits, e]
    rw [e2, Int.fdiv_eq_ediv_of_nonneg _ (Int.natCast_nonneg _)])
  rw [shr_u p n] at this; exact this
theorem splice_one {α : Type} (cs : List α) (o : Nat) (v : α) (h : o < cs.length) : splice cs o [v] = cs.set o v := by
  unfold splice
  rw [List.set_eq_take_append_cons_drop, if_pos h]
  rfl
theorem x_store1 {S R : Nat → Prop} {w : World} {M : List Asn} {g o k : Nat} {cs : List Value} {T : TypeId} {v : Value} (H : St w S R M W) (hk : M[k]? = some (Asn.blk g cs T)) (hs : (sizeOf t).run P W = .ok 1 W) (hx : a.eval x = .pointer (some ⟨g, o, none⟩)) (hy : a.eval y = v)
    (h1 : v.cells = #[v]) (h2 : v.oneCell' = true) (hf : o < cs.length) : ∃ W', (ex a (.store t x y) ty).run P W = .ok .skip W' ∧ St w S R (M.set k (Asn.blk g (cs.set o v) T)) W' :=
  x_store H hk hs hx hy (by rw [h1]; rfl) (by omega) (by rw [h1]; simp [h2]) (by rw [h1]; exact splice_one cs o v hf)
theorem x_sliceAr {s e : TypeId} {n m : Nat} {ad : Addr} (hu : P.underlying s = some (.array n e)) (hz : (sizeOf e).run P W = .ok m W) (hx : a.eval x = .pointer (some ad)) (hn : 0 < n) : (ex a (.slice s x none none none) ty).run P W = .ok (.value (.slice (some ad) n n)) W := by
  have h : ¬ n = 0 := by omega
  have e0 : ∀ q : Addr, q.add 0 = q := fun q => by rcases q with ⟨_, _, _ | _⟩ <;> simp [Addr.add]
  simp [ex, execOp, Instr.sliceAt, Instr.sureAddr, Instr.sliceBounds, run_underlying hu, hx, hz, h, e0]
theorem x_sliceArLo {s e : TypeId} {n m i : Nat} {k : IntKind} {ad : Addr} {lo : Operand} (hu : P.underlying s = some (.array n e)) (hz : (sizeOf e).run P W = .ok m W) (hx : a.eval x = .pointer (some ad)) (hy : a.eval lo = .int k (i : Int)) (hi : i < n) : (ex a (.slice s x (some lo) none none) ty).run P W = .ok (.value (.slice (some (ad.add (i * m))) (n - i) (n - i))) W := by
  have h : ¬ n = i := by omega
  have h2 : i ≤ n := by omega
  simp [ex, execOp, Instr.sliceAt, Instr.sureAddr, Instr.sliceBounds, Instr.sliceBound, asIntOf, run_underlying hu, hx, hy, hz, h, h2]
theorem x_copy {S R : Nat → Prop} {w : World} {M : List Asn} {g off k dn dc sn sc : Nat} {cs src : List Value} {T dT sT elem : TypeId} {ad : Addr} {d s : Operand} (H : St w S R M W) (hk : M[k]? = some (Asn.blk g cs T))
    (hd : a.eval d = .slice (some ⟨g, off, none⟩) dn dc) (hs : a.eval s = .slice (some ad) sn sc) (hu : P.underlying dT = some (.slice elem)) (hz : (sizeOf elem).run P W = .ok 1 W) (hl : src.length = Nat.min sn dn)
    (hsrc : ∀ j v, src[j]? = some v → W.cell? (ad.add j) = some v) (hf : off + src.length ≤ cs.length) (h1 : ∀ v ∈ src, v.oneCell' = true) :
    ∃ W', (ex a (.call { callee := .builtin .copy, args := #[d, s], argTypes := #[dT, sT] }) ty).run P W = .ok (.value (goInt (Nat.min sn dn))) W' ∧ St w S R (M.set k (Asn.blk g (splice cs off src) T)) W' := by
  have hb := H.blk k hk
  have hl2 := run_loadCells_list (P := P) W ad src hsrc
  have hst := run_storeCells_at P g off T src 0 cs.toArray W hb (by simpa using hf) h1
  refine ⟨W.setRow g (splice cs off src).toArray, ?_, H.write k hk _ ⟨rfl, rfl, rfl, ?_, ?_⟩ (setRow_heap W g cs.toArray _ T (0, 0) hb)⟩
  · simp [ex, execOp, resolve, invoke, builtin, hd, hs, Builtin.copy_, run_underlying hu, Builtin.lenOf, Builtin.firstCells, hz, ← hl, hl2, hst, splice]
  · simp [World.setRow]
  · intro j hj hjg
    simp only [World.setRow, Array.getElem?_modify]
    rw [if_neg (fun e => hjg e.symm)]
end
def over (o n : Nat) (F G : Words) : Words := fun j => if o ≤ j ∧ j < o + n then G (j - o) else F j
theorem ws_over {m n o : Nat} (F G : Words) (h : o + n ≤ m) : splice (wsN m F) o (wsN n G) = wsN m (over o n F G) := by
  apply List.ext_getElem?
  intro j
  unfold splice
  by_cases hj : j < m
  · rw [ws_at _ hj]
    by_cases h1 : j < o
    · rw [List.getElem?_append_left (by rw [List.length_take, wsN_len]; omega), List.getElem?_take, if_pos h1, ws_at _ hj]
      unfold over; rw [if_neg (by omega)]
    · rw [List.getElem?_append_right (by rw [List.length_take, wsN_len]; omega), List.length_take, wsN_len m F, wsN_len n G, Nat.min_eq_left (by omega)]
      by_cases h2 : j < o + n
      · rw [List.getElem?_append_left (by rw [wsN_len]; omega), ws_at _ (by omega)]
        unfold over; rw [if_pos ⟨by omega, h2⟩]
      · rw [List.getElem?_append_right (by rw [wsN_len]; omega), wsN_len n G, List.getElem?_drop, show o + n + (j - o - n) = j by omega, ws_at _ hj]
        unfold over; rw [if_neg (by omega)]
  · have h1 : (wsN m (over o n F G))[j]? = none := List.getElem?_eq_none (by rw [wsN_len]; omega)
    rw [h1]
    exact List.getElem?_eq_none (by simp [wsN_len]; omega)
theorem ws_one {n : Nat} (F : Words) : ∀ v ∈ wsN n F, v.oneCell' = true := by
  intro v hv
  obtain ⟨i, _, rfl⟩ := List.mem_map.1 hv
  rfl
def loadP (s : List UInt8) : Nat → Words
  | 0 => fun _ => 0
  | j + 1 => upd (loadP s j) (j / 4) (loadP s j (j / 4) ||| by8 s j <<< (8 * (j % 4)))
theorem loadP_eq (s : List UInt8) : ∀ n k, loadP s n k = (((if 4 * k < n then by8 s (4 * k) else 0) ||| (if 4 * k + 1 < n then by8 s (4 * k + 1) else 0) <<< 8) ||| (if 4 * k + 2 < n then by8 s (4 * k + 2) else 0) <<< 16) ||| (if 4 * k + 3 < n then by8 s (4 * k + 3) else 0) <<< 24
  | 0, k => by simp [loadP]
  | j + 1, k => by
    have ih := loadP_eq s j
    rw [loadP]
    by_cases e : k = j / 4
    · subst e
      rw [upd_same, ih]
      have hm : j % 4 < 4 := Nat.mod_lt _ (by decide)
      generalize hq : j / 4 = q
      have hj : j = 4 * q + j % 4 := by omega
      generalize j % 4 = r at hm hj
      subst hj
      have hr : r = 0 ∨ r = 1 ∨ r = 2 ∨ r = 3 := by omega
      rcases hr with rfl | rfl | rfl | rfl
      · rw [if_neg (show ¬ (4 * q < 4 * q + 0) by omega), if_neg (show ¬ (4 * q + 1 < 4 * q + 0) by omega), if_neg (show ¬ (4 * q + 2 < 4 * q + 0) by omega), if_neg (show ¬ (4 * q + 3 < 4 * q + 0) by omega), if_pos (show (4 * q < 4 * q + 0 + 1) by omega), if_neg (show ¬ (4 * q + 1 < 4 * q + 0 + 1) by omega), if_neg (show ¬ (4 * q + 2 < 4 * q + 0 + 1) by omega), if_neg (show ¬ (4 * q + 3 < 4 * q + 0 + 1) by omega)]
        simp [BitVec.or_assoc]
      · rw [if_pos (show (4 * q < 4 * q + 1) by omega), if_neg (show ¬ (4 * q + 1 < 4 * q + 1) by omega), if_neg (show ¬ (4 * q + 2 < 4 * q + 1) by omega), if_neg (show ¬ (4 * q + 3 < 4 * q + 1) by omega), if_pos (show (4 * q < 4 * q + 1 + 1) by omega), if_pos (show (4 * q + 1 < 4 * q + 1 + 1) by omega), if_neg (show ¬ (4 * q + 2 < 4 * q + 1 + 1) by omega), if_neg (show ¬ (4 * q + 3 < 4 * q + 1 + 1) by omega)]
        simp [BitVec.or_assoc]
      · rw [if_pos (show (4 * q < 4 * q + 2) by omega), if_pos (show (4 * q + 1 < 4 * q + 2) by omega), if_neg (show ¬ (4 * q + 2 < 4 * q + 2) by omega), if_neg (show ¬ (4 * q + 3 < 4 * q + 2) by omega), if_pos (show (4 * q < 4 * q + 2 + 1) by omega), if_pos (show (4 * q + 1 < 4 * q + 2 + 1) by omega), if_pos (show (4 * q + 2 < 4 * q + 2 + 1) by omega), if_neg (show ¬ (4 * q + 3 < 4 * q + 2 + 1) by omega)]
        simp [BitVec.or_assoc]
      · rw [if_pos (show (4 * q < 4 * q + 3) by omega), if_pos (show (4 * q + 1 < 4 * q + 3) by omega), if_pos (show (4 * q + 2 < 4 * q + 3) by omega), if_neg (show ¬ (4 * q + 3 < 4 * q + 3) by omega), if_pos (show (4 * q < 4 * q + 3 + 1) by omega), if_pos (show (4 * q + 1 < 4 * q + 3 + 1) by omega), if_pos (show (4 * q + 2 < 4 * q + 3 + 1) by omega), if_pos (show (4 * q + 3 < 4 * q + 3 + 1) by omega)]
        simp [BitVec.or_assoc]
    · rw [upd_other _ _ e, ih]
      have c0 : (4 * k < j + 1) ↔ (4 * k < j) := by omega
      have c1 : (4 * k + 1 < j + 1) ↔ (4 * k + 1 < j) := by omega
      have c2 : (4 * k + 2 < j + 1) ↔ (4 * k + 2 < j) := by omega
      have c3 : (4 * k + 3 < j + 1) ↔ (4 * k + 3 < j) := by omega
      simp only [c0, c1, c2, c3]
theorem loadP_all (s : List UInt8) : loadP s s.length = loadF s := by
  funext k
  rw [loadP_eq]
  have h : ∀ i, (if i < s.length then by8 s i else 0) = by8 s i := by
    intro i
    by_cases hi : i < s.length
    · exact if_pos hi
    · rw [if_neg hi]
      unfold by8
      rw [List.getD_eq_getElem?_getD, List.getElem?_eq_none (by omega)]
      rfl
  rw [h, h, h, h]
  rfl
abbrev Asn.rb (g : Nat) (cs : List Value) (T : TypeId) : Asn := Asn.ft (fun W => W.heap[g]? = some (.cells cs.toArray T (0, 0))) (fun k => k = g)
theorem tdiv4 (j : Nat) (h : j < 1000) : IntKind.i64.wrap (Int.tdiv (j : Int) 4) = ((j / 4 : Nat) : Int) := by
  rw [show Int.tdiv (j : Int) 4 = ((j / 4 : Nat) : Int) from rfl]
  exact wrap_i64 _ (by omega) (by omega)
theorem mul8 (j : Nat) (h : j < 1000) : IntKind.i64.wrap (8 * (Int.tmod (j : Int) 4)) = ((8 * (j % 4) : Nat) : Int) := by
  rw [show Int.tmod (j : Int) 4 = ((j % 4 : Nat) : Int) from rfl]
  exact (wrap_i64 _ (by omega) (by omega)).trans (by omega)
section
variable {P : Program} {a : Act} {W : World} {x y : Operand} {t yt ty : TypeId}
theorem x_byte32 {s d : TypeId} {c : UInt8} {ds : TypeDesc} (hu : P.underlying s = some ds) (hd : P.underlying d = some (.int .u32)) (hx : a.eval x = .int .u8 (c.toNat : Int)) : (ex a (.convert s d x) ty).run P W = .ok (.value (u (BitVec.ofNat 32 c.toNat))) W := by
  rw [x_conv hu hd hx, wrap_u]
  have h := c.toNat_lt
  have e : (BitVec.ofNat 32 c.toNat).toNat = c.toNat := by rw [BitVec.toNat_ofNat]; omega
  have e2 : ((c.toNat : Int) % 4294967296) = ((BitVec.ofNat 32 c.toNat).toNat : Int) := by rw [e]; omega
  rw [e2]
theorem x_toU32 {s d : TypeId} {j : IntKind} {m : Int} {ds : TypeDesc} (hu : P.underlying s = some ds) (hd : P.underlying d = some (.int .u32)) (hx : a.eval x = .int j m) : (ex a (.convert s d x) ty).run P W = .ok (.value (u (BitVec.ofInt 32 m))) W := by
  rw [x_conv hu hd hx, wrap_u]
  have e : ((BitVec.ofInt 32 m).toNat : Int) = m % 4294967296 := by rw [BitVec.toNat_ofInt]; omega
  rw [← e]
theorem x_not32 {p : B32} (hx : a.eval x = u p) : (ex a (.unOp .xor t x) ty).run P W = .ok (.value (u (~~~p))) W := by
  have e : bits .xor .u32 (IntKind.u32.max) (p.toNat : Int) = ((~~~p).toNat : Int) := by
    have h : (IntKind.u32.max : Int) = ((4294967295#32 : B32).toNat : Int) := by decide
    rw [h, ubits_xor]
    congr 2
  have : (Op.unary .xor (u p)).run P W = .ok (.int .u32 (bits .xor .u32 (IntKind.u32.max) (p.toNat : Int))) W := rfl
  simp [ex, execOp, hx, this, e]
theorem x_row {s e : TypeId} {i n : Nat} {k : IntKind} {cs r : List Value} (hu : P.underlying s = some (.array n e)) (hz : (sizeOf e).run P W = .ok 16 W) (hA : (isAgg e).run P W = .ok true W) (hx : a.eval x = .agg cs.toArray) (hy : a.eval y = .int k (i : Int)) (hi : i < n) (hr : (cs.drop (i * 16)).take 16 = r) (hl : i * 16 + 16 ≤ cs.length) : (ex a (.index s x y) ty).run P W = .ok (.value (.agg r.toArray)) W := by
  simp [ex, execOp, Instr.index, run_underlying hu, hx, hy, asIntOf, hi, hz]
  simp [part, hA, hz]
  exact hr
theorem x_storeAll {S R : Nat → Prop} {w : World} {M : List Asn} {g k m : Nat} {cs r : List Value} {T : TypeId} (H : St w S R M W) (hk : M[k]? = some (Asn.blk g cs T)) (hs : (sizeOf t).run P W = .ok m W) (hx : a.eval x = .pointer (some ⟨g, 0, none⟩)) (hy : a.eval y = .agg r.toArray)
    (hl : r.length = m) (hl2 : cs.length = m) (h1 : ∀ v ∈ r, v.oneCell' = true) : ∃ W', (ex a (.store t x y) ty).run P W = .ok .skip W' ∧ St w S R (M.set k (Asn.blk g r T)) W' :=
  x_store H hk hs hx hy (by simpa [Value.cells] using hl) (by omega) (by simpa [Value.cells, List.all_eq_true] using h1) (by simp [Value.cells, splice, hl, hl2])
end
theorem rs_one (r : Nat → Nat) : ∀ v ∈ rs r, v.oneCell' = true := by
  intro v hv
  obtain ⟨i, _, rfl⟩ := List.mem_map.1 hv
  rfl
theorem rs_len (r : Nat → Nat) : (rs r).length = 16 := by simp [rs]
def rowsV : List Value := (List.range 10).flatMap fun i => rs (rowF i)
theorem rowsV_at (i : Nat) (h : i < 10) : (rowsV.drop (i * 16)).take 16 = rs (rowF i) := by
  have : i = 0 ∨ i = 1 ∨ i = 2 ∨ i = 3 ∨ i = 4 ∨ i = 5 ∨ i = 6 ∨ i = 7 ∨ i = 8 ∨ i = 9 := by omega
  rcases this with rfl | rfl | rfl | rfl | rfl | rfl | rfl | rfl | rfl | rfl <;> rfl
theorem rowsV_len : rowsV.length = 160 := by rfl
theorem start_eq (h : Words) (t : B32) (last : Bool) : ∀ j, j < 16 → (if last = true then upd (upd (over 8 8 (over 0 8 (fun _ => 0) h) firstsF) 12 (over 8 8 (over 0 8 (fun _ => 0) h) firstsF 12 ^^^ t)) 14 (~~~(upd (over 8 8 (over 0 8 (fun _ => 0) h) firstsF) 12 (over 8 8 (over 0 8 (fun _ => 0) h) firstsF 12 ^^^ t) 14)) else upd (over 8 8 (over 0 8 (fun _ => 0) h) firstsF) 12 (over 8 8 (over 0 8 (fun _ => 0) h) firstsF 12 ^^^ t)) j = startF h t last j := by
  intro j hj
  cases last
  · simp only [Bool.false_eq_true, if_false, upd, over, startF]
    by_cases a : j < 8
    · rw [if_neg (by omega), if_neg (by omega), if_pos (by omega), if_pos a]; rfl
    · rw [if_neg a]
      by_cases b : j = 12
      · subst b; rfl
      · rw [if_neg b, if_neg b, if_pos (by omega)]
        by_cases c : j = 14
        · subst c; rfl
        · rw [if_neg c]
  · simp only [if_true, upd, over, startF]
    by_cases a : j < 8
    · rw [if_neg (by omega), if_neg (by omega), if_neg (by omega), if_pos (by omega), if_pos a]; rfl
    · rw [if_neg a]
      by_cases b : j = 12
      · subst b; rfl
      · rw [if_neg b]
        by_cases c : j = 14
        · subst c; rfl
        · rw [if_neg c, if_neg b, if_pos (by omega), if_neg c]
theorem wsN_congr {n : Nat} {F G : Words} (h : ∀ j, j < n → F j = G j) : wsN n F = wsN n G := by
  unfold wsN
  apply List.map_congr_left
  intro i hi
  rw [h i (List.mem_range.1 hi)]
def xorP (h V : Words) (n : Nat) : Words := fun j => if j < n then h j ^^^ (V j ^^^ V (j + 8)) else h j
theorem xorP_succ (h V : Words) (n : Nat) : upd (xorP h V n) n (xorP h V n n ^^^ (V n ^^^ V (n + 8))) = xorP h V (n + 1) := by
  funext j
  unfold upd xorP
  by_cases e : j = n
  · subst e; simp
  · rw [if_neg e]
    by_cases c : j < n
    · rw [if_pos c, if_pos (by omega)]
    · rw [if_neg c, if_neg (by omega)]
theorem toList_size (s : ByteArray) : s.toList.length = s.size := by rw [Lib.toList_data]; rfl
theorem str_at (s : ByteArray) (j : Nat) (h : j < s.size) : s[j]? = some (s.toList.getD j 0) := by
  rw [getElem?_pos s j h, Lib.toList_data, List.getD_eq_getElem?_getD]
  have h2 : j < s.data.toList.length := h
  rw [List.getElem?_eq_getElem h2]
  rfl
def bsN (n : Nat) (B : Nat → UInt8) : List Value := (List.range n).map (fun i => .int .u8 ((B i).toNat : Int))
theorem bsN_len (n : Nat) (B : Nat → UInt8) : (bsN n B).length = n := by simp [bsN]
theorem bs_at {n : Nat} (B : Nat → UInt8) {i : Nat} (h : i < n) : (bsN n B)[i]? = some (.int .u8 ((B i).toNat : Int)) := by simp [bsN, h]
def updB (B : Nat → UInt8) (i : Nat) (v : UInt8) : Nat → UInt8 := fun j => if j = i then v else B j
theorem bs_upd {n : Nat} (B : Nat → UInt8) {i : Nat} (h : i < n) (v : UInt8) : (bsN n B).set i (.int .u8 (v.toNat : Int)) = bsN n (updB B i v) := by
  apply List.ext_getElem?
  intro j
  rw [List.getElem?_set]
  by_cases hj : j < n
  · rw [show (bsN n (updB B i v))[j]? = some (.int .u8 ((updB B i v j).toNat : Int)) from bs_at _ hj]
    unfold updB
    by_cases e : i = j
    · subst e; rw [if_pos rfl, if_pos (by rw [bsN_len]; exact hj), if_pos rfl]
    · rw [if_neg e, bs_at _ hj, if_neg (fun h => e h.symm)]
  · have h1 : (bsN n B)[j]? = none := List.getElem?_eq_none (by rw [bsN_len]; omega)
    have h2 : (bsN n (updB B i v))[j]? = none := List.getElem?_eq_none (by rw [bsN_len]; omega)
    have e : i ≠ j := by omega
    rw [if_neg e, h1, h2]
section
variable {P : Program} {a : Act} {W : World} {x y : Operand} {t yt ty : TypeId}
theorem x_word {s e : TypeId} {i n : Nat} {k : IntKind} {F : Words} (hu : P.underlying s = some (.array n e)) (hz : (sizeOf e).run P W = .ok 1 W) (hA : (isAgg e).run P W = .ok false W) (hx : a.eval x = .agg (wsN n F).toArray) (hy : a.eval y = .int k (i : Int)) (hi : i < n) : (ex a (.index s x y) ty).run P W = .ok (.value (u (F i))) W := by
  have h := ws_at F hi
  simp [ex, execOp, Instr.index, run_underlying hu, hx, hy, asIntOf, hi, hz, part, hA, h]
theorem x_toU8 {s d : TypeId} {p : B32} {ds : TypeDesc} (hu : P.underlying s = some ds) (hd : P.underlying d = some (.int .u8)) (hx : a.eval x = u p) : (ex a (.convert s d x) ty).run P W = .ok (.value (.int .u8 ((UInt8.ofNat p.toNat).toNat : Int))) W := by
  rw [x_conv hu hd hx]
  have e : IntKind.u8.wrap (p.toNat : Int) = ((UInt8.ofNat p.toNat).toNat : Int) := by
    simp [IntKind.wrap, IntKind.bits, IntKind.signed]
  rw [e]
end
def outP (h : Words) (n : Nat) : Nat → UInt8 := fun i => if i < 4 * n then (byteL (h (i / 4))).getD (i % 4) 0 else 0
theorem outP_succ (h : Words) (n : Nat) : updB (updB (updB (updB (outP h n) (4 * n) (UInt8.ofNat (h n).toNat)) (4 * n + 1) (UInt8.ofNat (h n >>> 8).toNat)) (4 * n + 2) (UInt8.ofNat (h n >>> 16).toNat)) (4 * n + 3) (UInt8.ofNat (h n >>> 24).toNat) = outP h (n + 1) := by
  funext i
  unfold updB outP
  by_cases a3 : i = 4 * n + 3
  · subst a3; rw [if_pos rfl, if_pos (by omega), show (4 * n + 3) / 4 = n by omega, show (4 * n + 3) % 4 = 3 by omega]; rfl
  rw [if_neg a3]
  by_cases a2 : i = 4 * n + 2
  · subst a2; rw [if_pos rfl, if_pos (by omega), show (4 * n + 2) / 4 = n by omega, show (4 * n + 2) % 4 = 2 by omega]; rfl
  rw [if_neg a2]
  by_cases a1 : i = 4 * n + 1
  · subst a1; rw [if_pos rfl, if_pos (by omega), show (4 * n + 1) / 4 = n by omega, show (4 * n + 1) % 4 = 1 by omega]; rfl
  rw [if_neg a1]
  by_cases a0 : i = 4 * n
  · subst a0; rw [if_pos rfl, if_pos (by omega), show (4 * n) / 4 = n by omega, show (4 * n) % 4 = 0 by omega]; rfl
  rw [if_neg a0]
  by_cases c : i < 4 * n
  · rw [if_pos c, if_pos (by omega)]
  · rw [if_neg c, if_neg (by omega)]
theorem fin_step (l : List UInt8) (n q : Nat) (h : Words) (hq : 64 < l.length - q) (hl : l.length ≤ q + 64 * n + 64) : ∃ m, n = m + 1 ∧ finF l 0 n q h = finF l 0 m (q + 64) (blockF h ((l.drop q).take 64) (0 + q + 64) false) := by
  cases n with
  | zero => omega
  | succ m => exact ⟨m, rfl, if_pos hq⟩
theorem fin_end (l : List UInt8) (n q : Nat) (h : Words) (hq : ¬ 64 < l.length - q) : finF l 0 n q h = blockF h (l.drop q) (0 + l.length) true := by
  cases n with
  | zero => rfl
  | succ m => exact if_neg hq
theorem out_all (h : Words) : (List.range 32).map (outP h 8) = outF h := by
  simp [outF, byteL, List.range_succ, outP]
theorem x_bytes {P : Program} {a : Act} {W : World} {x : Operand} {ty s d e T : TypeId} {g n : Nat} {B : Nat → UInt8} {l : List UInt8} (hu : P.underlying s = some (.slice e)) (he : P.underlying e = some (.int .u8)) (hd : P.underlying d = some .string)
    (hx : a.eval x = .slice (some ⟨g, 0, none⟩) n n) (hb : W.heap[g]? = some (.cells (bsN n B).toArray T (0, 0))) (hl : (List.range n).map B = l) : (ex a (.convert s d x) ty).run P W = .ok (.value (.string ⟨l.toArray⟩)) W := by
  subst hl
  have := run_convert_bytes_back (P := P) W s d e ⟨g, 0, none⟩ n ((List.range n).map B) hu he hd (fun j hj => by
    have hj' : j < n := by simpa using hj
    rw [addo, blk_cell hb]
    have := bs_at B hj'
    simpa using this)
  rw [List.length_map, List.length_range] at this
  simp [ex, execOp, hx, this]
theorem rb_holds {g : Nat} {cs : List Value} {T : TypeId} {w : World} (h : w.heap[g]? = some (.cells cs.toArray T (0, 0))) : (Asn.rb g cs T).holds w := fun W' hW => (hW g rfl (blk_lt h)).trans h
theorem St.rbs {w : World} {S : Nat → Prop} {g g' : Nat} {cs cs' : List Value} {T T' : TypeId} (h : w.heap[g]? = some (.cells cs.toArray T (0, 0))) (h' : w.heap[g']? = some (.cells cs'.toArray T' (0, 0))) : St w S (fun _ => True) [Asn.rb g cs T, Asn.rb g' cs' T'] w := by
  have H1 := (St.first w S (fun _ => True)).add (Asn.rb g cs T) (rb_holds h) (fun k hk => by rcases hk with hk | hk; exact hk.elim; exact (show k = g from hk) ▸ blk_lt h) (fun k hk => hk.elim) (fun k hk => ⟨.inr (.inl trivial), fun B hB => by cases hB⟩)
  exact H1.add (Asn.rb g' cs' T') (rb_holds h') (fun k hk => by rcases hk with hk | hk; exact hk.elim; exact (show k = g' from hk) ▸ blk_lt h') (fun k hk => hk.elim) (fun k hk => ⟨.inr (.inl trivial), fun B hB hc => by
    rcases List.mem_append.1 hB with hB | hB
    · cases hB
    · rw [List.mem_singleton.1 hB] at hc; exact hc.elim⟩)
end Go.Proofs.YtndicjikjcifaaaDoor

/- The regions of mix.columns and mix.diagonals, by kind. -/
namespace Go.Proofs.YtndicjikjcifaaaDoor
open Go.RowKit Go.Proofs.YtndicjikjcifaaaDoorW.PrintWords Go.Proofs.YtndicjikjcifaaaDoorW.PrintLast
set_option linter.unusedVariables false
set_option linter.unusedSimpArgs false
set_option maxRecDepth 100000
open Bl
theorem k1 (t k : Nat) : (t == t + (k + 1)) = false := beq_false_of_ne (by omega)
theorem k2 (t k : Nat) : (t + (k + 1) == t) = false := beq_false_of_ne (by omega)
theorem hi_of {ops : Array Oper} {l : List (Option Tmp × Op × TypeId × Option (Nat × Bool))} (h : ops.toList.map sk = l) (i : Nat) {x : Option Tmp × Op × TypeId × Option (Nat × Bool)} (hx : l[i]? = some x) : (ops[i]?).map sk = some x := by
  subst h
  simpa using hx
def opsA (t : Nat) (p q c : Nat) : List (Option Tmp × Op × TypeId × Option (Nat × Bool)) := [(some (t + 3), .move (.tmp 0), 158, none), (some (t + 4), .nilCheck (.tmp (t + 3)), 0, none), (some (t + 5), .indexAddr 154 (.tmp (t + 4)) (.const (.int .i64 (p : Int))), 0, none), (some (t + 6), .load 113 (.tmp (t + 5)), 113, none), (some (t + 7), .move (.tmp 0), 158, none), (some (t + 8), .nilCheck (.tmp (t + 7)), 0, none), (some (t + 9), .indexAddr 154 (.tmp (t + 8)) (.const (.int .i64 (q : Int))), 0, none), (some (t + 10), .load 113 (.tmp (t + 9)), 113, none), (some (t + 11), .move (.tmp 1), 158, none), (some (t + 12), .move (.tmp 2), 159, none), (some (t + 13), .nilCheck (.tmp (t + 12)), 0, none), (some (t + 14), .indexAddr 155 (.tmp (t + 13)) (.const (.int .i64 (c : Int))), 0, none), (some (t + 15), .load 3 (.tmp (t + 14)), 3, none), (some (t + 16), .nilCheck (.tmp (t + 11)), 0, none), (some (t + 17), .indexAddr 154 (.tmp (t + 16)) (.tmp (t + 15)), 0, none), (some (t + 18), .load 113 (.tmp (t + 17)), 113, none), (some (t + 19), .binOp .add 113 (.tmp (t + 10)) (.tmp (t + 18)) 113, 113, none), (some (t + 20), .binOp .add 113 (.tmp (t + 6)) (.tmp (t + 19)) 113, 113, none), (some (t + 21), .nilCheck (.tmp (t + 3)), 0, none), (some (t + 22), .indexAddr 154 (.tmp (t + 21)) (.const (.int .i64 (p : Int))), 0, none), (none, .store 113 (.tmp (t + 22)) (.tmp (t + 20)), 0, none)]
def opsB (t : Nat) (p q : Nat) (s : Int) : List (Option Tmp × Op × TypeId × Option (Nat × Bool)) := [(some (t + 3), .move (.tmp 0), 158, none), (some (t + 4), .move (.tmp 0), 158, none), (some (t + 5), .nilCheck (.tmp (t + 4)), 0, none), (some (t + 6), .indexAddr 154 (.tmp (t + 5)) (.const (.int .i64 (p : Int))), 0, none), (some (t + 7), .load 113 (.tmp (t + 6)), 113, none), (some (t + 8), .move (.tmp 0), 158, none), (some (t + 9), .nilCheck (.tmp (t + 8)), 0, none), (some (t + 10), .indexAddr 154 (.tmp (t + 9)) (.const (.int .i64 (q : Int))), 0, none), (some (t + 11), .load 113 (.tmp (t + 10)), 113, none), (some (t + 12), .binOp .xor 113 (.tmp (t + 7)) (.tmp (t + 11)) 113, 113, none), (some (t + 13), .call { callee := .value (.func 139), args := #[.tmp (t + 12), .const (.int .i64 s)], argTypes := #[113, 3] }, 113, none), (some (t + 14), .nilCheck (.tmp (t + 3)), 0, none), (some (t + 15), .indexAddr 154 (.tmp (t + 14)) (.const (.int .i64 (p : Int))), 0, none), (none, .store 113 (.tmp (t + 15)) (.tmp (t + 13)), 0, none)]
def opsC (t : Nat) (p q : Nat) : List (Option Tmp × Op × TypeId × Option (Nat × Bool)) := [(some (t + 3), .move (.tmp 0), 158, none), (some (t + 4), .nilCheck (.tmp (t + 3)), 0, none), (some (t + 5), .indexAddr 154 (.tmp (t + 4)) (.const (.int .i64 (p : Int))), 0, none), (some (t + 6), .load 113 (.tmp (t + 5)), 113, none), (some (t + 7), .move (.tmp 0), 158, none), (some (t + 8), .nilCheck (.tmp (t + 7)), 0, none), (some (t + 9), .indexAddr 154 (.tmp (t + 8)) (.const (.int .i64 (q : Int))), 0, none), (some (t + 10), .load 113 (.tmp (t + 9)), 113, none), (some (t + 11), .binOp .add 113 (.tmp (t + 6)) (.tmp (t + 10)) 113, 113, none), (some (t + 12), .nilCheck (.tmp (t + 3)), 0, none), (some (t + 13), .indexAddr 154 (.tmp (t + 12)) (.const (.int .i64 (p : Int))), 0, none), (none, .store 113 (.tmp (t + 13)) (.tmp (t + 11)), 0, none)]
set_option maxHeartbeats 2000000 in
theorem regA {b : Code} {pt : List Nat} {id : Nat} {Q : Exit → Act → World → Prop} {w W : World} {Sf Rf : Nat → Prop} {a : Act} {g m k : Nat} {V m0 : Words} {r : Nat → Nat} (hr : ∀ i, r i < 16) (t : Nat) (p q c : Nat) (hn : t + 22 < 462) (hp : p < 16) (hq : q < 16) (hc : c < 16)
    (hk : ck (cd b pt) = .region id true) (hops : (rops (cd b pt)).toList.map sk = opsA t p q c) (hs : seqOk (rops (cd b pt)) [0, 1, 3, 7, 0, 16, 48, 112, 0, 0, 512, 1536, 3584, 256, 16128, 32512, 65520, 131071, 1, 524287, 1048575] [20] [(0, 0), (1, 0), (2, 0), (4, 0), (5, 0), (6, 0), (8, 0), (9, 0), (10, 0), (11, 0), (13, 0), (18, 0), (3, 1), (7, 1), (12, 1), (14, 0), (15, 1), (16, 0), (17, 0), (19, 0), (20, 2)] = true) (hQ : ∀ c a d v w, Q (.panic c) (Act.put a d v) w → Q (.panic c) a w)
    (F : Fr 462 [(0, .pointer (some ⟨g, 0, none⟩)), (1, .pointer (some ⟨m, 0, none⟩)), (2, .pointer (some ⟨k, 0, none⟩))] a) (H : St w Sf Rf [Asn.blk g (wsN 16 V) 154, Asn.blk m (wsN 16 m0) 154, Asn.blk k (rs r) 155] W) (h : ∀ a W, Fr 462 [(0, .pointer (some ⟨g, 0, none⟩)), (1, .pointer (some ⟨m, 0, none⟩)), (2, .pointer (some ⟨k, 0, none⟩))] a → St w Sf Rf [Asn.blk g (wsN 16 (upd V p (V p + (V q + m0 (r c))))) 154, Asn.blk m (wsN 16 m0) 154, Asn.blk k (rs r) 155] W → Q .normal a W) : (cd b pt).wp Tryd.prog Q a W := by
  refine c_drawn hk (by kernel_rfl) (Vs [Asn.blk g (wsN 16 V) 154, Asn.blk m (wsN 16 m0) 154, Asn.blk k (rs r) 155]) [0, 1, 3, 7, 0, 16, 48, 112, 0, 0, 512, 1536, 3584, 256, 16128, 32512, 65520, 131071, 1, 524287, 1048575] [20] [(0, 0), (1, 0), (2, 0), (4, 0), (5, 0), (6, 0), (8, 0), (9, 0), (10, 0), (11, 0), (13, 0), (18, 0), (3, 1), (7, 1), (12, 1), (14, 0), (15, 1), (16, 0), (17, 0), (19, 0), (20, 2)] hs hQ (Vs.drew ⟨H.get 0 rfl, H.get 1 rfl, H.get 2 rfl, trivial⟩) ?_
  have H := H.drew
  generalize World.drew W = W at H ⊢
  refine q0 (hi_of hops 0 rfl) F (by omega) (v := .pointer (some ⟨g, 0, none⟩)) (fun W_ => x_move (F.slot (by simp [List.lookup, k1, k2]))) (fun a F => ?_)
  refine q0 (hi_of hops 1 rfl) F (by omega) (v := .pointer (some ⟨g, 0, none⟩)) (fun W_ => x_nil (F.slot (by simp [List.lookup, k1, k2]))) (fun a F => ?_)
  refine q0 (hi_of hops 2 rfl) F (by omega) (v := .pointer (some ⟨g, p, none⟩)) (fun W_ => x_ixc Tryd.underlying154 (Tryd.sizeOf113 W_) (F.slot (by simp [List.lookup, k1, k2])) rfl hp) (fun a F => ?_)
  refine q0 (hi_of hops 4 rfl) F (by omega) (v := .pointer (some ⟨g, 0, none⟩)) (fun W_ => x_move (F.slot (by simp [List.lookup, k1, k2]))) (fun a F => ?_)
  refine q0 (hi_of hops 5 rfl) F (by omega) (v := .pointer (some ⟨g, 0, none⟩)) (fun W_ => x_nil (F.slot (by simp [List.lookup, k1, k2]))) (fun a F => ?_)
  refine q0 (hi_of hops 6 rfl) F (by omega) (v := .pointer (some ⟨g, q, none⟩)) (fun W_ => x_ixc Tryd.underlying154 (Tryd.sizeOf113 W_) (F.slot (by simp [List.lookup, k1, k2])) rfl hq) (fun a F => ?_)
  refine q0 (hi_of hops 8 rfl) F (by omega) (v := .pointer (some ⟨m, 0, none⟩)) (fun W_ => x_move (F.slot (by simp [List.lookup, k1, k2]))) (fun a F => ?_)
  refine q0 (hi_of hops 9 rfl) F (by omega) (v := .pointer (some ⟨k, 0, none⟩)) (fun W_ => x_move (F.slot (by simp [List.lookup, k1, k2]))) (fun a F => ?_)
  refine q0 (hi_of hops 10 rfl) F (by omega) (v := .pointer (some ⟨k, 0, none⟩)) (fun W_ => x_nil (F.slot (by simp [List.lookup, k1, k2]))) (fun a F => ?_)
  refine q0 (hi_of hops 11 rfl) F (by omega) (v := .pointer (some ⟨k, c, none⟩)) (fun W_ => x_ixc Tryd.underlying155 (Tryd.sizeOf3 W_) (F.slot (by simp [List.lookup, k1, k2])) rfl hc) (fun a F => ?_)
  refine q0 (hi_of hops 13 rfl) F (by omega) (v := .pointer (some ⟨m, 0, none⟩)) (fun W_ => x_nil (F.slot (by simp [List.lookup, k1, k2]))) (fun a F => ?_)
  refine q0 (hi_of hops 18 rfl) F (by omega) (v := .pointer (some ⟨g, 0, none⟩)) (fun W_ => x_nil (F.slot (by simp [List.lookup, k1, k2]))) (fun a F => ?_)
  refine q1 (hi_of hops 3 rfl) F (by omega) ⟨H.get 0 rfl, H.get 1 rfl, H.get 2 rfl, trivial⟩ (v := u (V p)) (fun W_ hV => x_load1 (Tryd.isAgg113 W_) (F.slot (by simp [List.lookup, k1, k2])) (bcell hV.1 (ws_at V hp))) (fun a F => ?_)
  refine q1 (hi_of hops 7 rfl) F (by omega) ⟨H.get 0 rfl, H.get 1 rfl, H.get 2 rfl, trivial⟩ (v := u (V q)) (fun W_ hV => x_load1 (Tryd.isAgg113 W_) (F.slot (by simp [List.lookup, k1, k2])) (bcell hV.1 (ws_at V hq))) (fun a F => ?_)
  refine q1 (hi_of hops 12 rfl) F (by omega) ⟨H.get 0 rfl, H.get 1 rfl, H.get 2 rfl, trivial⟩ (v := .int .i64 (r c : Int)) (fun W_ hV => x_load1 (Tryd.isAgg3 W_) (F.slot (by simp [List.lookup, k1, k2])) (bcell hV.2.2.1 (rs_at r hc))) (fun a F => ?_)
  refine q0 (hi_of hops 14 rfl) F (by omega) (v := .pointer (some ⟨m, r c, none⟩)) (fun W_ => (x_indexAr (k := .i64) (i := (r c : Int)) (ad := ⟨m, 0, none⟩) Tryd.underlying154 (Tryd.sizeOf113 W_) (F.slot (by simp [List.lookup, k1, k2])) (F.slot (by simp [List.lookup, k1, k2])) (Int.natCast_nonneg _) (by have := hr c; omega)).trans (by rw [addo]; simp)) (fun a F => ?_)
  refine q1 (hi_of hops 15 rfl) F (by omega) ⟨H.get 0 rfl, H.get 1 rfl, H.get 2 rfl, trivial⟩ (v := u (m0 (r c))) (fun W_ hV => x_load1 (Tryd.isAgg113 W_) (F.slot (by simp [List.lookup, k1, k2])) (bcell hV.2.1 (ws_at m0 (hr c)))) (fun a F => ?_)
  refine q0 (hi_of hops 16 rfl) F (by omega) (v := u (V q + (m0 (r c)))) (fun W_ => x_add32 (F.slot (by simp [List.lookup, k1, k2])) (F.slot (by simp [List.lookup, k1, k2]))) (fun a F => ?_)
  refine q0 (hi_of hops 17 rfl) F (by omega) (v := u (V p + (V q + (m0 (r c))))) (fun W_ => x_add32 (F.slot (by simp [List.lookup, k1, k2])) (F.slot (by simp [List.lookup, k1, k2]))) (fun a F => ?_)
  refine q0 (hi_of hops 19 rfl) F (by omega) (v := .pointer (some ⟨g, p, none⟩)) (fun W_ => x_ixc Tryd.underlying154 (Tryd.sizeOf113 W_) (F.slot (by simp [List.lookup, k1, k2])) rfl hp) (fun a F => ?_)
  refine sq_put (M := [Asn.blk g (wsN 16 (upd V p (V p + (V q + (m0 (r c)))))) 154, Asn.blk m (wsN 16 m0) 154, Asn.blk k (rs r) 155]) (hi_of hops 20 rfl) trivial F (by rw [← ws_upd V hp (V p + (V q + (m0 (r c))))]; exact x_store1 H (k := 0) rfl (Tryd.sizeOf113 W) (F.slot (by simp [List.lookup, k1, k2])) (F.slot (by simp [List.lookup, k1, k2])) rfl rfl (by rw [wsN_len]; exact hp)) ?_
  intro W H
  refine ⟨fun h => absurd (by decide) h, ?_⟩
  unfold wpSeq
  refine h _ _ (F.less _ ?_) H
  exact ⟨(by simp [List.lookup, k1, k2]), (by simp [List.lookup, k1, k2]), (by simp [List.lookup, k1, k2]), trivial⟩
set_option maxHeartbeats 2000000 in
theorem regB {b : Code} {pt : List Nat} {id : Nat} {Q : Exit → Act → World → Prop} {w W : World} {Sf Rf : Nat → Prop} {a : Act} {g m k : Nat} {V m0 : Words} {r : Nat → Nat} (hr : ∀ i, r i < 16) (t : Nat) (p q : Nat) (s : Int) (m1 : Nat) (hn : t + 15 < 462) (hp : p < 16) (hq : q < 16) (hrot : ∀ (x : B32) (w : World), Calls Tryd.prog 139 #[u x, .int .i64 s] w fun e W => e = .returned (u (rotr x m1)) ∧ Below w.heap.size w W)
    (hk : ck (cd b pt) = .region id true) (hops : (rops (cd b pt)).toList.map sk = opsB t p q s) (hs : seqOk (rops (cd b pt)) [0, 0, 2, 6, 14, 0, 32, 96, 224, 510, 1022, 1, 4095, 8191] [13] [(0, 0), (1, 0), (2, 0), (3, 0), (5, 0), (6, 0), (7, 0), (11, 0), (4, 1), (8, 1), (9, 0), (10, 2), (12, 0), (13, 2)] = true) (hQ : ∀ c a d v w, Q (.panic c) (Act.put a d v) w → Q (.panic c) a w)
    (F : Fr 462 [(0, .pointer (some ⟨g, 0, none⟩)), (1, .pointer (some ⟨m, 0, none⟩)), (2, .pointer (some ⟨k, 0, none⟩))] a) (H : St w Sf Rf [Asn.blk g (wsN 16 V) 154, Asn.blk m (wsN 16 m0) 154, Asn.blk k (rs r) 155] W) (h : ∀ a W, Fr 462 [(0, .pointer (some ⟨g, 0, none⟩)), (1, .pointer (some ⟨m, 0, none⟩)), (2, .pointer (some ⟨k, 0, none⟩))] a → St w Sf Rf [Asn.blk g (wsN 16 (upd V p (rotr (V p ^^^ V q) m1))) 154, Asn.blk m (wsN 16 m0) 154, Asn.blk k (rs r) 155] W → Q .normal a W) : (cd b pt).wp Tryd.prog Q a W := by
  refine c_drawn hk (by kernel_rfl) (Vs [Asn.blk g (wsN 16 V) 154, Asn.blk m (wsN 16 m0) 154, Asn.blk k (rs r) 155]) [0, 0, 2, 6, 14, 0, 32, 96, 224, 510, 1022, 1, 4095, 8191] [13] [(0, 0), (1, 0), (2, 0), (3, 0), (5, 0), (6, 0), (7, 0), (11, 0), (4, 1), (8, 1), (9, 0), (10, 2), (12, 0), (13, 2)] hs hQ (Vs.drew ⟨H.get 0 rfl, H.get 1 rfl, H.get 2 rfl, trivial⟩) ?_
  have H := H.drew
  generalize World.drew W = W at H ⊢
  refine q0 (hi_of hops 0 rfl) F (by omega) (v := .pointer (some ⟨g, 0, none⟩)) (fun W_ => x_move (F.slot (by simp [List.lookup, k1, k2]))) (fun a F => ?_)
  refine q0 (hi_of hops 1 rfl) F (by omega) (v := .pointer (some ⟨g, 0, none⟩)) (fun W_ => x_move (F.slot (by simp [List.lookup, k1, k2]))) (fun a F => ?_)
  refine q0 (hi_of hops 2 rfl) F (by omega) (v := .pointer (some ⟨g, 0, none⟩)) (fun W_ => x_nil (F.slot (by simp [List.lookup, k1, k2]))) (fun a F => ?_)
  refine q0 (hi_of hops 3 rfl) F (by omega) (v := .pointer (some ⟨g, p, none⟩)) (fun W_ => x_ixc Tryd.underlying154 (Tryd.sizeOf113 W_) (F.slot (by simp [List.lookup, k1, k2])) rfl hp) (fun a F => ?_)
  refine q0 (hi_of hops 5 rfl) F (by omega) (v := .pointer (some ⟨g, 0, none⟩)) (fun W_ => x_move (F.slot (by simp [List.lookup, k1, k2]))) (fun a F => ?_)
  refine q0 (hi_of hops 6 rfl) F (by omega) (v := .pointer (some ⟨g, 0, none⟩)) (fun W_ => x_nil (F.slot (by simp [List.lookup, k1, k2]))) (fun a F => ?_)
  refine q0 (hi_of hops 7 rfl) F (by omega) (v := .pointer (some ⟨g, q, none⟩)) (fun W_ => x_ixc Tryd.underlying154 (Tryd.sizeOf113 W_) (F.slot (by simp [List.lookup, k1, k2])) rfl hq) (fun a F => ?_)
  refine q0 (hi_of hops 11 rfl) F (by omega) (v := .pointer (some ⟨g, 0, none⟩)) (fun W_ => x_nil (F.slot (by simp [List.lookup, k1, k2]))) (fun a F => ?_)
  refine q1 (hi_of hops 4 rfl) F (by omega) ⟨H.get 0 rfl, H.get 1 rfl, H.get 2 rfl, trivial⟩ (v := u (V p)) (fun W_ hV => x_load1 (Tryd.isAgg113 W_) (F.slot (by simp [List.lookup, k1, k2])) (bcell hV.1 (ws_at V hp))) (fun a F => ?_)
  refine q1 (hi_of hops 8 rfl) F (by omega) ⟨H.get 0 rfl, H.get 1 rfl, H.get 2 rfl, trivial⟩ (v := u (V q)) (fun W_ hV => x_load1 (Tryd.isAgg113 W_) (F.slot (by simp [List.lookup, k1, k2])) (bcell hV.1 (ws_at V hq))) (fun a F => ?_)
  refine q0 (hi_of hops 9 rfl) F (by omega) (v := u (V p ^^^ V q)) (fun W_ => x_xor32 (F.slot (by simp [List.lookup, k1, k2])) (F.slot (by simp [List.lookup, k1, k2]))) (fun a F => ?_)
  refine sqc (hi_of hops 10 rfl) trivial F (by omega) (x_call Tryd.func139 (by kernel_rfl) rfl (args_2 (F.slot (by simp [List.lookup, k1, k2])) rfl)) (hrot (V p ^^^ V q) W) ?_
  rintro e W ⟨rfl, hb⟩
  refine ⟨_, rfl, fun a F => ?_⟩
  have H := H.below hb
  refine ⟨fun _ => ⟨H.get 0 rfl, H.get 1 rfl, H.get 2 rfl, trivial⟩, ?_⟩
  refine q0 (hi_of hops 12 rfl) F (by omega) (v := .pointer (some ⟨g, p, none⟩)) (fun W_ => x_ixc Tryd.underlying154 (Tryd.sizeOf113 W_) (F.slot (by simp [List.lookup, k1, k2])) rfl hp) (fun a F => ?_)
  refine sq_put (M := [Asn.blk g (wsN 16 (upd V p (rotr (V p ^^^ V q) m1))) 154, Asn.blk m (wsN 16 m0) 154, Asn.blk k (rs r) 155]) (hi_of hops 13 rfl) trivial F (by rw [← ws_upd V hp (rotr (V p ^^^ V q) m1)]; exact x_store1 H (k := 0) rfl (Tryd.sizeOf113 W) (F.slot (by simp [List.lookup, k1, k2])) (F.slot (by simp [List.lookup, k1, k2])) rfl rfl (by rw [wsN_len]; exact hp)) ?_
  intro W H
  refine ⟨fun h => absurd (by decide) h, ?_⟩
  unfold wpSeq
  refine h _ _ (F.less _ ?_) H
  exact ⟨(by simp [List.lookup, k1, k2]), (by simp [List.lookup, k1, k2]), (by simp [List.lookup, k1, k2]), trivial⟩
set_option maxHeartbeats 2000000 in
theorem regC {b : Code} {pt : List Nat} {id : Nat} {Q : Exit → Act → World → Prop} {w W : World} {Sf Rf : Nat → Prop} {a : Act} {g m k : Nat} {V m0 : Words} {r : Nat → Nat} (hr : ∀ i, r i < 16) (t : Nat) (p q : Nat) (hn : t + 13 < 462) (hp : p < 16) (hq : q < 16)
    (hk : ck (cd b pt) = .region id true) (hops : (rops (cd b pt)).toList.map sk = opsC t p q) (hs : seqOk (rops (cd b pt)) [0, 1, 3, 7, 0, 16, 48, 112, 255, 1, 1023, 2047] [11] [(0, 0), (1, 0), (2, 0), (4, 0), (5, 0), (6, 0), (9, 0), (3, 1), (7, 1), (8, 0), (10, 0), (11, 2)] = true) (hQ : ∀ c a d v w, Q (.panic c) (Act.put a d v) w → Q (.panic c) a w)
    (F : Fr 462 [(0, .pointer (some ⟨g, 0, none⟩)), (1, .pointer (some ⟨m, 0, none⟩)), (2, .pointer (some ⟨k, 0, none⟩))] a) (H : St w Sf Rf [Asn.blk g (wsN 16 V) 154, Asn.blk m (wsN 16 m0) 154, Asn.blk k (rs r) 155] W) (h : ∀ a W, Fr 462 [(0, .pointer (some ⟨g, 0, none⟩)), (1, .pointer (some ⟨m, 0, none⟩)), (2, .pointer (some ⟨k, 0, none⟩))] a → St w Sf Rf [Asn.blk g (wsN 16 (upd V p (V p + V q))) 154, Asn.blk m (wsN 16 m0) 154, Asn.blk k (rs r) 155] W → Q .normal a W) : (cd b pt).wp Tryd.prog Q a W := by
  refine c_drawn hk (by kernel_rfl) (Vs [Asn.blk g (wsN 16 V) 154, Asn.blk m (wsN 16 m0) 154, Asn.blk k (rs r) 155]) [0, 1, 3, 7, 0, 16, 48, 112, 255, 1, 1023, 2047] [11] [(0, 0), (1, 0), (2, 0), (4, 0), (5, 0), (6, 0), (9, 0), (3, 1), (7, 1), (8, 0), (10, 0), (11, 2)] hs hQ (Vs.drew ⟨H.get 0 rfl, H.get 1 rfl, H.get 2 rfl, trivial⟩) ?_
  have H := H.drew
  generalize World.drew W = W at H ⊢
  refine q0 (hi_of hops 0 rfl) F (by omega) (v := .pointer (some ⟨g, 0, none⟩)) (fun W_ => x_move (F.slot (by simp [List.lookup, k1, k2]))) (fun a F => ?_)
  refine q0 (hi_of hops 1 rfl) F (by omega) (v := .pointer (some ⟨g, 0, none⟩)) (fun W_ => x_nil (F.slot (by simp [List.lookup, k1, k2]))) (fun a F => ?_)
  refine q0 (hi_of hops 2 rfl) F (by omega) (v := .pointer (some ⟨g, p, none⟩)) (fun W_ => x_ixc Tryd.underlying154 (Tryd.sizeOf113 W_) (F.slot (by simp [List.lookup, k1, k2])) rfl hp) (fun a F => ?_)
  refine q0 (hi_of hops 4 rfl) F (by omega) (v := .pointer (some ⟨g, 0, none⟩)) (fun W_ => x_move (F.slot (by simp [List.lookup, k1, k2]))) (fun a F => ?_)
  refine q0 (hi_of hops 5 rfl) F (by omega) (v := .pointer (some ⟨g, 0, none⟩)) (fun W_ => x_nil (F.slot (by simp [List.lookup, k1, k2]))) (fun a F => ?_)
  refine q0 (hi_of hops 6 rfl) F (by omega) (v := .pointer (some ⟨g, q, none⟩)) (fun W_ => x_ixc Tryd.underlying154 (Tryd.sizeOf113 W_) (F.slot (by simp [List.lookup, k1, k2])) rfl hq) (fun a F => ?_)
  refine q0 (hi_of hops 9 rfl) F (by omega) (v := .pointer (some ⟨g, 0, none⟩)) (fun W_ => x_nil (F.slot (by simp [List.lookup, k1, k2]))) (fun a F => ?_)
  refine q1 (hi_of hops 3 rfl) F (by omega) ⟨H.get 0 rfl, H.get 1 rfl, H.get 2 rfl, trivial⟩ (v := u (V p)) (fun W_ hV => x_load1 (Tryd.isAgg113 W_) (F.slot (by simp [List.lookup, k1, k2])) (bcell hV.1 (ws_at V hp))) (fun a F => ?_)
  refine q1 (hi_of hops 7 rfl) F (by omega) ⟨H.get 0 rfl, H.get 1 rfl, H.get 2 rfl, trivial⟩ (v := u (V q)) (fun W_ hV => x_load1 (Tryd.isAgg113 W_) (F.slot (by simp [List.lookup, k1, k2])) (bcell hV.1 (ws_at V hq))) (fun a F => ?_)
  refine q0 (hi_of hops 8 rfl) F (by omega) (v := u (V p + V q)) (fun W_ => x_add32 (F.slot (by simp [List.lookup, k1, k2])) (F.slot (by simp [List.lookup, k1, k2]))) (fun a F => ?_)
  refine q0 (hi_of hops 10 rfl) F (by omega) (v := .pointer (some ⟨g, p, none⟩)) (fun W_ => x_ixc Tryd.underlying154 (Tryd.sizeOf113 W_) (F.slot (by simp [List.lookup, k1, k2])) rfl hp) (fun a F => ?_)
  refine sq_put (M := [Asn.blk g (wsN 16 (upd V p (V p + V q))) 154, Asn.blk m (wsN 16 m0) 154, Asn.blk k (rs r) 155]) (hi_of hops 11 rfl) trivial F (by rw [← ws_upd V hp (V p + V q)]; exact x_store1 H (k := 0) rfl (Tryd.sizeOf113 W) (F.slot (by simp [List.lookup, k1, k2])) (F.slot (by simp [List.lookup, k1, k2])) rfl rfl (by rw [wsN_len]; exact hp)) ?_
  intro W H
  refine ⟨fun h => absurd (by decide) h, ?_⟩
  unfold wpSeq
  refine h _ _ (F.less _ ?_) H
  exact ⟨(by simp [List.lookup, k1, k2]), (by simp [List.lookup, k1, k2]), (by simp [List.lookup, k1, k2]), trivial⟩
end Go.Proofs.YtndicjikjcifaaaDoor

/- mix.columns, mix.diagonals. -/
namespace Go.Proofs.YtndicjikjcifaaaDoor
open Go.RowKit Go.Proofs.YtndicjikjcifaaaDoorW.PrintWords Go.Proofs.YtndicjikjcifaaaDoorW.PrintLast
set_option linter.unusedVariables false
set_option linter.unusedSimpArgs false
set_option maxRecDepth 100000
open Bl
theorem rotl16 (x : B32) (w : World) : Calls Tryd.prog 139 #[u x, .int .i64 (-16)] w fun e W => e = .returned (u (rotr x 16)) ∧ Below w.heap.size w W := by
  refine c_enter2 (args := [u x, .int .i64 (-16)]) (S := (fun _ => False)) (R := (fun _ => True)) (M := []) Tryd.func139 (by kernel_rfl) 17 Tryd.ntmps139 (Nat.le_of_ble_eq_true rfl) (St.first w (fun _ => False) (fun _ => True)) (fun a W F H => ?_)
  have F := F.less [(0, u x), (1, .int .i64 (-16))] (subc rfl (subc rfl sub0))
  refine c_seq (by kernel_rfl) ?_
  refine c_text (id := 0) (by kernel_rfl) [(0, 2)] (by kernel_rfl) ?_
  refine q2 (o_s 4 (.assign (.const (.int .u32 0))) 113 (by kernel_rfl)) F (by decide) (v := .int .u32 0) (x_assign rfl) (fun a F => ?_)
  unfold wpSeq
  have H : St w (fun _ => False) (fun _ => True) [] W := H
  refine t_normal ?_
  refine c_seq (by kernel_rfl) ?_
  refine c_text (id := 1) (by kernel_rfl) [(0, 2), (1, 2), (2, 2), (3, 2)] (by kernel_rfl) ?_
  refine q2 (o_s 6 (.move (.tmp 1)) 3 (by kernel_rfl)) F (by decide) (x_move (F.slot rfl)) (fun a F => ?_)
  refine q2 (o_s 7 (.convert 3 105 (.tmp 6)) 105 (by kernel_rfl)) F (by decide) (v := .int .u64 (IntKind.u64.wrap (-16))) (x_conv Tryd.underlying3 Tryd.underlying105 (F.slot rfl)) (fun a F => ?_)
  have F := F.conv (v' := .int .u64 18446744073709551600) (congrArg (Value.int .u64) (by decide))
  refine q2 (o_s 8 (.binOp .and 105 (.tmp 7) (.const (.int .u64 31)) 105) 105 (by kernel_rfl)) F (by decide) (v := .int .u64 (bits .and .u64 18446744073709551600 31)) (x_int (F.slot rfl) rfl rfl) (fun a F => ?_)
  have F := F.conv (v' := .int .u64 16) (congrArg (Value.int .u64) (by decide))
  refine q2 (o_s 5 (.assign (.tmp 8)) 105 (by kernel_rfl)) F (by decide) (v := .int .u64 16) (x_assign (F.slot rfl)) (fun a F => ?_)
  unfold wpSeq
  refine t_normal ?_
  refine c_seq (by kernel_rfl) ?_
  refine c_text (id := 2) (by kernel_rfl) [(0, 2), (1, 2), (2, 2), (3, 2), (4, 2), (5, 2), (6, 2), (7, 2), (8, 2)] (by kernel_rfl) ?_
  refine q2 (o_s 9 (.move (.tmp 0)) 113 (by kernel_rfl)) F (by decide) (x_move (F.slot rfl)) (fun a F => ?_)
  refine q2 (o_s 10 (.move (.tmp 5)) 105 (by kernel_rfl)) F (by decide) (x_move (F.slot rfl)) (fun a F => ?_)
  refine q2 (o_s 11 (.binOp .shl 113 (.tmp 9) (.tmp 10) 105) 113 (by kernel_rfl)) F (by decide) (v := u (x <<< 16)) (x_shl32 (n := 16) (by decide) (F.slot rfl) (F.slot rfl)) (fun a F => ?_)
  refine q2 (o_s 12 (.move (.tmp 0)) 113 (by kernel_rfl)) F (by decide) (x_move (F.slot rfl)) (fun a F => ?_)
  refine q2 (o_s 13 (.move (.tmp 5)) 105 (by kernel_rfl)) F (by decide) (x_move (F.slot rfl)) (fun a F => ?_)
  refine q2 (o_s 14 (.binOp .sub 105 (.const (.int .u64 32)) (.tmp 13) 105) 105 (by kernel_rfl)) F (by decide) (v := .int .u64 16) (x_int rfl (F.slot rfl) rfl) (fun a F => ?_)
  refine q2 (o_s 15 (.binOp .shr 113 (.tmp 12) (.tmp 14) 105) 113 (by kernel_rfl)) F (by decide) (v := u (x >>> 16)) (x_shr32 (n := 16) (by decide) (F.slot rfl) (F.slot rfl)) (fun a F => ?_)
  refine q2 (o_s 16 (.binOp .or 113 (.tmp 11) (.tmp 15) 113) 113 (by kernel_rfl)) F (by decide) (v := u ((x <<< 16) ||| (x >>> 16))) (x_or32 (F.slot rfl) (F.slot rfl)) (fun a F => ?_)
  refine q2 (o_s 4 (.assign (.tmp 16)) 113 (by kernel_rfl)) F (by decide) (v := u ((x <<< 16) ||| (x >>> 16))) (x_assign (F.slot rfl)) (fun a F => ?_)
  unfold wpSeq
  refine t_normal ?_
  refine c_ret (by kernel_rfl) ?_
  refine p_tmp Tryd.results139 F rfl ?_
  refine ⟨?_, H.ends⟩
  rw [show rotr x 16 = (x <<< 16) ||| (x >>> 16) from by unfold rotr; exact BitVec.or_comm _ _]
theorem rotl12 (x : B32) (w : World) : Calls Tryd.prog 139 #[u x, .int .i64 (-12)] w fun e W => e = .returned (u (rotr x 12)) ∧ Below w.heap.size w W := by
  refine c_enter2 (args := [u x, .int .i64 (-12)]) (S := (fun _ => False)) (R := (fun _ => True)) (M := []) Tryd.func139 (by kernel_rfl) 17 Tryd.ntmps139 (Nat.le_of_ble_eq_true rfl) (St.first w (fun _ => False) (fun _ => True)) (fun a W F H => ?_)
  have F := F.less [(0, u x), (1, .int .i64 (-12))] (subc rfl (subc rfl sub0))
  refine c_seq (by kernel_rfl) ?_
  refine c_text (id := 0) (by kernel_rfl) [(0, 2)] (by kernel_rfl) ?_
  refine q2 (o_s 4 (.assign (.const (.int .u32 0))) 113 (by kernel_rfl)) F (by decide) (v := .int .u32 0) (x_assign rfl) (fun a F => ?_)
  unfold wpSeq
  have H : St w (fun _ => False) (fun _ => True) [] W := H
  refine t_normal ?_
  refine c_seq (by kernel_rfl) ?_
  refine c_text (id := 1) (by kernel_rfl) [(0, 2), (1, 2), (2, 2), (3, 2)] (by kernel_rfl) ?_
  refine q2 (o_s 6 (.move (.tmp 1)) 3 (by kernel_rfl)) F (by decide) (x_move (F.slot rfl)) (fun a F => ?_)
  refine q2 (o_s 7 (.convert 3 105 (.tmp 6)) 105 (by kernel_rfl)) F (by decide) (v := .int .u64 (IntKind.u64.wrap (-12))) (x_conv Tryd.underlying3 Tryd.underlying105 (F.slot rfl)) (fun a F => ?_)
  have F := F.conv (v' := .int .u64 18446744073709551604) (congrArg (Value.int .u64) (by decide))
  refine q2 (o_s 8 (.binOp .and 105 (.tmp 7) (.const (.int .u64 31)) 105) 105 (by kernel_rfl)) F (by decide) (v := .int .u64 (bits .and .u64 18446744073709551604 31)) (x_int (F.slot rfl) rfl rfl) (fun a F => ?_)
  have F := F.conv (v' := .int .u64 20) (congrArg (Value.int .u64) (by decide))
  refine q2 (o_s 5 (.assign (.tmp 8)) 105 (by kernel_rfl)) F (by decide) (v := .int .u64 20) (x_assign (F.slot rfl)) (fun a F => ?_)
  unfold wpSeq
  refine t_normal ?_
  refine c_seq (by kernel_rfl) ?_
  refine c_text (id := 2) (by kernel_rfl) [(0, 2), (1, 2), (2, 2), (3, 2), (4, 2), (5, 2), (6, 2), (7, 2), (8, 2)] (by kernel_rfl) ?_
  refine q2 (o_s 9 (.move (.tmp 0)) 113 (by kernel_rfl)) F (by decide) (x_move (F.slot rfl)) (fun a F => ?_)
  refine q2 (o_s 10 (.move (.tmp 5)) 105 (by kernel_rfl)) F (by decide) (x_move (F.slot rfl)) (fun a F => ?_)
  refine q2 (o_s 11 (.binOp .shl 113 (.tmp 9) (.tmp 10) 105) 113 (by kernel_rfl)) F (by decide) (v := u (x <<< 20)) (x_shl32 (n := 20) (by decide) (F.slot rfl) (F.slot rfl)) (fun a F => ?_)
  refine q2 (o_s 12 (.move (.tmp 0)) 113 (by kernel_rfl)) F (by decide) (x_move (F.slot rfl)) (fun a F => ?_)
  refine q2 (o_s 13 (.move (.tmp 5)) 105 (by kernel_rfl)) F (by decide) (x_move (F.slot rfl)) (fun a F => ?_)
  refine q2 (o_s 14 (.binOp .sub 105 (.const (.int .u64 32)) (.tmp 13) 105) 105 (by kernel_rfl)) F (by decide) (v := .int .u64 12) (x_int rfl (F.slot rfl) rfl) (fun a F => ?_)
  refine q2 (o_s 15 (.binOp .shr 113 (.tmp 12) (.tmp 14) 105) 113 (by kernel_rfl)) F (by decide) (v := u (x >>> 12)) (x_shr32 (n := 12) (by decide) (F.slot rfl) (F.slot rfl)) (fun a F => ?_)
  refine q2 (o_s 16 (.binOp .or 113 (.tmp 11) (.tmp 15) 113) 113 (by kernel_rfl)) F (by decide) (v := u ((x <<< 20) ||| (x >>> 12))) (x_or32 (F.slot rfl) (F.slot rfl)) (fun a F => ?_)
  refine q2 (o_s 4 (.assign (.tmp 16)) 113 (by kernel_rfl)) F (by decide) (v := u ((x <<< 20) ||| (x >>> 12))) (x_assign (F.slot rfl)) (fun a F => ?_)
  unfold wpSeq
  refine t_normal ?_
  refine c_ret (by kernel_rfl) ?_
  refine p_tmp Tryd.results139 F rfl ?_
  refine ⟨?_, H.ends⟩
  rw [show rotr x 12 = (x <<< 20) ||| (x >>> 12) from by unfold rotr; exact BitVec.or_comm _ _]
theorem rotl8 (x : B32) (w : World) : Calls Tryd.prog 139 #[u x, .int .i64 (-8)] w fun e W => e = .returned (u (rotr x 8)) ∧ Below w.heap.size w W := by
  refine c_enter2 (args := [u x, .int .i64 (-8)]) (S := (fun _ => False)) (R := (fun _ => True)) (M := []) Tryd.func139 (by kernel_rfl) 17 Tryd.ntmps139 (Nat.le_of_ble_eq_true rfl) (St.first w (fun _ => False) (fun _ => True)) (fun a W F H => ?_)
  have F := F.less [(0, u x), (1, .int .i64 (-8))] (subc rfl (subc rfl sub0))
  refine c_seq (by kernel_rfl) ?_
  refine c_text (id := 0) (by kernel_rfl) [(0, 2)] (by kernel_rfl) ?_
  refine q2 (o_s 4 (.assign (.const (.int .u32 0))) 113 (by kernel_rfl)) F (by decide) (v := .int .u32 0) (x_assign rfl) (fun a F => ?_)
  unfold wpSeq
  have H : St w (fun _ => False) (fun _ => True) [] W := H
  refine t_normal ?_
  refine c_seq (by kernel_rfl) ?_
  refine c_text (id := 1) (by kernel_rfl) [(0, 2), (1, 2), (2, 2), (3, 2)] (by kernel_rfl) ?_
  refine q2 (o_s 6 (.move (.tmp 1)) 3 (by kernel_rfl)) F (by decide) (x_move (F.slot rfl)) (fun a F => ?_)
  refine q2 (o_s 7 (.convert 3 105 (.tmp 6)) 105 (by kernel_rfl)) F (by decide) (v := .int .u64 (IntKind.u64.wrap (-8))) (x_conv Tryd.underlying3 Tryd.underlying105 (F.slot rfl)) (fun a F => ?_)
  have F := F.conv (v' := .int .u64 18446744073709551608) (congrArg (Value.int .u64) (by decide))
  refine q2 (o_s 8 (.binOp .and 105 (.tmp 7) (.const (.int .u64 31)) 105) 105 (by kernel_rfl)) F (by decide) (v := .int .u64 (bits .and .u64 18446744073709551608 31)) (x_int (F.slot rfl) rfl rfl) (fun a F => ?_)
  have F := F.conv (v' := .int .u64 24) (congrArg (Value.int .u64) (by decide))
  refine q2 (o_s 5 (.assign (.tmp 8)) 105 (by kernel_rfl)) F (by decide) (v := .int .u64 24) (x_assign (F.slot rfl)) (fun a F => ?_)
  unfold wpSeq
  refine t_normal ?_
  refine c_seq (by kernel_rfl) ?_
  refine c_text (id := 2) (by kernel_rfl) [(0, 2), (1, 2), (2, 2), (3, 2), (4, 2), (5, 2), (6, 2), (7, 2), (8, 2)] (by kernel_rfl) ?_
  refine q2 (o_s 9 (.move (.tmp 0)) 113 (by kernel_rfl)) F (by decide) (x_move (F.slot rfl)) (fun a F => ?_)
  refine q2 (o_s 10 (.move (.tmp 5)) 105 (by kernel_rfl)) F (by decide) (x_move (F.slot rfl)) (fun a F => ?_)
  refine q2 (o_s 11 (.binOp .shl 113 (.tmp 9) (.tmp 10) 105) 113 (by kernel_rfl)) F (by decide) (v := u (x <<< 24)) (x_shl32 (n := 24) (by decide) (F.slot rfl) (F.slot rfl)) (fun a F => ?_)
  refine q2 (o_s 12 (.move (.tmp 0)) 113 (by kernel_rfl)) F (by decide) (x_move (F.slot rfl)) (fun a F => ?_)
  refine q2 (o_s 13 (.move (.tmp 5)) 105 (by kernel_rfl)) F (by decide) (x_move (F.slot rfl)) (fun a F => ?_)
  refine q2 (o_s 14 (.binOp .sub 105 (.const (.int .u64 32)) (.tmp 13) 105) 105 (by kernel_rfl)) F (by decide) (v := .int .u64 8) (x_int rfl (F.slot rfl) rfl) (fun a F => ?_)
  refine q2 (o_s 15 (.binOp .shr 113 (.tmp 12) (.tmp 14) 105) 113 (by kernel_rfl)) F (by decide) (v := u (x >>> 8)) (x_shr32 (n := 8) (by decide) (F.slot rfl) (F.slot rfl)) (fun a F => ?_)
  refine q2 (o_s 16 (.binOp .or 113 (.tmp 11) (.tmp 15) 113) 113 (by kernel_rfl)) F (by decide) (v := u ((x <<< 24) ||| (x >>> 8))) (x_or32 (F.slot rfl) (F.slot rfl)) (fun a F => ?_)
  refine q2 (o_s 4 (.assign (.tmp 16)) 113 (by kernel_rfl)) F (by decide) (v := u ((x <<< 24) ||| (x >>> 8))) (x_assign (F.slot rfl)) (fun a F => ?_)
  unfold wpSeq
  refine t_normal ?_
  refine c_ret (by kernel_rfl) ?_
  refine p_tmp Tryd.results139 F rfl ?_
  refine ⟨?_, H.ends⟩
  rw [show rotr x 8 = (x <<< 24) ||| (x >>> 8) from by unfold rotr; exact BitVec.or_comm _ _]
theorem rotl7 (x : B32) (w : World) : Calls Tryd.prog 139 #[u x, .int .i64 (-7)] w fun e W => e = .returned (u (rotr x 7)) ∧ Below w.heap.size w W := by
  refine c_enter2 (args := [u x, .int .i64 (-7)]) (S := (fun _ => False)) (R := (fun _ => True)) (M := []) Tryd.func139 (by kernel_rfl) 17 Tryd.ntmps139 (Nat.le_of_ble_eq_true rfl) (St.first w (fun _ => False) (fun _ => True)) (fun a W F H => ?_)
  have F := F.less [(0, u x), (1, .int .i64 (-7))] (subc rfl (subc rfl sub0))
  refine c_seq (by kernel_rfl) ?_
  refine c_text (id := 0) (by kernel_rfl) [(0, 2)] (by kernel_rfl) ?_
  refine q2 (o_s 4 (.assign (.const (.int .u32 0))) 113 (by kernel_rfl)) F (by decide) (v := .int .u32 0) (x_assign rfl) (fun a F => ?_)
  unfold wpSeq
  have H : St w (fun _ => False) (fun _ => True) [] W := H
  refine t_normal ?_
  refine c_seq (by kernel_rfl) ?_
  refine c_text (id := 1) (by kernel_rfl) [(0, 2), (1, 2), (2, 2), (3, 2)] (by kernel_rfl) ?_
  refine q2 (o_s 6 (.move (.tmp 1)) 3 (by kernel_rfl)) F (by decide) (x_move (F.slot rfl)) (fun a F => ?_)
  refine q2 (o_s 7 (.convert 3 105 (.tmp 6)) 105 (by kernel_rfl)) F (by decide) (v := .int .u64 (IntKind.u64.wrap (-7))) (x_conv Tryd.underlying3 Tryd.underlying105 (F.slot rfl)) (fun a F => ?_)
  have F := F.conv (v' := .int .u64 18446744073709551609) (congrArg (Value.int .u64) (by decide))
  refine q2 (o_s 8 (.binOp .and 105 (.tmp 7) (.const (.int .u64 31)) 105) 105 (by kernel_rfl)) F (by decide) (v := .int .u64 (bits .and .u64 18446744073709551609 31)) (x_int (F.slot rfl) rfl rfl) (fun a F => ?_)
  have F := F.conv (v' := .int .u64 25) (congrArg (Value.int .u64) (by decide))
  refine q2 (o_s 5 (.assign (.tmp 8)) 105 (by kernel_rfl)) F (by decide) (v := .int .u64 25) (x_assign (F.slot rfl)) (fun a F => ?_)
  unfold wpSeq
  refine t_normal ?_
  refine c_seq (by kernel_rfl) ?_
  refine c_text (id := 2) (by kernel_rfl) [(0, 2), (1, 2), (2, 2), (3, 2), (4, 2), (5, 2), (6, 2), (7, 2), (8, 2)] (by kernel_rfl) ?_
  refine q2 (o_s 9 (.move (.tmp 0)) 113 (by kernel_rfl)) F (by decide) (x_move (F.slot rfl)) (fun a F => ?_)
  refine q2 (o_s 10 (.move (.tmp 5)) 105 (by kernel_rfl)) F (by decide) (x_move (F.slot rfl)) (fun a F => ?_)
  refine q2 (o_s 11 (.binOp .shl 113 (.tmp 9) (.tmp 10) 105) 113 (by kernel_rfl)) F (by decide) (v := u (x <<< 25)) (x_shl32 (n := 25) (by decide) (F.slot rfl) (F.slot rfl)) (fun a F => ?_)
  refine q2 (o_s 12 (.move (.tmp 0)) 113 (by kernel_rfl)) F (by decide) (x_move (F.slot rfl)) (fun a F => ?_)
  refine q2 (o_s 13 (.move (.tmp 5)) 105 (by kernel_rfl)) F (by decide) (x_move (F.slot rfl)) (fun a F => ?_)
  refine q2 (o_s 14 (.binOp .sub 105 (.const (.int .u64 32)) (.tmp 13) 105) 105 (by kernel_rfl)) F (by decide) (v := .int .u64 7) (x_int rfl (F.slot rfl) rfl) (fun a F => ?_)
  refine q2 (o_s 15 (.binOp .shr 113 (.tmp 12) (.tmp 14) 105) 113 (by kernel_rfl)) F (by decide) (v := u (x >>> 7)) (x_shr32 (n := 7) (by decide) (F.slot rfl) (F.slot rfl)) (fun a F => ?_)
  refine q2 (o_s 16 (.binOp .or 113 (.tmp 11) (.tmp 15) 113) 113 (by kernel_rfl)) F (by decide) (v := u ((x <<< 25) ||| (x >>> 7))) (x_or32 (F.slot rfl) (F.slot rfl)) (fun a F => ?_)
  refine q2 (o_s 4 (.assign (.tmp 16)) 113 (by kernel_rfl)) F (by decide) (v := u ((x <<< 25) ||| (x >>> 7))) (x_assign (F.slot rfl)) (fun a F => ?_)
  unfold wpSeq
  refine t_normal ?_
  refine c_ret (by kernel_rfl) ?_
  refine p_tmp Tryd.results139 F rfl ?_
  refine ⟨?_, H.ends⟩
  rw [show rotr x 7 = (x <<< 25) ||| (x >>> 7) from by unfold rotr; exact BitVec.or_comm _ _]
set_option maxHeartbeats 2000000 in
theorem cols_calls (g m k : Nat) (V m0 : Words) (r : Nat → Nat) (hr : ∀ i, r i < 16) (w : World) {Sf Rf : Nat → Prop} (H : St w Sf Rf [Asn.blk g (wsN 16 V) 154, Asn.blk m (wsN 16 m0) 154, Asn.blk k (rs r) 155] w) :
    Calls Tryd.prog 123 #[.pointer (some ⟨g, 0, none⟩), .pointer (some ⟨m, 0, none⟩), .pointer (some ⟨k, 0, none⟩)] w fun e W => e = .returned (.tuple #[]) ∧ St w Sf Rf [Asn.blk g (wsN 16 (colsF m0 r V)) 154, Asn.blk m (wsN 16 m0) 154, Asn.blk k (rs r) 155] W := by
  refine c_enter2 (args := [.pointer (some ⟨g, 0, none⟩), .pointer (some ⟨m, 0, none⟩), .pointer (some ⟨k, 0, none⟩)]) (S := Sf) (R := Rf) (M := [Asn.blk g (wsN 16 V) 154, Asn.blk m (wsN 16 m0) 154, Asn.blk k (rs r) 155]) Tryd.func123 (by kernel_rfl) 462 Tryd.ntmps123 (Nat.le_of_ble_eq_true rfl) H (fun a W F H => ?_)
  have F := F.less [(0, .pointer (some ⟨g, 0, none⟩)), (1, .pointer (some ⟨m, 0, none⟩)), (2, .pointer (some ⟨k, 0, none⟩))] (subc rfl (subc rfl (subc rfl sub0)))
  refine c_seq (by kernel_rfl) ?_
  refine regA (id := 0) hr 3 0 4 0 (by decide) (by decide) (by decide) (by decide) (by kernel_rfl) (by kernel_rfl) (by kernel_rfl) (fun _ _ d _ _ h => by cases d <;> exact h) F H (fun a W F H => ?_)
  refine t_normal ?_
  obtain ⟨V1, eV1⟩ : ∃ Z_, Z_ = upd V 0 (V 0 + (V 4 + m0 (r 0))) := ⟨_, rfl⟩
  rw [← eV1] at H
  refine c_seq (by kernel_rfl) ?_
  refine regB (id := 1) hr 23 12 0 (-16) 16 (by decide) (by decide) (by decide) rotl16 (by kernel_rfl) (by kernel_rfl) (by kernel_rfl) (fun _ _ d _ _ h => by cases d <;> exact h) F H (fun a W F H => ?_)
  refine t_normal ?_
  obtain ⟨V2, eV2⟩ : ∃ Z_, Z_ = upd V1 12 (rotr (V1 12 ^^^ V1 0) 16) := ⟨_, rfl⟩
  rw [← eV2] at H
  refine c_seq (by kernel_rfl) ?_
  refine regC (id := 2) hr 36 8 12 (by decide) (by decide) (by decide) (by kernel_rfl) (by kernel_rfl) (by kernel_rfl) (fun _ _ d _ _ h => by cases d <;> exact h) F H (fun a W F H => ?_)
  refine t_normal ?_
  obtain ⟨V3, eV3⟩ : ∃ Z_, Z_ = upd V2 8 (V2 8 + V2 12) := ⟨_, rfl⟩
  rw [← eV3] at H
  refine c_seq (by kernel_rfl) ?_
  refine regB (id := 3) hr 47 4 8 (-12) 12 (by decide) (by decide) (by decide) rotl12 (by kernel_rfl) (by kernel_rfl) (by kernel_rfl) (fun _ _ d _ _ h => by cases d <;> exact h) F H (fun a W F H => ?_)
  refine t_normal ?_
  obtain ⟨V4, eV4⟩ : ∃ Z_, Z_ = upd V3 4 (rotr (V3 4 ^^^ V3 8) 12) := ⟨_, rfl⟩
  rw [← eV4] at H
  refine c_seq (by kernel_rfl) ?_
  refine regA (id := 4) hr 60 0 4 1 (by decide) (by decide) (by decide) (by decide) (by kernel_rfl) (by kernel_rfl) (by kernel_rfl) (fun _ _ d _ _ h => by cases d <;> exact h) F H (fun a W F H => ?_)
  refine t_normal ?_
  obtain ⟨V5, eV5⟩ : ∃ Z_, Z_ = upd V4 0 (V4 0 + (V4 4 + m0 (r 1))) := ⟨_, rfl⟩
  rw [← eV5] at H
  refine c_seq (by kernel_rfl) ?_
  refine regB (id := 5) hr 80 12 0 (-8) 8 (by decide) (by decide) (by decide) rotl8 (by kernel_rfl) (by kernel_rfl) (by kernel_rfl) (fun _ _ d _ _ h => by cases d <;> exact h) F H (fun a W F H => ?_)
  refine t_normal ?_
  obtain ⟨V6, eV6⟩ : ∃ Z_, Z_ = upd V5 12 (rotr (V5 12 ^^^ V5 0) 8) := ⟨_, rfl⟩
  rw [← eV6] at H
  refine c_seq (by kernel_rfl) ?_
  refine regC (id := 6) hr 93 8 12 (by decide) (by decide) (by decide) (by kernel_rfl) (by kernel_rfl) (by kernel_rfl) (fun _ _ d _ _ h => by cases d <;> exact h) F H (fun a W F H => ?_)
  refine t_normal ?_
  obtain ⟨V7, eV7⟩ : ∃ Z_, Z_ = upd V6 8 (V6 8 + V6 12) := ⟨_, rfl⟩
  rw [← eV7] at H
  refine c_seq (by kernel_rfl) ?_
  refine regB (id := 7) hr 104 4 8 (-7) 7 (by decide) (by decide) (by decide) rotl7 (by kernel_rfl) (by kernel_rfl) (by kernel_rfl) (fun _ _ d _ _ h => by cases d <;> exact h) F H (fun a W F H => ?_)
  refine t_normal ?_
  obtain ⟨V8, eV8⟩ : ∃ Z_, Z_ = upd V7 4 (rotr (V7 4 ^^^ V7 8) 7) := ⟨_, rfl⟩
  rw [← eV8] at H
  have e := quad_steps 0 4 8 12 (m0 (r 0)) (m0 (r 1)) V V1 V2 V3 V4 V5 V6 V7 V8 (by decide) (by decide) (by decide) (by decide) (by decide) (by decide) eV1 eV2 eV3 eV4 eV5 eV6 eV7 eV8
  obtain ⟨U0, eU0⟩ : ∃ Z_, Z_ = V8 := ⟨_, rfl⟩
  rw [← eU0] at H
  have e0_ := eU0.trans e
  clear e eU0 eV1 eV2 eV3 eV4 eV5 eV6 eV7 eV8
  refine c_seq (by kernel_rfl) ?_
  refine regA (id := 8) hr 117 1 5 2 (by decide) (by decide) (by decide) (by decide) (by kernel_rfl) (by kernel_rfl) (by kernel_rfl) (fun _ _ d _ _ h => by cases d <;> exact h) F H (fun a W F H => ?_)
  refine t_normal ?_
  obtain ⟨V9, eV9⟩ : ∃ Z_, Z_ = upd U0 1 (U0 1 + (U0 5 + m0 (r 2))) := ⟨_, rfl⟩
  rw [← eV9] at H
  refine c_seq (by kernel_rfl) ?_
  refine regB (id := 9) hr 137 13 1 (-16) 16 (by decide) (by decide) (by decide) rotl16 (by kernel_rfl) (by kernel_rfl) (by kernel_rfl) (fun _ _ d _ _ h => by cases d <;> exact h) F H (fun a W F H => ?_)
  refine t_normal ?_
  obtain ⟨V10, eV10⟩ : ∃ Z_, Z_ = upd V9 13 (rotr (V9 13 ^^^ V9 1) 16) := ⟨_, rfl⟩
  rw [← eV10] at H
  refine c_seq (by kernel_rfl) ?_
  refine regC (id := 10) hr 150 9 13 (by decide) (by decide) (by decide) (by kernel_rfl) (by kernel_rfl) (by kernel_rfl) (fun _ _ d _ _ h => by cases d <;> exact h) F H (fun a W F H => ?_)
  refine t_normal ?_
  obtain ⟨V11, eV11⟩ : ∃ Z_, Z_ = upd V10 9 (V10 9 + V10 13) := ⟨_, rfl⟩
  rw [← eV11] at H
  refine c_seq (by kernel_rfl) ?_
  refine regB (id := 11) hr 161 5 9 (-12) 12 (by decide) (by decide) (by decide) rotl12 (by kernel_rfl) (by kernel_rfl) (by kernel_rfl) (fun _ _ d _ _ h => by cases d <;> exact h) F H (fun a W F H => ?_)
  refine t_normal ?_
  obtain ⟨V12, eV12⟩ : ∃ Z_, Z_ = upd V11 5 (rotr (V11 5 ^^^ V11 9) 12) := ⟨_, rfl⟩
  rw [← eV12] at H
  refine c_seq (by kernel_rfl) ?_
  refine regA (id := 12) hr 174 1 5 3 (by decide) (by decide) (by decide) (by decide) (by kernel_rfl) (by kernel_rfl) (by kernel_rfl) (fun _ _ d _ _ h => by cases d <;> exact h) F H (fun a W F H => ?_)
  refine t_normal ?_
  obtain ⟨V13, eV13⟩ : ∃ Z_, Z_ = upd V12 1 (V12 1 + (V12 5 + m0 (r 3))) := ⟨_, rfl⟩
  rw [← eV13] at H
  refine c_seq (by kernel_rfl) ?_
  refine regB (id := 13) hr 194 13 1 (-8) 8 (by decide) (by decide) (by decide) rotl8 (by kernel_rfl) (by kernel_rfl) (by kernel_rfl) (fun _ _ d _ _ h => by cases d <;> exact h) F H (fun a W F H => ?_)
  refine t_normal ?_
  obtain ⟨V14, eV14⟩ : ∃ Z_, Z_ = upd V13 13 (rotr (V13 13 ^^^ V13 1) 8) := ⟨_, rfl⟩
  rw [← eV14] at H
  refine c_seq (by kernel_rfl) ?_
  refine regC (id := 14) hr 207 9 13 (by decide) (by decide) (by decide) (by kernel_rfl) (by kernel_rfl) (by kernel_rfl) (fun _ _ d _ _ h => by cases d <;> exact h) F H (fun a W F H => ?_)
  refine t_normal ?_
  obtain ⟨V15, eV15⟩ : ∃ Z_, Z_ = upd V14 9 (V14 9 + V14 13) := ⟨_, rfl⟩
  rw [← eV15] at H
  refine c_seq (by kernel_rfl) ?_
  refine regB (id := 15) hr 218 5 9 (-7) 7 (by decide) (by decide) (by decide) rotl7 (by kernel_rfl) (by kernel_rfl) (by kernel_rfl) (fun _ _ d _ _ h => by cases d <;> exact h) F H (fun a W F H => ?_)
  refine t_normal ?_
  obtain ⟨V16, eV16⟩ : ∃ Z_, Z_ = upd V15 5 (rotr (V15 5 ^^^ V15 9) 7) := ⟨_, rfl⟩
  rw [← eV16] at H
  have e := quad_steps 1 5 9 13 (m0 (r 2)) (m0 (r 3)) U0 V9 V10 V11 V12 V13 V14 V15 V16 (by decide) (by decide) (by decide) (by decide) (by decide) (by decide) eV9 eV10 eV11 eV12 eV13 eV14 eV15 eV16
  obtain ⟨U1, eU1⟩ : ∃ Z_, Z_ = V16 := ⟨_, rfl⟩
  rw [← eU1] at H
  have e1_ := eU1.trans e
  clear e eU1 eV9 eV10 eV11 eV12 eV13 eV14 eV15 eV16
  refine c_seq (by kernel_rfl) ?_
  refine regA (id := 16) hr 231 2 6 4 (by decide) (by decide) (by decide) (by decide) (by kernel_rfl) (by kernel_rfl) (by kernel_rfl) (fun _ _ d _ _ h => by cases d <;> exact h) F H (fun a W F H => ?_)
  refine t_normal ?_
  obtain ⟨V17, eV17⟩ : ∃ Z_, Z_ = upd U1 2 (U1 2 + (U1 6 + m0 (r 4))) := ⟨_, rfl⟩
  rw [← eV17] at H
  refine c_seq (by kernel_rfl) ?_
  refine regB (id := 17) hr 251 14 2 (-16) 16 (by decide) (by decide) (by decide) rotl16 (by kernel_rfl) (by kernel_rfl) (by kernel_rfl) (fun _ _ d _ _ h => by cases d <;> exact h) F H (fun a W F H => ?_)
  refine t_normal ?_
  obtain ⟨V18, eV18⟩ : ∃ Z_, Z_ = upd V17 14 (rotr (V17 14 ^^^ V17 2) 16) := ⟨_, rfl⟩
  rw [← eV18] at H
  refine c_seq (by kernel_rfl) ?_
  refine regC (id := 18) hr 264 10 14 (by decide) (by decide) (by decide) (by kernel_rfl) (by kernel_rfl) (by kernel_rfl) (fun _ _ d _ _ h => by cases d <;> exact h) F H (fun a W F H => ?_)
  refine t_normal ?_
  obtain ⟨V19, eV19⟩ : ∃ Z_, Z_ = upd V18 10 (V18 10 + V18 14) := ⟨_, rfl⟩
  rw [← eV19] at H
  refine c_seq (by kernel_rfl) ?_
  refine regB (id := 19) hr 275 6 10 (-12) 12 (by decide) (by decide) (by decide) rotl12 (by kernel_rfl) (by kernel_rfl) (by kernel_rfl) (fun _ _ d _ _ h => by cases d <;> exact h) F H (fun a W F H => ?_)
  refine t_normal ?_
  obtain ⟨V20, eV20⟩ : ∃ Z_, Z_ = upd V19 6 (rotr (V19 6 ^^^ V19 10) 12) := ⟨_, rfl⟩
  rw [← eV20] at H
  refine c_seq (by kernel_rfl) ?_
  refine regA (id := 20) hr 288 2 6 5 (by decide) (by decide) (by decide) (by decide) (by kernel_rfl) (by kernel_rfl) (by kernel_rfl) (fun _ _ d _ _ h => by cases d <;> exact h) F H (fun a W F H => ?_)
  refine t_normal ?_
  obtain ⟨V21, eV21⟩ : ∃ Z_, Z_ = upd V20 2 (V20 2 + (V20 6 + m0 (r 5))) := ⟨_, rfl⟩
  rw [← eV21] at H
  refine c_seq (by kernel_rfl) ?_
  refine regB (id := 21) hr 308 14 2 (-8) 8 (by decide) (by decide) (by decide) rotl8 (by kernel_rfl) (by kernel_rfl) (by kernel_rfl) (fun _ _ d _ _ h => by cases d <;> exact h) F H (fun a W F H => ?_)
  refine t_normal ?_
  obtain ⟨V22, eV22⟩ : ∃ Z_, Z_ = upd V21 14 (rotr (V21 14 ^^^ V21 2) 8) := ⟨_, rfl⟩
  rw [← eV22] at H
  refine c_seq (by kernel_rfl) ?_
  refine regC (id := 22) hr 321 10 14 (by decide) (by decide) (by decide) (by kernel_rfl) (by kernel_rfl) (by kernel_rfl) (fun _ _ d _ _ h => by cases d <;> exact h) F H (fun a W F H => ?_)
  refine t_normal ?_
  obtain ⟨V23, eV23⟩ : ∃ Z_, Z_ = upd V22 10 (V22 10 + V22 14) := ⟨_, rfl⟩
  rw [← eV23] at H
  refine c_seq (by kernel_rfl) ?_
  refine regB (id := 23) hr 332 6 10 (-7) 7 (by decide) (by decide) (by decide) rotl7 (by kernel_rfl) (by kernel_rfl) (by kernel_rfl) (fun _ _ d _ _ h => by cases d <;> exact h) F H (fun a W F H => ?_)
  refine t_normal ?_
  obtain ⟨V24, eV24⟩ : ∃ Z_, Z_ = upd V23 6 (rotr (V23 6 ^^^ V23 10) 7) := ⟨_, rfl⟩
  rw [← eV24] at H
  have e := quad_steps 2 6 10 14 (m0 (r 4)) (m0 (r 5)) U1 V17 V18 V19 V20 V21 V22 V23 V24 (by decide) (by decide) (by decide) (by decide) (by decide) (by decide) eV17 eV18 eV19 eV20 eV21 eV22 eV23 eV24
  obtain ⟨U2, eU2⟩ : ∃ Z_, Z_ = V24 := ⟨_, rfl⟩
  rw [← eU2] at H
  have e2_ := eU2.trans e
  clear e eU2 eV17 eV18 eV19 eV20 eV21 eV22 eV23 eV24
  refine c_seq (by kernel_rfl) ?_
  refine regA (id := 24) hr 345 3 7 6 (by decide) (by decide) (by decide) (by decide) (by kernel_rfl) (by kernel_rfl) (by kernel_rfl) (fun _ _ d _ _ h => by cases d <;> exact h) F H (fun a W F H => ?_)
  refine t_normal ?_
  obtain ⟨V25, eV25⟩ : ∃ Z_, Z_ = upd U2 3 (U2 3 + (U2 7 + m0 (r 6))) := ⟨_, rfl⟩
  rw [← eV25] at H
  refine c_seq (by kernel_rfl) ?_
  refine regB (id := 25) hr 365 15 3 (-16) 16 (by decide) (by decide) (by decide) rotl16 (by kernel_rfl) (by kernel_rfl) (by kernel_rfl) (fun _ _ d _ _ h => by cases d <;> exact h) F H (fun a W F H => ?_)
  refine t_normal ?_
  obtain ⟨V26, eV26⟩ : ∃ Z_, Z_ = upd V25 15 (rotr (V25 15 ^^^ V25 3) 16) := ⟨_, rfl⟩
  rw [← eV26] at H
  refine c_seq (by kernel_rfl) ?_
  refine regC (id := 26) hr 378 11 15 (by decide) (by decide) (by decide) (by kernel_rfl) (by kernel_rfl) (by kernel_rfl) (fun _ _ d _ _ h => by cases d <;> exact h) F H (fun a W F H => ?_)
  refine t_normal ?_
  obtain ⟨V27, eV27⟩ : ∃ Z_, Z_ = upd V26 11 (V26 11 + V26 15) := ⟨_, rfl⟩
  rw [← eV27] at H
  refine c_seq (by kernel_rfl) ?_
  refine regB (id := 27) hr 389 7 11 (-12) 12 (by decide) (by decide) (by decide) rotl12 (by kernel_rfl) (by kernel_rfl) (by kernel_rfl) (fun _ _ d _ _ h => by cases d <;> exact h) F H (fun a W F H => ?_)
  refine t_normal ?_
  obtain ⟨V28, eV28⟩ : ∃ Z_, Z_ = upd V27 7 (rotr (V27 7 ^^^ V27 11) 12) := ⟨_, rfl⟩
  rw [← eV28] at H
  refine c_seq (by kernel_rfl) ?_
  refine regA (id := 28) hr 402 3 7 7 (by decide) (by decide) (by decide) (by decide) (by kernel_rfl) (by kernel_rfl) (by kernel_rfl) (fun _ _ d _ _ h => by cases d <;> exact h) F H (fun a W F H => ?_)
  refine t_normal ?_
  obtain ⟨V29, eV29⟩ : ∃ Z_, Z_ = upd V28 3 (V28 3 + (V28 7 + m0 (r 7))) := ⟨_, rfl⟩
  rw [← eV29] at H
  refine c_seq (by kernel_rfl) ?_
  refine regB (id := 29) hr 422 15 3 (-8) 8 (by decide) (by decide) (by decide) rotl8 (by kernel_rfl) (by kernel_rfl) (by kernel_rfl) (fun _ _ d _ _ h => by cases d <;> exact h) F H (fun a W F H => ?_)
  refine t_normal ?_
  obtain ⟨V30, eV30⟩ : ∃ Z_, Z_ = upd V29 15 (rotr (V29 15 ^^^ V29 3) 8) := ⟨_, rfl⟩
  rw [← eV30] at H
  refine c_seq (by kernel_rfl) ?_
  refine regC (id := 30) hr 435 11 15 (by decide) (by decide) (by decide) (by kernel_rfl) (by kernel_rfl) (by kernel_rfl) (fun _ _ d _ _ h => by cases d <;> exact h) F H (fun a W F H => ?_)
  refine t_normal ?_
  obtain ⟨V31, eV31⟩ : ∃ Z_, Z_ = upd V30 11 (V30 11 + V30 15) := ⟨_, rfl⟩
  rw [← eV31] at H
  refine regB (id := 31) hr 446 7 11 (-7) 7 (by decide) (by decide) (by decide) rotl7 (by kernel_rfl) (by kernel_rfl) (by kernel_rfl) (fun _ _ d _ _ h => by cases d <;> exact h) F H (fun a W F H => ?_)
  obtain ⟨V32, eV32⟩ : ∃ Z_, Z_ = upd V31 7 (rotr (V31 7 ^^^ V31 11) 7) := ⟨_, rfl⟩
  rw [← eV32] at H
  have e := quad_steps 3 7 11 15 (m0 (r 6)) (m0 (r 7)) U2 V25 V26 V27 V28 V29 V30 V31 V32 (by decide) (by decide) (by decide) (by decide) (by decide) (by decide) eV25 eV26 eV27 eV28 eV29 eV30 eV31 eV32
  obtain ⟨U3, eU3⟩ : ∃ Z_, Z_ = V32 := ⟨_, rfl⟩
  rw [← eU3] at H
  have e3_ := eU3.trans e
  clear e eU3 eV25 eV26 eV27 eV28 eV29 eV30 eV31 eV32
  refine p_end Tryd.results123 F ?_
  refine ⟨rfl, ?_⟩
  rw [e3_, e2_, e1_, e0_] at H
  exact H
set_option maxHeartbeats 2000000 in
theorem diags_calls (g m k : Nat) (V m0 : Words) (r : Nat → Nat) (hr : ∀ i, r i < 16) (w : World) {Sf Rf : Nat → Prop} (H : St w Sf Rf [Asn.blk g (wsN 16 V) 154, Asn.blk m (wsN 16 m0) 154, Asn.blk k (rs r) 155] w) :
    Calls Tryd.prog 124 #[.pointer (some ⟨g, 0, none⟩), .pointer (some ⟨m, 0, none⟩), .pointer (some ⟨k, 0, none⟩)] w fun e W => e = .returned (.tuple #[]) ∧ St w Sf Rf [Asn.blk g (wsN 16 (diagsF m0 r V)) 154, Asn.blk m (wsN 16 m0) 154, Asn.blk k (rs r) 155] W := by
  refine c_enter2 (args := [.pointer (some ⟨g, 0, none⟩), .pointer (some ⟨m, 0, none⟩), .pointer (some ⟨k, 0, none⟩)]) (S := Sf) (R := Rf) (M := [Asn.blk g (wsN 16 V) 154, Asn.blk m (wsN 16 m0) 154, Asn.blk k (rs r) 155]) Tryd.func124 (by kernel_rfl) 462 Tryd.ntmps124 (Nat.le_of_ble_eq_true rfl) H (fun a W F H => ?_)
  have F := F.less [(0, .pointer (some ⟨g, 0, none⟩)), (1, .pointer (some ⟨m, 0, none⟩)), (2, .pointer (some ⟨k, 0, none⟩))] (subc rfl (subc rfl (subc rfl sub0)))
  refine c_seq (by kernel_rfl) ?_
  refine regA (id := 0) hr 3 0 5 8 (by decide) (by decide) (by decide) (by decide) (by kernel_rfl) (by kernel_rfl) (by kernel_rfl) (fun _ _ d _ _ h => by cases d <;> exact h) F H (fun a W F H => ?_)
  refine t_normal ?_
  obtain ⟨V1, eV1⟩ : ∃ Z_, Z_ = upd V 0 (V 0 + (V 5 + m0 (r 8))) := ⟨_, rfl⟩
  rw [← eV1] at H
  refine c_seq (by kernel_rfl) ?_
  refine regB (id := 1) hr 23 15 0 (-16) 16 (by decide) (by decide) (by decide) rotl16 (by kernel_rfl) (by kernel_rfl) (by kernel_rfl) (fun _ _ d _ _ h => by cases d <;> exact h) F H (fun a W F H => ?_)
  refine t_normal ?_
  obtain ⟨V2, eV2⟩ : ∃ Z_, Z_ = upd V1 15 (rotr (V1 15 ^^^ V1 0) 16) := ⟨_, rfl⟩
  rw [← eV2] at H
  refine c_seq (by kernel_rfl) ?_
  refine regC (id := 2) hr 36 10 15 (by decide) (by decide) (by decide) (by kernel_rfl) (by kernel_rfl) (by kernel_rfl) (fun _ _ d _ _ h => by cases d <;> exact h) F H (fun a W F H => ?_)
  refine t_normal ?_
  obtain ⟨V3, eV3⟩ : ∃ Z_, Z_ = upd V2 10 (V2 10 + V2 15) := ⟨_, rfl⟩
  rw [← eV3] at H
  refine c_seq (by kernel_rfl) ?_
  refine regB (id := 3) hr 47 5 10 (-12) 12 (by decide) (by decide) (by decide) rotl12 (by kernel_rfl) (by kernel_rfl) (by kernel_rfl) (fun _ _ d _ _ h => by cases d <;> exact h) F H (fun a W F H => ?_)
  refine t_normal ?_
  obtain ⟨V4, eV4⟩ : ∃ Z_, Z_ = upd V3 5 (rotr (V3 5 ^^^ V3 10) 12) := ⟨_, rfl⟩
  rw [← eV4] at H
  refine c_seq (by kernel_rfl) ?_
  refine regA (id := 4) hr 60 0 5 9 (by decide) (by decide) (by decide) (by decide) (by kernel_rfl) (by kernel_rfl) (by kernel_rfl) (fun _ _ d _ _ h => by cases d <;> exact h) F H (fun a W F H => ?_)
  refine t_normal ?_
  obtain ⟨V5, eV5⟩ : ∃ Z_, Z_ = upd V4 0 (V4 0 + (V4 5 + m0 (r 9))) := ⟨_, rfl⟩
  rw [← eV5] at H
  refine c_seq (by kernel_rfl) ?_
  refine regB (id := 5) hr 80 15 0 (-8) 8 (by decide) (by decide) (by decide) rotl8 (by kernel_rfl) (by kernel_rfl) (by kernel_rfl) (fun _ _ d _ _ h => by cases d <;> exact h) F H (fun a W F H => ?_)
  refine t_normal ?_
  obtain ⟨V6, eV6⟩ : ∃ Z_, Z_ = upd V5 15 (rotr (V5 15 ^^^ V5 0) 8) := ⟨_, rfl⟩
  rw [← eV6] at H
  refine c_seq (by kernel_rfl) ?_
  refine regC (id := 6) hr 93 10 15 (by decide) (by decide) (by decide) (by kernel_rfl) (by kernel_rfl) (by kernel_rfl) (fun _ _ d _ _ h => by cases d <;> exact h) F H (fun a W F H => ?_)
  refine t_normal ?_
  obtain ⟨V7, eV7⟩ : ∃ Z_, Z_ = upd V6 10 (V6 10 + V6 15) := ⟨_, rfl⟩
  rw [← eV7] at H
  refine c_seq (by kernel_rfl) ?_
  refine regB (id := 7) hr 104 5 10 (-7) 7 (by decide) (by decide) (by decide) rotl7 (by kernel_rfl) (by kernel_rfl) (by kernel_rfl) (fun _ _ d _ _ h => by cases d <;> exact h) F H (fun a W F H => ?_)
  refine t_normal ?_
  obtain ⟨V8, eV8⟩ : ∃ Z_, Z_ = upd V7 5 (rotr (V7 5 ^^^ V7 10) 7) := ⟨_, rfl⟩
  rw [← eV8] at H
  have e := quad_steps 0 5 10 15 (m0 (r 8)) (m0 (r 9)) V V1 V2 V3 V4 V5 V6 V7 V8 (by decide) (by decide) (by decide) (by decide) (by decide) (by decide) eV1 eV2 eV3 eV4 eV5 eV6 eV7 eV8
  obtain ⟨U0, eU0⟩ : ∃ Z_, Z_ = V8 := ⟨_, rfl⟩
  rw [← eU0] at H
  have e0_ := eU0.trans e
  clear e eU0 eV1 eV2 eV3 eV4 eV5 eV6 eV7 eV8
  refine c_seq (by kernel_rfl) ?_
  refine regA (id := 8) hr 117 1 6 10 (by decide) (by decide) (by decide) (by decide) (by kernel_rfl) (by kernel_rfl) (by kernel_rfl) (fun _ _ d _ _ h => by cases d <;> exact h) F H (fun a W F H => ?_)
  refine t_normal ?_
  obtain ⟨V9, eV9⟩ : ∃ Z_, Z_ = upd U0 1 (U0 1 + (U0 6 + m0 (r 10))) := ⟨_, rfl⟩
  rw [← eV9] at H
  refine c_seq (by kernel_rfl) ?_
  refine regB (id := 9) hr 137 12 1 (-16) 16 (by decide) (by decide) (by decide) rotl16 (by kernel_rfl) (by kernel_rfl) (by kernel_rfl) (fun _ _ d _ _ h => by cases d <;> exact h) F H (fun a W F H => ?_)
  refine t_normal ?_
  obtain ⟨V10, eV10⟩ : ∃ Z_, Z_ = upd V9 12 (rotr (V9 12 ^^^ V9 1) 16) := ⟨_, rfl⟩
  rw [← eV10] at H
  refine c_seq (by kernel_rfl) ?_
  refine regC (id := 10) hr 150 11 12 (by decide) (by decide) (by decide) (by kernel_rfl) (by kernel_rfl) (by kernel_rfl) (fun _ _ d _ _ h => by cases d <;> exact h) F H (fun a W F H => ?_)
  refine t_normal ?_
  obtain ⟨V11, eV11⟩ : ∃ Z_, Z_ = upd V10 11 (V10 11 + V10 12) := ⟨_, rfl⟩
  rw [← eV11] at H
  refine c_seq (by kernel_rfl) ?_
  refine regB (id := 11) hr 161 6 11 (-12) 12 (by decide) (by decide) (by decide) rotl12 (by kernel_rfl) (by kernel_rfl) (by kernel_rfl) (fun _ _ d _ _ h => by cases d <;> exact h) F H (fun a W F H => ?_)
  refine t_normal ?_
  obtain ⟨V12, eV12⟩ : ∃ Z_, Z_ = upd V11 6 (rotr (V11 6 ^^^ V11 11) 12) := ⟨_, rfl⟩
  rw [← eV12] at H
  refine c_seq (by kernel_rfl) ?_
  refine regA (id := 12) hr 174 1 6 11 (by decide) (by decide) (by decide) (by decide) (by kernel_rfl) (by kernel_rfl) (by kernel_rfl) (fun _ _ d _ _ h => by cases d <;> exact h) F H (fun a W F H => ?_)
  refine t_normal ?_
  obtain ⟨V13, eV13⟩ : ∃ Z_, Z_ = upd V12 1 (V12 1 + (V12 6 + m0 (r 11))) := ⟨_, rfl⟩
  rw [← eV13] at H
  refine c_seq (by kernel_rfl) ?_
  refine regB (id := 13) hr 194 12 1 (-8) 8 (by decide) (by decide) (by decide) rotl8 (by kernel_rfl) (by kernel_rfl) (by kernel_rfl) (fun _ _ d _ _ h => by cases d <;> exact h) F H (fun a W F H => ?_)
  refine t_normal ?_
  obtain ⟨V14, eV14⟩ : ∃ Z_, Z_ = upd V13 12 (rotr (V13 12 ^^^ V13 1) 8) := ⟨_, rfl⟩
  rw [← eV14] at H
  refine c_seq (by kernel_rfl) ?_
  refine regC (id := 14) hr 207 11 12 (by decide) (by decide) (by decide) (by kernel_rfl) (by kernel_rfl) (by kernel_rfl) (fun _ _ d _ _ h => by cases d <;> exact h) F H (fun a W F H => ?_)
  refine t_normal ?_
  obtain ⟨V15, eV15⟩ : ∃ Z_, Z_ = upd V14 11 (V14 11 + V14 12) := ⟨_, rfl⟩
  rw [← eV15] at H
  refine c_seq (by kernel_rfl) ?_
  refine regB (id := 15) hr 218 6 11 (-7) 7 (by decide) (by decide) (by decide) rotl7 (by kernel_rfl) (by kernel_rfl) (by kernel_rfl) (fun _ _ d _ _ h => by cases d <;> exact h) F H (fun a W F H => ?_)
  refine t_normal ?_
  obtain ⟨V16, eV16⟩ : ∃ Z_, Z_ = upd V15 6 (rotr (V15 6 ^^^ V15 11) 7) := ⟨_, rfl⟩
  rw [← eV16] at H
  have e := quad_steps 1 6 11 12 (m0 (r 10)) (m0 (r 11)) U0 V9 V10 V11 V12 V13 V14 V15 V16 (by decide) (by decide) (by decide) (by decide) (by decide) (by decide) eV9 eV10 eV11 eV12 eV13 eV14 eV15 eV16
  obtain ⟨U1, eU1⟩ : ∃ Z_, Z_ = V16 := ⟨_, rfl⟩
  rw [← eU1] at H
  have e1_ := eU1.trans e
  clear e eU1 eV9 eV10 eV11 eV12 eV13 eV14 eV15 eV16
  refine c_seq (by kernel_rfl) ?_
  refine regA (id := 16) hr 231 2 7 12 (by decide) (by decide) (by decide) (by decide) (by kernel_rfl) (by kernel_rfl) (by kernel_rfl) (fun _ _ d _ _ h => by cases d <;> exact h) F H (fun a W F H => ?_)
  refine t_normal ?_
  obtain ⟨V17, eV17⟩ : ∃ Z_, Z_ = upd U1 2 (U1 2 + (U1 7 + m0 (r 12))) := ⟨_, rfl⟩
  rw [← eV17] at H
  refine c_seq (by kernel_rfl) ?_
  refine regB (id := 17) hr 251 13 2 (-16) 16 (by decide) (by decide) (by decide) rotl16 (by kernel_rfl) (by kernel_rfl) (by kernel_rfl) (fun _ _ d _ _ h => by cases d <;> exact h) F H (fun a W F H => ?_)
  refine t_normal ?_
  obtain ⟨V18, eV18⟩ : ∃ Z_, Z_ = upd V17 13 (rotr (V17 13 ^^^ V17 2) 16) := ⟨_, rfl⟩
  rw [← eV18] at H
  refine c_seq (by kernel_rfl) ?_
  refine regC (id := 18) hr 264 8 13 (by decide) (by decide) (by decide) (by kernel_rfl) (by kernel_rfl) (by kernel_rfl) (fun _ _ d _ _ h => by cases d <;> exact h) F H (fun a W F H => ?_)
  refine t_normal ?_
  obtain ⟨V19, eV19⟩ : ∃ Z_, Z_ = upd V18 8 (V18 8 + V18 13) := ⟨_, rfl⟩
  rw [← eV19] at H
  refine c_seq (by kernel_rfl) ?_
  refine regB (id := 19) hr 275 7 8 (-12) 12 (by decide) (by decide) (by decide) rotl12 (by kernel_rfl) (by kernel_rfl) (by kernel_rfl) (fun _ _ d _ _ h => by cases d <;> exact h) F H (fun a W F H => ?_)
  refine t_normal ?_
  obtain ⟨V20, eV20⟩ : ∃ Z_, Z_ = upd V19 7 (rotr (V19 7 ^^^ V19 8) 12) := ⟨_, rfl⟩
  rw [← eV20] at H
  refine c_seq (by kernel_rfl) ?_
  refine regA (id := 20) hr 288 2 7 13 (by decide) (by decide) (by decide) (by decide) (by kernel_rfl) (by kernel_rfl) (by kernel_rfl) (fun _ _ d _ _ h => by cases d <;> exact h) F H (fun a W F H => ?_)
  refine t_normal ?_
  obtain ⟨V21, eV21⟩ : ∃ Z_, Z_ = upd V20 2 (V20 2 + (V20 7 + m0 (r 13))) := ⟨_, rfl⟩
  rw [← eV21] at H
  refine c_seq (by kernel_rfl) ?_
  refine regB (id := 21) hr 308 13 2 (-8) 8 (by decide) (by decide) (by decide) rotl8 (by kernel_rfl) (by kernel_rfl) (by kernel_rfl) (fun _ _ d _ _ h => by cases d <;> exact h) F H (fun a W F H => ?_)
  refine t_normal ?_
  obtain ⟨V22, eV22⟩ : ∃ Z_, Z_ = upd V21 13 (rotr (V21 13 ^^^ V21 2) 8) := ⟨_, rfl⟩
  rw [← eV22] at H
  refine c_seq (by kernel_rfl) ?_
  refine regC (id := 22) hr 321 8 13 (by decide) (by decide) (by decide) (by kernel_rfl) (by kernel_rfl) (by kernel_rfl) (fun _ _ d _ _ h => by cases d <;> exact h) F H (fun a W F H => ?_)
  refine t_normal ?_
  obtain ⟨V23, eV23⟩ : ∃ Z_, Z_ = upd V22 8 (V22 8 + V22 13) := ⟨_, rfl⟩
  rw [← eV23] at H
  refine c_seq (by kernel_rfl) ?_
  refine regB (id := 23) hr 332 7 8 (-7) 7 (by decide) (by decide) (by decide) rotl7 (by kernel_rfl) (by kernel_rfl) (by kernel_rfl) (fun _ _ d _ _ h => by cases d <;> exact h) F H (fun a W F H => ?_)
  refine t_normal ?_
  obtain ⟨V24, eV24⟩ : ∃ Z_, Z_ = upd V23 7 (rotr (V23 7 ^^^ V23 8) 7) := ⟨_, rfl⟩
  rw [← eV24] at H
  have e := quad_steps 2 7 8 13 (m0 (r 12)) (m0 (r 13)) U1 V17 V18 V19 V20 V21 V22 V23 V24 (by decide) (by decide) (by decide) (by decide) (by decide) (by decide) eV17 eV18 eV19 eV20 eV21 eV22 eV23 eV24
  obtain ⟨U2, eU2⟩ : ∃ Z_, Z_ = V24 := ⟨_, rfl⟩
  rw [← eU2] at H
  have e2_ := eU2.trans e
  clear e eU2 eV17 eV18 eV19 eV20 eV21 eV22 eV23 eV24
  refine c_seq (by kernel_rfl) ?_
  refine regA (id := 24) hr 345 3 4 14 (by decide) (by decide) (by decide) (by decide) (by kernel_rfl) (by kernel_rfl) (by kernel_rfl) (fun _ _ d _ _ h => by cases d <;> exact h) F H (fun a W F H => ?_)
  refine t_normal ?_
  obtain ⟨V25, eV25⟩ : ∃ Z_, Z_ = upd U2 3 (U2 3 + (U2 4 + m0 (r 14))) := ⟨_, rfl⟩
  rw [← eV25] at H
  refine c_seq (by kernel_rfl) ?_
  refine regB (id := 25) hr 365 14 3 (-16) 16 (by decide) (by decide) (by decide) rotl16 (by kernel_rfl) (by kernel_rfl) (by kernel_rfl) (fun _ _ d _ _ h => by cases d <;> exact h) F H (fun a W F H => ?_)
  refine t_normal ?_
  obtain ⟨V26, eV26⟩ : ∃ Z_, Z_ = upd V25 14 (rotr (V25 14 ^^^ V25 3) 16) := ⟨_, rfl⟩
  rw [← eV26] at H
  refine c_seq (by kernel_rfl) ?_
  refine regC (id := 26) hr 378 9 14 (by decide) (by decide) (by decide) (by kernel_rfl) (by kernel_rfl) (by kernel_rfl) (fun _ _ d _ _ h => by cases d <;> exact h) F H (fun a W F H => ?_)
  refine t_normal ?_
  obtain ⟨V27, eV27⟩ : ∃ Z_, Z_ = upd V26 9 (V26 9 + V26 14) := ⟨_, rfl⟩
  rw [← eV27] at H
  refine c_seq (by kernel_rfl) ?_
  refine regB (id := 27) hr 389 4 9 (-12) 12 (by decide) (by decide) (by decide) rotl12 (by kernel_rfl) (by kernel_rfl) (by kernel_rfl) (fun _ _ d _ _ h => by cases d <;> exact h) F H (fun a W F H => ?_)
  refine t_normal ?_
  obtain ⟨V28, eV28⟩ : ∃ Z_, Z_ = upd V27 4 (rotr (V27 4 ^^^ V27 9) 12) := ⟨_, rfl⟩
  rw [← eV28] at H
  refine c_seq (by kernel_rfl) ?_
  refine regA (id := 28) hr 402 3 4 15 (by decide) (by decide) (by decide) (by decide) (by kernel_rfl) (by kernel_rfl) (by kernel_rfl) (fun _ _ d _ _ h => by cases d <;> exact h) F H (fun a W F H => ?_)
  refine t_normal ?_
  obtain ⟨V29, eV29⟩ : ∃ Z_, Z_ = upd V28 3 (V28 3 + (V28 4 + m0 (r 15))) := ⟨_, rfl⟩
  rw [← eV29] at H
  refine c_seq (by kernel_rfl) ?_
  refine regB (id := 29) hr 422 14 3 (-8) 8 (by decide) (by decide) (by decide) rotl8 (by kernel_rfl) (by kernel_rfl) (by kernel_rfl) (fun _ _ d _ _ h => by cases d <;> exact h) F H (fun a W F H => ?_)
  refine t_normal ?_
  obtain ⟨V30, eV30⟩ : ∃ Z_, Z_ = upd V29 14 (rotr (V29 14 ^^^ V29 3) 8) := ⟨_, rfl⟩
  rw [← eV30] at H
  refine c_seq (by kernel_rfl) ?_
  refine regC (id := 30) hr 435 9 14 (by decide) (by decide) (by decide) (by kernel_rfl) (by kernel_rfl) (by kernel_rfl) (fun _ _ d _ _ h => by cases d <;> exact h) F H (fun a W F H => ?_)
  refine t_normal ?_
  obtain ⟨V31, eV31⟩ : ∃ Z_, Z_ = upd V30 9 (V30 9 + V30 14) := ⟨_, rfl⟩
  rw [← eV31] at H
  refine regB (id := 31) hr 446 4 9 (-7) 7 (by decide) (by decide) (by decide) rotl7 (by kernel_rfl) (by kernel_rfl) (by kernel_rfl) (fun _ _ d _ _ h => by cases d <;> exact h) F H (fun a W F H => ?_)
  obtain ⟨V32, eV32⟩ : ∃ Z_, Z_ = upd V31 4 (rotr (V31 4 ^^^ V31 9) 7) := ⟨_, rfl⟩
  rw [← eV32] at H
  have e := quad_steps 3 4 9 14 (m0 (r 14)) (m0 (r 15)) U2 V25 V26 V27 V28 V29 V30 V31 V32 (by decide) (by decide) (by decide) (by decide) (by decide) (by decide) eV25 eV26 eV27 eV28 eV29 eV30 eV31 eV32
  obtain ⟨U3, eU3⟩ : ∃ Z_, Z_ = V32 := ⟨_, rfl⟩
  rw [← eU3] at H
  have e3_ := eU3.trans e
  clear e eU3 eV25 eV26 eV27 eV28 eV29 eV30 eV31 eV32
  refine p_end Tryd.results124 F ?_
  refine ⟨rfl, ?_⟩
  rw [e3_, e2_, e1_, e0_] at H
  exact H
end Go.Proofs.YtndicjikjcifaaaDoor

/- mix.block. -/
namespace Go.Proofs.YtndicjikjcifaaaDoor
open Go.RowKit Go.Proofs.YtndicjikjcifaaaDoorW.PrintWords Go.Proofs.YtndicjikjcifaaaDoorW.PrintLast
set_option linter.unusedVariables false
set_option linter.unusedSimpArgs false
set_option maxRecDepth 100000
open Bl
set_option maxHeartbeats 2000000 in
theorem block_calls {Ta Tb : TypeId} (p : Nat) (h : Words) (s : ByteArray) (hs : s.toList.length ≤ 64) (t : Int) (last : Bool) (w : World) {Sf Rf : Nat → Prop} (H : St w Sf Rf [Asn.blk p (wsN 8 h) 115, Asn.rb 0 (wsN 8 firstsF) Ta, Asn.rb 1 rowsV Tb] w) :
    Calls Tryd.prog 97 #[.pointer (some ⟨p, 0, none⟩), .string s, .int .i64 t, .bool last] w fun e W => e = .returned (.tuple #[]) ∧ St w Sf Rf [Asn.blk p (wsN 8 (blockF h s.toList t last)) 115, Asn.rb 0 (wsN 8 firstsF) Ta, Asn.rb 1 rowsV Tb] W := by
  have hsz := toList_size s
  refine c_enter2 (args := [.pointer (some ⟨p, 0, none⟩), .string s, .int .i64 t, .bool last]) (S := Sf) (R := Rf) (M := [Asn.blk p (wsN 8 h) 115, Asn.rb 0 (wsN 8 firstsF) Ta, Asn.rb 1 rowsV Tb]) Tryd.func97 (by kernel_rfl) 80 Tryd.ntmps97 (Nat.le_of_ble_eq_true rfl) (H) (fun a W F H => ?_)
  have F := F.less [(0, .pointer (some ⟨p, 0, none⟩)), (1, .string s), (2, .int .i64 t), (3, .bool last)] (subc rfl (subc rfl (subc rfl (subc rfl sub0))))
  refine c_seq (by kernel_rfl) ?_
  refine c_text (id := 0) (by kernel_rfl) [(0, 2)] (by kernel_rfl) ?_
  refine sq_new (o_s 8 (.alloc 154) 0 (by kernel_rfl)) trivial F (by decide) H [.int .u32 0, .int .u32 0, .int .u32 0, .int .u32 0, .int .u32 0, .int .u32 0, .int .u32 0, .int .u32 0, .int .u32 0, .int .u32 0, .int .u32 0, .int .u32 0, .int .u32 0, .int .u32 0, .int .u32 0, .int .u32 0] 154 (x_alloc Tryd.zeroValue154 rfl) ?_
  intro g1 W a hg1 H F
  refine ⟨(fun _ => trivial), ?_⟩
  unfold wpSeq
  have H : St w Sf Rf [Asn.blk p (wsN 8 h) 115, Asn.rb 0 (wsN 8 firstsF) Ta, Asn.rb 1 rowsV Tb, Asn.blk g1 [.int .u32 0, .int .u32 0, .int .u32 0, .int .u32 0, .int .u32 0, .int .u32 0, .int .u32 0, .int .u32 0, .int .u32 0, .int .u32 0, .int .u32 0, .int .u32 0, .int .u32 0, .int .u32 0, .int .u32 0, .int .u32 0] 154] W := H
  refine t_normal ?_
  refine c_seq (by kernel_rfl) ?_
  refine c_seq (by kernel_rfl) ?_
  have H : St w Sf Rf [Asn.blk p (wsN 8 h) 115, Asn.rb 0 (wsN 8 firstsF) Ta, Asn.rb 1 rowsV Tb, Asn.blk g1 (wsN 16 (loadP s.toList 0)) 154] W := H
  refine c_text (id := 1) (by kernel_rfl) [(0, 2), (1, 2), (2, 2)] (by kernel_rfl) ?_
  refine q2 (o_s 14 (.move (.tmp 1)) 9 (by kernel_rfl)) F (by decide) (x_move (F.slot rfl)) (fun a F => ?_)
  refine q2 (o_s 15 (.call { callee := (.builtin .len), args := #[(.tmp 14)], argTypes := #[9] }) 3 (by kernel_rfl)) F (by decide) (v := .int .i64 (s.size : Int)) (x_lenS Tryd.underlying9 (F.slot rfl)) (fun a F => ?_)
  refine q2 (o_s 16 (.move (.const (.int .i64 0))) 3 (by kernel_rfl)) F (by decide) (v := .int .i64 0) (x_move rfl) (fun a F => ?_)
  unfold wpSeq
  refine t_normal ?_
  refine c_block (id := 0) (by kernel_rfl) ?_
  refine c_loop (by kernel_rfl) (fun k a W => ∃ (j : Nat), Fr 80 [(0, .pointer (some ⟨p, 0, none⟩)), (1, .string s), (2, .int .i64 t), (3, .bool last), (8, .pointer (some ⟨g1, 0, none⟩)), (14, .string s), (15, .int .i64 (s.size : Int)), (16, .int .i64 (j : Int))] a ∧ St w Sf Rf [Asn.blk p (wsN 8 h) 115, Asn.rb 0 (wsN 8 firstsF) Ta, Asn.rb 1 rowsV Tb, Asn.blk g1 (wsN 16 (loadP s.toList j)) 154] W ∧ (j ≤ s.toList.length) ∧ (k + j = s.toList.length)) s.toList.length ⟨0, F.less _ (subc rfl (subc rfl (subc rfl (subc rfl (subc rfl (subc rfl (subc rfl (subc rfl sub0)))))))), H, (Nat.zero_le _), rfl⟩ ?_
  rintro k a W ⟨j, F, H, hj, hkj⟩
  refine c_seq (by kernel_rfl) ?_
  refine c_text (id := 2) (by kernel_rfl) [(0, 2)] (by kernel_rfl) ?_
  refine q2 (o_s 17 (.binOp .lss 3 (.tmp 16) (.tmp 15) 3) 4 (by kernel_rfl)) F (by decide) (v := .bool (decide ((j : Int) < (s.size : Int)))) (x_int (F.slot rfl) (F.slot rfl) rfl) (fun a F => ?_)
  unfold wpSeq
  have H : St w Sf Rf [Asn.blk p (wsN 8 h) 115, Asn.rb 0 (wsN 8 firstsF) Ta, Asn.rb 1 rowsV Tb, Asn.blk g1 (wsN 16 (loadP s.toList j)) 154] W := H
  refine t_normal ?_
  refine c_seq (by kernel_rfl) ?_
  rcases bool_or (decide ((j : Int) < (s.size : Int))) with hb2 | hb2
  · have hb2d := of_decide_eq_true hb2
    have F := F.at 17 rfl (v' := .bool true) (congrArg Value.bool hb2)
    refine c_yes (c := .tmp 17) (by kernel_rfl) (F.slot rfl) ?_
    refine c_skip (by kernel_rfl) ?_
    refine t_normal ?_
    refine c_seq (by kernel_rfl) ?_
    refine c_block (id := 1) (by kernel_rfl) ?_
    refine c_seq (by kernel_rfl) ?_
    refine c_text (id := 3) (by kernel_rfl) [(0, 2), (1, 2)] (by kernel_rfl) ?_
    refine q2 (o_s 18 (.move (.tmp 16)) 3 (by kernel_rfl)) F (by decide) (x_move (F.slot rfl)) (fun a F => ?_)
    refine q2 (o_s 9 (.assign (.tmp 18)) 3 (by kernel_rfl)) F (by decide) (v := .int .i64 (j : Int)) (x_assign (F.slot rfl)) (fun a F => ?_)
    unfold wpSeq
    refine t_normal ?_
    refine c_drawn (id := 4) (by kernel_rfl) (by kernel_rfl) (Vs [Asn.blk g1 (wsN 16 (loadP s.toList j)) 154]) [0, 1, 3, 7, 0, 0, 48, 112, 0, 256, 768, 2032, 4095, 8191, 16383] [14] [(0, 0), (1, 0), (2, 0), (4, 0), (5, 0), (6, 0), (7, 0), (8, 0), (9, 0), (10, 0), (11, 0), (3, 1), (12, 0), (13, 0), (14, 2)] (by kernel_rfl) (fun _ _ d _ _ h => by cases d <;> exact h) (Vs.drew ⟨H.get 3 rfl, trivial⟩) ?_
    have H := H.drew
    generalize World.drew W = W at H ⊢
    refine q0 (o_s 19 (.move (.tmp 9)) 3 (by kernel_rfl)) F (by decide) (fun W_ => x_move (F.slot rfl)) (fun a F => ?_)
    refine q0 (o_s 20 (.binOp .quo 3 (.tmp 19) (.const (.int .i64 4)) 3) 3 (by kernel_rfl)) F (by decide) (v := .int .i64 (IntKind.i64.wrap (Int.tdiv (j : Int) 4))) (fun W_ => x_int (F.slot rfl) rfl rfl) (fun a F => ?_)
    have F := F.conv (v' := .int .i64 ((j / 4 : Nat) : Int)) (congrArg (Value.int .i64) (tdiv4 j (by omega)))
    refine q0 (o_s 21 (.indexAddr 154 (.tmp 8) (.tmp 20)) 0 (by kernel_rfl)) F (by decide) (v := .pointer (some ⟨g1, (j / 4), none⟩)) (fun W_ => (x_indexAr Tryd.underlying154 (Tryd.sizeOf113 W_) (F.slot rfl) (F.slot rfl) (Int.natCast_nonneg _) (by have := (show j / 4 < 16 by omega); omega)).trans (by rw [addo]; simp)) (fun a F => ?_)
    refine q0 (o_s 23 (.move (.tmp 1)) 9 (by kernel_rfl)) F (by decide) (fun W_ => x_move (F.slot rfl)) (fun a F => ?_)
    refine q0 (o_s 24 (.move (.tmp 9)) 3 (by kernel_rfl)) F (by decide) (fun W_ => x_move (F.slot rfl)) (fun a F => ?_)
    have hc : s[(j : Int).toNat]? = some (s.toList.getD j 0) := by
      rw [Int.toNat_natCast]; exact str_at s j (by omega)
    refine q0 (o_s 25 (.index 9 (.tmp 23) (.tmp 24)) 5 (by kernel_rfl)) F (by decide) (v := .int .u8 ((s.toList.getD j 0).toNat : Int)) (fun W_ => x_indexStr Tryd.underlying9 (F.slot rfl) (F.slot rfl) (Int.natCast_nonneg _) hc) (fun a F => ?_)
    refine q0 (o_s 26 (.convert 5 113 (.tmp 25)) 113 (by kernel_rfl)) F (by decide) (v := u (by8 s.toList j)) (fun W_ => x_byte32 Tryd.underlying5 Tryd.underlying113 (F.slot rfl)) (fun a F => ?_)
    refine q0 (o_s 27 (.move (.tmp 9)) 3 (by kernel_rfl)) F (by decide) (fun W_ => x_move (F.slot rfl)) (fun a F => ?_)
    refine q0 (o_s 28 (.binOp .rem 3 (.tmp 27) (.const (.int .i64 4)) 3) 3 (by kernel_rfl)) F (by decide) (v := .int .i64 (Int.tmod (j : Int) 4)) (fun W_ => x_int (F.slot rfl) rfl rfl) (fun a F => ?_)
    refine q0 (o_s 29 (.binOp .mul 3 (.const (.int .i64 8)) (.tmp 28) 3) 3 (by kernel_rfl)) F (by decide) (v := .int .i64 (IntKind.i64.wrap (8 * (Int.tmod (j : Int) 4)))) (fun W_ => x_int rfl (F.slot rfl) rfl) (fun a F => ?_)
    have F := F.conv (v' := .int .i64 ((8 * (j % 4) : Nat) : Int)) (congrArg (Value.int .i64) (mul8 j (by omega)))
    refine q0 (o_s 30 (.binOp .shl 113 (.tmp 26) (.tmp 29) 3) 113 (by kernel_rfl)) F (by decide) (v := u ((by8 s.toList j) <<< (8 * (j % 4)))) (fun W_ => x_shl32 (n := (8 * (j % 4))) (by omega) (F.slot rfl) (F.slot rfl)) (fun a F => ?_)
    refine q1 (o_s 22 (.load 113 (.tmp 21)) 113 (by kernel_rfl)) F (by decide) (⟨H.get 3 rfl, trivial⟩) (v := u ((loadP s.toList j) (j / 4))) (fun W_ hV => x_load1 (Tryd.isAgg113 W_) (F.slot rfl) (bcell hV.1 (ws_at (loadP s.toList j) (by have := (show j / 4 < 16 by omega); omega)))) (fun a F => ?_)
    refine q0 (o_s 31 (.binOp .or 113 (.tmp 22) (.tmp 30) 113) 113 (by kernel_rfl)) F (by decide) (v := u (((loadP s.toList j) (j / 4)) ||| ((by8 s.toList j) <<< (8 * (j % 4))))) (fun W_ => x_or32 (F.slot rfl) (F.slot rfl)) (fun a F => ?_)
    refine q0 (o_s 32 (.indexAddr 154 (.tmp 8) (.tmp 20)) 0 (by kernel_rfl)) F (by decide) (v := .pointer (some ⟨g1, (j / 4), none⟩)) (fun W_ => (x_indexAr Tryd.underlying154 (Tryd.sizeOf113 W_) (F.slot rfl) (F.slot rfl) (Int.natCast_nonneg _) (by have := (show j / 4 < 16 by omega); omega)).trans (by rw [addo]; simp)) (fun a F => ?_)
    obtain ⟨w_4, ew_4⟩ : ∃ Z_, Z_ = upd (loadP s.toList j) (j / 4) (((loadP s.toList j) (j / 4)) ||| ((by8 s.toList j) <<< (8 * (j % 4)))) := ⟨_, rfl⟩
    refine sq_put (M := [Asn.blk p (wsN 8 h) 115, Asn.rb 0 (wsN 8 firstsF) Ta, Asn.rb 1 rowsV Tb, Asn.blk g1 (wsN 16 w_4) 154]) (o_n (.store 113 (.tmp 32) (.tmp 31)) 0 (by kernel_rfl)) trivial F (by rw [ew_4, ← ws_upd (loadP s.toList j) (by have := (show j / 4 < 16 by omega); omega) (((loadP s.toList j) (j / 4)) ||| ((by8 s.toList j) <<< (8 * (j % 4))))]; exact x_store1 H (k := 3) rfl (Tryd.sizeOf113 W) (F.slot rfl) (F.slot rfl) rfl rfl (by rw [wsN_len]; exact (by have := (show j / 4 < 16 by omega); omega))) ?_
    intro W H
    refine ⟨(fun h => absurd (by decide) h), ?_⟩
    unfold wpSeq
    refine b_normal ?_
    refine t_normal ?_
    refine c_text (id := 5) (by kernel_rfl) [(0, 2), (1, 2)] (by kernel_rfl) ?_
    refine q2 (o_s 33 (.binOp .add 3 (.tmp 16) (.const (.int .i64 1)) 3) 3 (by kernel_rfl)) F (by decide) (v := .int .i64 (IntKind.i64.wrap ((j : Int) + 1))) (x_int (F.slot rfl) rfl rfl) (fun a F => ?_)
    refine q2 (o_s 16 (.move (.tmp 33)) 3 (by kernel_rfl)) F (by decide) (x_move (F.slot rfl)) (fun a F => ?_)
    unfold wpSeq
    refine t_normal ?_
    have F_ := F
    rw [show w_4 = loadP s.toList (j + 1) from ew_4] at H
    have F := F.at 16 rfl (v' := .int .i64 ((j + 1 : Nat) : Int)) (congrArg (Value.int .i64) ((wrap_i64 _ (by omega) (by omega)).trans (by omega)))
    exact ⟨k - 1, by omega, j + 1, F.less _ (subc rfl (subc rfl (subc rfl (subc rfl (subc rfl (subc rfl (subc rfl (subc rfl sub0)))))))), H, (by omega), (by omega)⟩
  · have hb2d := of_decide_eq_false hb2
    have F := F.at 17 rfl (v' := .bool false) (congrArg Value.bool hb2)
    refine c_no (c := .tmp 17) (by kernel_rfl) (F.slot rfl) ?_
    refine c_exit (id := 0) (by kernel_rfl) ?_
    refine t_exit ?_
    refine t_exit ?_
    refine b_here ?_
    refine t_normal ?_
    refine c_seq (by kernel_rfl) ?_
    obtain rfl : j = s.toList.length := by omega
    rw [loadP_all] at H
    obtain ⟨m0, hm0⟩ : ∃ Z_, Z_ = loadF s.toList := ⟨_, rfl⟩
    rw [← hm0] at H
    have H : St w Sf Rf [Asn.blk p (wsN 8 h) 115, Asn.rb 0 (wsN 8 firstsF) Ta, Asn.rb 1 rowsV Tb, Asn.blk g1 (wsN 16 m0) 154] W := H
    refine c_text (id := 6) (by kernel_rfl) [(0, 2)] (by kernel_rfl) ?_
    refine sq_new (o_s 10 (.alloc 154) 0 (by kernel_rfl)) trivial F (by decide) H [.int .u32 0, .int .u32 0, .int .u32 0, .int .u32 0, .int .u32 0, .int .u32 0, .int .u32 0, .int .u32 0, .int .u32 0, .int .u32 0, .int .u32 0, .int .u32 0, .int .u32 0, .int .u32 0, .int .u32 0, .int .u32 0] 154 (x_alloc Tryd.zeroValue154 rfl) ?_
    intro g5 W a hg5 H F
    refine ⟨(fun _ => trivial), ?_⟩
    unfold wpSeq
    have H : St w Sf Rf [Asn.blk p (wsN 8 h) 115, Asn.rb 0 (wsN 8 firstsF) Ta, Asn.rb 1 rowsV Tb, Asn.blk g1 (wsN 16 m0) 154, Asn.blk g5 [.int .u32 0, .int .u32 0, .int .u32 0, .int .u32 0, .int .u32 0, .int .u32 0, .int .u32 0, .int .u32 0, .int .u32 0, .int .u32 0, .int .u32 0, .int .u32 0, .int .u32 0, .int .u32 0, .int .u32 0, .int .u32 0] 154] W := H
    refine t_normal ?_
    refine c_seq (by kernel_rfl) ?_
    have H : St w Sf Rf [Asn.blk p (wsN 8 h) 115, Asn.rb 0 (wsN 8 firstsF) Ta, Asn.rb 1 rowsV Tb, Asn.blk g1 (wsN 16 m0) 154, Asn.blk g5 (wsN 16 (fun _ => 0)) 154] W := H
    refine c_drawn (id := 7) (by kernel_rfl) (by kernel_rfl) (Vs []) [0, 0, 2, 6, 15] [4] [(0, 0), (1, 0), (2, 0), (3, 0), (4, 2)] (by kernel_rfl) (fun _ _ d _ _ h => by cases d <;> exact h) (trivial) ?_
    have H := H.drew
    generalize World.drew W = W at H ⊢
    refine q0 (o_s 34 (.slice 154 (.tmp 10) none none none) 126 (by kernel_rfl)) F (by decide) (v := .slice (some ⟨g5, 0, none⟩) 16 16) (fun W_ => x_sliceAr Tryd.underlying154 (Tryd.sizeOf113 W_) (F.slot rfl) (by decide)) (fun a F => ?_)
    refine q0 (o_s 35 (.move (.tmp 0)) 153 (by kernel_rfl)) F (by decide) (fun W_ => x_move (F.slot rfl)) (fun a F => ?_)
    refine q0 (o_s 36 (.nilCheck (.tmp 35)) 153 (by kernel_rfl)) F (by decide) (v := .pointer (some ⟨p, 0, none⟩)) (fun W_ => x_nil (F.slot rfl)) (fun a F => ?_)
    refine q0 (o_s 37 (.slice 115 (.tmp 36) none none none) 126 (by kernel_rfl)) F (by decide) (v := .slice (some ⟨p, 0, none⟩) 8 8) (fun W_ => x_sliceAr Tryd.underlying115 (Tryd.sizeOf113 W_) (F.slot rfl) (by decide)) (fun a F => ?_)
    obtain ⟨W1, hr1, H1⟩ := x_copy (P := Tryd.prog) (a := a) (ty := 3) (T := 154) (ad := ⟨p, 0, none⟩) (off := 0) (dn := 16) (dc := 16) (sn := 8) (sc := 8) (src := wsN 8 h) (d := (.tmp 34)) (s := (.tmp 37)) H (k := 4) rfl (dT := 126) (sT := 126) (F.slot rfl) (F.slot rfl) Tryd.underlying126 (Tryd.sizeOf113 W) rfl ((fun j v hj => by rw [addo]; exact (blk_cell (H.blk 0 rfl) _).trans (by simpa using hj))) (by rw [wsN_len, wsN_len]; decide) (ws_one _)
    rw [ws_over (m := 16) (n := 8) (o := 0) (fun _ => 0) h (by decide)] at H1
    refine sq2 (W' := W1) (o_s 38 (.call { callee := (.builtin .copy), args := #[(.tmp 34), (.tmp 37)], argTypes := #[126, 126] }) 3 (by kernel_rfl)) trivial F (by decide) (v := goInt (Nat.min 8 16)) hr1 (fun h => absurd (by decide) h) (fun a F => ?_)
    have H := H1
    clear H1 hr1
    generalize W1 = W at H ⊢
    have H : St w Sf Rf [Asn.blk p (wsN 8 h) 115, Asn.rb 0 (wsN 8 firstsF) Ta, Asn.rb 1 rowsV Tb, Asn.blk g1 (wsN 16 m0) 154, Asn.blk g5 (wsN 16 (over 0 8 (fun _ => 0) h)) 154] W := H
    unfold wpSeq
    refine t_normal ?_
    refine c_seq (by kernel_rfl) ?_
    refine c_drawn (id := 8) (by kernel_rfl) (by kernel_rfl) (Vs []) [0, 0, 3] [2] [(0, 0), (1, 0), (2, 2)] (by kernel_rfl) (fun _ _ d _ _ h => by cases d <;> exact h) (trivial) ?_
    have H := H.drew
    generalize World.drew W = W at H ⊢
    refine q0 (o_s 39 (.slice 154 (.tmp 10) (some (.const (.int .i64 8))) none none) 126 (by kernel_rfl)) F (by decide) (v := .slice (some ⟨g5, 8, none⟩) 8 8) (fun W_ => (x_sliceArLo (i := 8) Tryd.underlying154 (Tryd.sizeOf113 W_) (F.slot rfl) rfl (by decide)).trans (by rw [addo])) (fun a F => ?_)
    refine q0 (o_s 40 (.slice 115 (.global 0) none none none) 126 (by kernel_rfl)) F (by decide) (v := .slice (some ⟨0, 0, none⟩) 8 8) (fun W_ => x_sliceAr Tryd.underlying115 (Tryd.sizeOf113 W_) rfl (by decide)) (fun a F => ?_)
    obtain ⟨W1, hr1, H1⟩ := x_copy (P := Tryd.prog) (a := a) (ty := 3) (T := 154) (ad := ⟨0, 0, none⟩) (off := 8) (dn := 8) (dc := 8) (sn := 8) (sc := 8) (src := wsN 8 firstsF) (d := (.tmp 39)) (s := (.tmp 40)) H (k := 4) rfl (dT := 126) (sT := 126) (F.slot rfl) (F.slot rfl) Tryd.underlying126 (Tryd.sizeOf113 W) rfl ((fun j v hj => by rw [addo]; exact (blk_cell (H.rd 1 rfl) _).trans (by simpa using hj))) (by rw [wsN_len, wsN_len]; decide) (ws_one _)
    rw [ws_over (m := 16) (n := 8) (o := 8) (over 0 8 (fun _ => 0) h) firstsF (by decide)] at H1
    refine sq2 (W' := W1) (o_s 41 (.call { callee := (.builtin .copy), args := #[(.tmp 39), (.tmp 40)], argTypes := #[126, 126] }) 3 (by kernel_rfl)) trivial F (by decide) (v := goInt (Nat.min 8 8)) hr1 (fun h => absurd (by decide) h) (fun a F => ?_)
    have H := H1
    clear H1 hr1
    generalize W1 = W at H ⊢
    have H : St w Sf Rf [Asn.blk p (wsN 8 h) 115, Asn.rb 0 (wsN 8 firstsF) Ta, Asn.rb 1 rowsV Tb, Asn.blk g1 (wsN 16 m0) 154, Asn.blk g5 (wsN 16 (over 8 8 (over 0 8 (fun _ => 0) h) firstsF)) 154] W := H
    unfold wpSeq
    refine t_normal ?_
    refine c_seq (by kernel_rfl) ?_
    refine c_text (id := 9) (by kernel_rfl) [(0, 2), (1, 2), (2, 2), (3, 2), (4, 2), (5, 2), (6, 2)] (by kernel_rfl) ?_
    refine q2 (o_s 42 (.indexAddr 154 (.tmp 10) (.const (.int .i64 12))) 0 (by kernel_rfl)) F (by decide) (v := .pointer (some ⟨g5, 12, none⟩)) (x_ixc Tryd.underlying154 (Tryd.sizeOf113 W) (F.slot rfl) rfl (by decide)) (fun a F => ?_)
    refine q2 (o_s 43 (.load 113 (.tmp 42)) 113 (by kernel_rfl)) F (by decide) (v := u ((over 8 8 (over 0 8 (fun _ => 0) h) firstsF) 12)) (x_load1 (Tryd.isAgg113 W) (F.slot rfl) (H.cell 4 rfl (ws_at (over 8 8 (over 0 8 (fun _ => 0) h) firstsF) (by decide)))) (fun a F => ?_)
    refine q2 (o_s 44 (.move (.tmp 2)) 3 (by kernel_rfl)) F (by decide) (x_move (F.slot rfl)) (fun a F => ?_)
    refine q2 (o_s 45 (.convert 3 113 (.tmp 44)) 113 (by kernel_rfl)) F (by decide) (v := u (BitVec.ofInt 32 t)) (x_toU32 Tryd.underlying3 Tryd.underlying113 (F.slot rfl)) (fun a F => ?_)
    refine q2 (o_s 46 (.binOp .xor 113 (.tmp 43) (.tmp 45) 113) 113 (by kernel_rfl)) F (by decide) (v := u (((over 8 8 (over 0 8 (fun _ => 0) h) firstsF) 12) ^^^ (BitVec.ofInt 32 t))) (x_xor32 (F.slot rfl) (F.slot rfl)) (fun a F => ?_)
    refine q2 (o_s 47 (.indexAddr 154 (.tmp 10) (.const (.int .i64 12))) 0 (by kernel_rfl)) F (by decide) (v := .pointer (some ⟨g5, 12, none⟩)) (x_ixc Tryd.underlying154 (Tryd.sizeOf113 W) (F.slot rfl) rfl (by decide)) (fun a F => ?_)
    obtain ⟨w_8, ew_8⟩ : ∃ Z_, Z_ = upd (over 8 8 (over 0 8 (fun _ => 0) h) firstsF) 12 (((over 8 8 (over 0 8 (fun _ => 0) h) firstsF) 12) ^^^ (BitVec.ofInt 32 t)) := ⟨_, rfl⟩
    refine sq_put (M := [Asn.blk p (wsN 8 h) 115, Asn.rb 0 (wsN 8 firstsF) Ta, Asn.rb 1 rowsV Tb, Asn.blk g1 (wsN 16 m0) 154, Asn.blk g5 (wsN 16 w_8) 154]) (o_n (.store 113 (.tmp 47) (.tmp 46)) 0 (by kernel_rfl)) trivial F (by rw [ew_8, ← ws_upd (over 8 8 (over 0 8 (fun _ => 0) h) firstsF) (by decide) (((over 8 8 (over 0 8 (fun _ => 0) h) firstsF) 12) ^^^ (BitVec.ofInt 32 t))]; exact x_store1 H (k := 4) rfl (Tryd.sizeOf113 W) (F.slot rfl) (F.slot rfl) rfl rfl (by rw [wsN_len]; exact (by decide))) ?_
    intro W H
    refine ⟨(fun _ => trivial), ?_⟩
    unfold wpSeq
    refine t_normal ?_
    refine c_seq (by kernel_rfl) ?_
    refine c_seq (by kernel_rfl) ?_
    refine c_text (id := 10) (by kernel_rfl) [(0, 2)] (by kernel_rfl) ?_
    refine q2 (o_s 48 (.move (.tmp 3)) 4 (by kernel_rfl)) F (by decide) (x_move (F.slot rfl)) (fun a F => ?_)
    unfold wpSeq
    refine t_normal ?_
    rcases bool_or last with hb9 | hb9
    · have F := F.at 48 rfl (v' := .bool true) (congrArg Value.bool hb9)
      refine c_yes (c := .tmp 48) (by kernel_rfl) (F.slot rfl) ?_
      refine c_text (id := 11) (by kernel_rfl) [(0, 2), (1, 2), (2, 2), (3, 2), (4, 2)] (by kernel_rfl) ?_
      refine q2 (o_s 49 (.indexAddr 154 (.tmp 10) (.const (.int .i64 14))) 0 (by kernel_rfl)) F (by decide) (v := .pointer (some ⟨g5, 14, none⟩)) (x_ixc Tryd.underlying154 (Tryd.sizeOf113 W) (F.slot rfl) rfl (by decide)) (fun a F => ?_)
      refine q2 (o_s 50 (.load 113 (.tmp 49)) 113 (by kernel_rfl)) F (by decide) (v := u (w_8 14)) (x_load1 (Tryd.isAgg113 W) (F.slot rfl) (H.cell 4 rfl (ws_at w_8 (by decide)))) (fun a F => ?_)
      refine q2 (o_s 51 (.unOp .xor 113 (.tmp 50)) 113 (by kernel_rfl)) F (by decide) (v := u (~~~(w_8 14))) (x_not32 (F.slot rfl)) (fun a F => ?_)
      refine q2 (o_s 52 (.indexAddr 154 (.tmp 10) (.const (.int .i64 14))) 0 (by kernel_rfl)) F (by decide) (v := .pointer (some ⟨g5, 14, none⟩)) (x_ixc Tryd.underlying154 (Tryd.sizeOf113 W) (F.slot rfl) rfl (by decide)) (fun a F => ?_)
      obtain ⟨w_10, ew_10⟩ : ∃ Z_, Z_ = upd w_8 14 (~~~(w_8 14)) := ⟨_, rfl⟩
      refine sq_put (M := [Asn.blk p (wsN 8 h) 115, Asn.rb 0 (wsN 8 firstsF) Ta, Asn.rb 1 rowsV Tb, Asn.blk g1 (wsN 16 m0) 154, Asn.blk g5 (wsN 16 w_10) 154]) (o_n (.store 113 (.tmp 52) (.tmp 51)) 0 (by kernel_rfl)) trivial F (by rw [ew_10, ← ws_upd w_8 (by decide) (~~~(w_8 14))]; exact x_store1 H (k := 4) rfl (Tryd.sizeOf113 W) (F.slot rfl) (F.slot rfl) rfl rfl (by rw [wsN_len]; exact (by decide))) ?_
      intro W H
      refine ⟨(fun _ => trivial), ?_⟩
      unfold wpSeq
      refine t_normal ?_
      refine c_seq (by kernel_rfl) ?_
      refine c_seq (by kernel_rfl) ?_
      have hS : wsN 16 w_10 = wsN 16 (startF h (BitVec.ofInt 32 t) last) := wsN_congr (fun j hj => by have := start_eq h (BitVec.ofInt 32 t) last j hj; rw [hb9, if_pos rfl, ← ew_8, ← ew_10] at this; rw [hb9]; exact this)
      obtain ⟨S0, hS0⟩ : ∃ Z_, Z_ = startF h (BitVec.ofInt 32 t) last := ⟨_, rfl⟩
      rw [hS, ← hS0] at H
      have H : St w Sf Rf [Asn.blk p (wsN 8 h) 115, Asn.rb 0 (wsN 8 firstsF) Ta, Asn.rb 1 rowsV Tb, Asn.blk g1 (wsN 16 m0) 154, Asn.blk g5 (wsN 16 (rounds m0 0 S0)) 154] W := H
      refine c_text (id := 12) (by kernel_rfl) [(0, 2), (1, 2)] (by kernel_rfl) ?_
      have hT : W.heap[1]? = some (.cells rowsV.toArray Tb (0, 0)) := H.rd 2 rfl
      refine q2 (o_s 53 (.load 156 (.global 1)) 156 (by kernel_rfl)) F (by decide) (v := .agg rowsV.toArray) (x_loadB (Tryd.isAgg156 W) rowsV (by rw [rowsV_len]; exact Tryd.sizeOf156 W) rfl hT) (fun a F => ?_)
      refine q2 (o_s 54 (.move (.const (.int .i64 0))) 3 (by kernel_rfl)) F (by decide) (v := .int .i64 0) (x_move rfl) (fun a F => ?_)
      unfold wpSeq
      refine t_normal ?_
      refine c_block (id := 2) (by kernel_rfl) ?_
      refine c_loop (by kernel_rfl) (fun k a W => ∃ (n : Nat), Fr 80 [(0, .pointer (some ⟨p, 0, none⟩)), (1, .string s), (2, .int .i64 t), (3, .bool last), (8, .pointer (some ⟨g1, 0, none⟩)), (14, .string s), (15, .int .i64 (s.size : Int)), (16, .int .i64 (s.toList.length : Int)), (17, .bool false), (10, .pointer (some ⟨g5, 0, none⟩)), (34, .slice (some ⟨g5, 0, none⟩) 16 16), (35, .pointer (some ⟨p, 0, none⟩)), (36, .pointer (some ⟨p, 0, none⟩)), (37, .slice (some ⟨p, 0, none⟩) 8 8), (39, .slice (some ⟨g5, 8, none⟩) 8 8), (40, .slice (some ⟨0, 0, none⟩) 8 8), (42, .pointer (some ⟨g5, 12, none⟩)), (43, u ((over 8 8 (over 0 8 (fun _ => 0) h) firstsF) 12)), (44, .int .i64 t), (45, u (BitVec.ofInt 32 t)), (46, u (((over 8 8 (over 0 8 (fun _ => 0) h) firstsF) 12) ^^^ (BitVec.ofInt 32 t))), (47, .pointer (some ⟨g5, 12, none⟩)), (48, .bool true), (49, .pointer (some ⟨g5, 14, none⟩)), (50, u (w_8 14)), (51, u (~~~(w_8 14))), (52, .pointer (some ⟨g5, 14, none⟩)), (53, .agg rowsV.toArray), (54, .int .i64 (n : Int))] a ∧ St w Sf Rf [Asn.blk p (wsN 8 h) 115, Asn.rb 0 (wsN 8 firstsF) Ta, Asn.rb 1 rowsV Tb, Asn.blk g1 (wsN 16 m0) 154, Asn.blk g5 (wsN 16 (rounds m0 n S0)) 154] W ∧ (n ≤ 10) ∧ (k + n = 10)) 10 ⟨0, F.less _ (subc rfl (subc rfl (subc rfl (subc rfl (subc rfl (subc rfl (subc rfl (subc rfl (subc rfl (subc rfl (subc rfl (subc rfl (subc rfl (subc rfl (subc rfl (subc rfl (subc rfl (subc rfl (subc rfl (subc rfl (subc rfl (subc rfl (subc rfl (subc rfl (subc rfl (subc rfl (subc rfl (subc rfl (subc rfl sub0))))))))))))))))))))))))))))), H, (by decide), rfl⟩ ?_
      rintro k a W ⟨n, F, H, hn, hkn⟩
      refine c_seq (by kernel_rfl) ?_
      refine c_text (id := 13) (by kernel_rfl) [(0, 2)] (by kernel_rfl) ?_
      refine q2 (o_s 55 (.binOp .lss 3 (.tmp 54) (.const (.int .i64 10)) 3) 0 (by kernel_rfl)) F (by decide) (v := .bool (decide ((n : Int) < (10 : Int)))) (x_int (F.slot rfl) rfl rfl) (fun a F => ?_)
      unfold wpSeq
      have H : St w Sf Rf [Asn.blk p (wsN 8 h) 115, Asn.rb 0 (wsN 8 firstsF) Ta, Asn.rb 1 rowsV Tb, Asn.blk g1 (wsN 16 m0) 154, Asn.blk g5 (wsN 16 (rounds m0 n S0)) 154] W := H
      refine t_normal ?_
      refine c_seq (by kernel_rfl) ?_
      rcases bool_or (decide ((n : Int) < (10 : Int))) with hb11 | hb11
      · have hb11d := of_decide_eq_true hb11
        have F := F.at 55 rfl (v' := .bool true) (congrArg Value.bool hb11)
        refine c_yes (c := .tmp 55) (by kernel_rfl) (F.slot rfl) ?_
        refine c_skip (by kernel_rfl) ?_
        refine t_normal ?_
        refine c_seq (by kernel_rfl) ?_
        refine c_block (id := 3) (by kernel_rfl) ?_
        refine c_seq (by kernel_rfl) ?_
        refine c_text (id := 14) (by kernel_rfl) [(0, 2), (1, 2), (2, 2)] (by kernel_rfl) ?_
        refine q2 (o_s 56 (.index 156 (.tmp 53) (.tmp 54)) 155 (by kernel_rfl)) F (by decide) (v := .agg (rs (rowF n)).toArray) (x_row Tryd.underlying156 (Tryd.sizeOf155 W) (Tryd.isAgg155 W) (F.slot rfl) (F.slot rfl) (by omega) (rowsV_at n (by omega)) (by rw [rowsV_len]; omega)) (fun a F => ?_)
        refine sq_new (o_s 12 (.alloc 155) 0 (by kernel_rfl)) trivial F (by decide) H [.int .i64 0, .int .i64 0, .int .i64 0, .int .i64 0, .int .i64 0, .int .i64 0, .int .i64 0, .int .i64 0, .int .i64 0, .int .i64 0, .int .i64 0, .int .i64 0, .int .i64 0, .int .i64 0, .int .i64 0, .int .i64 0] 155 (x_alloc Tryd.zeroValue155 rfl) ?_
        intro g12 W a hg12 H F
        refine ⟨(fun _ => trivial), ?_⟩
        refine sq_put (M := [Asn.blk p (wsN 8 h) 115, Asn.rb 0 (wsN 8 firstsF) Ta, Asn.rb 1 rowsV Tb, Asn.blk g1 (wsN 16 m0) 154, Asn.blk g5 (wsN 16 (rounds m0 n S0)) 154, Asn.blk g12 (rs (rowF n)) 155]) (o_n (.store 155 (.tmp 12) (.tmp 56)) 0 (by kernel_rfl)) trivial F (x_storeAll H (k := 5) rfl (Tryd.sizeOf155 W) (F.slot rfl) (F.slot rfl) (rs_len _) rfl (rs_one _)) ?_
        intro W H
        refine ⟨(fun _ => trivial), ?_⟩
        unfold wpSeq
        refine t_normal ?_
        refine c_seq (by kernel_rfl) ?_
        obtain ⟨V1, hV1⟩ : ∃ Z_, Z_ = rounds m0 n S0 := ⟨_, rfl⟩
        rw [← hV1] at H
        have H : St w Sf Rf [Asn.blk p (wsN 8 h) 115, Asn.rb 0 (wsN 8 firstsF) Ta, Asn.rb 1 rowsV Tb, Asn.blk g1 (wsN 16 m0) 154, Asn.blk g5 (wsN 16 V1) 154, Asn.blk g12 (rs (rowF n)) 155] W := H
        refine c_text (id := 15) (by kernel_rfl) [(0, 2)] (by kernel_rfl) ?_
        have HS := H.select [4, 3, 5] [Asn.blk g5 (wsN 16 V1) 154, Asn.blk g1 (wsN 16 m0) 154, Asn.blk g12 (rs (rowF n)) 155] rfl (by decide)
        refine sqc (o_s 57 (.call { callee := (.value (.func 123)), args := #[(.tmp 10), (.tmp 8), (.tmp 12)], argTypes := #[158, 158, 159] }) 0 (by kernel_rfl)) trivial F (by decide) (x_call Tryd.func123 (by kernel_rfl) rfl (args_3 (F.slot rfl) (F.slot rfl) (F.slot rfl))) (cols_calls g5 g1 g12 V1 m0 (rowF n) (rowF_lt n) W HS) ?_
        rintro e W ⟨rfl, H1⟩
        refine ⟨_, rfl, fun a F => ?_⟩
        have H := H.back [4, 3, 5] [Asn.blk g5 (wsN 16 V1) 154, Asn.blk g1 (wsN 16 m0) 154, Asn.blk g12 (rs (rowF n)) 155] rfl (by decide) [Asn.blk g5 (wsN 16 (colsF m0 (rowF n) V1)) 154, Asn.blk g1 (wsN 16 m0) 154, Asn.blk g12 (rs (rowF n)) 155] [] rfl H1
        clear HS
        have H : St w Sf Rf [Asn.blk p (wsN 8 h) 115, Asn.rb 0 (wsN 8 firstsF) Ta, Asn.rb 1 rowsV Tb, Asn.blk g1 (wsN 16 m0) 154, Asn.blk g5 (wsN 16 (colsF m0 (rowF n) V1)) 154, Asn.blk g12 (rs (rowF n)) 155] W := H
        refine ⟨(fun _ => trivial), ?_⟩
        unfold wpSeq
        refine t_normal ?_
        obtain ⟨V2, hV2⟩ : ∃ Z_, Z_ = colsF m0 (rowF n) V1 := ⟨_, rfl⟩
        rw [← hV2] at H
        have H : St w Sf Rf [Asn.blk p (wsN 8 h) 115, Asn.rb 0 (wsN 8 firstsF) Ta, Asn.rb 1 rowsV Tb, Asn.blk g1 (wsN 16 m0) 154, Asn.blk g5 (wsN 16 V2) 154, Asn.blk g12 (rs (rowF n)) 155] W := H
        refine c_text (id := 16) (by kernel_rfl) [(0, 2)] (by kernel_rfl) ?_
        have HS := H.select [4, 3, 5] [Asn.blk g5 (wsN 16 V2) 154, Asn.blk g1 (wsN 16 m0) 154, Asn.blk g12 (rs (rowF n)) 155] rfl (by decide)
        refine sqc (o_s 58 (.call { callee := (.value (.func 124)), args := #[(.tmp 10), (.tmp 8), (.tmp 12)], argTypes := #[158, 158, 159] }) 0 (by kernel_rfl)) trivial F (by decide) (x_call Tryd.func124 (by kernel_rfl) rfl (args_3 (F.slot rfl) (F.slot rfl) (F.slot rfl))) (diags_calls g5 g1 g12 V2 m0 (rowF n) (rowF_lt n) W HS) ?_
        rintro e W ⟨rfl, H1⟩
        refine ⟨_, rfl, fun a F => ?_⟩
        have H := H.back [4, 3, 5] [Asn.blk g5 (wsN 16 V2) 154, Asn.blk g1 (wsN 16 m0) 154, Asn.blk g12 (rs (rowF n)) 155] rfl (by decide) [Asn.blk g5 (wsN 16 (diagsF m0 (rowF n) V2)) 154, Asn.blk g1 (wsN 16 m0) 154, Asn.blk g12 (rs (rowF n)) 155] [] rfl H1
        clear HS
        have H : St w Sf Rf [Asn.blk p (wsN 8 h) 115, Asn.rb 0 (wsN 8 firstsF) Ta, Asn.rb 1 rowsV Tb, Asn.blk g1 (wsN 16 m0) 154, Asn.blk g5 (wsN 16 (diagsF m0 (rowF n) V2)) 154, Asn.blk g12 (rs (rowF n)) 155] W := H
        refine ⟨(fun _ => trivial), ?_⟩
        unfold wpSeq
        refine b_normal ?_
        refine t_normal ?_
        refine c_text (id := 17) (by kernel_rfl) [(0, 2), (1, 2)] (by kernel_rfl) ?_
        refine q2 (o_s 59 (.binOp .add 3 (.tmp 54) (.const (.int .i64 1)) 3) 3 (by kernel_rfl)) F (by decide) (v := .int .i64 (IntKind.i64.wrap ((n : Int) + 1))) (x_int (F.slot rfl) rfl rfl) (fun a F => ?_)
        refine q2 (o_s 54 (.move (.tmp 59)) 3 (by kernel_rfl)) F (by decide) (x_move (F.slot rfl)) (fun a F => ?_)
        unfold wpSeq
        refine t_normal ?_
        have F_ := F
        rw [show diagsF m0 (rowF n) V2 = rounds m0 (n + 1) S0 from by rw [hV2, hV1]; rfl] at H
        have H := H.front 5
        have F := F.at 54 rfl (v' := .int .i64 ((n + 1 : Nat) : Int)) (congrArg (Value.int .i64) ((wrap_i64 _ (by omega) (by omega)).trans (by omega)))
        exact ⟨k - 1, by omega, n + 1, F.less _ (subc rfl (subc rfl (subc rfl (subc rfl (subc rfl (subc rfl (subc rfl (subc rfl (subc rfl (subc rfl (subc rfl (subc rfl (subc rfl (subc rfl (subc rfl (subc rfl (subc rfl (subc rfl (subc rfl (subc rfl (subc rfl (subc rfl (subc rfl (subc rfl (subc rfl (subc rfl (subc rfl (subc rfl (subc rfl sub0))))))))))))))))))))))))))))), H, (by omega), (by omega)⟩
      · have hb11d := of_decide_eq_false hb11
        have F := F.at 55 rfl (v' := .bool false) (congrArg Value.bool hb11)
        refine c_no (c := .tmp 55) (by kernel_rfl) (F.slot rfl) ?_
        refine c_exit (id := 2) (by kernel_rfl) ?_
        refine t_exit ?_
        refine t_exit ?_
        refine b_here ?_
        refine t_normal ?_
        refine c_seq (by kernel_rfl) ?_
        obtain rfl : n = 10 := by omega
        obtain ⟨V0, hV0⟩ : ∃ Z_, Z_ = rounds m0 10 S0 := ⟨_, rfl⟩
        rw [← hV0] at H
        have hx0 : wsN 8 h = wsN 8 (xorP h V0 0) := by congr 1
        rw [hx0] at H
        have H : St w Sf Rf [Asn.blk p (wsN 8 (xorP h V0 0)) 115, Asn.rb 0 (wsN 8 firstsF) Ta, Asn.rb 1 rowsV Tb, Asn.blk g1 (wsN 16 m0) 154, Asn.blk g5 (wsN 16 V0) 154] W := H
        refine c_text (id := 18) (by kernel_rfl) [(0, 2)] (by kernel_rfl) ?_
        refine q2 (o_s 60 (.move (.const (.int .i64 0))) 3 (by kernel_rfl)) F (by decide) (v := .int .i64 0) (x_move rfl) (fun a F => ?_)
        unfold wpSeq
        refine t_normal ?_
        refine c_block (id := 4) (by kernel_rfl) ?_
        refine c_loop (by kernel_rfl) (fun k a W => ∃ (n : Nat), Fr 80 [(0, .pointer (some ⟨p, 0, none⟩)), (1, .string s), (2, .int .i64 t), (3, .bool last), (8, .pointer (some ⟨g1, 0, none⟩)), (14, .string s), (15, .int .i64 (s.size : Int)), (16, .int .i64 (s.toList.length : Int)), (17, .bool false), (10, .pointer (some ⟨g5, 0, none⟩)), (34, .slice (some ⟨g5, 0, none⟩) 16 16), (35, .pointer (some ⟨p, 0, none⟩)), (36, .pointer (some ⟨p, 0, none⟩)), (37, .slice (some ⟨p, 0, none⟩) 8 8), (39, .slice (some ⟨g5, 8, none⟩) 8 8), (40, .slice (some ⟨0, 0, none⟩) 8 8), (42, .pointer (some ⟨g5, 12, none⟩)), (43, u ((over 8 8 (over 0 8 (fun _ => 0) h) firstsF) 12)), (44, .int .i64 t), (45, u (BitVec.ofInt 32 t)), (46, u (((over 8 8 (over 0 8 (fun _ => 0) h) firstsF) 12) ^^^ (BitVec.ofInt 32 t))), (47, .pointer (some ⟨g5, 12, none⟩)), (48, .bool true), (49, .pointer (some ⟨g5, 14, none⟩)), (50, u (w_8 14)), (51, u (~~~(w_8 14))), (52, .pointer (some ⟨g5, 14, none⟩)), (53, .agg rowsV.toArray), (54, .int .i64 (10 : Int)), (55, .bool false), (60, .int .i64 (n : Int))] a ∧ St w Sf Rf [Asn.blk p (wsN 8 (xorP h V0 n)) 115, Asn.rb 0 (wsN 8 firstsF) Ta, Asn.rb 1 rowsV Tb, Asn.blk g1 (wsN 16 m0) 154, Asn.blk g5 (wsN 16 V0) 154] W ∧ (n ≤ 8) ∧ (k + n = 8)) 8 ⟨0, F.less _ (subc rfl (subc rfl (subc rfl (subc rfl (subc rfl (subc rfl (subc rfl (subc rfl (subc rfl (subc rfl (subc rfl (subc rfl (subc rfl (subc rfl (subc rfl (subc rfl (subc rfl (subc rfl (subc rfl (subc rfl (subc rfl (subc rfl (subc rfl (subc rfl (subc rfl (subc rfl (subc rfl (subc rfl (subc rfl (subc rfl (subc rfl sub0))))))))))))))))))))))))))))))), H, (by decide), rfl⟩ ?_
        rintro k a W ⟨n, F, H, hn, hkn⟩
        refine c_seq (by kernel_rfl) ?_
        refine c_text (id := 19) (by kernel_rfl) [(0, 2)] (by kernel_rfl) ?_
        refine q2 (o_s 61 (.binOp .lss 3 (.tmp 60) (.const (.int .i64 8)) 3) 0 (by kernel_rfl)) F (by decide) (v := .bool (decide ((n : Int) < (8 : Int)))) (x_int (F.slot rfl) rfl rfl) (fun a F => ?_)
        unfold wpSeq
        have H : St w Sf Rf [Asn.blk p (wsN 8 (xorP h V0 n)) 115, Asn.rb 0 (wsN 8 firstsF) Ta, Asn.rb 1 rowsV Tb, Asn.blk g1 (wsN 16 m0) 154, Asn.blk g5 (wsN 16 V0) 154] W := H
        refine t_normal ?_
        refine c_seq (by kernel_rfl) ?_
        rcases bool_or (decide ((n : Int) < (8 : Int))) with hb13 | hb13
        · have hb13d := of_decide_eq_true hb13
          have F := F.at 61 rfl (v' := .bool true) (congrArg Value.bool hb13)
          refine c_yes (c := .tmp 61) (by kernel_rfl) (F.slot rfl) ?_
          refine c_skip (by kernel_rfl) ?_
          refine t_normal ?_
          refine c_seq (by kernel_rfl) ?_
          refine c_block (id := 5) (by kernel_rfl) ?_
          refine c_seq (by kernel_rfl) ?_
          refine c_text (id := 20) (by kernel_rfl) [(0, 2), (1, 2)] (by kernel_rfl) ?_
          refine q2 (o_s 62 (.move (.tmp 60)) 3 (by kernel_rfl)) F (by decide) (x_move (F.slot rfl)) (fun a F => ?_)
          refine q2 (o_s 13 (.assign (.tmp 62)) 3 (by kernel_rfl)) F (by decide) (v := .int .i64 (n : Int)) (x_assign (F.slot rfl)) (fun a F => ?_)
          unfold wpSeq
          refine t_normal ?_
          have hn8 : n < 8 := by omega
          refine c_drawn (id := 21) (by kernel_rfl) (by kernel_rfl) (Vs [Asn.blk p (wsN 8 (xorP h V0 n)) 115, Asn.blk g5 (wsN 16 V0) 154]) [0, 0, 1, 7, 15, 0, 32, 96, 0, 256, 768, 1792, 4064, 8191, 1, 32767, 65535] [16] [(0, 0), (1, 0), (2, 0), (3, 0), (5, 0), (6, 0), (8, 0), (9, 0), (10, 0), (14, 0), (4, 1), (7, 1), (11, 1), (12, 0), (13, 0), (15, 0), (16, 2)] (by kernel_rfl) (fun _ _ d _ _ h => by cases d <;> exact h) (Vs.drew ⟨H.get 0 rfl, H.get 4 rfl, trivial⟩) ?_
          have H := H.drew
          generalize World.drew W = W at H ⊢
          refine q0 (o_s 63 (.move (.tmp 0)) 153 (by kernel_rfl)) F (by decide) (fun W_ => x_move (F.slot rfl)) (fun a F => ?_)
          refine q0 (o_s 64 (.move (.tmp 13)) 3 (by kernel_rfl)) F (by decide) (fun W_ => x_move (F.slot rfl)) (fun a F => ?_)
          refine q0 (o_s 65 (.nilCheck (.tmp 63)) 0 (by kernel_rfl)) F (by decide) (v := .pointer (some ⟨p, 0, none⟩)) (fun W_ => x_nil (F.slot rfl)) (fun a F => ?_)
          refine q0 (o_s 66 (.indexAddr 115 (.tmp 65) (.tmp 64)) 0 (by kernel_rfl)) F (by decide) (v := .pointer (some ⟨p, n, none⟩)) (fun W_ => (x_indexAr Tryd.underlying115 (Tryd.sizeOf113 W_) (F.slot rfl) (F.slot rfl) (Int.natCast_nonneg _) (by have := (show n < 8 by omega); omega)).trans (by rw [addo]; simp)) (fun a F => ?_)
          refine q0 (o_s 68 (.move (.tmp 13)) 3 (by kernel_rfl)) F (by decide) (fun W_ => x_move (F.slot rfl)) (fun a F => ?_)
          refine q0 (o_s 69 (.indexAddr 154 (.tmp 10) (.tmp 68)) 0 (by kernel_rfl)) F (by decide) (v := .pointer (some ⟨g5, n, none⟩)) (fun W_ => (x_indexAr Tryd.underlying154 (Tryd.sizeOf113 W_) (F.slot rfl) (F.slot rfl) (Int.natCast_nonneg _) (by have := (show n < 8 by omega); omega)).trans (by rw [addo]; simp)) (fun a F => ?_)
          refine q0 (o_s 71 (.move (.tmp 13)) 3 (by kernel_rfl)) F (by decide) (fun W_ => x_move (F.slot rfl)) (fun a F => ?_)
          refine q0 (o_s 72 (.binOp .add 3 (.tmp 71) (.const (.int .i64 8)) 3) 3 (by kernel_rfl)) F (by decide) (v := .int .i64 (IntKind.i64.wrap ((n : Int) + 8))) (fun W_ => x_int (F.slot rfl) rfl rfl) (fun a F => ?_)
          have F := F.conv (v' := .int .i64 ((n + 8 : Nat) : Int)) (congrArg (Value.int .i64) ((wrap_i64 _ (by omega) (by omega)).trans (by omega)))
          refine q0 (o_s 73 (.indexAddr 154 (.tmp 10) (.tmp 72)) 0 (by kernel_rfl)) F (by decide) (v := .pointer (some ⟨g5, (n + 8), none⟩)) (fun W_ => (x_indexAr Tryd.underlying154 (Tryd.sizeOf113 W_) (F.slot rfl) (F.slot rfl) (Int.natCast_nonneg _) (by have := (show n + 8 < 16 by omega); omega)).trans (by rw [addo]; simp)) (fun a F => ?_)
          refine q0 (o_s 77 (.nilCheck (.tmp 63)) 0 (by kernel_rfl)) F (by decide) (v := .pointer (some ⟨p, 0, none⟩)) (fun W_ => x_nil (F.slot rfl)) (fun a F => ?_)
          refine q1 (o_s 67 (.load 113 (.tmp 66)) 113 (by kernel_rfl)) F (by decide) (⟨H.get 0 rfl, H.get 4 rfl, trivial⟩) (v := u ((xorP h V0 n) n)) (fun W_ hV => x_load1 (Tryd.isAgg113 W_) (F.slot rfl) (bcell hV.1 (ws_at (xorP h V0 n) (by have := (show n < 8 by omega); omega)))) (fun a F => ?_)
          refine q1 (o_s 70 (.load 113 (.tmp 69)) 113 (by kernel_rfl)) F (by decide) (⟨H.get 0 rfl, H.get 4 rfl, trivial⟩) (v := u (V0 n)) (fun W_ hV => x_load1 (Tryd.isAgg113 W_) (F.slot rfl) (bcell hV.2.1 (ws_at V0 (by have := (show n < 8 by omega); omega)))) (fun a F => ?_)
          refine q1 (o_s 74 (.load 113 (.tmp 73)) 113 (by kernel_rfl)) F (by decide) (⟨H.get 0 rfl, H.get 4 rfl, trivial⟩) (v := u (V0 (n + 8))) (fun W_ hV => x_load1 (Tryd.isAgg113 W_) (F.slot rfl) (bcell hV.2.1 (ws_at V0 (by have := (show n + 8 < 16 by omega); omega)))) (fun a F => ?_)
          refine q0 (o_s 75 (.binOp .xor 113 (.tmp 70) (.tmp 74) 113) 113 (by kernel_rfl)) F (by decide) (v := u ((V0 n) ^^^ (V0 (n + 8)))) (fun W_ => x_xor32 (F.slot rfl) (F.slot rfl)) (fun a F => ?_)
          refine q0 (o_s 76 (.binOp .xor 113 (.tmp 67) (.tmp 75) 113) 113 (by kernel_rfl)) F (by decide) (v := u (((xorP h V0 n) n) ^^^ ((V0 n) ^^^ (V0 (n + 8))))) (fun W_ => x_xor32 (F.slot rfl) (F.slot rfl)) (fun a F => ?_)
          refine q0 (o_s 78 (.indexAddr 115 (.tmp 77) (.tmp 64)) 0 (by kernel_rfl)) F (by decide) (v := .pointer (some ⟨p, n, none⟩)) (fun W_ => (x_indexAr Tryd.underlying115 (Tryd.sizeOf113 W_) (F.slot rfl) (F.slot rfl) (Int.natCast_nonneg _) (by have := (show n < 8 by omega); omega)).trans (by rw [addo]; simp)) (fun a F => ?_)
          obtain ⟨w_15, ew_15⟩ : ∃ Z_, Z_ = upd (xorP h V0 n) n (((xorP h V0 n) n) ^^^ ((V0 n) ^^^ (V0 (n + 8)))) := ⟨_, rfl⟩
          refine sq_put (M := [Asn.blk p (wsN 8 w_15) 115, Asn.rb 0 (wsN 8 firstsF) Ta, Asn.rb 1 rowsV Tb, Asn.blk g1 (wsN 16 m0) 154, Asn.blk g5 (wsN 16 V0) 154]) (o_n (.store 113 (.tmp 78) (.tmp 76)) 0 (by kernel_rfl)) trivial F (by rw [ew_15, ← ws_upd (xorP h V0 n) (by have := (show n < 8 by omega); omega) (((xorP h V0 n) n) ^^^ ((V0 n) ^^^ (V0 (n + 8))))]; exact x_store1 H (k := 0) rfl (Tryd.sizeOf113 W) (F.slot rfl) (F.slot rfl) rfl rfl (by rw [wsN_len]; exact (by have := (show n < 8 by omega); omega))) ?_
          intro W H
          refine ⟨(fun h => absurd (by decide) h), ?_⟩
          unfold wpSeq
          refine b_normal ?_
          refine t_normal ?_
          refine c_text (id := 22) (by kernel_rfl) [(0, 2), (1, 2)] (by kernel_rfl) ?_
          refine q2 (o_s 79 (.binOp .add 3 (.tmp 60) (.const (.int .i64 1)) 3) 3 (by kernel_rfl)) F (by decide) (v := .int .i64 (IntKind.i64.wrap ((n : Int) + 1))) (x_int (F.slot rfl) rfl rfl) (fun a F => ?_)
          refine q2 (o_s 60 (.move (.tmp 79)) 3 (by kernel_rfl)) F (by decide) (x_move (F.slot rfl)) (fun a F => ?_)
          unfold wpSeq
          refine t_normal ?_
          have F_ := F
          rw [show w_15 = xorP h V0 (n + 1) from ew_15.trans (xorP_succ _ _ _)] at H
          have F := F.at 60 rfl (v' := .int .i64 ((n + 1 : Nat) : Int)) (congrArg (Value.int .i64) ((wrap_i64 _ (by omega) (by omega)).trans (by omega)))
          exact ⟨k - 1, by omega, n + 1, F.less _ (subc rfl (subc rfl (subc rfl (subc rfl (subc rfl (subc rfl (subc rfl (subc rfl (subc rfl (subc rfl (subc rfl (subc rfl (subc rfl (subc rfl (subc rfl (subc rfl (subc rfl (subc rfl (subc rfl (subc rfl (subc rfl (subc rfl (subc rfl (subc rfl (subc rfl (subc rfl (subc rfl (subc rfl (subc rfl (subc rfl (subc rfl sub0))))))))))))))))))))))))))))))), H, (by omega), (by omega)⟩
        · have hb13d := of_decide_eq_false hb13
          have F := F.at 61 rfl (v' := .bool false) (congrArg Value.bool hb13)
          refine c_no (c := .tmp 61) (by kernel_rfl) (F.slot rfl) ?_
          refine c_exit (id := 4) (by kernel_rfl) ?_
          refine t_exit ?_
          refine t_exit ?_
          refine b_here ?_
          refine p_end Tryd.results97 F ?_
          obtain rfl : n = 8 := by omega
          have e : wsN 8 (xorP h V0 8) = wsN 8 (blockF h s.toList t last) := wsN_congr (fun j hj => by unfold xorP blockF; rw [if_pos hj, hV0, hm0, hS0])
          rw [e] at H
          exact ⟨rfl, H.front 3⟩
    · have F := F.at 48 rfl (v' := .bool false) (congrArg Value.bool hb9)
      refine c_no (c := .tmp 48) (by kernel_rfl) (F.slot rfl) ?_
      refine c_skip (by kernel_rfl) ?_
      refine t_normal ?_
      refine c_seq (by kernel_rfl) ?_
      refine c_seq (by kernel_rfl) ?_
      have hS : wsN 16 w_8 = wsN 16 (startF h (BitVec.ofInt 32 t) last) := wsN_congr (fun j hj => by have := start_eq h (BitVec.ofInt 32 t) last j hj; rw [hb9, if_neg (by decide), ← ew_8] at this; rw [hb9]; exact this)
      obtain ⟨S0, hS0⟩ : ∃ Z_, Z_ = startF h (BitVec.ofInt 32 t) last := ⟨_, rfl⟩
      rw [hS, ← hS0] at H
      have H : St w Sf Rf [Asn.blk p (wsN 8 h) 115, Asn.rb 0 (wsN 8 firstsF) Ta, Asn.rb 1 rowsV Tb, Asn.blk g1 (wsN 16 m0) 154, Asn.blk g5 (wsN 16 (rounds m0 0 S0)) 154] W := H
      refine c_text (id := 12) (by kernel_rfl) [(0, 2), (1, 2)] (by kernel_rfl) ?_
      have hT : W.heap[1]? = some (.cells rowsV.toArray Tb (0, 0)) := H.rd 2 rfl
      refine q2 (o_s 53 (.load 156 (.global 1)) 156 (by kernel_rfl)) F (by decide) (v := .agg rowsV.toArray) (x_loadB (Tryd.isAgg156 W) rowsV (by rw [rowsV_len]; exact Tryd.sizeOf156 W) rfl hT) (fun a F => ?_)
      refine q2 (o_s 54 (.move (.const (.int .i64 0))) 3 (by kernel_rfl)) F (by decide) (v := .int .i64 0) (x_move rfl) (fun a F => ?_)
      unfold wpSeq
      refine t_normal ?_
      refine c_block (id := 2) (by kernel_rfl) ?_
      refine c_loop (by kernel_rfl) (fun k a W => ∃ (n : Nat), Fr 80 [(0, .pointer (some ⟨p, 0, none⟩)), (1, .string s), (2, .int .i64 t), (3, .bool last), (8, .pointer (some ⟨g1, 0, none⟩)), (14, .string s), (15, .int .i64 (s.size : Int)), (16, .int .i64 (s.toList.length : Int)), (17, .bool false), (10, .pointer (some ⟨g5, 0, none⟩)), (34, .slice (some ⟨g5, 0, none⟩) 16 16), (35, .pointer (some ⟨p, 0, none⟩)), (36, .pointer (some ⟨p, 0, none⟩)), (37, .slice (some ⟨p, 0, none⟩) 8 8), (39, .slice (some ⟨g5, 8, none⟩) 8 8), (40, .slice (some ⟨0, 0, none⟩) 8 8), (42, .pointer (some ⟨g5, 12, none⟩)), (43, u ((over 8 8 (over 0 8 (fun _ => 0) h) firstsF) 12)), (44, .int .i64 t), (45, u (BitVec.ofInt 32 t)), (46, u (((over 8 8 (over 0 8 (fun _ => 0) h) firstsF) 12) ^^^ (BitVec.ofInt 32 t))), (47, .pointer (some ⟨g5, 12, none⟩)), (48, .bool false), (53, .agg rowsV.toArray), (54, .int .i64 (n : Int))] a ∧ St w Sf Rf [Asn.blk p (wsN 8 h) 115, Asn.rb 0 (wsN 8 firstsF) Ta, Asn.rb 1 rowsV Tb, Asn.blk g1 (wsN 16 m0) 154, Asn.blk g5 (wsN 16 (rounds m0 n S0)) 154] W ∧ (n ≤ 10) ∧ (k + n = 10)) 10 ⟨0, F.less _ (subc rfl (subc rfl (subc rfl (subc rfl (subc rfl (subc rfl (subc rfl (subc rfl (subc rfl (subc rfl (subc rfl (subc rfl (subc rfl (subc rfl (subc rfl (subc rfl (subc rfl (subc rfl (subc rfl (subc rfl (subc rfl (subc rfl (subc rfl (subc rfl (subc rfl sub0))))))))))))))))))))))))), H, (by decide), rfl⟩ ?_
      rintro k a W ⟨n, F, H, hn, hkn⟩
      refine c_seq (by kernel_rfl) ?_
      refine c_text (id := 13) (by kernel_rfl) [(0, 2)] (by kernel_rfl) ?_
      refine q2 (o_s 55 (.binOp .lss 3 (.tmp 54) (.const (.int .i64 10)) 3) 0 (by kernel_rfl)) F (by decide) (v := .bool (decide ((n : Int) < (10 : Int)))) (x_int (F.slot rfl) rfl rfl) (fun a F => ?_)
      unfold wpSeq
      have H : St w Sf Rf [Asn.blk p (wsN 8 h) 115, Asn.rb 0 (wsN 8 firstsF) Ta, Asn.rb 1 rowsV Tb, Asn.blk g1 (wsN 16 m0) 154, Asn.blk g5 (wsN 16 (rounds m0 n S0)) 154] W := H
      refine t_normal ?_
      refine c_seq (by kernel_rfl) ?_
      rcases bool_or (decide ((n : Int) < (10 : Int))) with hb16 | hb16
      · have hb16d := of_decide_eq_true hb16
        have F := F.at 55 rfl (v' := .bool true) (congrArg Value.bool hb16)
        refine c_yes (c := .tmp 55) (by kernel_rfl) (F.slot rfl) ?_
        refine c_skip (by kernel_rfl) ?_
        refine t_normal ?_
        refine c_seq (by kernel_rfl) ?_
        refine c_block (id := 3) (by kernel_rfl) ?_
        refine c_seq (by kernel_rfl) ?_
        refine c_text (id := 14) (by kernel_rfl) [(0, 2), (1, 2), (2, 2)] (by kernel_rfl) ?_
        refine q2 (o_s 56 (.index 156 (.tmp 53) (.tmp 54)) 155 (by kernel_rfl)) F (by decide) (v := .agg (rs (rowF n)).toArray) (x_row Tryd.underlying156 (Tryd.sizeOf155 W) (Tryd.isAgg155 W) (F.slot rfl) (F.slot rfl) (by omega) (rowsV_at n (by omega)) (by rw [rowsV_len]; omega)) (fun a F => ?_)
        refine sq_new (o_s 12 (.alloc 155) 0 (by kernel_rfl)) trivial F (by decide) H [.int .i64 0, .int .i64 0, .int .i64 0, .int .i64 0, .int .i64 0, .int .i64 0, .int .i64 0, .int .i64 0, .int .i64 0, .int .i64 0, .int .i64 0, .int .i64 0, .int .i64 0, .int .i64 0, .int .i64 0, .int .i64 0] 155 (x_alloc Tryd.zeroValue155 rfl) ?_
        intro g17 W a hg17 H F
        refine ⟨(fun _ => trivial), ?_⟩
        refine sq_put (M := [Asn.blk p (wsN 8 h) 115, Asn.rb 0 (wsN 8 firstsF) Ta, Asn.rb 1 rowsV Tb, Asn.blk g1 (wsN 16 m0) 154, Asn.blk g5 (wsN 16 (rounds m0 n S0)) 154, Asn.blk g17 (rs (rowF n)) 155]) (o_n (.store 155 (.tmp 12) (.tmp 56)) 0 (by kernel_rfl)) trivial F (x_storeAll H (k := 5) rfl (Tryd.sizeOf155 W) (F.slot rfl) (F.slot rfl) (rs_len _) rfl (rs_one _)) ?_
        intro W H
        refine ⟨(fun _ => trivial), ?_⟩
        unfold wpSeq
        refine t_normal ?_
        refine c_seq (by kernel_rfl) ?_
        obtain ⟨V1, hV1⟩ : ∃ Z_, Z_ = rounds m0 n S0 := ⟨_, rfl⟩
        rw [← hV1] at H
        have H : St w Sf Rf [Asn.blk p (wsN 8 h) 115, Asn.rb 0 (wsN 8 firstsF) Ta, Asn.rb 1 rowsV Tb, Asn.blk g1 (wsN 16 m0) 154, Asn.blk g5 (wsN 16 V1) 154, Asn.blk g17 (rs (rowF n)) 155] W := H
        refine c_text (id := 15) (by kernel_rfl) [(0, 2)] (by kernel_rfl) ?_
        have HS := H.select [4, 3, 5] [Asn.blk g5 (wsN 16 V1) 154, Asn.blk g1 (wsN 16 m0) 154, Asn.blk g17 (rs (rowF n)) 155] rfl (by decide)
        refine sqc (o_s 57 (.call { callee := (.value (.func 123)), args := #[(.tmp 10), (.tmp 8), (.tmp 12)], argTypes := #[158, 158, 159] }) 0 (by kernel_rfl)) trivial F (by decide) (x_call Tryd.func123 (by kernel_rfl) rfl (args_3 (F.slot rfl) (F.slot rfl) (F.slot rfl))) (cols_calls g5 g1 g17 V1 m0 (rowF n) (rowF_lt n) W HS) ?_
        rintro e W ⟨rfl, H1⟩
        refine ⟨_, rfl, fun a F => ?_⟩
        have H := H.back [4, 3, 5] [Asn.blk g5 (wsN 16 V1) 154, Asn.blk g1 (wsN 16 m0) 154, Asn.blk g17 (rs (rowF n)) 155] rfl (by decide) [Asn.blk g5 (wsN 16 (colsF m0 (rowF n) V1)) 154, Asn.blk g1 (wsN 16 m0) 154, Asn.blk g17 (rs (rowF n)) 155] [] rfl H1
        clear HS
        have H : St w Sf Rf [Asn.blk p (wsN 8 h) 115, Asn.rb 0 (wsN 8 firstsF) Ta, Asn.rb 1 rowsV Tb, Asn.blk g1 (wsN 16 m0) 154, Asn.blk g5 (wsN 16 (colsF m0 (rowF n) V1)) 154, Asn.blk g17 (rs (rowF n)) 155] W := H
        refine ⟨(fun _ => trivial), ?_⟩
        unfold wpSeq
        refine t_normal ?_
        obtain ⟨V2, hV2⟩ : ∃ Z_, Z_ = colsF m0 (rowF n) V1 := ⟨_, rfl⟩
        rw [← hV2] at H
        have H : St w Sf Rf [Asn.blk p (wsN 8 h) 115, Asn.rb 0 (wsN 8 firstsF) Ta, Asn.rb 1 rowsV Tb, Asn.blk g1 (wsN 16 m0) 154, Asn.blk g5 (wsN 16 V2) 154, Asn.blk g17 (rs (rowF n)) 155] W := H
        refine c_text (id := 16) (by kernel_rfl) [(0, 2)] (by kernel_rfl) ?_
        have HS := H.select [4, 3, 5] [Asn.blk g5 (wsN 16 V2) 154, Asn.blk g1 (wsN 16 m0) 154, Asn.blk g17 (rs (rowF n)) 155] rfl (by decide)
        refine sqc (o_s 58 (.call { callee := (.value (.func 124)), args := #[(.tmp 10), (.tmp 8), (.tmp 12)], argTypes := #[158, 158, 159] }) 0 (by kernel_rfl)) trivial F (by decide) (x_call Tryd.func124 (by kernel_rfl) rfl (args_3 (F.slot rfl) (F.slot rfl) (F.slot rfl))) (diags_calls g5 g1 g17 V2 m0 (rowF n) (rowF_lt n) W HS) ?_
        rintro e W ⟨rfl, H1⟩
        refine ⟨_, rfl, fun a F => ?_⟩
        have H := H.back [4, 3, 5] [Asn.blk g5 (wsN 16 V2) 154, Asn.blk g1 (wsN 16 m0) 154, Asn.blk g17 (rs (rowF n)) 155] rfl (by decide) [Asn.blk g5 (wsN 16 (diagsF m0 (rowF n) V2)) 154, Asn.blk g1 (wsN 16 m0) 154, Asn.blk g17 (rs (rowF n)) 155] [] rfl H1
        clear HS
        have H : St w Sf Rf [Asn.blk p (wsN 8 h) 115, Asn.rb 0 (wsN 8 firstsF) Ta, Asn.rb 1 rowsV Tb, Asn.blk g1 (wsN 16 m0) 154, Asn.blk g5 (wsN 16 (diagsF m0 (rowF n) V2)) 154, Asn.blk g17 (rs (rowF n)) 155] W := H
        refine ⟨(fun _ => trivial), ?_⟩
        unfold wpSeq
        refine b_normal ?_
        refine t_normal ?_
        refine c_text (id := 17) (by kernel_rfl) [(0, 2), (1, 2)] (by kernel_rfl) ?_
        refine q2 (o_s 59 (.binOp .add 3 (.tmp 54) (.const (.int .i64 1)) 3) 3 (by kernel_rfl)) F (by decide) (v := .int .i64 (IntKind.i64.wrap ((n : Int) + 1))) (x_int (F.slot rfl) rfl rfl) (fun a F => ?_)
        refine q2 (o_s 54 (.move (.tmp 59)) 3 (by kernel_rfl)) F (by decide) (x_move (F.slot rfl)) (fun a F => ?_)
        unfold wpSeq
        refine t_normal ?_
        have F_ := F
        rw [show diagsF m0 (rowF n) V2 = rounds m0 (n + 1) S0 from by rw [hV2, hV1]; rfl] at H
        have H := H.front 5
        have F := F.at 54 rfl (v' := .int .i64 ((n + 1 : Nat) : Int)) (congrArg (Value.int .i64) ((wrap_i64 _ (by omega) (by omega)).trans (by omega)))
        exact ⟨k - 1, by omega, n + 1, F.less _ (subc rfl (subc rfl (subc rfl (subc rfl (subc rfl (subc rfl (subc rfl (subc rfl (subc rfl (subc rfl (subc rfl (subc rfl (subc rfl (subc rfl (subc rfl (subc rfl (subc rfl (subc rfl (subc rfl (subc rfl (subc rfl (subc rfl (subc rfl (subc rfl (subc rfl sub0))))))))))))))))))))))))), H, (by omega), (by omega)⟩
      · have hb16d := of_decide_eq_false hb16
        have F := F.at 55 rfl (v' := .bool false) (congrArg Value.bool hb16)
        refine c_no (c := .tmp 55) (by kernel_rfl) (F.slot rfl) ?_
        refine c_exit (id := 2) (by kernel_rfl) ?_
        refine t_exit ?_
        refine t_exit ?_
        refine b_here ?_
        refine t_normal ?_
        refine c_seq (by kernel_rfl) ?_
        obtain rfl : n = 10 := by omega
        obtain ⟨V0, hV0⟩ : ∃ Z_, Z_ = rounds m0 10 S0 := ⟨_, rfl⟩
        rw [← hV0] at H
        have hx0 : wsN 8 h = wsN 8 (xorP h V0 0) := by congr 1
        rw [hx0] at H
        have H : St w Sf Rf [Asn.blk p (wsN 8 (xorP h V0 0)) 115, Asn.rb 0 (wsN 8 firstsF) Ta, Asn.rb 1 rowsV Tb, Asn.blk g1 (wsN 16 m0) 154, Asn.blk g5 (wsN 16 V0) 154] W := H
        refine c_text (id := 18) (by kernel_rfl) [(0, 2)] (by kernel_rfl) ?_
        refine q2 (o_s 60 (.move (.const (.int .i64 0))) 3 (by kernel_rfl)) F (by decide) (v := .int .i64 0) (x_move rfl) (fun a F => ?_)
        unfold wpSeq
        refine t_normal ?_
        refine c_block (id := 4) (by kernel_rfl) ?_
        refine c_loop (by kernel_rfl) (fun k a W => ∃ (n : Nat), Fr 80 [(0, .pointer (some ⟨p, 0, none⟩)), (1, .string s), (2, .int .i64 t), (3, .bool last), (8, .pointer (some ⟨g1, 0, none⟩)), (14, .string s), (15, .int .i64 (s.size : Int)), (16, .int .i64 (s.toList.length : Int)), (17, .bool false), (10, .pointer (some ⟨g5, 0, none⟩)), (34, .slice (some ⟨g5, 0, none⟩) 16 16), (35, .pointer (some ⟨p, 0, none⟩)), (36, .pointer (some ⟨p, 0, none⟩)), (37, .slice (some ⟨p, 0, none⟩) 8 8), (39, .slice (some ⟨g5, 8, none⟩) 8 8), (40, .slice (some ⟨0, 0, none⟩) 8 8), (42, .pointer (some ⟨g5, 12, none⟩)), (43, u ((over 8 8 (over 0 8 (fun _ => 0) h) firstsF) 12)), (44, .int .i64 t), (45, u (BitVec.ofInt 32 t)), (46, u (((over 8 8 (over 0 8 (fun _ => 0) h) firstsF) 12) ^^^ (BitVec.ofInt 32 t))), (47, .pointer (some ⟨g5, 12, none⟩)), (48, .bool false), (53, .agg rowsV.toArray), (54, .int .i64 (10 : Int)), (55, .bool false), (60, .int .i64 (n : Int))] a ∧ St w Sf Rf [Asn.blk p (wsN 8 (xorP h V0 n)) 115, Asn.rb 0 (wsN 8 firstsF) Ta, Asn.rb 1 rowsV Tb, Asn.blk g1 (wsN 16 m0) 154, Asn.blk g5 (wsN 16 V0) 154] W ∧ (n ≤ 8) ∧ (k + n = 8)) 8 ⟨0, F.less _ (subc rfl (subc rfl (subc rfl (subc rfl (subc rfl (subc rfl (subc rfl (subc rfl (subc rfl (subc rfl (subc rfl (subc rfl (subc rfl (subc rfl (subc rfl (subc rfl (subc rfl (subc rfl (subc rfl (subc rfl (subc rfl (subc rfl (subc rfl (subc rfl (subc rfl (subc rfl (subc rfl sub0))))))))))))))))))))))))))), H, (by decide), rfl⟩ ?_
        rintro k a W ⟨n, F, H, hn, hkn⟩
        refine c_seq (by kernel_rfl) ?_
        refine c_text (id := 19) (by kernel_rfl) [(0, 2)] (by kernel_rfl) ?_
        refine q2 (o_s 61 (.binOp .lss 3 (.tmp 60) (.const (.int .i64 8)) 3) 0 (by kernel_rfl)) F (by decide) (v := .bool (decide ((n : Int) < (8 : Int)))) (x_int (F.slot rfl) rfl rfl) (fun a F => ?_)
        unfold wpSeq
        have H : St w Sf Rf [Asn.blk p (wsN 8 (xorP h V0 n)) 115, Asn.rb 0 (wsN 8 firstsF) Ta, Asn.rb 1 rowsV Tb, Asn.blk g1 (wsN 16 m0) 154, Asn.blk g5 (wsN 16 V0) 154] W := H
        refine t_normal ?_
        refine c_seq (by kernel_rfl) ?_
        rcases bool_or (decide ((n : Int) < (8 : Int))) with hb18 | hb18
        · have hb18d := of_decide_eq_true hb18
          have F := F.at 61 rfl (v' := .bool true) (congrArg Value.bool hb18)
          refine c_yes (c := .tmp 61) (by kernel_rfl) (F.slot rfl) ?_
          refine c_skip (by kernel_rfl) ?_
          refine t_normal ?_
          refine c_seq (by kernel_rfl) ?_
          refine c_block (id := 5) (by kernel_rfl) ?_
          refine c_seq (by kernel_rfl) ?_
          refine c_text (id := 20) (by kernel_rfl) [(0, 2), (1, 2)] (by kernel_rfl) ?_
          refine q2 (o_s 62 (.move (.tmp 60)) 3 (by kernel_rfl)) F (by decide) (x_move (F.slot rfl)) (fun a F => ?_)
          refine q2 (o_s 13 (.assign (.tmp 62)) 3 (by kernel_rfl)) F (by decide) (v := .int .i64 (n : Int)) (x_assign (F.slot rfl)) (fun a F => ?_)
          unfold wpSeq
          refine t_normal ?_
          have hn8 : n < 8 := by omega
          refine c_drawn (id := 21) (by kernel_rfl) (by kernel_rfl) (Vs [Asn.blk p (wsN 8 (xorP h V0 n)) 115, Asn.blk g5 (wsN 16 V0) 154]) [0, 0, 1, 7, 15, 0, 32, 96, 0, 256, 768, 1792, 4064, 8191, 1, 32767, 65535] [16] [(0, 0), (1, 0), (2, 0), (3, 0), (5, 0), (6, 0), (8, 0), (9, 0), (10, 0), (14, 0), (4, 1), (7, 1), (11, 1), (12, 0), (13, 0), (15, 0), (16, 2)] (by kernel_rfl) (fun _ _ d _ _ h => by cases d <;> exact h) (Vs.drew ⟨H.get 0 rfl, H.get 4 rfl, trivial⟩) ?_
          have H := H.drew
          generalize World.drew W = W at H ⊢
          refine q0 (o_s 63 (.move (.tmp 0)) 153 (by kernel_rfl)) F (by decide) (fun W_ => x_move (F.slot rfl)) (fun a F => ?_)
          refine q0 (o_s 64 (.move (.tmp 13)) 3 (by kernel_rfl)) F (by decide) (fun W_ => x_move (F.slot rfl)) (fun a F => ?_)
          refine q0 (o_s 65 (.nilCheck (.tmp 63)) 0 (by kernel_rfl)) F (by decide) (v := .pointer (some ⟨p, 0, none⟩)) (fun W_ => x_nil (F.slot rfl)) (fun a F => ?_)
          refine q0 (o_s 66 (.indexAddr 115 (.tmp 65) (.tmp 64)) 0 (by kernel_rfl)) F (by decide) (v := .pointer (some ⟨p, n, none⟩)) (fun W_ => (x_indexAr Tryd.underlying115 (Tryd.sizeOf113 W_) (F.slot rfl) (F.slot rfl) (Int.natCast_nonneg _) (by have := (show n < 8 by omega); omega)).trans (by rw [addo]; simp)) (fun a F => ?_)
          refine q0 (o_s 68 (.move (.tmp 13)) 3 (by kernel_rfl)) F (by decide) (fun W_ => x_move (F.slot rfl)) (fun a F => ?_)
          refine q0 (o_s 69 (.indexAddr 154 (.tmp 10) (.tmp 68)) 0 (by kernel_rfl)) F (by decide) (v := .pointer (some ⟨g5, n, none⟩)) (fun W_ => (x_indexAr Tryd.underlying154 (Tryd.sizeOf113 W_) (F.slot rfl) (F.slot rfl) (Int.natCast_nonneg _) (by have := (show n < 8 by omega); omega)).trans (by rw [addo]; simp)) (fun a F => ?_)
          refine q0 (o_s 71 (.move (.tmp 13)) 3 (by kernel_rfl)) F (by decide) (fun W_ => x_move (F.slot rfl)) (fun a F => ?_)
          refine q0 (o_s 72 (.binOp .add 3 (.tmp 71) (.const (.int .i64 8)) 3) 3 (by kernel_rfl)) F (by decide) (v := .int .i64 (IntKind.i64.wrap ((n : Int) + 8))) (fun W_ => x_int (F.slot rfl) rfl rfl) (fun a F => ?_)
          have F := F.conv (v' := .int .i64 ((n + 8 : Nat) : Int)) (congrArg (Value.int .i64) ((wrap_i64 _ (by omega) (by omega)).trans (by omega)))
          refine q0 (o_s 73 (.indexAddr 154 (.tmp 10) (.tmp 72)) 0 (by kernel_rfl)) F (by decide) (v := .pointer (some ⟨g5, (n + 8), none⟩)) (fun W_ => (x_indexAr Tryd.underlying154 (Tryd.sizeOf113 W_) (F.slot rfl) (F.slot rfl) (Int.natCast_nonneg _) (by have := (show n + 8 < 16 by omega); omega)).trans (by rw [addo]; simp)) (fun a F => ?_)
          refine q0 (o_s 77 (.nilCheck (.tmp 63)) 0 (by kernel_rfl)) F (by decide) (v := .pointer (some ⟨p, 0, none⟩)) (fun W_ => x_nil (F.slot rfl)) (fun a F => ?_)
          refine q1 (o_s 67 (.load 113 (.tmp 66)) 113 (by kernel_rfl)) F (by decide) (⟨H.get 0 rfl, H.get 4 rfl, trivial⟩) (v := u ((xorP h V0 n) n)) (fun W_ hV => x_load1 (Tryd.isAgg113 W_) (F.slot rfl) (bcell hV.1 (ws_at (xorP h V0 n) (by have := (show n < 8 by omega); omega)))) (fun a F => ?_)
          refine q1 (o_s 70 (.load 113 (.tmp 69)) 113 (by kernel_rfl)) F (by decide) (⟨H.get 0 rfl, H.get 4 rfl, trivial⟩) (v := u (V0 n)) (fun W_ hV => x_load1 (Tryd.isAgg113 W_) (F.slot rfl) (bcell hV.2.1 (ws_at V0 (by have := (show n < 8 by omega); omega)))) (fun a F => ?_)
          refine q1 (o_s 74 (.load 113 (.tmp 73)) 113 (by kernel_rfl)) F (by decide) (⟨H.get 0 rfl, H.get 4 rfl, trivial⟩) (v := u (V0 (n + 8))) (fun W_ hV => x_load1 (Tryd.isAgg113 W_) (F.slot rfl) (bcell hV.2.1 (ws_at V0 (by have := (show n + 8 < 16 by omega); omega)))) (fun a F => ?_)
          refine q0 (o_s 75 (.binOp .xor 113 (.tmp 70) (.tmp 74) 113) 113 (by kernel_rfl)) F (by decide) (v := u ((V0 n) ^^^ (V0 (n + 8)))) (fun W_ => x_xor32 (F.slot rfl) (F.slot rfl)) (fun a F => ?_)
          refine q0 (o_s 76 (.binOp .xor 113 (.tmp 67) (.tmp 75) 113) 113 (by kernel_rfl)) F (by decide) (v := u (((xorP h V0 n) n) ^^^ ((V0 n) ^^^ (V0 (n + 8))))) (fun W_ => x_xor32 (F.slot rfl) (F.slot rfl)) (fun a F => ?_)
          refine q0 (o_s 78 (.indexAddr 115 (.tmp 77) (.tmp 64)) 0 (by kernel_rfl)) F (by decide) (v := .pointer (some ⟨p, n, none⟩)) (fun W_ => (x_indexAr Tryd.underlying115 (Tryd.sizeOf113 W_) (F.slot rfl) (F.slot rfl) (Int.natCast_nonneg _) (by have := (show n < 8 by omega); omega)).trans (by rw [addo]; simp)) (fun a F => ?_)
          obtain ⟨w_20, ew_20⟩ : ∃ Z_, Z_ = upd (xorP h V0 n) n (((xorP h V0 n) n) ^^^ ((V0 n) ^^^ (V0 (n + 8)))) := ⟨_, rfl⟩
          refine sq_put (M := [Asn.blk p (wsN 8 w_20) 115, Asn.rb 0 (wsN 8 firstsF) Ta, Asn.rb 1 rowsV Tb, Asn.blk g1 (wsN 16 m0) 154, Asn.blk g5 (wsN 16 V0) 154]) (o_n (.store 113 (.tmp 78) (.tmp 76)) 0 (by kernel_rfl)) trivial F (by rw [ew_20, ← ws_upd (xorP h V0 n) (by have := (show n < 8 by omega); omega) (((xorP h V0 n) n) ^^^ ((V0 n) ^^^ (V0 (n + 8))))]; exact x_store1 H (k := 0) rfl (Tryd.sizeOf113 W) (F.slot rfl) (F.slot rfl) rfl rfl (by rw [wsN_len]; exact (by have := (show n < 8 by omega); omega))) ?_
          intro W H
          refine ⟨(fun h => absurd (by decide) h), ?_⟩
          unfold wpSeq
          refine b_normal ?_
          refine t_normal ?_
          refine c_text (id := 22) (by kernel_rfl) [(0, 2), (1, 2)] (by kernel_rfl) ?_
          refine q2 (o_s 79 (.binOp .add 3 (.tmp 60) (.const (.int .i64 1)) 3) 3 (by kernel_rfl)) F (by decide) (v := .int .i64 (IntKind.i64.wrap ((n : Int) + 1))) (x_int (F.slot rfl) rfl rfl) (fun a F => ?_)
          refine q2 (o_s 60 (.move (.tmp 79)) 3 (by kernel_rfl)) F (by decide) (x_move (F.slot rfl)) (fun a F => ?_)
          unfold wpSeq
          refine t_normal ?_
          have F_ := F
          rw [show w_20 = xorP h V0 (n + 1) from ew_20.trans (xorP_succ _ _ _)] at H
          have F := F.at 60 rfl (v' := .int .i64 ((n + 1 : Nat) : Int)) (congrArg (Value.int .i64) ((wrap_i64 _ (by omega) (by omega)).trans (by omega)))
          exact ⟨k - 1, by omega, n + 1, F.less _ (subc rfl (subc rfl (subc rfl (subc rfl (subc rfl (subc rfl (subc rfl (subc rfl (subc rfl (subc rfl (subc rfl (subc rfl (subc rfl (subc rfl (subc rfl (subc rfl (subc rfl (subc rfl (subc rfl (subc rfl (subc rfl (subc rfl (subc rfl (subc rfl (subc rfl (subc rfl (subc rfl sub0))))))))))))))))))))))))))), H, (by omega), (by omega)⟩
        · have hb18d := of_decide_eq_false hb18
          have F := F.at 61 rfl (v' := .bool false) (congrArg Value.bool hb18)
          refine c_no (c := .tmp 61) (by kernel_rfl) (F.slot rfl) ?_
          refine c_exit (id := 4) (by kernel_rfl) ?_
          refine t_exit ?_
          refine t_exit ?_
          refine b_here ?_
          refine p_end Tryd.results97 F ?_
          obtain rfl : n = 8 := by omega
          have e : wsN 8 (xorP h V0 8) = wsN 8 (blockF h s.toList t last) := wsN_congr (fun j hj => by unfold xorP blockF; rw [if_pos hj, hV0, hm0, hS0])
          rw [e] at H
          exact ⟨rfl, H.front 3⟩
end Go.Proofs.YtndicjikjcifaaaDoor
