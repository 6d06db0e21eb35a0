/- batch.Decode. -/
import Derived.Test.YtndicjikjcifaaaDoorBatpre
namespace Go.Proofs.YtndicjikjcifaaaDoor
open Go.RowKit Go.Proofs.YtndicjikjcifaaaDoorW.PrintWords Go.Proofs.YtndicjikjcifaaaDoorW.PrintLast
set_option linter.unusedVariables false
set_option linter.unusedSimpArgs false
set_option maxRecDepth 100000
open PB (S33 k33)
set_option maxHeartbeats 1000000 in
theorem bdec_calls (s0 : ByteArray) (w : World) (hs0 : s0.size < 4611686018427387904) :
    Calls Tryd.prog 28 #[.string s0] w fun e w' => BP (bdec s0) w e w' := by
  refine c_enter2 (args := [.string s0]) (S := (fun _ => False)) (R := (fun _ => False)) (M := []) Tryd.func28 (by kernel_rfl) 93 Tryd.ntmps28 (Nat.le_of_ble_eq_true rfl) (St.first w (fun _ => False) (fun _ => False)) (fun a W F H => ?_)
  have F := F.less [(0, .string s0)] (subc rfl sub0)
  refine c_seq (by kernel_rfl) ?_
  refine c_text (id := 0) (by kernel_rfl) [(0, 2), (1, 2)] (by kernel_rfl) ?_
  refine sq_new (show Eq (α := OSk) _ (some (some 2, (.alloc 40), 0, none)) by kernel_rfl) trivial F (by decide) H [.int .i64 0, .int .i64 0, .slice none 0 0] 40 (x_alloc Tryd.zeroValue40 rfl) ?_
  intro g1 W a hg1 H F
  refine ⟨(fun _ => trivial), ?_⟩
  refine sq2 (W' := W) (show Eq (α := OSk) _ (some (some 3, (.assign (.const (.int .i64 0))), 24, none)) by kernel_rfl) trivial F (by decide) (v := .int .i64 0) (x_assign rfl) (fun _ => trivial) (fun a F => ?_)
  unfold wpSeq
  have H : St w (fun _ => False) (fun _ => False) [Asn.blk g1 [.int .i64 0, .int .i64 0, .slice none 0 0] 40] W := H
  refine t_normal ?_
  refine c_seq (by kernel_rfl) ?_
  refine c_text (id := 1) (by kernel_rfl) [(0, 2)] (by kernel_rfl) ?_
  refine sq_new (show Eq (α := OSk) _ (some (some 4, (.alloc 87), 0, none)) by kernel_rfl) trivial F (by decide) H [.int .i64 0, .int .i64 0] 87 (x_alloc Tryd.zeroValue87 rfl) ?_
  intro g2 W a hg2 H F
  refine ⟨(fun _ => trivial), ?_⟩
  unfold wpSeq
  have H : St w (fun _ => False) (fun _ => False) [Asn.blk g1 [.int .i64 0, .int .i64 0, .slice none 0 0] 40, Asn.blk g2 [.int .i64 0, .int .i64 0] 87] W := H
  refine t_normal ?_
  refine c_seq (by kernel_rfl) ?_
  refine c_seq (by kernel_rfl) ?_
  refine c_text (id := 2) (by kernel_rfl) [(0, 2)] (by kernel_rfl) ?_
  refine sq2 (W' := W) (show Eq (α := OSk) _ (some (some 18, (.move (.const (.int .i64 0))), 3, none)) by kernel_rfl) trivial F (by decide) (v := .int .i64 0) (x_move rfl) (fun _ => trivial) (fun a F => ?_)
  unfold wpSeq
  refine t_normal ?_
  refine c_block (id := 0) (by kernel_rfl) ?_
  refine c_loop (by kernel_rfl) (fun k a W => ∃ (i : Int) (x : Int) (y : Int) (s : ByteArray), Fr 93 [(2, .pointer (some ⟨g1, 0, none⟩)), (4, .pointer (some ⟨g2, 0, none⟩)), (0, .string s), (18, .int .i64 i)] a ∧ St w (fun _ => False) (fun _ => False) [Asn.blk g1 [.int .i64 0, .int .i64 0, .slice none 0 0] 40, Asn.blk g2 [.int .i64 x, .int .i64 y] 87] W ∧ (s.size < 4611686018427387904) ∧ ((k : Int) + i = 3) ∧ ((i = 0 ∧ y = 0 ∧ bdec s0 = bdec s) ∨ (i = 1 ∧ y = 0 ∧ bdec s0 = bdec1 x s) ∨ (i = 2 ∧ bdec s0 = bdec2 x y s))) 3 ⟨0, 0, 0, s0, F.less _ (subc rfl (subc rfl (subc rfl (subc rfl sub0)))), H, hs0, (by omega), (.inl ⟨rfl, rfl, rfl⟩)⟩ ?_
  rintro k a W ⟨i, x, y, s, F, H, HS, hq, hc⟩
  refine c_seq (by kernel_rfl) ?_
  rcases hc with ⟨rfl, rfl, HF⟩ | ⟨rfl, rfl, HF⟩ | ⟨rfl, HF⟩
  · refine c_text (id := 3) (by kernel_rfl) [(0, 2)] (by kernel_rfl) ?_
    refine sq2 (W' := W) (show Eq (α := OSk) _ (some (some 19, (.binOp .lss 3 (.tmp 18) (.const (.int .i64 2)) 3), 0, none)) by kernel_rfl) trivial F (by decide) (v := .bool true) (x_int (F.slot rfl) rfl rfl) (fun _ => trivial) (fun a F => ?_)
    unfold wpSeq
    have H : St w (fun _ => False) (fun _ => False) [Asn.blk g1 [.int .i64 0, .int .i64 0, .slice none 0 0] 40, Asn.blk g2 [.int .i64 x, .int .i64 0] 87] W := H
    refine t_normal ?_
    refine c_seq (by kernel_rfl) ?_
    refine c_yes (c := .tmp 19) (by kernel_rfl) (F.slot rfl) ?_
    refine c_skip (by kernel_rfl) ?_
    refine t_normal ?_
    refine c_seq (by kernel_rfl) ?_
    refine c_block (id := 1) (by kernel_rfl) ?_
    refine c_seq (by kernel_rfl) ?_
    refine c_text (id := 4) (by kernel_rfl) [(0, 2), (1, 2)] (by kernel_rfl) ?_
    refine sq2 (W' := W) (show Eq (α := OSk) _ (some (some 20, (.move (.tmp 18)), 3, none)) by kernel_rfl) trivial F (by decide) (v := .int .i64 0) (x_move (F.slot rfl)) (fun _ => trivial) (fun a F => ?_)
    refine sq2 (W' := W) (show Eq (α := OSk) _ (some (some 5, (.assign (.tmp 20)), 3, none)) by kernel_rfl) trivial F (by decide) (v := .int .i64 0) (x_assign (F.slot rfl)) (fun _ => trivial) (fun a F => ?_)
    unfold wpSeq
    refine t_normal ?_
    refine c_seq (by kernel_rfl) ?_
    refine c_text (id := 5) (by kernel_rfl) [(0, 2), (1, 2), (2, 2), (3, 2), (4, 2), (5, 2), (6, 2), (7, 2), (8, 2)] (by kernel_rfl) ?_
    refine sq2 (W' := W) (show Eq (α := OSk) _ (some (some 22, (.move (.tmp 0)), 9, none)) by kernel_rfl) trivial F (by decide) (v := .string s) (x_move (F.slot rfl)) (fun _ => trivial) (fun a F => ?_)
    obtain ⟨a1, k1, z1, hG⟩ : ∃ a k z, gi s 9 0 0 = (a, k, z) := ⟨_, _, _, rfl⟩
    refine sqc (show Eq (α := OSk) _ (some (some 23, (.call { callee := (.value (.func 60)), args := #[(.tmp 22)], argTypes := #[9] }), 88, none)) by kernel_rfl) trivial F (by decide) (x_call Tryd.func60 (by kernel_rfl) rfl (args_1 (F.slot rfl))) (wire_GetInt.calls s a1 k1 z1 W (congrArg some hG)) ?_
    rintro e W ⟨rfl, hd⟩
    refine ⟨_, rfl, fun a F => ?_⟩
    have H := H.below (drawn_below hd)
    refine ⟨(fun _ => trivial), ?_⟩
    refine sq2 (W' := W) (show Eq (α := OSk) _ (some (some 21, (.move (.tmp 23)), 88, none)) by kernel_rfl) trivial F (by decide) (v := .tuple #[.int .i64 a1, .int .i64 k1, .int .i64 z1]) (x_move (F.slot rfl)) (fun _ => trivial) (fun a F => ?_)
    refine sq2 (W' := W) (show Eq (α := OSk) _ (some (some 24, (.extract (.tmp 21) 0), 2, none)) by kernel_rfl) trivial F (by decide) (v := .int .i64 a1) (x_extract (F.slot rfl) rfl) (fun _ => trivial) (fun a F => ?_)
    refine sq2 (W' := W) (show Eq (α := OSk) _ (some (some 25, (.extract (.tmp 21) 1), 3, none)) by kernel_rfl) trivial F (by decide) (v := .int .i64 k1) (x_extract (F.slot rfl) rfl) (fun _ => trivial) (fun a F => ?_)
    refine sq2 (W' := W) (show Eq (α := OSk) _ (some (some 26, (.extract (.tmp 21) 2), 24, none)) by kernel_rfl) trivial F (by decide) (v := .int .i64 z1) (x_extract (F.slot rfl) rfl) (fun _ => trivial) (fun a F => ?_)
    refine sq2 (W' := W) (show Eq (α := OSk) _ (some (some 6, (.assign (.tmp 24)), 2, none)) by kernel_rfl) trivial F (by decide) (v := .int .i64 a1) (x_assign (F.slot rfl)) (fun _ => trivial) (fun a F => ?_)
    refine sq2 (W' := W) (show Eq (α := OSk) _ (some (some 7, (.assign (.tmp 25)), 3, none)) by kernel_rfl) trivial F (by decide) (v := .int .i64 k1) (x_assign (F.slot rfl)) (fun _ => trivial) (fun a F => ?_)
    refine sq2 (W' := W) (show Eq (α := OSk) _ (some (some 8, (.assign (.tmp 26)), 24, none)) by kernel_rfl) trivial F (by decide) (v := .int .i64 z1) (x_assign (F.slot rfl)) (fun _ => trivial) (fun a F => ?_)
    unfold wpSeq
    refine t_normal ?_
    refine c_seq (by kernel_rfl) ?_
    refine c_seq (by kernel_rfl) ?_
    refine c_text (id := 6) (by kernel_rfl) [(0, 2), (1, 2)] (by kernel_rfl) ?_
    refine sq2 (W' := W) (show Eq (α := OSk) _ (some (some 27, (.move (.tmp 8)), 24, none)) by kernel_rfl) trivial F (by decide) (v := .int .i64 z1) (x_move (F.slot rfl)) (fun _ => trivial) (fun a F => ?_)
    refine sq2 (W' := W) (show Eq (α := OSk) _ (some (some 28, (.binOp .neq 24 (.tmp 27) (.const (.int .i64 0)) 24), 4, none)) by kernel_rfl) trivial F (by decide) (v := .bool (z1 != (0 : Int))) (x_int (F.slot rfl) rfl rfl) (fun _ => trivial) (fun a F => ?_)
    unfold wpSeq
    refine t_normal ?_
    rcases bool_or (z1 != (0 : Int)) with hb3 | hb3
    · have F := F.at 28 rfl (v' := .bool true) (congrArg Value.bool hb3)
      refine c_yes (c := .tmp 28) (by kernel_rfl) (F.slot rfl) ?_
      refine c_seq (by kernel_rfl) ?_
      refine c_text (id := 7) (by kernel_rfl) [(0, 2), (1, 2), (2, 2), (3, 2)] (by kernel_rfl) ?_
      refine sq2 (W' := W) (show Eq (α := OSk) _ (some (some 29, (.build 40 #[]), 40, none)) by kernel_rfl) trivial F (by decide) (v := .agg #[.int .i64 0, .int .i64 0, .slice none 0 0]) (by simp [ex, execOp, Instr.build, Tryd.zeroValue40, run_underlying Tryd.underlying40, Instr.fill, Value.cells, Tryd.sizeOf3, Tryd.sizeOf38]) (fun _ => trivial) (fun a F => ?_)
      refine sq2 (W' := W) (show Eq (α := OSk) _ (some (some 30, (.move (.tmp 8)), 24, none)) by kernel_rfl) trivial F (by decide) (v := .int .i64 z1) (x_move (F.slot rfl)) (fun _ => trivial) (fun a F => ?_)
      refine sq_put (M := [Asn.blk g1 [.int .i64 0, .int .i64 0, .slice none 0 0] 40, Asn.blk g2 [.int .i64 x, .int .i64 0] 87]) (show Eq (α := OSk) _ (some (none, (.store 40 (.tmp 2) (.tmp 29)), 0, none)) by kernel_rfl) trivial F (x_store H (k := 0) (cs' := [.int .i64 0, .int .i64 0, .slice none 0 0]) rfl (Tryd.sizeOf40 W) (F.slot rfl) (F.slot rfl) rfl (Nat.le_of_ble_eq_true rfl) rfl rfl) ?_
      intro W H
      refine ⟨(fun _ => trivial), ?_⟩
      refine sq2 (W' := W) (show Eq (α := OSk) _ (some (some 3, (.assign (.tmp 30)), 24, none)) by kernel_rfl) trivial F (by decide) (v := .int .i64 z1) (x_assign (F.slot rfl)) (fun _ => trivial) (fun a F => ?_)
      unfold wpSeq
      refine t_normal ?_
      refine c_ret (by kernel_rfl) ?_
      refine t_ret ?_
      refine b_ret ?_
      refine t_ret ?_
      refine t_ret ?_
      refine b_ret ?_
      refine t_ret ?_
      refine p_list (rs := [.cell 2 40, .tmp 3]) (vs := [.agg #[.int .i64 0, .int .i64 0, .slice none 0 0], .int .i64 z1]) Tryd.results28 (by simp) F (Vals.cell' F rfl (H.blk 0 rfl) Tryd.underlying40 rfl (by kernel_rfl) (Vals.tmp' F rfl .nil)) ?_
      have hz : z1 ≠ 0 := by simpa using hb3
      have HF : bdec s0 = bnil z1 := by have := HF.trans (if_neg (by rw [hG]; exact hz)); rw [hG] at this; exact this
      rw [HF]
      exact ⟨none, 0, rfl, Nat.le_refl _, fun _ _ => Kd.C_nil _ _, H.ends⟩
    · have F := F.at 28 rfl (v' := .bool false) (congrArg Value.bool hb3)
      refine c_no (c := .tmp 28) (by kernel_rfl) (F.slot rfl) ?_
      refine c_skip (by kernel_rfl) ?_
      refine t_normal ?_
      obtain rfl : z1 = 0 := by simpa using hb3
      have HF : bdec s0 = bdec1 a1 (rest s k1) := by have := HF.trans (if_pos (by rw [hG])); rw [hG] at this; exact this
      have hg := gi_ok s 9 0 0 (by omega) (by rw [hG])
      rw [hG] at hg; dsimp only at hg
      refine c_drawn (id := 8) (by kernel_rfl) (by kernel_rfl) (Vs []) [0, 0, 0, 0, 12, 3, 35, 127] [] [(0, 0), (1, 0), (2, 0), (3, 0), (4, 0), (5, 0), (6, 2), (7, 0)] (by kernel_rfl) (fun _ _ d _ _ h => by cases d <;> exact h) (trivial) ?_
      have H := H.drew
      generalize World.drew W = W at H ⊢
      refine sq0 (show Eq (α := OSk) _ (some (some 31, (.move (.tmp 5)), 3, none)) by kernel_rfl) trivial F (by decide) (v := .int .i64 0) (fun W_ => x_move (F.slot rfl)) (fun a F => ?_)
      refine sq0 (show Eq (α := OSk) _ (some (some 32, (.move (.tmp 6)), 2, none)) by kernel_rfl) trivial F (by decide) (v := .int .i64 a1) (fun W_ => x_move (F.slot rfl)) (fun a F => ?_)
      refine sq0 (show Eq (α := OSk) _ (some (some 33, (.move (.tmp 0)), 9, none)) by kernel_rfl) trivial F (by decide) (v := .string s) (fun W_ => x_move (F.slot rfl)) (fun a F => ?_)
      refine sq0 (show Eq (α := OSk) _ (some (some 34, (.move (.tmp 7)), 3, none)) by kernel_rfl) trivial F (by decide) (v := .int .i64 k1) (fun W_ => x_move (F.slot rfl)) (fun a F => ?_)
      refine sq0 (show Eq (α := OSk) _ (some (some 35, (.slice 9 (.tmp 33) (some (.tmp 34)) none none), 9, none)) by kernel_rfl) trivial F (by decide) (v := .string (rest s k1)) (fun W_ => x_sliceS Tryd.underlying9 (F.slot rfl) (F.slot rfl) (by omega) (by omega)) (fun a F => ?_)
      refine sq0 (show Eq (α := OSk) _ (some (some 36, (.indexAddr 87 (.tmp 4) (.tmp 31)), 0, none)) by kernel_rfl) trivial F (by decide) (v := .pointer (some ⟨g2, 0, none⟩)) (fun W_ => (x_indexAr Tryd.underlying87 (Tryd.sizeOf2 W_) (F.slot rfl) (F.slot rfl) (by decide) (by decide)).trans (by rw [addo]; rfl)) (fun a F => ?_)
      refine sq_put (M := [Asn.blk g1 [.int .i64 0, .int .i64 0, .slice none 0 0] 40, Asn.blk g2 [.int .i64 a1, .int .i64 0] 87]) (show Eq (α := OSk) _ (some (none, (.store 2 (.tmp 36) (.tmp 32)), 0, none)) by kernel_rfl) trivial F (x_store H (k := 1) (cs' := [.int .i64 a1, .int .i64 0]) rfl (Tryd.sizeOf2 W) (F.slot rfl) (F.slot rfl) rfl (Nat.le_of_ble_eq_true rfl) rfl rfl) ?_
      intro W H
      refine ⟨(fun _ => trivial), ?_⟩
      refine sq0 (show Eq (α := OSk) _ (some (some 0, (.assign (.tmp 35)), 9, none)) by kernel_rfl) trivial F (by decide) (v := .string (rest s k1)) (fun W_ => x_assign (F.slot rfl)) (fun a F => ?_)
      unfold wpSeq
      refine b_normal ?_
      refine t_normal ?_
      refine c_text (id := 9) (by kernel_rfl) [(0, 2), (1, 2)] (by kernel_rfl) ?_
      refine sq2 (W' := W) (show Eq (α := OSk) _ (some (some 37, (.binOp .add 3 (.tmp 18) (.const (.int .i64 1)) 3), 3, none)) by kernel_rfl) trivial F (by decide) (v := .int .i64 1) (x_int (F.slot rfl) rfl rfl) (fun _ => trivial) (fun a F => ?_)
      refine sq2 (W' := W) (show Eq (α := OSk) _ (some (some 18, (.move (.tmp 37)), 3, none)) by kernel_rfl) trivial F (by decide) (v := .int .i64 1) (x_move (F.slot rfl)) (fun _ => trivial) (fun a F => ?_)
      unfold wpSeq
      refine t_normal ?_
      have F_ := F
      exact ⟨k - 1, by omega, (1 : Int), a1, 0, (rest s k1), F.less _ (subc rfl (subc rfl (subc rfl (subc rfl sub0)))), H, (by have := rest_size s k1; omega), by omega, .inr (.inl ⟨rfl, rfl, HF⟩)⟩
  · refine c_text (id := 3) (by kernel_rfl) [(0, 2)] (by kernel_rfl) ?_
    refine sq2 (W' := W) (show Eq (α := OSk) _ (some (some 19, (.binOp .lss 3 (.tmp 18) (.const (.int .i64 2)) 3), 0, none)) by kernel_rfl) trivial F (by decide) (v := .bool true) (x_int (F.slot rfl) rfl rfl) (fun _ => trivial) (fun a F => ?_)
    unfold wpSeq
    have H : St w (fun _ => False) (fun _ => False) [Asn.blk g1 [.int .i64 0, .int .i64 0, .slice none 0 0] 40, Asn.blk g2 [.int .i64 x, .int .i64 0] 87] W := H
    refine t_normal ?_
    refine c_seq (by kernel_rfl) ?_
    refine c_yes (c := .tmp 19) (by kernel_rfl) (F.slot rfl) ?_
    refine c_skip (by kernel_rfl) ?_
    refine t_normal ?_
    refine c_seq (by kernel_rfl) ?_
    refine c_block (id := 1) (by kernel_rfl) ?_
    refine c_seq (by kernel_rfl) ?_
    refine c_text (id := 4) (by kernel_rfl) [(0, 2), (1, 2)] (by kernel_rfl) ?_
    refine sq2 (W' := W) (show Eq (α := OSk) _ (some (some 20, (.move (.tmp 18)), 3, none)) by kernel_rfl) trivial F (by decide) (v := .int .i64 1) (x_move (F.slot rfl)) (fun _ => trivial) (fun a F => ?_)
    refine sq2 (W' := W) (show Eq (α := OSk) _ (some (some 5, (.assign (.tmp 20)), 3, none)) by kernel_rfl) trivial F (by decide) (v := .int .i64 1) (x_assign (F.slot rfl)) (fun _ => trivial) (fun a F => ?_)
    unfold wpSeq
    refine t_normal ?_
    refine c_seq (by kernel_rfl) ?_
    refine c_text (id := 5) (by kernel_rfl) [(0, 2), (1, 2), (2, 2), (3, 2), (4, 2), (5, 2), (6, 2), (7, 2), (8, 2)] (by kernel_rfl) ?_
    refine sq2 (W' := W) (show Eq (α := OSk) _ (some (some 22, (.move (.tmp 0)), 9, none)) by kernel_rfl) trivial F (by decide) (v := .string s) (x_move (F.slot rfl)) (fun _ => trivial) (fun a F => ?_)
    obtain ⟨a1, k1, z1, hG⟩ : ∃ a k z, gi s 9 0 0 = (a, k, z) := ⟨_, _, _, rfl⟩
    refine sqc (show Eq (α := OSk) _ (some (some 23, (.call { callee := (.value (.func 60)), args := #[(.tmp 22)], argTypes := #[9] }), 88, none)) by kernel_rfl) trivial F (by decide) (x_call Tryd.func60 (by kernel_rfl) rfl (args_1 (F.slot rfl))) (wire_GetInt.calls s a1 k1 z1 W (congrArg some hG)) ?_
    rintro e W ⟨rfl, hd⟩
    refine ⟨_, rfl, fun a F => ?_⟩
    have H := H.below (drawn_below hd)
    refine ⟨(fun _ => trivial), ?_⟩
    refine sq2 (W' := W) (show Eq (α := OSk) _ (some (some 21, (.move (.tmp 23)), 88, none)) by kernel_rfl) trivial F (by decide) (v := .tuple #[.int .i64 a1, .int .i64 k1, .int .i64 z1]) (x_move (F.slot rfl)) (fun _ => trivial) (fun a F => ?_)
    refine sq2 (W' := W) (show Eq (α := OSk) _ (some (some 24, (.extract (.tmp 21) 0), 2, none)) by kernel_rfl) trivial F (by decide) (v := .int .i64 a1) (x_extract (F.slot rfl) rfl) (fun _ => trivial) (fun a F => ?_)
    refine sq2 (W' := W) (show Eq (α := OSk) _ (some (some 25, (.extract (.tmp 21) 1), 3, none)) by kernel_rfl) trivial F (by decide) (v := .int .i64 k1) (x_extract (F.slot rfl) rfl) (fun _ => trivial) (fun a F => ?_)
    refine sq2 (W' := W) (show Eq (α := OSk) _ (some (some 26, (.extract (.tmp 21) 2), 24, none)) by kernel_rfl) trivial F (by decide) (v := .int .i64 z1) (x_extract (F.slot rfl) rfl) (fun _ => trivial) (fun a F => ?_)
    refine sq2 (W' := W) (show Eq (α := OSk) _ (some (some 6, (.assign (.tmp 24)), 2, none)) by kernel_rfl) trivial F (by decide) (v := .int .i64 a1) (x_assign (F.slot rfl)) (fun _ => trivial) (fun a F => ?_)
    refine sq2 (W' := W) (show Eq (α := OSk) _ (some (some 7, (.assign (.tmp 25)), 3, none)) by kernel_rfl) trivial F (by decide) (v := .int .i64 k1) (x_assign (F.slot rfl)) (fun _ => trivial) (fun a F => ?_)
    refine sq2 (W' := W) (show Eq (α := OSk) _ (some (some 8, (.assign (.tmp 26)), 24, none)) by kernel_rfl) trivial F (by decide) (v := .int .i64 z1) (x_assign (F.slot rfl)) (fun _ => trivial) (fun a F => ?_)
    unfold wpSeq
    refine t_normal ?_
    refine c_seq (by kernel_rfl) ?_
    refine c_seq (by kernel_rfl) ?_
    refine c_text (id := 6) (by kernel_rfl) [(0, 2), (1, 2)] (by kernel_rfl) ?_
    refine sq2 (W' := W) (show Eq (α := OSk) _ (some (some 27, (.move (.tmp 8)), 24, none)) by kernel_rfl) trivial F (by decide) (v := .int .i64 z1) (x_move (F.slot rfl)) (fun _ => trivial) (fun a F => ?_)
    refine sq2 (W' := W) (show Eq (α := OSk) _ (some (some 28, (.binOp .neq 24 (.tmp 27) (.const (.int .i64 0)) 24), 4, none)) by kernel_rfl) trivial F (by decide) (v := .bool (z1 != (0 : Int))) (x_int (F.slot rfl) rfl rfl) (fun _ => trivial) (fun a F => ?_)
    unfold wpSeq
    refine t_normal ?_
    rcases bool_or (z1 != (0 : Int)) with hb5 | hb5
    · have F := F.at 28 rfl (v' := .bool true) (congrArg Value.bool hb5)
      refine c_yes (c := .tmp 28) (by kernel_rfl) (F.slot rfl) ?_
      refine c_seq (by kernel_rfl) ?_
      refine c_text (id := 7) (by kernel_rfl) [(0, 2), (1, 2), (2, 2), (3, 2)] (by kernel_rfl) ?_
      refine sq2 (W' := W) (show Eq (α := OSk) _ (some (some 29, (.build 40 #[]), 40, none)) by kernel_rfl) trivial F (by decide) (v := .agg #[.int .i64 0, .int .i64 0, .slice none 0 0]) (by simp [ex, execOp, Instr.build, Tryd.zeroValue40, run_underlying Tryd.underlying40, Instr.fill, Value.cells, Tryd.sizeOf3, Tryd.sizeOf38]) (fun _ => trivial) (fun a F => ?_)
      refine sq2 (W' := W) (show Eq (α := OSk) _ (some (some 30, (.move (.tmp 8)), 24, none)) by kernel_rfl) trivial F (by decide) (v := .int .i64 z1) (x_move (F.slot rfl)) (fun _ => trivial) (fun a F => ?_)
      refine sq_put (M := [Asn.blk g1 [.int .i64 0, .int .i64 0, .slice none 0 0] 40, Asn.blk g2 [.int .i64 x, .int .i64 0] 87]) (show Eq (α := OSk) _ (some (none, (.store 40 (.tmp 2) (.tmp 29)), 0, none)) by kernel_rfl) trivial F (x_store H (k := 0) (cs' := [.int .i64 0, .int .i64 0, .slice none 0 0]) rfl (Tryd.sizeOf40 W) (F.slot rfl) (F.slot rfl) rfl (Nat.le_of_ble_eq_true rfl) rfl rfl) ?_
      intro W H
      refine ⟨(fun _ => trivial), ?_⟩
      refine sq2 (W' := W) (show Eq (α := OSk) _ (some (some 3, (.assign (.tmp 30)), 24, none)) by kernel_rfl) trivial F (by decide) (v := .int .i64 z1) (x_assign (F.slot rfl)) (fun _ => trivial) (fun a F => ?_)
      unfold wpSeq
      refine t_normal ?_
      refine c_ret (by kernel_rfl) ?_
      refine t_ret ?_
      refine b_ret ?_
      refine t_ret ?_
      refine t_ret ?_
      refine b_ret ?_
      refine t_ret ?_
      refine p_list (rs := [.cell 2 40, .tmp 3]) (vs := [.agg #[.int .i64 0, .int .i64 0, .slice none 0 0], .int .i64 z1]) Tryd.results28 (by simp) F (Vals.cell' F rfl (H.blk 0 rfl) Tryd.underlying40 rfl (by kernel_rfl) (Vals.tmp' F rfl .nil)) ?_
      have hz : z1 ≠ 0 := by simpa using hb5
      have HF : bdec s0 = bnil z1 := by have := HF.trans (if_neg (by rw [hG]; exact hz)); rw [hG] at this; exact this
      rw [HF]
      exact ⟨none, 0, rfl, Nat.le_refl _, fun _ _ => Kd.C_nil _ _, H.ends⟩
    · have F := F.at 28 rfl (v' := .bool false) (congrArg Value.bool hb5)
      refine c_no (c := .tmp 28) (by kernel_rfl) (F.slot rfl) ?_
      refine c_skip (by kernel_rfl) ?_
      refine t_normal ?_
      obtain rfl : z1 = 0 := by simpa using hb5
      have HF : bdec s0 = bdec2 x a1 (rest s k1) := by have := HF.trans (if_pos (by rw [hG])); rw [hG] at this; exact this
      have hg := gi_ok s 9 0 0 (by omega) (by rw [hG])
      rw [hG] at hg; dsimp only at hg
      refine c_drawn (id := 8) (by kernel_rfl) (by kernel_rfl) (Vs []) [0, 0, 0, 0, 12, 3, 35, 127] [] [(0, 0), (1, 0), (2, 0), (3, 0), (4, 0), (5, 0), (6, 2), (7, 0)] (by kernel_rfl) (fun _ _ d _ _ h => by cases d <;> exact h) (trivial) ?_
      have H := H.drew
      generalize World.drew W = W at H ⊢
      refine sq0 (show Eq (α := OSk) _ (some (some 31, (.move (.tmp 5)), 3, none)) by kernel_rfl) trivial F (by decide) (v := .int .i64 1) (fun W_ => x_move (F.slot rfl)) (fun a F => ?_)
      refine sq0 (show Eq (α := OSk) _ (some (some 32, (.move (.tmp 6)), 2, none)) by kernel_rfl) trivial F (by decide) (v := .int .i64 a1) (fun W_ => x_move (F.slot rfl)) (fun a F => ?_)
      refine sq0 (show Eq (α := OSk) _ (some (some 33, (.move (.tmp 0)), 9, none)) by kernel_rfl) trivial F (by decide) (v := .string s) (fun W_ => x_move (F.slot rfl)) (fun a F => ?_)
      refine sq0 (show Eq (α := OSk) _ (some (some 34, (.move (.tmp 7)), 3, none)) by kernel_rfl) trivial F (by decide) (v := .int .i64 k1) (fun W_ => x_move (F.slot rfl)) (fun a F => ?_)
      refine sq0 (show Eq (α := OSk) _ (some (some 35, (.slice 9 (.tmp 33) (some (.tmp 34)) none none), 9, none)) by kernel_rfl) trivial F (by decide) (v := .string (rest s k1)) (fun W_ => x_sliceS Tryd.underlying9 (F.slot rfl) (F.slot rfl) (by omega) (by omega)) (fun a F => ?_)
      refine sq0 (show Eq (α := OSk) _ (some (some 36, (.indexAddr 87 (.tmp 4) (.tmp 31)), 0, none)) by kernel_rfl) trivial F (by decide) (v := .pointer (some ⟨g2, 1, none⟩)) (fun W_ => (x_indexAr Tryd.underlying87 (Tryd.sizeOf2 W_) (F.slot rfl) (F.slot rfl) (by decide) (by decide)).trans (by rw [addo]; rfl)) (fun a F => ?_)
      refine sq_put (M := [Asn.blk g1 [.int .i64 0, .int .i64 0, .slice none 0 0] 40, Asn.blk g2 [.int .i64 x, .int .i64 a1] 87]) (show Eq (α := OSk) _ (some (none, (.store 2 (.tmp 36) (.tmp 32)), 0, none)) by kernel_rfl) trivial F (x_store H (k := 1) (cs' := [.int .i64 x, .int .i64 a1]) rfl (Tryd.sizeOf2 W) (F.slot rfl) (F.slot rfl) rfl (Nat.le_of_ble_eq_true rfl) rfl rfl) ?_
      intro W H
      refine ⟨(fun _ => trivial), ?_⟩
      refine sq0 (show Eq (α := OSk) _ (some (some 0, (.assign (.tmp 35)), 9, none)) by kernel_rfl) trivial F (by decide) (v := .string (rest s k1)) (fun W_ => x_assign (F.slot rfl)) (fun a F => ?_)
      unfold wpSeq
      refine b_normal ?_
      refine t_normal ?_
      refine c_text (id := 9) (by kernel_rfl) [(0, 2), (1, 2)] (by kernel_rfl) ?_
      refine sq2 (W' := W) (show Eq (α := OSk) _ (some (some 37, (.binOp .add 3 (.tmp 18) (.const (.int .i64 1)) 3), 3, none)) by kernel_rfl) trivial F (by decide) (v := .int .i64 2) (x_int (F.slot rfl) rfl rfl) (fun _ => trivial) (fun a F => ?_)
      refine sq2 (W' := W) (show Eq (α := OSk) _ (some (some 18, (.move (.tmp 37)), 3, none)) by kernel_rfl) trivial F (by decide) (v := .int .i64 2) (x_move (F.slot rfl)) (fun _ => trivial) (fun a F => ?_)
      unfold wpSeq
      refine t_normal ?_
      have F_ := F
      exact ⟨k - 1, by omega, (2 : Int), x, a1, (rest s k1), F.less _ (subc rfl (subc rfl (subc rfl (subc rfl sub0)))), H, (by have := rest_size s k1; omega), by omega, .inr (.inr ⟨rfl, HF⟩)⟩
  · refine c_text (id := 3) (by kernel_rfl) [(0, 2)] (by kernel_rfl) ?_
    refine sq2 (W' := W) (show Eq (α := OSk) _ (some (some 19, (.binOp .lss 3 (.tmp 18) (.const (.int .i64 2)) 3), 0, none)) by kernel_rfl) trivial F (by decide) (v := .bool false) (x_int (F.slot rfl) rfl rfl) (fun _ => trivial) (fun a F => ?_)
    unfold wpSeq
    have H : St w (fun _ => False) (fun _ => False) [Asn.blk g1 [.int .i64 0, .int .i64 0, .slice none 0 0] 40, Asn.blk g2 [.int .i64 x, .int .i64 y] 87] W := H
    refine t_normal ?_
    refine c_seq (by kernel_rfl) ?_
    refine c_no (c := .tmp 19) (by kernel_rfl) (F.slot rfl) ?_
    refine c_exit (id := 0) (by kernel_rfl) ?_
    refine t_exit ?_
    refine t_exit ?_
    refine b_here ?_
    refine t_normal ?_
    refine c_seq (by kernel_rfl) ?_
    refine c_text (id := 10) (by kernel_rfl) [(0, 2), (1, 2), (2, 2), (3, 2), (4, 2), (5, 2), (6, 2), (7, 2), (8, 2)] (by kernel_rfl) ?_
    refine sq2 (W' := W) (show Eq (α := OSk) _ (some (some 39, (.move (.tmp 0)), 9, none)) by kernel_rfl) trivial F (by decide) (v := .string s) (x_move (F.slot rfl)) (fun _ => trivial) (fun a F => ?_)
    obtain ⟨l, k1, z1, hG⟩ : ∃ l k z, gl s 16 = (l, k, z) := ⟨_, _, _, rfl⟩
    refine sqc (show Eq (α := OSk) _ (some (some 40, (.call { callee := (.value (.func 61)), args := #[(.tmp 39), (.const (.int .i64 16))], argTypes := #[9, 3] }), 90, none)) by kernel_rfl) trivial F (by decide) (x_call Tryd.func61 (by kernel_rfl) rfl (args_2 (F.slot rfl) rfl)) (PWi.wire_GetList.calls 17 s 16 l k1 z1 W ((wire_list s HS 16 (by omega) 17 (by omega)).trans (congrArg some hG))) ?_
    rintro e W ⟨v9, rfl, hR, hd⟩
    refine ⟨_, rfl, fun a F => ?_⟩
    obtain ⟨A, c, rfl, hc9, hC⟩ := Kd.R_reads hR
    have H := H.freshF hd _ _ (Kd.R_F (Kd.R_bound hR)) (fun k hk => hk.2.1)
    have H : St w (fun _ => False) (fun _ => False) [Asn.blk g1 [.int .i64 0, .int .i64 0, .slice none 0 0] 40, Asn.blk g2 [.int .i64 x, .int .i64 y] 87, Asn.rd Kd.string _ A l.length l] W := H
    refine ⟨(fun _ => trivial), ?_⟩
    refine sq2 (W' := W) (show Eq (α := OSk) _ (some (some 38, (.move (.tmp 40)), 90, none)) by kernel_rfl) trivial F (by decide) (v := .tuple #[.slice A l.length c, .int .i64 k1, .int .i64 z1]) (x_move (F.slot rfl)) (fun _ => trivial) (fun a F => ?_)
    refine sq2 (W' := W) (show Eq (α := OSk) _ (some (some 41, (.extract (.tmp 38) 0), 31, none)) by kernel_rfl) trivial F (by decide) (v := .slice A l.length c) (x_extract (F.slot rfl) rfl) (fun _ => trivial) (fun a F => ?_)
    refine sq2 (W' := W) (show Eq (α := OSk) _ (some (some 42, (.extract (.tmp 38) 1), 3, none)) by kernel_rfl) trivial F (by decide) (v := .int .i64 k1) (x_extract (F.slot rfl) rfl) (fun _ => trivial) (fun a F => ?_)
    refine sq2 (W' := W) (show Eq (α := OSk) _ (some (some 43, (.extract (.tmp 38) 2), 24, none)) by kernel_rfl) trivial F (by decide) (v := .int .i64 z1) (x_extract (F.slot rfl) rfl) (fun _ => trivial) (fun a F => ?_)
    refine sq2 (W' := W) (show Eq (α := OSk) _ (some (some 9, (.assign (.tmp 41)), 31, none)) by kernel_rfl) trivial F (by decide) (v := .slice A l.length c) (x_assign (F.slot rfl)) (fun _ => trivial) (fun a F => ?_)
    refine sq2 (W' := W) (show Eq (α := OSk) _ (some (some 10, (.assign (.tmp 42)), 3, none)) by kernel_rfl) trivial F (by decide) (v := .int .i64 k1) (x_assign (F.slot rfl)) (fun _ => trivial) (fun a F => ?_)
    refine sq2 (W' := W) (show Eq (α := OSk) _ (some (some 11, (.assign (.tmp 43)), 24, none)) by kernel_rfl) trivial F (by decide) (v := .int .i64 z1) (x_assign (F.slot rfl)) (fun _ => trivial) (fun a F => ?_)
    unfold wpSeq
    refine t_normal ?_
    refine c_seq (by kernel_rfl) ?_
    refine c_seq (by kernel_rfl) ?_
    refine c_text (id := 11) (by kernel_rfl) [(0, 2), (1, 2)] (by kernel_rfl) ?_
    refine sq2 (W' := W) (show Eq (α := OSk) _ (some (some 44, (.move (.tmp 11)), 24, none)) by kernel_rfl) trivial F (by decide) (v := .int .i64 z1) (x_move (F.slot rfl)) (fun _ => trivial) (fun a F => ?_)
    refine sq2 (W' := W) (show Eq (α := OSk) _ (some (some 45, (.binOp .neq 24 (.tmp 44) (.const (.int .i64 0)) 24), 4, none)) by kernel_rfl) trivial F (by decide) (v := .bool (z1 != (0 : Int))) (x_int (F.slot rfl) rfl rfl) (fun _ => trivial) (fun a F => ?_)
    unfold wpSeq
    refine t_normal ?_
    rcases bool_or (z1 != (0 : Int)) with hb7 | hb7
    · have F := F.at 45 rfl (v' := .bool true) (congrArg Value.bool hb7)
      refine c_yes (c := .tmp 45) (by kernel_rfl) (F.slot rfl) ?_
      refine c_seq (by kernel_rfl) ?_
      refine c_text (id := 12) (by kernel_rfl) [(0, 2), (1, 2), (2, 2), (3, 2)] (by kernel_rfl) ?_
      refine sq2 (W' := W) (show Eq (α := OSk) _ (some (some 46, (.build 40 #[]), 40, none)) by kernel_rfl) trivial F (by decide) (v := .agg #[.int .i64 0, .int .i64 0, .slice none 0 0]) (by simp [ex, execOp, Instr.build, Tryd.zeroValue40, run_underlying Tryd.underlying40, Instr.fill, Value.cells, Tryd.sizeOf3, Tryd.sizeOf38]) (fun _ => trivial) (fun a F => ?_)
      refine sq2 (W' := W) (show Eq (α := OSk) _ (some (some 47, (.move (.tmp 11)), 24, none)) by kernel_rfl) trivial F (by decide) (v := .int .i64 z1) (x_move (F.slot rfl)) (fun _ => trivial) (fun a F => ?_)
      refine sq_put (M := [Asn.blk g1 [.int .i64 0, .int .i64 0, .slice none 0 0] 40, Asn.blk g2 [.int .i64 x, .int .i64 y] 87, Asn.rd Kd.string _ A l.length l]) (show Eq (α := OSk) _ (some (none, (.store 40 (.tmp 2) (.tmp 46)), 0, none)) by kernel_rfl) trivial F (x_store H (k := 0) (cs' := [.int .i64 0, .int .i64 0, .slice none 0 0]) rfl (Tryd.sizeOf40 W) (F.slot rfl) (F.slot rfl) rfl (Nat.le_of_ble_eq_true rfl) rfl rfl) ?_
      intro W H
      refine ⟨(fun _ => trivial), ?_⟩
      refine sq2 (W' := W) (show Eq (α := OSk) _ (some (some 3, (.assign (.tmp 47)), 24, none)) by kernel_rfl) trivial F (by decide) (v := .int .i64 z1) (x_assign (F.slot rfl)) (fun _ => trivial) (fun a F => ?_)
      unfold wpSeq
      refine t_normal ?_
      refine c_ret (by kernel_rfl) ?_
      refine t_ret ?_
      refine p_list (rs := [.cell 2 40, .tmp 3]) (vs := [.agg #[.int .i64 0, .int .i64 0, .slice none 0 0], .int .i64 z1]) Tryd.results28 (by simp) F (Vals.cell' F rfl (H.blk 0 rfl) Tryd.underlying40 rfl (by kernel_rfl) (Vals.tmp' F rfl .nil)) ?_
      have hz : z1 ≠ 0 := by simpa using hb7
      have HF : bdec s0 = bnil z1 := by have := HF.trans (if_neg (by rw [hG]; exact hz)); rw [hG] at this; exact this
      rw [HF]
      exact ⟨none, 0, rfl, Nat.le_refl _, fun _ _ => Kd.C_nil _ _, H.ends⟩
    · have F := F.at 45 rfl (v' := .bool false) (congrArg Value.bool hb7)
      refine c_no (c := .tmp 45) (by kernel_rfl) (F.slot rfl) ?_
      refine c_skip (by kernel_rfl) ?_
      refine t_normal ?_
      refine c_seq (by kernel_rfl) ?_
      obtain rfl : z1 = 0 := by simpa using hb7
      have hg := gl_ok s 16 (by rw [hG])
      have HF : bdec s0 = bfin x y s k1 (dall l) := by have := HF.trans (if_pos (by rw [hG])); rw [hG] at this; exact this
      have HL0 : ∀ x ∈ l, x.size < 4611686018427387904 := by
        intro x hx
        have h1 := bgl_size s 16 x (by rw [hG]; exact hx)
        omega
      rw [hG] at hg; dsimp only at hg
      refine c_text (id := 13) (by kernel_rfl) [(0, 2), (1, 2), (2, 2), (3, 2), (4, 2), (5, 2), (6, 2)] (by kernel_rfl) ?_
      refine sq2 (W' := W) (show Eq (α := OSk) _ (some (some 48, (.indexAddr 87 (.tmp 4) (.const (.int .i64 0))), 0, none)) by kernel_rfl) trivial F (by decide) (v := .pointer (some ⟨g2, 0, none⟩)) ((x_indexAr Tryd.underlying87 (Tryd.sizeOf2 W) (F.slot rfl) rfl (by decide) (by decide)).trans (by rw [addo]; rfl)) (fun _ => trivial) (fun a F => ?_)
      refine sq2 (show Eq (α := OSk) _ (some (some 49, (.load 2 (.tmp 48)), 2, none)) by kernel_rfl) trivial F (by decide) (v := .int .i64 x) (x_load1 (Tryd.isAgg2 W) (F.slot rfl) (H.cell 1 rfl rfl)) (fun _ => trivial) (fun a F => ?_)
      refine sq2 (W' := W) (show Eq (α := OSk) _ (some (some 50, (.indexAddr 87 (.tmp 4) (.const (.int .i64 1))), 0, none)) by kernel_rfl) trivial F (by decide) (v := .pointer (some ⟨g2, 1, none⟩)) ((x_indexAr Tryd.underlying87 (Tryd.sizeOf2 W) (F.slot rfl) rfl (by decide) (by decide)).trans (by rw [addo]; rfl)) (fun _ => trivial) (fun a F => ?_)
      refine sq2 (show Eq (α := OSk) _ (some (some 51, (.load 2 (.tmp 50)), 2, none)) by kernel_rfl) trivial F (by decide) (v := .int .i64 y) (x_load1 (Tryd.isAgg2 W) (F.slot rfl) (H.cell 1 rfl rfl)) (fun _ => trivial) (fun a F => ?_)
      refine sq2 (W' := W) (show Eq (α := OSk) _ (some (some 52, (.build 40 #[(0, (.tmp 49)), (1, (.tmp 51))]), 40, none)) by kernel_rfl) trivial F (by decide) (v := .agg #[.int .i64 x, .int .i64 y, .slice none 0 0]) (by simp [ex, execOp, Instr.build, Tryd.zeroValue40, run_underlying Tryd.underlying40, Instr.fill, Value.cells, F.slot (i := 49) rfl, F.slot (i := 51) rfl, Tryd.sizeOf3, Tryd.sizeOf38]) (fun _ => trivial) (fun a F => ?_)
      refine sq_new (show Eq (α := OSk) _ (some (some 12, (.alloc 40), 0, none)) by kernel_rfl) trivial F (by decide) H [.int .i64 0, .int .i64 0, .slice none 0 0] 40 (x_alloc Tryd.zeroValue40 rfl) ?_
      intro g8 W a hg8 H F
      refine ⟨(fun _ => trivial), ?_⟩
      refine sq_put (M := [Asn.blk g1 [.int .i64 0, .int .i64 0, .slice none 0 0] 40, Asn.blk g2 [.int .i64 x, .int .i64 y] 87, Asn.rd Kd.string _ A l.length l, Asn.blk g8 [.int .i64 x, .int .i64 y, .slice none 0 0] 40]) (show Eq (α := OSk) _ (some (none, (.store 40 (.tmp 12) (.tmp 52)), 0, none)) by kernel_rfl) trivial F (x_store H (k := 3) (cs' := [.int .i64 x, .int .i64 y, .slice none 0 0]) rfl (Tryd.sizeOf40 W) (F.slot rfl) (F.slot rfl) rfl (Nat.le_of_ble_eq_true rfl) rfl rfl) ?_
      intro W H
      refine ⟨(fun _ => trivial), ?_⟩
      unfold wpSeq
      refine t_normal ?_
      refine c_seq (by kernel_rfl) ?_
      refine c_seq (by kernel_rfl) ?_
      have H := H.quNil k33 33
      have H : St w (fun _ => False) (fun _ => False) [Asn.blk g1 [.int .i64 0, .int .i64 0, .slice none 0 0] 40, Asn.blk g2 [.int .i64 x, .int .i64 y] 87, Asn.rd Kd.string _ A l.length l, Asn.blk g8 [.int .i64 x, .int .i64 y, .slice none 0 0] 40, Asn.qu k33 33 (.slice none 0 0) ([] : List S33) (fun _ => False)] W := H
      refine c_text (id := 14) (by kernel_rfl) [(0, 2), (1, 2), (2, 2)] (by kernel_rfl) ?_
      refine sq2 (W' := W) (show Eq (α := OSk) _ (some (some 53, (.move (.tmp 9)), 31, none)) by kernel_rfl) trivial F (by decide) (v := .slice A l.length c) (x_move (F.slot rfl)) (fun _ => trivial) (fun a F => ?_)
      refine sq2 (W' := W) (show Eq (α := OSk) _ (some (some 54, (.call { callee := (.builtin .len), args := #[(.tmp 53)], argTypes := #[31] }), 3, none)) by kernel_rfl) trivial F (by decide) (v := .int .i64 (l.length : Int)) (x_lenL Tryd.underlying31 (F.slot rfl)) (fun _ => trivial) (fun a F => ?_)
      refine sq2 (W' := W) (show Eq (α := OSk) _ (some (some 55, (.move (.const (.int .i64 0))), 3, none)) by kernel_rfl) trivial F (by decide) (v := .int .i64 0) (x_move rfl) (fun _ => trivial) (fun a F => ?_)
      unfold wpSeq
      refine t_normal ?_
      refine c_block (id := 2) (by kernel_rfl) ?_
      refine c_loop (by kernel_rfl) (fun k a W => ∃ (j : Nat) (acc : List S33) (A1 : Option Addr) (c1 : Nat) (ok : Nat → Prop), Fr 93 [(2, .pointer (some ⟨g1, 0, none⟩)), (4, .pointer (some ⟨g2, 0, none⟩)), (0, .string s), (18, .int .i64 2), (19, .bool false), (39, .string s), (40, .tuple #[.slice A l.length c, .int .i64 k1, .int .i64 0]), (38, .tuple #[.slice A l.length c, .int .i64 k1, .int .i64 0]), (41, .slice A l.length c), (42, .int .i64 k1), (43, .int .i64 0), (9, .slice A l.length c), (10, .int .i64 k1), (11, .int .i64 0), (44, .int .i64 0), (45, .bool false), (48, .pointer (some ⟨g2, 0, none⟩)), (49, .int .i64 x), (50, .pointer (some ⟨g2, 1, none⟩)), (51, .int .i64 y), (52, .agg #[.int .i64 x, .int .i64 y, .slice none 0 0]), (12, .pointer (some ⟨g8, 0, none⟩)), (53, .slice A l.length c), (54, .int .i64 (l.length : Int)), (55, .int .i64 (j : Int))] a ∧ St w (fun _ => False) (fun _ => False) [Asn.blk g1 [.int .i64 0, .int .i64 0, .slice none 0 0] 40, Asn.blk g2 [.int .i64 x, .int .i64 y] 87, Asn.rd Kd.string _ A l.length l, Asn.blk g8 [.int .i64 x, .int .i64 y, .slice A1 acc.length c1] 40, Asn.qu k33 33 (.slice A1 acc.length c1) acc ok] W ∧ (j ≤ l.length) ∧ (k + j = l.length) ∧ (acc.length = j) ∧ (dall l = (acc ++ (dall (l.drop j)).1, (dall (l.drop j)).2))) l.length ⟨0, [], none, 0, (fun _ => False), F.less _ (subc rfl (subc rfl (subc rfl (subc rfl (subc rfl (subc rfl (subc rfl (subc rfl (subc rfl (subc rfl (subc rfl (subc rfl (subc rfl (subc rfl (subc rfl (subc rfl (subc rfl (subc rfl (subc rfl (subc rfl (subc rfl (subc rfl (subc rfl (subc rfl (subc rfl sub0))))))))))))))))))))))))), H, (Nat.zero_le _), rfl, rfl, rfl⟩ ?_
      rintro k a W ⟨j, acc, A1, c1, ok, F, H, hj, hkj, hacc, HD⟩
      refine c_seq (by kernel_rfl) ?_
      refine c_text (id := 15) (by kernel_rfl) [(0, 2)] (by kernel_rfl) ?_
      refine sq2 (W' := W) (show Eq (α := OSk) _ (some (some 56, (.binOp .lss 3 (.tmp 55) (.tmp 54) 3), 0, none)) by kernel_rfl) trivial F (by decide) (v := .bool (decide ((j : Int) < (l.length : Int)))) (x_int (F.slot rfl) (F.slot rfl) rfl) (fun _ => trivial) (fun a F => ?_)
      unfold wpSeq
      have H : St w (fun _ => False) (fun _ => False) [Asn.blk g1 [.int .i64 0, .int .i64 0, .slice none 0 0] 40, Asn.blk g2 [.int .i64 x, .int .i64 y] 87, Asn.rd Kd.string _ A l.length l, Asn.blk g8 [.int .i64 x, .int .i64 y, .slice A1 acc.length c1] 40, Asn.qu k33 33 (.slice A1 acc.length c1) acc ok] W := H
      refine t_normal ?_
      refine c_seq (by kernel_rfl) ?_
      rcases bool_or (decide ((j : Int) < (l.length : Int))) with hb9 | hb9
      · have hb9d := of_decide_eq_true hb9
        have F := F.at 56 rfl (v' := .bool true) (congrArg Value.bool hb9)
        refine c_yes (c := .tmp 56) (by kernel_rfl) (F.slot rfl) ?_
        refine c_skip (by kernel_rfl) ?_
        refine t_normal ?_
        refine c_seq (by kernel_rfl) ?_
        refine c_block (id := 3) (by kernel_rfl) ?_
        refine c_seq (by kernel_rfl) ?_
        refine c_text (id := 16) (by kernel_rfl) [(0, 2), (1, 2), (2, 2)] (by kernel_rfl) ?_
        obtain ⟨ad, hA, hx⟩ := Kd.at_string (H.rd 2 rfl) (j : Int) (by omega) (by omega)
        have hx : W.cell? (ad.add j) = some (.string (rdOf ByteArray.empty l (j : Int))) := hx
        obtain ⟨b, hb⟩ : ∃ b, rdOf ByteArray.empty l (j : Int) = b := ⟨_, rfl⟩
        have hbs : b.size < 4611686018427387904 := by
          have e : rdOf ByteArray.empty l (j : Int) = l[j] := by simp [rdOf, show j < l.length by omega]
          rw [← hb, e]; exact HL0 _ (List.getElem_mem _)
        have hd := dall_at l j (by omega)
        rw [hb] at hx hd
        have F := F.at 53 rfl (v' := .slice (some ad) l.length c) (by rw [hA])
        refine sq2 (W' := W) (show Eq (α := OSk) _ (some (some 57, (.indexAddr 31 (.tmp 53) (.tmp 55)), 0, none)) by kernel_rfl) trivial F (by decide) (v := .pointer (some (ad.add j))) (x_indexSl1 (n := l.length) (c := c) (ad := ad) (i := (j : Int)) Tryd.underlying31 (Tryd.sizeOf9 W) (F.slot rfl) (F.slot rfl) (by omega) (by omega)) (fun _ => trivial) (fun a F => ?_)
        refine sq2 (show Eq (α := OSk) _ (some (some 58, (.load 9 (.tmp 57)), 9, none)) by kernel_rfl) trivial F (by decide) (v := .string b) (x_load1 (Tryd.isAgg9 W) (F.slot rfl) hx) (fun _ => trivial) (fun a F => ?_)
        refine sq2 (W' := W) (show Eq (α := OSk) _ (some (some 14, (.assign (.tmp 58)), 9, none)) by kernel_rfl) trivial F (by decide) (v := .string b) (x_assign (F.slot rfl)) (fun _ => trivial) (fun a F => ?_)
        unfold wpSeq
        refine t_normal ?_
        refine c_seq (by kernel_rfl) ?_
        refine c_text (id := 17) (by kernel_rfl) [(0, 2), (1, 2), (2, 2), (3, 2), (4, 2), (5, 2), (6, 2), (7, 2)] (by kernel_rfl) ?_
        refine sq2 (W' := W) (show Eq (α := OSk) _ (some (some 60, (.move (.tmp 14)), 9, none)) by kernel_rfl) trivial F (by decide) (v := .string b) (x_move (F.slot rfl)) (fun _ => trivial) (fun a F => ?_)
        obtain ⟨k0, f0, t0, am0, nc0, ky0, vl0, rs0, ws0, er, hr⟩ : ∃ a1 a2 a3 a4 a5 a6 a7 a8 a9 a10, dec b = (a1, a2, a3, a4, a5, a6, a7, a8, a9, a10) := ⟨_, _, _, _, _, _, _, _, _, _, rfl⟩
        refine sqc (show Eq (α := OSk) _ (some (some 61, (.call { callee := (.value (.func 25)), args := #[(.tmp 60)], argTypes := #[9] }), 48, none)) by kernel_rfl) trivial F (by decide) (x_call Tryd.func25 (by kernel_rfl) rfl (args_1 (F.slot rfl))) (bdec_tx b W hbs hr) ?_
        rintro e W ⟨A7, c7, A8, c8, rfl, hF7, hl7, hF8, hl8, hB⟩
        refine ⟨_, rfl, fun a F => ?_⟩
        have H := H.freshF hB _ _ (fk_tx (toS (k0, f0, t0, am0, nc0, ky0, vl0, rs0, ws0, er)) hl7 hF7 hl8 hF8) (fun k hk => hk.1)
        have H : St w (fun _ => False) (fun _ => False) [Asn.blk g1 [.int .i64 0, .int .i64 0, .slice none 0 0] 40, Asn.blk g2 [.int .i64 x, .int .i64 y] 87, Asn.rd Kd.string _ A l.length l, Asn.blk g8 [.int .i64 x, .int .i64 y, .slice A1 acc.length c1] 40, Asn.qu k33 33 (.slice A1 acc.length c1) acc ok, Asn.fk k33 _ (toS (k0, f0, t0, am0, nc0, ky0, vl0, rs0, ws0, er)) [.int .i64 k0, .string f0, .string t0, .int .u64 am0, .int .u64 nc0, .string ky0, .string vl0, .slice A7 rs0.length c7, .slice A8 ws0.length c8]] W := H
        refine ⟨(fun _ => trivial), ?_⟩
        refine sq2 (W' := W) (show Eq (α := OSk) _ (some (some 59, (.move (.tmp 61)), 48, none)) by kernel_rfl) trivial F (by decide) (v := .tuple #[.agg #[.int .i64 k0, .string f0, .string t0, .int .u64 am0, .int .u64 nc0, .string ky0, .string vl0, .slice A7 rs0.length c7, .slice A8 ws0.length c8], .int .i64 er]) (x_move (F.slot rfl)) (fun _ => trivial) (fun a F => ?_)
        refine sq2 (W' := W) (show Eq (α := OSk) _ (some (some 62, (.extract (.tmp 59) 0), 33, none)) by kernel_rfl) trivial F (by decide) (v := .agg #[.int .i64 k0, .string f0, .string t0, .int .u64 am0, .int .u64 nc0, .string ky0, .string vl0, .slice A7 rs0.length c7, .slice A8 ws0.length c8]) (x_extract (F.slot rfl) rfl) (fun _ => trivial) (fun a F => ?_)
        refine sq2 (W' := W) (show Eq (α := OSk) _ (some (some 63, (.extract (.tmp 59) 1), 24, none)) by kernel_rfl) trivial F (by decide) (v := .int .i64 er) (x_extract (F.slot rfl) rfl) (fun _ => trivial) (fun a F => ?_)
        refine sq_new (show Eq (α := OSk) _ (some (some 15, (.alloc 33), 0, none)) by kernel_rfl) trivial F (by decide) H [.int .i64 0, .string ⟨#[]⟩, .string ⟨#[]⟩, .int .u64 0, .int .u64 0, .string ⟨#[]⟩, .string ⟨#[]⟩, .slice none 0 0, .slice none 0 0] 33 (x_alloc Tryd.zeroValue33 rfl) ?_
        intro g10 W a hg10 H F
        refine ⟨(fun _ => trivial), ?_⟩
        refine sq_put (M := [Asn.blk g1 [.int .i64 0, .int .i64 0, .slice none 0 0] 40, Asn.blk g2 [.int .i64 x, .int .i64 y] 87, Asn.rd Kd.string _ A l.length l, Asn.blk g8 [.int .i64 x, .int .i64 y, .slice A1 acc.length c1] 40, Asn.qu k33 33 (.slice A1 acc.length c1) acc ok, Asn.fk k33 _ (toS (k0, f0, t0, am0, nc0, ky0, vl0, rs0, ws0, er)) [.int .i64 k0, .string f0, .string t0, .int .u64 am0, .int .u64 nc0, .string ky0, .string vl0, .slice A7 rs0.length c7, .slice A8 ws0.length c8], Asn.blk g10 [.int .i64 k0, .string f0, .string t0, .int .u64 am0, .int .u64 nc0, .string ky0, .string vl0, .slice A7 rs0.length c7, .slice A8 ws0.length c8] 33]) (show Eq (α := OSk) _ (some (none, (.store 33 (.tmp 15) (.tmp 62)), 0, none)) by kernel_rfl) trivial F (x_store H (k := 6) (cs' := [.int .i64 k0, .string f0, .string t0, .int .u64 am0, .int .u64 nc0, .string ky0, .string vl0, .slice A7 rs0.length c7, .slice A8 ws0.length c8]) rfl (Tryd.sizeOf33 W) (F.slot rfl) (F.slot rfl) rfl (Nat.le_of_ble_eq_true rfl) rfl rfl) ?_
        intro W H
        refine ⟨(fun _ => trivial), ?_⟩
        refine sq2 (W' := W) (show Eq (α := OSk) _ (some (some 16, (.assign (.tmp 63)), 24, none)) by kernel_rfl) trivial F (by decide) (v := .int .i64 er) (x_assign (F.slot rfl)) (fun _ => trivial) (fun a F => ?_)
        unfold wpSeq
        refine t_normal ?_
        refine c_seq (by kernel_rfl) ?_
        refine c_seq (by kernel_rfl) ?_
        refine c_text (id := 18) (by kernel_rfl) [(0, 2), (1, 2)] (by kernel_rfl) ?_
        refine sq2 (W' := W) (show Eq (α := OSk) _ (some (some 64, (.move (.tmp 16)), 24, none)) by kernel_rfl) trivial F (by decide) (v := .int .i64 er) (x_move (F.slot rfl)) (fun _ => trivial) (fun a F => ?_)
        refine sq2 (W' := W) (show Eq (α := OSk) _ (some (some 65, (.binOp .neq 24 (.tmp 64) (.const (.int .i64 0)) 24), 4, none)) by kernel_rfl) trivial F (by decide) (v := .bool (er != (0 : Int))) (x_int (F.slot rfl) rfl rfl) (fun _ => trivial) (fun a F => ?_)
        unfold wpSeq
        refine t_normal ?_
        rcases bool_or (er != (0 : Int)) with hb11 | hb11
        · have F := F.at 65 rfl (v' := .bool true) (congrArg Value.bool hb11)
          refine c_yes (c := .tmp 65) (by kernel_rfl) (F.slot rfl) ?_
          refine c_seq (by kernel_rfl) ?_
          refine c_text (id := 19) (by kernel_rfl) [(0, 2), (1, 2), (2, 2), (3, 2)] (by kernel_rfl) ?_
          refine sq2 (W' := W) (show Eq (α := OSk) _ (some (some 66, (.build 40 #[]), 40, none)) by kernel_rfl) trivial F (by decide) (v := .agg #[.int .i64 0, .int .i64 0, .slice none 0 0]) (by simp [ex, execOp, Instr.build, Tryd.zeroValue40, run_underlying Tryd.underlying40, Instr.fill, Value.cells, Tryd.sizeOf3, Tryd.sizeOf38]) (fun _ => trivial) (fun a F => ?_)
          refine sq2 (W' := W) (show Eq (α := OSk) _ (some (some 67, (.move (.tmp 16)), 24, none)) by kernel_rfl) trivial F (by decide) (v := .int .i64 er) (x_move (F.slot rfl)) (fun _ => trivial) (fun a F => ?_)
          refine sq_put (M := [Asn.blk g1 [.int .i64 0, .int .i64 0, .slice none 0 0] 40, Asn.blk g2 [.int .i64 x, .int .i64 y] 87, Asn.rd Kd.string _ A l.length l, Asn.blk g8 [.int .i64 x, .int .i64 y, .slice A1 acc.length c1] 40, Asn.qu k33 33 (.slice A1 acc.length c1) acc ok, Asn.fk k33 _ (toS (k0, f0, t0, am0, nc0, ky0, vl0, rs0, ws0, er)) [.int .i64 k0, .string f0, .string t0, .int .u64 am0, .int .u64 nc0, .string ky0, .string vl0, .slice A7 rs0.length c7, .slice A8 ws0.length c8], Asn.blk g10 [.int .i64 k0, .string f0, .string t0, .int .u64 am0, .int .u64 nc0, .string ky0, .string vl0, .slice A7 rs0.length c7, .slice A8 ws0.length c8] 33]) (show Eq (α := OSk) _ (some (none, (.store 40 (.tmp 2) (.tmp 66)), 0, none)) by kernel_rfl) trivial F (x_store H (k := 0) (cs' := [.int .i64 0, .int .i64 0, .slice none 0 0]) rfl (Tryd.sizeOf40 W) (F.slot rfl) (F.slot rfl) rfl (Nat.le_of_ble_eq_true rfl) rfl rfl) ?_
          intro W H
          refine ⟨(fun _ => trivial), ?_⟩
          refine sq2 (W' := W) (show Eq (α := OSk) _ (some (some 3, (.assign (.tmp 67)), 24, none)) by kernel_rfl) trivial F (by decide) (v := .int .i64 er) (x_assign (F.slot rfl)) (fun _ => trivial) (fun a F => ?_)
          unfold wpSeq
          refine t_normal ?_
          refine c_ret (by kernel_rfl) ?_
          refine t_ret ?_
          refine b_ret ?_
          refine t_ret ?_
          refine t_ret ?_
          refine b_ret ?_
          refine t_ret ?_
          refine p_list (rs := [.cell 2 40, .tmp 3]) (vs := [.agg #[.int .i64 0, .int .i64 0, .slice none 0 0], .int .i64 er]) Tryd.results28 (by simp) F (Vals.cell' F rfl (H.blk 0 rfl) Tryd.underlying40 rfl (by kernel_rfl) (Vals.tmp' F rfl .nil)) ?_
          have hz : er ≠ 0 := by simpa using hb11
          have hn : errD (k0, f0, t0, am0, nc0, ky0, vl0, rs0, ws0, er) ≠ 0 := hz
          have HF : bdec s0 = bnil er := by rw [HF, HD, hd, dall, hr, if_neg hn]; exact if_neg hz
          rw [HF]
          exact ⟨none, 0, rfl, Nat.le_refl _, fun _ _ => Kd.C_nil _ _, H.ends⟩
        · have F := F.at 65 rfl (v' := .bool false) (congrArg Value.bool hb11)
          refine c_no (c := .tmp 65) (by kernel_rfl) (F.slot rfl) ?_
          refine c_skip (by kernel_rfl) ?_
          refine t_normal ?_
          obtain rfl : er = 0 := by simpa using hb11
          have HD : dall l = ((acc ++ [(toS (k0, f0, t0, am0, nc0, ky0, vl0, rs0, ws0, 0))]) ++ (dall (l.drop (j + 1))).1, (dall (l.drop (j + 1))).2) := by
            rw [HD, hd, dall, hr, if_pos (show errD _ = 0 from rfl), List.append_assoc]; rfl
          refine c_text (id := 20) (by kernel_rfl) [(0, 2), (1, 2), (2, 2), (3, 2), (4, 2), (5, 2), (6, 2)] (by kernel_rfl) ?_
          refine sq2 (W' := W) (show Eq (α := OSk) _ (some (some 68, (.fieldAddr 40 (.tmp 12) 2), 0, none)) by kernel_rfl) trivial F (by decide) (v := .pointer (some ⟨g8, 2, none⟩)) (x_field0 Tryd.underlying40 rfl rfl (Tryd.sizeOf38 W) (F.slot rfl)) (fun _ => trivial) (fun a F => ?_)
          refine sq2 (show Eq (α := OSk) _ (some (some 69, (.load 38 (.tmp 68)), 38, none)) by kernel_rfl) trivial F (by decide) (v := .slice A1 acc.length c1) (x_load1 (Tryd.isAgg38 W) (F.slot rfl) (H.cell 3 rfl rfl)) (fun _ => trivial) (fun a F => ?_)
          refine sq2 (show Eq (α := OSk) _ (some (some 70, (.load 33 (.tmp 15)), 33, none)) by kernel_rfl) trivial F (by decide) (v := .agg #[.int .i64 k0, .string f0, .string t0, .int .u64 am0, .int .u64 nc0, .string ky0, .string vl0, .slice A7 rs0.length c7, .slice A8 ws0.length c8]) (x_loadB (Tryd.isAgg33 W) [.int .i64 k0, .string f0, .string t0, .int .u64 am0, .int .u64 nc0, .string ky0, .string vl0, .slice A7 rs0.length c7, .slice A8 ws0.length c8] (Tryd.sizeOf33 W) (F.slot rfl) (H.blk 6 rfl)) (fun _ => trivial) (fun a F => ?_)
          refine sq_bapp k33 4 5 (by decide) (show Eq (α := OSk) _ (some (some 71, (.buildSlice 38 1 #[(0, (.tmp 70))]), 38, none)) by kernel_rfl) trivial (show Eq (α := OSk) _ (some (some 72, (.call { callee := (.builtin .append), args := #[(.tmp 69), (.tmp 71)], argTypes := #[38, 38] }), 38, none)) by kernel_rfl) (fun _ => trivial) F (by decide) (by decide) rfl (fun a F => F.slot rfl) (F.slot rfl) rfl Tryd.underlying38 PB.info33 rfl (by decide) (by decide) (by decide) H rfl rfl (by omega) (fun W H => (fun _ => trivial)) ?_
          intro v_ W a H F
          obtain ⟨A2, c2, rfl, hc2⟩ := (H.qu 4 rfl).form
          have H : St w (fun _ => False) (fun _ => False) [Asn.blk g1 [.int .i64 0, .int .i64 0, .slice none 0 0] 40, Asn.blk g2 [.int .i64 x, .int .i64 y] 87, Asn.rd Kd.string _ A l.length l, Asn.blk g8 [.int .i64 x, .int .i64 y, .slice A1 acc.length c1] 40, Asn.qu k33 33 (.slice A2 (acc ++ [(toS (k0, f0, t0, am0, nc0, ky0, vl0, rs0, ws0, 0))]).length c2) (acc ++ [(toS (k0, f0, t0, am0, nc0, ky0, vl0, rs0, ws0, 0))]) _, Asn.fk k33 _ (toS (k0, f0, t0, am0, nc0, ky0, vl0, rs0, ws0, 0)) [.int .i64 k0, .string f0, .string t0, .int .u64 am0, .int .u64 nc0, .string ky0, .string vl0, .slice A7 rs0.length c7, .slice A8 ws0.length c8], Asn.blk g10 [.int .i64 k0, .string f0, .string t0, .int .u64 am0, .int .u64 nc0, .string ky0, .string vl0, .slice A7 rs0.length c7, .slice A8 ws0.length c8] 33] W := H
          refine ⟨(fun _ => trivial), ?_⟩
          refine sq2 (W' := W) (show Eq (α := OSk) _ (some (some 73, (.fieldAddr 40 (.tmp 12) 2), 0, none)) by kernel_rfl) trivial F (by decide) (v := .pointer (some ⟨g8, 2, none⟩)) (x_field0 Tryd.underlying40 rfl rfl (Tryd.sizeOf38 W) (F.slot rfl)) (fun _ => trivial) (fun a F => ?_)
          refine sq_put (M := [Asn.blk g1 [.int .i64 0, .int .i64 0, .slice none 0 0] 40, Asn.blk g2 [.int .i64 x, .int .i64 y] 87, Asn.rd Kd.string _ A l.length l, Asn.blk g8 [.int .i64 x, .int .i64 y, .slice A2 ((acc ++ [(toS (k0, f0, t0, am0, nc0, ky0, vl0, rs0, ws0, 0))]).length) c2] 40, Asn.qu k33 33 (.slice A2 (acc ++ [(toS (k0, f0, t0, am0, nc0, ky0, vl0, rs0, ws0, 0))]).length c2) (acc ++ [(toS (k0, f0, t0, am0, nc0, ky0, vl0, rs0, ws0, 0))]) _, Asn.fk k33 _ (toS (k0, f0, t0, am0, nc0, ky0, vl0, rs0, ws0, 0)) [.int .i64 k0, .string f0, .string t0, .int .u64 am0, .int .u64 nc0, .string ky0, .string vl0, .slice A7 rs0.length c7, .slice A8 ws0.length c8], Asn.blk g10 [.int .i64 k0, .string f0, .string t0, .int .u64 am0, .int .u64 nc0, .string ky0, .string vl0, .slice A7 rs0.length c7, .slice A8 ws0.length c8] 33]) (show Eq (α := OSk) _ (some (none, (.store 38 (.tmp 73) (.tmp 72)), 0, none)) by kernel_rfl) trivial F (x_store H (k := 3) (cs' := [.int .i64 x, .int .i64 y, .slice A2 ((acc ++ [(toS (k0, f0, t0, am0, nc0, ky0, vl0, rs0, ws0, 0))]).length) c2]) rfl (Tryd.sizeOf38 W) (F.slot rfl) (F.slot rfl) rfl (Nat.le_of_ble_eq_true rfl) rfl rfl) ?_
          intro W H
          refine ⟨(fun _ => trivial), ?_⟩
          unfold wpSeq
          refine b_normal ?_
          refine t_normal ?_
          have H := H.front 5
          have H : St w (fun _ => False) (fun _ => False) [Asn.blk g1 [.int .i64 0, .int .i64 0, .slice none 0 0] 40, Asn.blk g2 [.int .i64 x, .int .i64 y] 87, Asn.rd Kd.string _ A l.length l, Asn.blk g8 [.int .i64 x, .int .i64 y, .slice A2 ((acc ++ [(toS (k0, f0, t0, am0, nc0, ky0, vl0, rs0, ws0, 0))]).length) c2] 40, Asn.qu k33 33 (.slice A2 (acc ++ [(toS (k0, f0, t0, am0, nc0, ky0, vl0, rs0, ws0, 0))]).length c2) (acc ++ [(toS (k0, f0, t0, am0, nc0, ky0, vl0, rs0, ws0, 0))]) _] W := H
          refine c_text (id := 21) (by kernel_rfl) [(0, 2), (1, 2)] (by kernel_rfl) ?_
          refine sq2 (W' := W) (show Eq (α := OSk) _ (some (some 74, (.binOp .add 3 (.tmp 55) (.const (.int .i64 1)) 3), 3, none)) by kernel_rfl) trivial F (by decide) (v := .int .i64 (IntKind.i64.wrap ((j : Int) + 1))) (x_int (F.slot rfl) rfl rfl) (fun _ => trivial) (fun a F => ?_)
          refine sq2 (W' := W) (show Eq (α := OSk) _ (some (some 55, (.move (.tmp 74)), 3, none)) by kernel_rfl) trivial F (by decide) (v := .int .i64 (IntKind.i64.wrap ((j : Int) + 1))) (x_move (F.slot rfl)) (fun _ => trivial) (fun a F => ?_)
          unfold wpSeq
          refine t_normal ?_
          have F_ := F
          have F := F.at 55 rfl (v' := .int .i64 ((j + 1 : Nat) : Int)) (congrArg (Value.int .i64) ((wrap_i64 _ (by omega) (by omega)).trans (by omega)))
          have F := F.at 53 rfl (v' := .slice A l.length c) (by rw [hA])
          exact ⟨k - 1, by omega, j + 1, _, _, _, _, F.less _ (subc rfl (subc rfl (subc rfl (subc rfl (subc rfl (subc rfl (subc rfl (subc rfl (subc rfl (subc rfl (subc rfl (subc rfl (subc rfl (subc rfl (subc rfl (subc rfl (subc rfl (subc rfl (subc rfl (subc rfl (subc rfl (subc rfl (subc rfl (subc rfl (subc rfl sub0))))))))))))))))))))))))), H, (by omega), (by omega), (by simp [hacc]), HD⟩
      · have hb9d := of_decide_eq_false hb9
        have F := F.at 56 rfl (v' := .bool false) (congrArg Value.bool hb9)
        refine c_no (c := .tmp 56) (by kernel_rfl) (F.slot rfl) ?_
        refine c_exit (id := 2) (by kernel_rfl) ?_
        refine t_exit ?_
        refine t_exit ?_
        refine b_here ?_
        refine t_normal ?_
        refine c_seq (by kernel_rfl) ?_
        refine c_block (id := 4) (by kernel_rfl) ?_
        refine c_seq (by kernel_rfl) ?_
        refine c_text (id := 22) (by kernel_rfl) [(0, 2), (1, 2), (2, 2), (3, 2), (4, 2)] (by kernel_rfl) ?_
        refine sq2 (W' := W) (show Eq (α := OSk) _ (some (some 76, (.move (.tmp 0)), 9, none)) by kernel_rfl) trivial F (by decide) (v := .string s) (x_move (F.slot rfl)) (fun _ => trivial) (fun a F => ?_)
        refine sq2 (W' := W) (show Eq (α := OSk) _ (some (some 77, (.call { callee := (.builtin .len), args := #[(.tmp 76)], argTypes := #[9] }), 3, none)) by kernel_rfl) trivial F (by decide) (v := .int .i64 (s.size : Int)) (x_lenS Tryd.underlying9 (F.slot rfl)) (fun _ => trivial) (fun a F => ?_)
        refine sq2 (W' := W) (show Eq (α := OSk) _ (some (some 78, (.move (.tmp 10)), 3, none)) by kernel_rfl) trivial F (by decide) (v := .int .i64 k1) (x_move (F.slot rfl)) (fun _ => trivial) (fun a F => ?_)
        refine sq2 (W' := W) (show Eq (α := OSk) _ (some (some 79, (.binOp .gtr 3 (.tmp 77) (.tmp 78) 3), 4, none)) by kernel_rfl) trivial F (by decide) (v := .bool (decide ((s.size : Int) > k1))) (x_int (F.slot rfl) (F.slot rfl) rfl) (fun _ => trivial) (fun a F => ?_)
        refine sq2 (W' := W) (show Eq (α := OSk) _ (some (some 75, (.assign (.tmp 79)), 4, none)) by kernel_rfl) trivial F (by decide) (v := .bool (decide ((s.size : Int) > k1))) (x_assign (F.slot rfl)) (fun _ => trivial) (fun a F => ?_)
        unfold wpSeq
        refine t_normal ?_
        rcases bool_or (decide ((s.size : Int) > k1)) with hb12 | hb12
        · have hb12d := of_decide_eq_true hb12
          have F := F.at 75 rfl (v' := .bool true) (congrArg Value.bool hb12)
          refine c_yes (c := .tmp 75) (by kernel_rfl) (F.slot rfl) ?_
          refine c_seq (by kernel_rfl) ?_
          refine c_text (id := 23) (by kernel_rfl) [(0, 2), (1, 2), (2, 2)] (by kernel_rfl) ?_
          refine sq2 (W' := W) (show Eq (α := OSk) _ (some (some 80, (.build 40 #[]), 40, none)) by kernel_rfl) trivial F (by decide) (v := .agg #[.int .i64 0, .int .i64 0, .slice none 0 0]) (by simp [ex, execOp, Instr.build, Tryd.zeroValue40, run_underlying Tryd.underlying40, Instr.fill, Value.cells, Tryd.sizeOf3, Tryd.sizeOf38]) (fun _ => trivial) (fun a F => ?_)
          refine sq_put (M := [Asn.blk g1 [.int .i64 0, .int .i64 0, .slice none 0 0] 40, Asn.blk g2 [.int .i64 x, .int .i64 y] 87, Asn.rd Kd.string _ A l.length l, Asn.blk g8 [.int .i64 x, .int .i64 y, .slice A1 acc.length c1] 40, Asn.qu k33 33 (.slice A1 acc.length c1) acc ok]) (show Eq (α := OSk) _ (some (none, (.store 40 (.tmp 2) (.tmp 80)), 0, none)) by kernel_rfl) trivial F (x_store H (k := 0) (cs' := [.int .i64 0, .int .i64 0, .slice none 0 0]) rfl (Tryd.sizeOf40 W) (F.slot rfl) (F.slot rfl) rfl (Nat.le_of_ble_eq_true rfl) rfl rfl) ?_
          intro W H
          refine ⟨(fun _ => trivial), ?_⟩
          refine sq2 (W' := W) (show Eq (α := OSk) _ (some (some 3, (.assign (.const (.int .i64 6))), 24, none)) by kernel_rfl) trivial F (by decide) (v := .int .i64 6) (x_assign rfl) (fun _ => trivial) (fun a F => ?_)
          unfold wpSeq
          refine t_normal ?_
          refine c_ret (by kernel_rfl) ?_
          refine b_ret ?_
          refine t_ret ?_
          refine p_list (rs := [.cell 2 40, .tmp 3]) (vs := [.agg #[.int .i64 0, .int .i64 0, .slice none 0 0], .int .i64 6]) Tryd.results28 (by simp) F (Vals.cell' F rfl (H.blk 0 rfl) Tryd.underlying40 rfl (by kernel_rfl) (Vals.tmp' F rfl .nil)) ?_
          obtain rfl : j = l.length := by omega
          have hD : dall l = (acc, 0) := by rw [HD, List.drop_eq_nil_of_le (Nat.le_refl _)]; simp [dall]
          rw [HF, hD]
          rw [show bfin x y s k1 (acc, 0) = bnil 6 from (if_pos rfl).trans (if_pos (by omega))]
          exact ⟨none, 0, rfl, Nat.le_refl _, fun _ _ => Kd.C_nil _ _, H.ends⟩
        · have hb12d := of_decide_eq_false hb12
          have F := F.at 75 rfl (v' := .bool false) (congrArg Value.bool hb12)
          refine c_no (c := .tmp 75) (by kernel_rfl) (F.slot rfl) ?_
          refine c_seq (by kernel_rfl) ?_
          refine c_text (id := 24) (by kernel_rfl) [(0, 2), (1, 2), (2, 2), (3, 2)] (by kernel_rfl) ?_
          refine sq2 (W' := W) (show Eq (α := OSk) _ (some (some 82, (.fieldAddr 40 (.tmp 12) 0), 0, none)) by kernel_rfl) trivial F (by decide) (v := .pointer (some ⟨g8, 0, none⟩)) (x_field0 Tryd.underlying40 rfl rfl (Tryd.sizeOf3 W) (F.slot rfl)) (fun _ => trivial) (fun a F => ?_)
          refine sq2 (show Eq (α := OSk) _ (some (some 83, (.load 3 (.tmp 82)), 3, none)) by kernel_rfl) trivial F (by decide) (v := .int .i64 x) (x_load1 (Tryd.isAgg3 W) (F.slot rfl) (H.cell 3 rfl rfl)) (fun _ => trivial) (fun a F => ?_)
          refine sq2 (W' := W) (show Eq (α := OSk) _ (some (some 84, (.binOp .gtr 3 (.tmp 83) (.const (.int .i64 6)) 3), 4, none)) by kernel_rfl) trivial F (by decide) (v := .bool (decide (x > (6 : Int)))) (x_int (F.slot rfl) rfl rfl) (fun _ => trivial) (fun a F => ?_)
          refine sq2 (W' := W) (show Eq (α := OSk) _ (some (some 81, (.assign (.tmp 84)), 4, none)) by kernel_rfl) trivial F (by decide) (v := .bool (decide (x > (6 : Int)))) (x_assign (F.slot rfl)) (fun _ => trivial) (fun a F => ?_)
          unfold wpSeq
          refine t_normal ?_
          rcases bool_or (decide (x > (6 : Int))) with hb13 | hb13
          · have hb13d := of_decide_eq_true hb13
            have F := F.at 81 rfl (v' := .bool true) (congrArg Value.bool hb13)
            refine c_yes (c := .tmp 81) (by kernel_rfl) (F.slot rfl) ?_
            refine c_seq (by kernel_rfl) ?_
            refine c_text (id := 25) (by kernel_rfl) [(0, 2), (1, 2), (2, 2)] (by kernel_rfl) ?_
            refine sq2 (W' := W) (show Eq (α := OSk) _ (some (some 85, (.build 40 #[]), 40, none)) by kernel_rfl) trivial F (by decide) (v := .agg #[.int .i64 0, .int .i64 0, .slice none 0 0]) (by simp [ex, execOp, Instr.build, Tryd.zeroValue40, run_underlying Tryd.underlying40, Instr.fill, Value.cells, Tryd.sizeOf3, Tryd.sizeOf38]) (fun _ => trivial) (fun a F => ?_)
            refine sq_put (M := [Asn.blk g1 [.int .i64 0, .int .i64 0, .slice none 0 0] 40, Asn.blk g2 [.int .i64 x, .int .i64 y] 87, Asn.rd Kd.string _ A l.length l, Asn.blk g8 [.int .i64 x, .int .i64 y, .slice A1 acc.length c1] 40, Asn.qu k33 33 (.slice A1 acc.length c1) acc ok]) (show Eq (α := OSk) _ (some (none, (.store 40 (.tmp 2) (.tmp 85)), 0, none)) by kernel_rfl) trivial F (x_store H (k := 0) (cs' := [.int .i64 0, .int .i64 0, .slice none 0 0]) rfl (Tryd.sizeOf40 W) (F.slot rfl) (F.slot rfl) rfl (Nat.le_of_ble_eq_true rfl) rfl rfl) ?_
            intro W H
            refine ⟨(fun _ => trivial), ?_⟩
            refine sq2 (W' := W) (show Eq (α := OSk) _ (some (some 3, (.assign (.const (.int .i64 2))), 24, none)) by kernel_rfl) trivial F (by decide) (v := .int .i64 2) (x_assign rfl) (fun _ => trivial) (fun a F => ?_)
            unfold wpSeq
            refine t_normal ?_
            refine c_ret (by kernel_rfl) ?_
            refine b_ret ?_
            refine t_ret ?_
            refine p_list (rs := [.cell 2 40, .tmp 3]) (vs := [.agg #[.int .i64 0, .int .i64 0, .slice none 0 0], .int .i64 2]) Tryd.results28 (by simp) F (Vals.cell' F rfl (H.blk 0 rfl) Tryd.underlying40 rfl (by kernel_rfl) (Vals.tmp' F rfl .nil)) ?_
            obtain rfl : j = l.length := by omega
            have hD : dall l = (acc, 0) := by rw [HD, List.drop_eq_nil_of_le (Nat.le_refl _)]; simp [dall]
            rw [HF, hD]
            rw [show bfin x y s k1 (acc, 0) = bnil 2 from (if_pos rfl).trans ((if_neg (by omega)).trans (if_pos (by omega)))]
            exact ⟨none, 0, rfl, Nat.le_refl _, fun _ _ => Kd.C_nil _ _, H.ends⟩
          · have hb13d := of_decide_eq_false hb13
            have F := F.at 81 rfl (v' := .bool false) (congrArg Value.bool hb13)
            refine c_no (c := .tmp 81) (by kernel_rfl) (F.slot rfl) ?_
            refine c_skip (by kernel_rfl) ?_
            refine b_normal ?_
            refine t_normal ?_
            refine c_seq (by kernel_rfl) ?_
            refine c_seq (by kernel_rfl) ?_
            refine c_text (id := 26) (by kernel_rfl) [(0, 2), (1, 2), (2, 2)] (by kernel_rfl) ?_
            refine sq2 (show Eq (α := OSk) _ (some (some 86, (.load 40 (.tmp 12)), 40, none)) by kernel_rfl) trivial F (by decide) (v := .agg #[.int .i64 x, .int .i64 y, .slice A1 acc.length c1]) (x_loadB (Tryd.isAgg40 W) [.int .i64 x, .int .i64 y, .slice A1 acc.length c1] (Tryd.sizeOf40 W) (F.slot rfl) (H.blk 3 rfl)) (fun _ => trivial) (fun a F => ?_)
            obtain ⟨z2, hz2⟩ : ∃ z, bchk x y acc = z := ⟨_, rfl⟩
            have HK := bchk_calls x y A1 c1 acc W (by omega) (H.qu 4 rfl).read.2.2 (H.qu 4 rfl).read.2.1
            rw [hz2] at HK
            refine sqc (show Eq (α := OSk) _ (some (some 87, (.call { callee := (.value (.func 33)), args := #[(.tmp 86)], argTypes := #[40] }), 24, none)) by kernel_rfl) trivial F (by decide) (x_call Tryd.func33 (by kernel_rfl) rfl (args_1 (F.slot rfl))) (HK) ?_
            rintro e W ⟨rfl, hB⟩
            refine ⟨_, rfl, fun a F => ?_⟩
            have H := H.below hB
            refine ⟨(fun _ => trivial), ?_⟩
            refine sq2 (W' := W) (show Eq (α := OSk) _ (some (some 17, (.assign (.tmp 87)), 24, none)) by kernel_rfl) trivial F (by decide) (v := .int .i64 z2) (x_assign (F.slot rfl)) (fun _ => trivial) (fun a F => ?_)
            unfold wpSeq
            refine t_normal ?_
            refine c_seq (by kernel_rfl) ?_
            refine c_text (id := 27) (by kernel_rfl) [(0, 2), (1, 2)] (by kernel_rfl) ?_
            refine sq2 (W' := W) (show Eq (α := OSk) _ (some (some 88, (.move (.tmp 17)), 24, none)) by kernel_rfl) trivial F (by decide) (v := .int .i64 z2) (x_move (F.slot rfl)) (fun _ => trivial) (fun a F => ?_)
            refine sq2 (W' := W) (show Eq (α := OSk) _ (some (some 89, (.binOp .neq 24 (.tmp 88) (.const (.int .i64 0)) 24), 4, none)) by kernel_rfl) trivial F (by decide) (v := .bool (z2 != (0 : Int))) (x_int (F.slot rfl) rfl rfl) (fun _ => trivial) (fun a F => ?_)
            unfold wpSeq
            refine t_normal ?_
            rcases bool_or (z2 != (0 : Int)) with hb14 | hb14
            · have F := F.at 89 rfl (v' := .bool true) (congrArg Value.bool hb14)
              refine c_yes (c := .tmp 89) (by kernel_rfl) (F.slot rfl) ?_
              refine c_seq (by kernel_rfl) ?_
              refine c_text (id := 28) (by kernel_rfl) [(0, 2), (1, 2), (2, 2), (3, 2)] (by kernel_rfl) ?_
              refine sq2 (W' := W) (show Eq (α := OSk) _ (some (some 90, (.build 40 #[]), 40, none)) by kernel_rfl) trivial F (by decide) (v := .agg #[.int .i64 0, .int .i64 0, .slice none 0 0]) (by simp [ex, execOp, Instr.build, Tryd.zeroValue40, run_underlying Tryd.underlying40, Instr.fill, Value.cells, Tryd.sizeOf3, Tryd.sizeOf38]) (fun _ => trivial) (fun a F => ?_)
              refine sq2 (W' := W) (show Eq (α := OSk) _ (some (some 91, (.move (.tmp 17)), 24, none)) by kernel_rfl) trivial F (by decide) (v := .int .i64 z2) (x_move (F.slot rfl)) (fun _ => trivial) (fun a F => ?_)
              refine sq_put (M := [Asn.blk g1 [.int .i64 0, .int .i64 0, .slice none 0 0] 40, Asn.blk g2 [.int .i64 x, .int .i64 y] 87, Asn.rd Kd.string _ A l.length l, Asn.blk g8 [.int .i64 x, .int .i64 y, .slice A1 acc.length c1] 40, Asn.qu k33 33 (.slice A1 acc.length c1) acc ok]) (show Eq (α := OSk) _ (some (none, (.store 40 (.tmp 2) (.tmp 90)), 0, none)) by kernel_rfl) trivial F (x_store H (k := 0) (cs' := [.int .i64 0, .int .i64 0, .slice none 0 0]) rfl (Tryd.sizeOf40 W) (F.slot rfl) (F.slot rfl) rfl (Nat.le_of_ble_eq_true rfl) rfl rfl) ?_
              intro W H
              refine ⟨(fun _ => trivial), ?_⟩
              refine sq2 (W' := W) (show Eq (α := OSk) _ (some (some 3, (.assign (.tmp 91)), 24, none)) by kernel_rfl) trivial F (by decide) (v := .int .i64 z2) (x_assign (F.slot rfl)) (fun _ => trivial) (fun a F => ?_)
              unfold wpSeq
              refine t_normal ?_
              refine c_ret (by kernel_rfl) ?_
              refine t_ret ?_
              refine p_list (rs := [.cell 2 40, .tmp 3]) (vs := [.agg #[.int .i64 0, .int .i64 0, .slice none 0 0], .int .i64 z2]) Tryd.results28 (by simp) F (Vals.cell' F rfl (H.blk 0 rfl) Tryd.underlying40 rfl (by kernel_rfl) (Vals.tmp' F rfl .nil)) ?_
              obtain rfl : j = l.length := by omega
              have hD : dall l = (acc, 0) := by rw [HD, List.drop_eq_nil_of_le (Nat.le_refl _)]; simp [dall]
              rw [HF, hD]
              have hz : z2 ≠ 0 := by simpa using hb14
              rw [show bfin x y s k1 (acc, 0) = bnil z2 from (if_pos rfl).trans ((if_neg (by omega)).trans ((if_neg (by omega)).trans ((if_neg (by rw [hz2]; exact hz)).trans (by rw [hz2]))))]
              exact ⟨none, 0, rfl, Nat.le_refl _, fun _ _ => Kd.C_nil _ _, H.ends⟩
            · have F := F.at 89 rfl (v' := .bool false) (congrArg Value.bool hb14)
              refine c_no (c := .tmp 89) (by kernel_rfl) (F.slot rfl) ?_
              refine c_skip (by kernel_rfl) ?_
              refine t_normal ?_
              refine c_seq (by kernel_rfl) ?_
              refine c_text (id := 29) (by kernel_rfl) [(0, 2), (1, 2), (2, 2)] (by kernel_rfl) ?_
              refine sq2 (show Eq (α := OSk) _ (some (some 92, (.load 40 (.tmp 12)), 40, none)) by kernel_rfl) trivial F (by decide) (v := .agg #[.int .i64 x, .int .i64 y, .slice A1 acc.length c1]) (x_loadB (Tryd.isAgg40 W) [.int .i64 x, .int .i64 y, .slice A1 acc.length c1] (Tryd.sizeOf40 W) (F.slot rfl) (H.blk 3 rfl)) (fun _ => trivial) (fun a F => ?_)
              refine sq_put (M := [Asn.blk g1 [.int .i64 x, .int .i64 y, .slice A1 acc.length c1] 40, Asn.blk g2 [.int .i64 x, .int .i64 y] 87, Asn.rd Kd.string _ A l.length l, Asn.blk g8 [.int .i64 x, .int .i64 y, .slice A1 acc.length c1] 40, Asn.qu k33 33 (.slice A1 acc.length c1) acc ok]) (show Eq (α := OSk) _ (some (none, (.store 40 (.tmp 2) (.tmp 92)), 0, none)) by kernel_rfl) trivial F (x_store H (k := 0) (cs' := [.int .i64 x, .int .i64 y, .slice A1 acc.length c1]) rfl (Tryd.sizeOf40 W) (F.slot rfl) (F.slot rfl) rfl (Nat.le_of_ble_eq_true rfl) rfl rfl) ?_
              intro W H
              refine ⟨(fun _ => trivial), ?_⟩
              refine sq2 (W' := W) (show Eq (α := OSk) _ (some (some 3, (.assign (.const (.int .i64 0))), 24, none)) by kernel_rfl) trivial F (by decide) (v := .int .i64 0) (x_assign rfl) (fun _ => trivial) (fun a F => ?_)
              unfold wpSeq
              refine t_normal ?_
              refine c_ret (by kernel_rfl) ?_
              refine p_list (rs := [.cell 2 40, .tmp 3]) (vs := [.agg #[.int .i64 x, .int .i64 y, .slice A1 acc.length c1], .int .i64 0]) Tryd.results28 (by simp) F (Vals.cell' F rfl (H.blk 0 rfl) Tryd.underlying40 rfl (by kernel_rfl) (Vals.tmp' F rfl .nil)) ?_
              obtain rfl : j = l.length := by omega
              have hD : dall l = (acc, 0) := by rw [HD, List.drop_eq_nil_of_le (Nat.le_refl _)]; simp [dall]
              rw [HF, hD]
              have hz : z2 = 0 := by simpa using hb14
              rw [show bfin x y s k1 (acc, 0) = (x, y, acc, 0) from (if_pos rfl).trans ((if_neg (by omega)).trans ((if_neg (by omega)).trans (if_pos (hz2.trans hz))))]
              exact ⟨A1, c1, rfl, (H.qu 4 rfl).read.2.1, H.quFresh 4 rfl, H.ends⟩
end Go.Proofs.YtndicjikjcifaaaDoor
