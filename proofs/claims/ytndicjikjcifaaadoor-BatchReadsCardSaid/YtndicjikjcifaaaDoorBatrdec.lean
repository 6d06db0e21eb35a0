/- tuskref05.Decode. -/
import Derived.Test.YtndicjikjcifaaaDoorBatpre
namespace Go.Proofs.YtndicjikjcifaaaDoor
open Go.RowKit Go.Proofs.YtndicjikjcifaaaDoorW.PrintWords Go.Proofs.YtndicjikjcifaaaDoorW.PrintLast
set_option linter.unusedVariables false
set_option linter.unusedSimpArgs false
set_option maxRecDepth 100000
open PB (S33 k33)
set_option maxHeartbeats 1000000 in
theorem rbdec_calls (s0 : ByteArray) (w : World) (hs0 : s0.size < 4611686018427387904) :
    Calls Tryd.prog 29 #[.string s0] w fun e w' => BP (bdec s0) w e w' := by
  refine c_enter2 (args := [.string s0]) (S := (fun _ => False)) (R := (fun _ => False)) (M := []) Tryd.func29 (by kernel_rfl) 91 Tryd.ntmps29 (Nat.le_of_ble_eq_true rfl) (St.first w (fun _ => False) (fun _ => False)) (fun a W F H => ?_)
  have F := F.less [(0, .string s0)] (subc rfl sub0)
  refine c_seq (by kernel_rfl) ?_
  refine c_text (id := 0) (by kernel_rfl) [(0, 2), (1, 2)] (by kernel_rfl) ?_
  refine sq_new (show Eq (α := OSk) _ (some (some 2, (.alloc 40), 0, none)) by kernel_rfl) trivial F (by decide) H [.int .i64 0, .int .i64 0, .slice none 0 0] 40 (x_alloc Tryd.zeroValue40 rfl) ?_
  intro g1 W a hg1 H F
  refine ⟨(fun _ => trivial), ?_⟩
  refine sq2 (W' := W) (show Eq (α := OSk) _ (some (some 3, (.assign (.const (.int .i64 0))), 24, none)) by kernel_rfl) trivial F (by decide) (v := .int .i64 0) (x_assign rfl) (fun _ => trivial) (fun a F => ?_)
  unfold wpSeq
  have H : St w (fun _ => False) (fun _ => False) [Asn.blk g1 [.int .i64 0, .int .i64 0, .slice none 0 0] 40] W := H
  refine t_normal ?_
  refine c_seq (by kernel_rfl) ?_
  refine c_text (id := 1) (by kernel_rfl) [(0, 2), (1, 2), (2, 2), (3, 2)] (by kernel_rfl) ?_
  refine sq2 (W' := W) (show Eq (α := OSk) _ (some (some 12, (.move (.tmp 0)), 9, none)) by kernel_rfl) trivial F (by decide) (v := .string s0) (x_move (F.slot rfl)) (fun _ => trivial) (fun a F => ?_)
  refine sq2 (W' := W) (show Eq (α := OSk) _ (some (some 13, (.build 84 #[(0, (.tmp 12))]), 84, none)) by kernel_rfl) trivial F (by decide) (v := .agg #[.string s0, .int .i64 0]) (by simp [ex, execOp, Instr.build, Tryd.zeroValue84, run_underlying Tryd.underlying84, Instr.fill, Value.cells, F.slot (i := 12) rfl, Tryd.sizeOf9, Tryd.sizeOf24]) (fun _ => trivial) (fun a F => ?_)
  refine sq_new (show Eq (α := OSk) _ (some (some 14, (.box 84 (.tmp 13)), 82, none)) by kernel_rfl) trivial F (by decide) H [.string s0, .int .i64 0] 84 (x_box (F.slot rfl) rfl) ?_
  intro g2 W a hg2 H F
  refine ⟨(fun _ => trivial), ?_⟩
  refine sq2 (W' := W) (show Eq (α := OSk) _ (some (some 4, (.assign (.tmp 14)), 82, none)) by kernel_rfl) trivial F (by decide) (v := .pointer (some ⟨g2, 0, none⟩)) (x_assign (F.slot rfl)) (fun _ => trivial) (fun a F => ?_)
  unfold wpSeq
  have H : St w (fun _ => False) (fun _ => False) [Asn.blk g1 [.int .i64 0, .int .i64 0, .slice none 0 0] 40, Asn.blk g2 [.string s0, .int .i64 0] 84] W := H
  refine t_normal ?_
  refine c_seq (by kernel_rfl) ?_
  refine c_text (id := 2) (by kernel_rfl) [(0, 2), (1, 2), (2, 2)] (by kernel_rfl) ?_
  refine sq2 (W' := W) (show Eq (α := OSk) _ (some (some 15, (.move (.tmp 4)), 82, none)) by kernel_rfl) trivial F (by decide) (v := .pointer (some ⟨g2, 0, none⟩)) (x_move (F.slot rfl)) (fun _ => trivial) (fun a F => ?_)
  obtain ⟨a1, s1, e1, hI1⟩ : ∃ a b c, inI s0 0 = (a, b, c) := ⟨_, _, _, rfl⟩
  have HK := In_Int g2 s0 0 W (H.blk 1 rfl)
  rw [hI1] at HK; dsimp only at HK
  have z_s1 : s1.size ≤ s0.size := by have := inG_rest (0 : Int) (fun s => gi s 9 0 0) s0 0; rw [show inG _ _ _ _ = _ from hI1] at this; exact this
  refine sqc (show Eq (α := OSk) _ (some (some 16, (.call { callee := (.value (.func 56)), args := #[(.tmp 15)], argTypes := #[82] }), 2, none)) by kernel_rfl) trivial F (by decide) (x_call Tryd.func56 (by kernel_rfl) rfl (args_1 (F.slot rfl))) (HK) ?_
  rintro e W ⟨rfl, hr⟩
  refine ⟨_, rfl, fun a F => ?_⟩
  have H := H.ri 1 rfl hr
  have H : St w (fun _ => False) (fun _ => False) [Asn.blk g1 [.int .i64 0, .int .i64 0, .slice none 0 0] 40, Asn.blk g2 [.string s1, .int .i64 e1] 84] W := H
  refine ⟨(fun _ => trivial), ?_⟩
  refine sq2 (W' := W) (show Eq (α := OSk) _ (some (some 5, (.assign (.tmp 16)), 2, none)) by kernel_rfl) trivial F (by decide) (v := .int .i64 a1) (x_assign (F.slot rfl)) (fun _ => trivial) (fun a F => ?_)
  unfold wpSeq
  refine t_normal ?_
  refine c_seq (by kernel_rfl) ?_
  refine c_text (id := 3) (by kernel_rfl) [(0, 2), (1, 2), (2, 2)] (by kernel_rfl) ?_
  refine sq2 (W' := W) (show Eq (α := OSk) _ (some (some 17, (.move (.tmp 4)), 82, none)) by kernel_rfl) trivial F (by decide) (v := .pointer (some ⟨g2, 0, none⟩)) (x_move (F.slot rfl)) (fun _ => trivial) (fun a F => ?_)
  obtain ⟨n1, s2, e2, hI2⟩ : ∃ a b c, inI s1 e1 = (a, b, c) := ⟨_, _, _, rfl⟩
  have HK := In_Int g2 s1 e1 W (H.blk 1 rfl)
  rw [hI2] at HK; dsimp only at HK
  have z_s2 : s2.size ≤ s1.size := by have := inG_rest (0 : Int) (fun s => gi s 9 0 0) s1 e1; rw [show inG _ _ _ _ = _ from hI2] at this; exact this
  refine sqc (show Eq (α := OSk) _ (some (some 18, (.call { callee := (.value (.func 56)), args := #[(.tmp 17)], argTypes := #[82] }), 2, none)) by kernel_rfl) trivial F (by decide) (x_call Tryd.func56 (by kernel_rfl) rfl (args_1 (F.slot rfl))) (HK) ?_
  rintro e W ⟨rfl, hr⟩
  refine ⟨_, rfl, fun a F => ?_⟩
  have H := H.ri 1 rfl hr
  have H : St w (fun _ => False) (fun _ => False) [Asn.blk g1 [.int .i64 0, .int .i64 0, .slice none 0 0] 40, Asn.blk g2 [.string s2, .int .i64 e2] 84] W := H
  refine ⟨(fun _ => trivial), ?_⟩
  refine sq2 (W' := W) (show Eq (α := OSk) _ (some (some 6, (.assign (.tmp 18)), 2, none)) by kernel_rfl) trivial F (by decide) (v := .int .i64 n1) (x_assign (F.slot rfl)) (fun _ => trivial) (fun a F => ?_)
  unfold wpSeq
  refine t_normal ?_
  refine c_seq (by kernel_rfl) ?_
  refine c_text (id := 4) (by kernel_rfl) [(0, 2), (1, 2), (2, 2)] (by kernel_rfl) ?_
  refine sq2 (W' := W) (show Eq (α := OSk) _ (some (some 19, (.move (.tmp 4)), 82, none)) by kernel_rfl) trivial F (by decide) (v := .pointer (some ⟨g2, 0, none⟩)) (x_move (F.slot rfl)) (fun _ => trivial) (fun a F => ?_)
  obtain ⟨l, s3, e3, hI3⟩ : ∃ a b c, inL16 s2 e2 = (a, b, c) := ⟨_, _, _, rfl⟩
  have HK := In_List16 g2 s2 e2 W (by omega) (H.blk 1 rfl)
  rw [hI3] at HK; dsimp only at HK
  have HL0 : ∀ x ∈ l, x.size < 4611686018427387904 := by
    intro x hx
    have := inL16_val s2 e2 x (by rw [hI3]; exact hx)
    omega
  have HB := bdec_in s0 a1 n1 s1 s2 s3 e1 e2 e3 l hI1 hI2 hI3
  refine sqc (show Eq (α := OSk) _ (some (some 20, (.call { callee := (.value (.func 58)), args := #[(.tmp 19), (.const (.int .i64 16))], argTypes := #[82, 3] }), 31, none)) by kernel_rfl) trivial F (by decide) (x_call Tryd.func58 (by kernel_rfl) rfl (args_2 (F.slot rfl) rfl)) (HK) ?_
  rintro e W ⟨v9, rfl, hR, hr⟩
  refine ⟨_, rfl, fun a F => ?_⟩
  obtain ⟨A, c, rfl, hc9, hC⟩ := Kd.R_reads hR
  have H := H.riF 1 rfl hr _ _ (Kd.R_F (Kd.R_bound hR)) (fun k hk => hk.2.1)
  have H : St w (fun _ => False) (fun _ => False) [Asn.blk g1 [.int .i64 0, .int .i64 0, .slice none 0 0] 40, Asn.blk g2 [.string s3, .int .i64 e3] 84, Asn.rd Kd.string _ A l.length l] W := H
  refine ⟨(fun _ => trivial), ?_⟩
  refine sq2 (W' := W) (show Eq (α := OSk) _ (some (some 7, (.assign (.tmp 20)), 31, none)) by kernel_rfl) trivial F (by decide) (v := .slice A l.length c) (x_assign (F.slot rfl)) (fun _ => trivial) (fun a F => ?_)
  unfold wpSeq
  refine t_normal ?_
  refine c_seq (by kernel_rfl) ?_
  refine c_text (id := 5) (by kernel_rfl) [(0, 2)] (by kernel_rfl) ?_
  refine sq_new (show Eq (α := OSk) _ (some (some 8, (.alloc 40), 0, none)) by kernel_rfl) trivial F (by decide) H [.int .i64 0, .int .i64 0, .slice none 0 0] 40 (x_alloc Tryd.zeroValue40 rfl) ?_
  intro g3 W a hg3 H F
  refine ⟨(fun _ => trivial), ?_⟩
  unfold wpSeq
  have H : St w (fun _ => False) (fun _ => False) [Asn.blk g1 [.int .i64 0, .int .i64 0, .slice none 0 0] 40, Asn.blk g2 [.string s3, .int .i64 e3] 84, Asn.rd Kd.string _ A l.length l, Asn.blk g3 [.int .i64 0, .int .i64 0, .slice none 0 0] 40] W := H
  refine t_normal ?_
  refine c_seq (by kernel_rfl) ?_
  refine c_seq (by kernel_rfl) ?_
  have H := H.quNil k33 33
  have H : St w (fun _ => False) (fun _ => False) [Asn.blk g1 [.int .i64 0, .int .i64 0, .slice none 0 0] 40, Asn.blk g2 [.string s3, .int .i64 e3] 84, Asn.rd Kd.string _ A l.length l, Asn.blk g3 [.int .i64 0, .int .i64 0, .slice none 0 0] 40, Asn.qu k33 33 (.slice none 0 0) ([] : List S33) (fun _ => False)] W := H
  refine c_text (id := 6) (by kernel_rfl) [(0, 2)] (by kernel_rfl) ?_
  refine sq2 (W' := W) (show Eq (α := OSk) _ (some (some 9, (.assign (.const (.int .i64 0))), 3, none)) by kernel_rfl) trivial F (by decide) (v := .int .i64 0) (x_assign rfl) (fun _ => trivial) (fun a F => ?_)
  unfold wpSeq
  refine t_normal ?_
  refine c_block (id := 0) (by kernel_rfl) ?_
  refine c_loop (by kernel_rfl) (fun k a W => ∃ (j : Nat) (acc : List S33) (A1 : Option Addr) (c1 : Nat) (ok : Nat → Prop) (E : Int), Fr 91 [(0, .string s0), (2, .pointer (some ⟨g1, 0, none⟩)), (3, .int .i64 0), (12, .string s0), (13, .agg #[.string s0, .int .i64 0]), (14, .pointer (some ⟨g2, 0, none⟩)), (4, .pointer (some ⟨g2, 0, none⟩)), (15, .pointer (some ⟨g2, 0, none⟩)), (16, .int .i64 a1), (5, .int .i64 a1), (17, .pointer (some ⟨g2, 0, none⟩)), (18, .int .i64 n1), (6, .int .i64 n1), (19, .pointer (some ⟨g2, 0, none⟩)), (20, .slice A l.length c), (7, .slice A l.length c), (8, .pointer (some ⟨g3, 0, none⟩)), (9, .int .i64 (j : Int))] a ∧ St w (fun _ => False) (fun _ => False) [Asn.blk g1 [.int .i64 0, .int .i64 0, .slice none 0 0] 40, Asn.blk g2 [.string s3, .int .i64 E] 84, Asn.rd Kd.string _ A l.length l, Asn.blk g3 [.int .i64 0, .int .i64 0, .slice A1 acc.length c1] 40, Asn.qu k33 33 (.slice A1 acc.length c1) acc ok] W ∧ (j ≤ l.length) ∧ (k + j = l.length) ∧ (acc.length = j) ∧ (acc.length ≤ 16) ∧ (∀ t ∈ acc, LimT t) ∧ ((E = 0 ∧ e3 = 0 ∧ dall l = (acc ++ (dall (l.drop j)).1, (dall (l.drop j)).2)) ∨ (E ≠ 0 ∧ e3 ≠ 0 ∧ E = e3) ∨ (E ≠ 0 ∧ e3 = 0 ∧ (dall l).2 = E))) l.length ⟨0, [], none, 0, (fun _ => False), e3, F.less _ (subc rfl (subc rfl (subc rfl (subc rfl (subc rfl (subc rfl (subc rfl (subc rfl (subc rfl (subc rfl (subc rfl (subc rfl (subc rfl (subc rfl (subc rfl (subc rfl (subc rfl (subc rfl sub0)))))))))))))))))), H, (Nat.zero_le _), rfl, rfl, (Nat.zero_le _), (by simp), ((Classical.em (e3 = 0)).elim (fun z => .inl ⟨z, z, rfl⟩) (fun z => .inr (.inl ⟨z, z, rfl⟩)))⟩ ?_
  rintro k a W ⟨j, acc, A1, c1, ok, E, F, H, hj, hkj, hacc, h16, hLm, hE⟩
  refine c_seq (by kernel_rfl) ?_
  refine c_seq (by kernel_rfl) ?_
  refine c_text (id := 7) (by kernel_rfl) [(0, 2), (1, 2), (2, 2), (3, 2), (4, 2), (5, 2), (6, 2), (7, 2), (8, 2), (9, 2), (10, 2)] (by kernel_rfl) ?_
  refine sq2 (W' := W) (show Eq (α := OSk) _ (some (some 21, (.move (.tmp 9)), 3, none)) by kernel_rfl) trivial F (by decide) (v := .int .i64 (j : Int)) (x_move (F.slot rfl)) (fun _ => trivial) (fun a F => ?_)
  refine sq2 (W' := W) (show Eq (α := OSk) _ (some (some 22, (.move (.tmp 7)), 31, none)) by kernel_rfl) trivial F (by decide) (v := .slice A l.length c) (x_move (F.slot rfl)) (fun _ => trivial) (fun a F => ?_)
  refine sq2 (W' := W) (show Eq (α := OSk) _ (some (some 23, (.call { callee := (.builtin .len), args := #[(.tmp 22)], argTypes := #[31] }), 3, none)) by kernel_rfl) trivial F (by decide) (v := .int .i64 (l.length : Int)) (x_lenL Tryd.underlying31 (F.slot rfl)) (fun _ => trivial) (fun a F => ?_)
  refine sq2 (W' := W) (show Eq (α := OSk) _ (some (some 24, (.binOp .lss 3 (.tmp 21) (.tmp 23) 3), 4, none)) by kernel_rfl) trivial F (by decide) (v := .bool (decide ((j : Int) < (l.length : Int)))) (x_int (F.slot rfl) (F.slot rfl) rfl) (fun _ => trivial) (fun a F => ?_)
  refine sq2 (W' := W) (show Eq (α := OSk) _ (some (some 25, (.move (.tmp 24)), 4, none)) by kernel_rfl) trivial F (by decide) (v := .bool (decide ((j : Int) < (l.length : Int)))) (x_move (F.slot rfl)) (fun _ => trivial) (fun a F => ?_)
  rcases bool_or (decide ((j : Int) < (l.length : Int))) with hb4 | hb4
  · have hb4d := of_decide_eq_true hb4
    have F := F.at 25 rfl (v' := .bool true) (congrArg Value.bool hb4)
    refine sq2 (W' := W) (show Eq (α := OSk) _ (some (some 26, (.move (.tmp 4)), 82, some (4, true))) by kernel_rfl) ⟨25, by kernel_rfl, rfl⟩ F (by decide) (v := .pointer (some ⟨g2, 0, none⟩)) (x_move (F.slot rfl)) (fun _ => trivial) (fun a F => ?_)
    refine sq2 (W' := W) (show Eq (α := OSk) _ (some (some 27, (.nilCheck (.tmp 26)), 0, some (4, true))) by kernel_rfl) ⟨25, by kernel_rfl, rfl⟩ F (by decide) (v := .pointer (some ⟨g2, 0, none⟩)) (x_nil (F.slot rfl)) (fun _ => trivial) (fun a F => ?_)
    refine sq2 (W' := W) (show Eq (α := OSk) _ (some (some 28, (.fieldAddr 84 (.tmp 27) 1), 0, some (4, true))) by kernel_rfl) ⟨25, by kernel_rfl, rfl⟩ F (by decide) (v := .pointer (some ⟨g2, 1, none⟩)) (x_field0 Tryd.underlying84 rfl rfl (Tryd.sizeOf24 W) (F.slot rfl)) (fun _ => trivial) (fun a F => ?_)
    refine sq2 (show Eq (α := OSk) _ (some (some 29, (.load 24 (.tmp 28)), 24, some (4, true))) by kernel_rfl) ⟨25, by kernel_rfl, rfl⟩ F (by decide) (v := .int .i64 E) (x_load1 (Tryd.isAgg24 W) (F.slot rfl) (H.cell 1 rfl rfl)) (fun _ => trivial) (fun a F => ?_)
    refine sq2 (W' := W) (show Eq (α := OSk) _ (some (some 30, (.binOp .eql 24 (.tmp 29) (.const (.int .i64 0)) 24), 4, some (4, true))) by kernel_rfl) ⟨25, by kernel_rfl, rfl⟩ F (by decide) (v := .bool (E == (0 : Int))) (x_int (F.slot rfl) rfl rfl) (fun _ => trivial) (fun a F => ?_)
    refine sq2 (W' := W) (show Eq (α := OSk) _ (some (some 31, (.pick (.tmp 25) (.tmp 30) (.const (.bool false))), 4, none)) by kernel_rfl) trivial F (by decide) (v := .bool (E == (0 : Int))) (x_pickT (F.slot rfl) (F.slot rfl)) (fun _ => trivial) (fun a F => ?_)
    unfold wpSeq
    have H : St w (fun _ => False) (fun _ => False) [Asn.blk g1 [.int .i64 0, .int .i64 0, .slice none 0 0] 40, Asn.blk g2 [.string s3, .int .i64 E] 84, Asn.rd Kd.string _ A l.length l, Asn.blk g3 [.int .i64 0, .int .i64 0, .slice A1 acc.length c1] 40, Asn.qu k33 33 (.slice A1 acc.length c1) acc ok] W := H
    refine t_normal ?_
    rcases bool_or (E == (0 : Int)) with hb5 | hb5
    · have F := F.at 31 rfl (v' := .bool true) (congrArg Value.bool hb5)
      refine c_yes (c := .tmp 31) (by kernel_rfl) (F.slot rfl) ?_
      refine c_skip (by kernel_rfl) ?_
      refine t_normal ?_
      refine c_seq (by kernel_rfl) ?_
      refine c_block (id := 1) (by kernel_rfl) ?_
      refine c_seq (by kernel_rfl) ?_
      obtain rfl : E = 0 := by simpa using hb5
      obtain ⟨he3, HD⟩ : e3 = 0 ∧ dall l = (acc ++ (dall (l.drop j)).1, (dall (l.drop j)).2) := by
        rcases hE with h | h | h
        · exact h.2
        · exact absurd rfl h.1
        · exact absurd rfl h.1
      have hl16 : l.length ≤ 16 := by rcases HB with h | h; exact absurd he3 h.1; exact h.2.2
      refine c_text (id := 9) (by kernel_rfl) [(0, 2), (1, 2), (2, 2), (3, 2), (4, 2), (5, 2), (6, 2), (7, 2), (8, 2), (9, 2), (10, 2)] (by kernel_rfl) ?_
      refine sq2 (W' := W) (show Eq (α := OSk) _ (some (some 35, (.move (.tmp 7)), 31, none)) by kernel_rfl) trivial F (by decide) (v := .slice A l.length c) (x_move (F.slot rfl)) (fun _ => trivial) (fun a F => ?_)
      refine sq2 (W' := W) (show Eq (α := OSk) _ (some (some 36, (.move (.tmp 9)), 3, none)) by kernel_rfl) trivial F (by decide) (v := .int .i64 (j : Int)) (x_move (F.slot rfl)) (fun _ => trivial) (fun a F => ?_)
      obtain ⟨ad, hA, hx⟩ := Kd.at_string (H.rd 2 rfl) (j : Int) (by omega) (by omega)
      have hx : W.cell? (ad.add j) = some (.string (rdOf ByteArray.empty l (j : Int))) := hx
      obtain ⟨b, hb⟩ : ∃ b, rdOf ByteArray.empty l (j : Int) = b := ⟨_, rfl⟩
      have hbs : b.size < 4611686018427387904 := by
        have e : rdOf ByteArray.empty l (j : Int) = l[j] := by simp [rdOf, show j < l.length by omega]
        rw [← hb, e]; exact HL0 _ (List.getElem_mem _)
      have hd := dall_at l j (by omega)
      rw [hb] at hx hd
      have F := F.at 35 rfl (v' := .slice (some ad) l.length c) (by rw [hA])
      refine sq2 (W' := W) (show Eq (α := OSk) _ (some (some 37, (.indexAddr 31 (.tmp 35) (.tmp 36)), 0, none)) by kernel_rfl) trivial F (by decide) (v := .pointer (some (ad.add j))) (x_indexSl1 (n := l.length) (c := c) (ad := ad) (i := (j : Int)) Tryd.underlying31 (Tryd.sizeOf9 W) (F.slot rfl) (F.slot rfl) (by omega) (by omega)) (fun _ => trivial) (fun a F => ?_)
      refine sq2 (show Eq (α := OSk) _ (some (some 38, (.load 9 (.tmp 37)), 9, none)) by kernel_rfl) trivial F (by decide) (v := .string b) (x_load1 (Tryd.isAgg9 W) (F.slot rfl) hx) (fun _ => trivial) (fun a F => ?_)
      obtain ⟨k0, f0, t0, am0, nc0, ky0, vl0, rs0, ws0, er, hr⟩ : ∃ a1 a2 a3 a4 a5 a6 a7 a8 a9 a10, dec b = (a1, a2, a3, a4, a5, a6, a7, a8, a9, a10) := ⟨_, _, _, _, _, _, _, _, _, _, rfl⟩
      have hLm : ∀ t ∈ acc ++ [(toS (k0, f0, t0, am0, nc0, ky0, vl0, rs0, ws0, er))], LimT t := by
        intro t ht
        rcases List.mem_append.1 ht with ht | ht
        · exact hLm t ht
        · rw [List.mem_singleton.1 ht]; have := dec_lim b hbs; rw [hr] at this; exact this
      have hE : (er = 0 ∧ e3 = 0 ∧ dall l = ((acc ++ [(toS (k0, f0, t0, am0, nc0, ky0, vl0, rs0, ws0, er))]) ++ (dall (l.drop (j + 1))).1, (dall (l.drop (j + 1))).2)) ∨ (er ≠ 0 ∧ e3 ≠ 0 ∧ er = e3) ∨ (er ≠ 0 ∧ e3 = 0 ∧ (dall l).2 = er) := by
        by_cases z : er = 0
        · refine .inl ⟨z, he3, ?_⟩; subst z; rw [HD, hd, dall, hr, if_pos (show errD _ = 0 from rfl), List.append_assoc]; rfl
        · refine .inr (.inr ⟨z, he3, ?_⟩); rw [HD, hd, dall, hr, if_neg (show errD (k0, f0, t0, am0, nc0, ky0, vl0, rs0, ws0, er) ≠ 0 from z)]; rfl
      refine sqc (show Eq (α := OSk) _ (some (some 39, (.call { callee := (.value (.func 26)), args := #[(.tmp 38)], argTypes := #[9] }), 48, none)) by kernel_rfl) trivial F (by decide) (x_call Tryd.func26 (by kernel_rfl) rfl (args_1 (F.slot rfl))) (rbdec_tx b W hbs hr) ?_
      rintro e W ⟨A7, c7, A8, c8, rfl, hF7, hl7, hF8, hl8, hB⟩
      refine ⟨_, rfl, fun a F => ?_⟩
      have H := H.freshF hB _ _ (fk_tx (toS (k0, f0, t0, am0, nc0, ky0, vl0, rs0, ws0, er)) hl7 hF7 hl8 hF8) (fun k hk => hk.1)
      have H : St w (fun _ => False) (fun _ => False) [Asn.blk g1 [.int .i64 0, .int .i64 0, .slice none 0 0] 40, Asn.blk g2 [.string s3, .int .i64 0] 84, Asn.rd Kd.string _ A l.length l, Asn.blk g3 [.int .i64 0, .int .i64 0, .slice A1 acc.length c1] 40, Asn.qu k33 33 (.slice A1 acc.length c1) acc ok, Asn.fk k33 _ (toS (k0, f0, t0, am0, nc0, ky0, vl0, rs0, ws0, er)) [.int .i64 k0, .string f0, .string t0, .int .u64 am0, .int .u64 nc0, .string ky0, .string vl0, .slice A7 rs0.length c7, .slice A8 ws0.length c8]] W := H
      refine ⟨(fun _ => trivial), ?_⟩
      refine sq2 (W' := W) (show Eq (α := OSk) _ (some (some 34, (.move (.tmp 39)), 48, none)) by kernel_rfl) trivial F (by decide) (v := .tuple #[.agg #[.int .i64 k0, .string f0, .string t0, .int .u64 am0, .int .u64 nc0, .string ky0, .string vl0, .slice A7 rs0.length c7, .slice A8 ws0.length c8], .int .i64 er]) (x_move (F.slot rfl)) (fun _ => trivial) (fun a F => ?_)
      refine sq2 (W' := W) (show Eq (α := OSk) _ (some (some 40, (.extract (.tmp 34) 0), 33, none)) by kernel_rfl) trivial F (by decide) (v := .agg #[.int .i64 k0, .string f0, .string t0, .int .u64 am0, .int .u64 nc0, .string ky0, .string vl0, .slice A7 rs0.length c7, .slice A8 ws0.length c8]) (x_extract (F.slot rfl) rfl) (fun _ => trivial) (fun a F => ?_)
      refine sq2 (W' := W) (show Eq (α := OSk) _ (some (some 41, (.extract (.tmp 34) 1), 24, none)) by kernel_rfl) trivial F (by decide) (v := .int .i64 er) (x_extract (F.slot rfl) rfl) (fun _ => trivial) (fun a F => ?_)
      refine sq_new (show Eq (α := OSk) _ (some (some 10, (.alloc 33), 0, none)) by kernel_rfl) trivial F (by decide) H [.int .i64 0, .string ⟨#[]⟩, .string ⟨#[]⟩, .int .u64 0, .int .u64 0, .string ⟨#[]⟩, .string ⟨#[]⟩, .slice none 0 0, .slice none 0 0] 33 (x_alloc Tryd.zeroValue33 rfl) ?_
      intro g6 W a hg6 H F
      refine ⟨(fun _ => trivial), ?_⟩
      refine sq_put (M := [Asn.blk g1 [.int .i64 0, .int .i64 0, .slice none 0 0] 40, Asn.blk g2 [.string s3, .int .i64 0] 84, Asn.rd Kd.string _ A l.length l, Asn.blk g3 [.int .i64 0, .int .i64 0, .slice A1 acc.length c1] 40, Asn.qu k33 33 (.slice A1 acc.length c1) acc ok, Asn.fk k33 _ (toS (k0, f0, t0, am0, nc0, ky0, vl0, rs0, ws0, er)) [.int .i64 k0, .string f0, .string t0, .int .u64 am0, .int .u64 nc0, .string ky0, .string vl0, .slice A7 rs0.length c7, .slice A8 ws0.length c8], Asn.blk g6 [.int .i64 k0, .string f0, .string t0, .int .u64 am0, .int .u64 nc0, .string ky0, .string vl0, .slice A7 rs0.length c7, .slice A8 ws0.length c8] 33]) (show Eq (α := OSk) _ (some (none, (.store 33 (.tmp 10) (.tmp 40)), 0, none)) by kernel_rfl) trivial F (x_store H (k := 6) (cs' := [.int .i64 k0, .string f0, .string t0, .int .u64 am0, .int .u64 nc0, .string ky0, .string vl0, .slice A7 rs0.length c7, .slice A8 ws0.length c8]) rfl (Tryd.sizeOf33 W) (F.slot rfl) (F.slot rfl) rfl (Nat.le_of_ble_eq_true rfl) rfl rfl) ?_
      intro W H
      refine ⟨(fun _ => trivial), ?_⟩
      refine sq2 (W' := W) (show Eq (α := OSk) _ (some (some 11, (.assign (.tmp 41)), 24, none)) by kernel_rfl) trivial F (by decide) (v := .int .i64 er) (x_assign (F.slot rfl)) (fun _ => trivial) (fun a F => ?_)
      unfold wpSeq
      refine t_normal ?_
      refine c_seq (by kernel_rfl) ?_
      refine c_text (id := 10) (by kernel_rfl) [(0, 2), (1, 2), (2, 2), (3, 2), (4, 2)] (by kernel_rfl) ?_
      refine sq2 (W' := W) (show Eq (α := OSk) _ (some (some 42, (.move (.tmp 4)), 82, none)) by kernel_rfl) trivial F (by decide) (v := .pointer (some ⟨g2, 0, none⟩)) (x_move (F.slot rfl)) (fun _ => trivial) (fun a F => ?_)
      refine sq2 (W' := W) (show Eq (α := OSk) _ (some (some 43, (.move (.tmp 11)), 24, none)) by kernel_rfl) trivial F (by decide) (v := .int .i64 er) (x_move (F.slot rfl)) (fun _ => trivial) (fun a F => ?_)
      refine sq2 (W' := W) (show Eq (α := OSk) _ (some (some 44, (.nilCheck (.tmp 42)), 0, none)) by kernel_rfl) trivial F (by decide) (v := .pointer (some ⟨g2, 0, none⟩)) (x_nil (F.slot rfl)) (fun _ => trivial) (fun a F => ?_)
      refine sq2 (W' := W) (show Eq (α := OSk) _ (some (some 45, (.fieldAddr 84 (.tmp 44) 1), 0, none)) by kernel_rfl) trivial F (by decide) (v := .pointer (some ⟨g2, 1, none⟩)) (x_field0 Tryd.underlying84 rfl rfl (Tryd.sizeOf24 W) (F.slot rfl)) (fun _ => trivial) (fun a F => ?_)
      refine sq_put (M := [Asn.blk g1 [.int .i64 0, .int .i64 0, .slice none 0 0] 40, Asn.blk g2 [.string s3, .int .i64 er] 84, Asn.rd Kd.string _ A l.length l, Asn.blk g3 [.int .i64 0, .int .i64 0, .slice A1 acc.length c1] 40, Asn.qu k33 33 (.slice A1 acc.length c1) acc ok, Asn.fk k33 _ (toS (k0, f0, t0, am0, nc0, ky0, vl0, rs0, ws0, er)) [.int .i64 k0, .string f0, .string t0, .int .u64 am0, .int .u64 nc0, .string ky0, .string vl0, .slice A7 rs0.length c7, .slice A8 ws0.length c8], Asn.blk g6 [.int .i64 k0, .string f0, .string t0, .int .u64 am0, .int .u64 nc0, .string ky0, .string vl0, .slice A7 rs0.length c7, .slice A8 ws0.length c8] 33]) (show Eq (α := OSk) _ (some (none, (.store 24 (.tmp 45) (.tmp 43)), 0, none)) by kernel_rfl) trivial F (x_store H (k := 1) (cs' := [.string s3, .int .i64 er]) rfl (Tryd.sizeOf24 W) (F.slot rfl) (F.slot rfl) rfl (Nat.le_of_ble_eq_true rfl) rfl rfl) ?_
      intro W H
      refine ⟨(fun _ => trivial), ?_⟩
      unfold wpSeq
      refine t_normal ?_
      refine c_text (id := 11) (by kernel_rfl) [(0, 2), (1, 2), (2, 2), (3, 2), (4, 2), (5, 2), (6, 2)] (by kernel_rfl) ?_
      refine sq2 (W' := W) (show Eq (α := OSk) _ (some (some 46, (.fieldAddr 40 (.tmp 8) 2), 0, none)) by kernel_rfl) trivial F (by decide) (v := .pointer (some ⟨g3, 2, none⟩)) (x_field0 Tryd.underlying40 rfl rfl (Tryd.sizeOf38 W) (F.slot rfl)) (fun _ => trivial) (fun a F => ?_)
      refine sq2 (show Eq (α := OSk) _ (some (some 47, (.load 38 (.tmp 46)), 38, none)) by kernel_rfl) trivial F (by decide) (v := .slice A1 acc.length c1) (x_load1 (Tryd.isAgg38 W) (F.slot rfl) (H.cell 3 rfl rfl)) (fun _ => trivial) (fun a F => ?_)
      refine sq2 (show Eq (α := OSk) _ (some (some 48, (.load 33 (.tmp 10)), 33, none)) by kernel_rfl) trivial F (by decide) (v := .agg #[.int .i64 k0, .string f0, .string t0, .int .u64 am0, .int .u64 nc0, .string ky0, .string vl0, .slice A7 rs0.length c7, .slice A8 ws0.length c8]) (x_loadB (Tryd.isAgg33 W) [.int .i64 k0, .string f0, .string t0, .int .u64 am0, .int .u64 nc0, .string ky0, .string vl0, .slice A7 rs0.length c7, .slice A8 ws0.length c8] (Tryd.sizeOf33 W) (F.slot rfl) (H.blk 6 rfl)) (fun _ => trivial) (fun a F => ?_)
      refine sq_bapp k33 4 5 (by decide) (show Eq (α := OSk) _ (some (some 49, (.buildSlice 38 1 #[(0, (.tmp 48))]), 38, none)) by kernel_rfl) trivial (show Eq (α := OSk) _ (some (some 50, (.call { callee := (.builtin .append), args := #[(.tmp 47), (.tmp 49)], argTypes := #[38, 38] }), 38, none)) by kernel_rfl) (fun _ => trivial) F (by decide) (by decide) rfl (fun a F => F.slot rfl) (F.slot rfl) rfl Tryd.underlying38 PB.info33 rfl (by decide) (by decide) (by decide) H rfl rfl (by omega) (fun W H => (fun _ => trivial)) ?_
      intro v_ W a H F
      obtain ⟨A2, c2, rfl, hc2⟩ := (H.qu 4 rfl).form
      have H : St w (fun _ => False) (fun _ => False) [Asn.blk g1 [.int .i64 0, .int .i64 0, .slice none 0 0] 40, Asn.blk g2 [.string s3, .int .i64 er] 84, Asn.rd Kd.string _ A l.length l, Asn.blk g3 [.int .i64 0, .int .i64 0, .slice A1 acc.length c1] 40, Asn.qu k33 33 (.slice A2 (acc ++ [(toS (k0, f0, t0, am0, nc0, ky0, vl0, rs0, ws0, er))]).length c2) (acc ++ [(toS (k0, f0, t0, am0, nc0, ky0, vl0, rs0, ws0, er))]) _, Asn.fk k33 _ (toS (k0, f0, t0, am0, nc0, ky0, vl0, rs0, ws0, er)) [.int .i64 k0, .string f0, .string t0, .int .u64 am0, .int .u64 nc0, .string ky0, .string vl0, .slice A7 rs0.length c7, .slice A8 ws0.length c8], Asn.blk g6 [.int .i64 k0, .string f0, .string t0, .int .u64 am0, .int .u64 nc0, .string ky0, .string vl0, .slice A7 rs0.length c7, .slice A8 ws0.length c8] 33] W := H
      refine ⟨(fun _ => trivial), ?_⟩
      refine sq2 (W' := W) (show Eq (α := OSk) _ (some (some 51, (.fieldAddr 40 (.tmp 8) 2), 0, none)) by kernel_rfl) trivial F (by decide) (v := .pointer (some ⟨g3, 2, none⟩)) (x_field0 Tryd.underlying40 rfl rfl (Tryd.sizeOf38 W) (F.slot rfl)) (fun _ => trivial) (fun a F => ?_)
      refine sq_put (M := [Asn.blk g1 [.int .i64 0, .int .i64 0, .slice none 0 0] 40, Asn.blk g2 [.string s3, .int .i64 er] 84, Asn.rd Kd.string _ A l.length l, Asn.blk g3 [.int .i64 0, .int .i64 0, .slice A2 ((acc ++ [(toS (k0, f0, t0, am0, nc0, ky0, vl0, rs0, ws0, er))]).length) c2] 40, Asn.qu k33 33 (.slice A2 (acc ++ [(toS (k0, f0, t0, am0, nc0, ky0, vl0, rs0, ws0, er))]).length c2) (acc ++ [(toS (k0, f0, t0, am0, nc0, ky0, vl0, rs0, ws0, er))]) _, Asn.fk k33 _ (toS (k0, f0, t0, am0, nc0, ky0, vl0, rs0, ws0, er)) [.int .i64 k0, .string f0, .string t0, .int .u64 am0, .int .u64 nc0, .string ky0, .string vl0, .slice A7 rs0.length c7, .slice A8 ws0.length c8], Asn.blk g6 [.int .i64 k0, .string f0, .string t0, .int .u64 am0, .int .u64 nc0, .string ky0, .string vl0, .slice A7 rs0.length c7, .slice A8 ws0.length c8] 33]) (show Eq (α := OSk) _ (some (none, (.store 38 (.tmp 51) (.tmp 50)), 0, none)) by kernel_rfl) trivial F (x_store H (k := 3) (cs' := [.int .i64 0, .int .i64 0, .slice A2 ((acc ++ [(toS (k0, f0, t0, am0, nc0, ky0, vl0, rs0, ws0, er))]).length) c2]) rfl (Tryd.sizeOf38 W) (F.slot rfl) (F.slot rfl) rfl (Nat.le_of_ble_eq_true rfl) rfl rfl) ?_
      intro W H
      refine ⟨(fun _ => trivial), ?_⟩
      unfold wpSeq
      refine b_normal ?_
      refine t_normal ?_
      have H := H.front 5
      have H : St w (fun _ => False) (fun _ => False) [Asn.blk g1 [.int .i64 0, .int .i64 0, .slice none 0 0] 40, Asn.blk g2 [.string s3, .int .i64 er] 84, Asn.rd Kd.string _ A l.length l, Asn.blk g3 [.int .i64 0, .int .i64 0, .slice A2 ((acc ++ [(toS (k0, f0, t0, am0, nc0, ky0, vl0, rs0, ws0, er))]).length) c2] 40, Asn.qu k33 33 (.slice A2 (acc ++ [(toS (k0, f0, t0, am0, nc0, ky0, vl0, rs0, ws0, er))]).length c2) (acc ++ [(toS (k0, f0, t0, am0, nc0, ky0, vl0, rs0, ws0, er))]) _] W := H
      refine c_text (id := 8) (by kernel_rfl) [(0, 2), (1, 2), (2, 2)] (by kernel_rfl) ?_
      refine sq2 (W' := W) (show Eq (α := OSk) _ (some (some 32, (.move (.tmp 9)), 3, none)) by kernel_rfl) trivial F (by decide) (v := .int .i64 (j : Int)) (x_move (F.slot rfl)) (fun _ => trivial) (fun a F => ?_)
      refine sq2 (W' := W) (show Eq (α := OSk) _ (some (some 33, (.binOp .add 3 (.tmp 32) (.const (.int .i64 1)) 3), 3, none)) by kernel_rfl) trivial F (by decide) (v := .int .i64 (IntKind.i64.wrap ((j : Int) + 1))) (x_int (F.slot rfl) rfl rfl) (fun _ => trivial) (fun a F => ?_)
      refine sq2 (W' := W) (show Eq (α := OSk) _ (some (some 9, (.assign (.tmp 33)), 3, none)) by kernel_rfl) trivial F (by decide) (v := .int .i64 (IntKind.i64.wrap ((j : Int) + 1))) (x_assign (F.slot rfl)) (fun _ => trivial) (fun a F => ?_)
      unfold wpSeq
      refine t_normal ?_
      have F_ := F
      have F := F.at 9 rfl (v' := .int .i64 ((j + 1 : Nat) : Int)) (congrArg (Value.int .i64) ((wrap_i64 _ (by omega) (by omega)).trans (by omega)))
      exact ⟨k - 1, by omega, j + 1, _, _, _, _, _, F.less _ (subc rfl (subc rfl (subc rfl (subc rfl (subc rfl (subc rfl (subc rfl (subc rfl (subc rfl (subc rfl (subc rfl (subc rfl (subc rfl (subc rfl (subc rfl (subc rfl (subc rfl (subc rfl sub0)))))))))))))))))), H, (by omega), (by omega), (by simp [hacc]), (by simp; omega), hLm, hE⟩
    · have F := F.at 31 rfl (v' := .bool false) (congrArg Value.bool hb5)
      refine c_no (c := .tmp 31) (by kernel_rfl) (F.slot rfl) ?_
      refine c_exit (id := 0) (by kernel_rfl) ?_
      refine t_exit ?_
      refine t_exit ?_
      refine b_here ?_
      refine t_normal ?_
      refine c_seq (by kernel_rfl) ?_
      have hJ : E = 0 → j = l.length := by intro h; first | omega | exact absurd h (by simpa using hb5)
      refine c_text (id := 12) (by kernel_rfl) [(0, 2), (1, 2)] (by kernel_rfl) ?_
      refine sq2 (W' := W) (show Eq (α := OSk) _ (some (some 52, (.move (.tmp 4)), 82, none)) by kernel_rfl) trivial F (by decide) (v := .pointer (some ⟨g2, 0, none⟩)) (x_move (F.slot rfl)) (fun _ => trivial) (fun a F => ?_)
      obtain ⟨E1, hE1⟩ : ∃ z, inE s3 E = z := ⟨_, rfl⟩
      have HK := In_End g2 s3 E W (H.blk 1 rfl)
      rw [hE1] at HK
      have HX := rb_fin HB hE hJ hE1
      refine sqc (show Eq (α := OSk) _ (some (some 53, (.call { callee := (.value (.func 59)), args := #[(.tmp 52)], argTypes := #[82] }), 0, none)) by kernel_rfl) trivial F (by decide) (x_call Tryd.func59 (by kernel_rfl) rfl (args_1 (F.slot rfl))) (HK) ?_
      rintro e W ⟨rfl, hr⟩
      refine ⟨_, rfl, fun a F => ?_⟩
      have H := H.ri 1 rfl hr
      have H : St w (fun _ => False) (fun _ => False) [Asn.blk g1 [.int .i64 0, .int .i64 0, .slice none 0 0] 40, Asn.blk g2 [.string s3, .int .i64 E1] 84, Asn.rd Kd.string _ A l.length l, Asn.blk g3 [.int .i64 0, .int .i64 0, .slice A1 acc.length c1] 40, Asn.qu k33 33 (.slice A1 acc.length c1) acc ok] W := H
      refine ⟨(fun _ => trivial), ?_⟩
      unfold wpSeq
      refine t_normal ?_
      refine c_seq (by kernel_rfl) ?_
      refine c_seq (by kernel_rfl) ?_
      refine c_text (id := 13) (by kernel_rfl) [(0, 2), (1, 2), (2, 2), (3, 2), (4, 2), (5, 2), (6, 2), (7, 2), (8, 2)] (by kernel_rfl) ?_
      refine sq2 (W' := W) (show Eq (α := OSk) _ (some (some 54, (.move (.tmp 4)), 82, none)) by kernel_rfl) trivial F (by decide) (v := .pointer (some ⟨g2, 0, none⟩)) (x_move (F.slot rfl)) (fun _ => trivial) (fun a F => ?_)
      refine sq2 (W' := W) (show Eq (α := OSk) _ (some (some 55, (.nilCheck (.tmp 54)), 0, none)) by kernel_rfl) trivial F (by decide) (v := .pointer (some ⟨g2, 0, none⟩)) (x_nil (F.slot rfl)) (fun _ => trivial) (fun a F => ?_)
      refine sq2 (W' := W) (show Eq (α := OSk) _ (some (some 56, (.fieldAddr 84 (.tmp 55) 1), 0, none)) by kernel_rfl) trivial F (by decide) (v := .pointer (some ⟨g2, 1, none⟩)) (x_field0 Tryd.underlying84 rfl rfl (Tryd.sizeOf24 W) (F.slot rfl)) (fun _ => trivial) (fun a F => ?_)
      refine sq2 (show Eq (α := OSk) _ (some (some 57, (.load 24 (.tmp 56)), 24, none)) by kernel_rfl) trivial F (by decide) (v := .int .i64 E1) (x_load1 (Tryd.isAgg24 W) (F.slot rfl) (H.cell 1 rfl rfl)) (fun _ => trivial) (fun a F => ?_)
      refine sq2 (W' := W) (show Eq (α := OSk) _ (some (some 58, (.binOp .eql 24 (.tmp 57) (.const (.int .i64 0)) 24), 4, none)) by kernel_rfl) trivial F (by decide) (v := .bool (E1 == (0 : Int))) (x_int (F.slot rfl) rfl rfl) (fun _ => trivial) (fun a F => ?_)
      refine sq2 (W' := W) (show Eq (α := OSk) _ (some (some 59, (.move (.tmp 58)), 4, none)) by kernel_rfl) trivial F (by decide) (v := .bool (E1 == (0 : Int))) (x_move (F.slot rfl)) (fun _ => trivial) (fun a F => ?_)
      rcases bool_or (E1 == (0 : Int)) with hb7 | hb7
      · have F := F.at 59 rfl (v' := .bool true) (congrArg Value.bool hb7)
        refine sq2 (W' := W) (show Eq (α := OSk) _ (some (some 60, (.move (.tmp 5)), 2, some (5, true))) by kernel_rfl) ⟨59, by kernel_rfl, rfl⟩ F (by decide) (v := .int .i64 a1) (x_move (F.slot rfl)) (fun _ => trivial) (fun a F => ?_)
        refine sq2 (W' := W) (show Eq (α := OSk) _ (some (some 61, (.binOp .gtr 2 (.tmp 60) (.const (.int .i64 6)) 2), 4, some (5, true))) by kernel_rfl) ⟨59, by kernel_rfl, rfl⟩ F (by decide) (v := .bool (decide (a1 > (6 : Int)))) (x_int (F.slot rfl) rfl rfl) (fun _ => trivial) (fun a F => ?_)
        refine sq2 (W' := W) (show Eq (α := OSk) _ (some (some 62, (.pick (.tmp 59) (.tmp 61) (.const (.bool false))), 4, none)) by kernel_rfl) trivial F (by decide) (v := .bool (decide (a1 > (6 : Int)))) (x_pickT (F.slot rfl) (F.slot rfl)) (fun _ => trivial) (fun a F => ?_)
        unfold wpSeq
        refine t_normal ?_
        rcases bool_or (decide (a1 > (6 : Int))) with hb8 | hb8
        · have hb8d := of_decide_eq_true hb8
          have F := F.at 62 rfl (v' := .bool true) (congrArg Value.bool hb8)
          refine c_yes (c := .tmp 62) (by kernel_rfl) (F.slot rfl) ?_
          refine c_text (id := 14) (by kernel_rfl) [(0, 2), (1, 2), (2, 2), (3, 2)] (by kernel_rfl) ?_
          refine sq2 (W' := W) (show Eq (α := OSk) _ (some (some 63, (.move (.tmp 4)), 82, none)) by kernel_rfl) trivial F (by decide) (v := .pointer (some ⟨g2, 0, none⟩)) (x_move (F.slot rfl)) (fun _ => trivial) (fun a F => ?_)
          refine sq2 (W' := W) (show Eq (α := OSk) _ (some (some 64, (.nilCheck (.tmp 63)), 0, none)) by kernel_rfl) trivial F (by decide) (v := .pointer (some ⟨g2, 0, none⟩)) (x_nil (F.slot rfl)) (fun _ => trivial) (fun a F => ?_)
          refine sq2 (W' := W) (show Eq (α := OSk) _ (some (some 65, (.fieldAddr 84 (.tmp 64) 1), 0, none)) by kernel_rfl) trivial F (by decide) (v := .pointer (some ⟨g2, 1, none⟩)) (x_field0 Tryd.underlying84 rfl rfl (Tryd.sizeOf24 W) (F.slot rfl)) (fun _ => trivial) (fun a F => ?_)
          refine sq_put (M := [Asn.blk g1 [.int .i64 0, .int .i64 0, .slice none 0 0] 40, Asn.blk g2 [.string s3, .int .i64 2] 84, Asn.rd Kd.string _ A l.length l, Asn.blk g3 [.int .i64 0, .int .i64 0, .slice A1 acc.length c1] 40, Asn.qu k33 33 (.slice A1 acc.length c1) acc ok]) (show Eq (α := OSk) _ (some (none, (.store 24 (.tmp 65) (.const (.int .i64 2))), 0, none)) by kernel_rfl) trivial F (x_store H (k := 1) (cs' := [.string s3, .int .i64 2]) rfl (Tryd.sizeOf24 W) (F.slot rfl) rfl rfl (Nat.le_of_ble_eq_true rfl) rfl rfl) ?_
          intro W H
          refine ⟨(fun _ => trivial), ?_⟩
          unfold wpSeq
          refine t_normal ?_
          refine c_seq (by kernel_rfl) ?_
          refine c_text (id := 15) (by kernel_rfl) [(0, 2), (1, 2), (2, 2)] (by kernel_rfl) ?_
          refine sq2 (W' := W) (show Eq (α := OSk) _ (some (some 66, (.move (.tmp 5)), 2, none)) by kernel_rfl) trivial F (by decide) (v := .int .i64 a1) (x_move (F.slot rfl)) (fun _ => trivial) (fun a F => ?_)
          refine sq2 (W' := W) (show Eq (α := OSk) _ (some (some 67, (.fieldAddr 40 (.tmp 8) 0), 0, none)) by kernel_rfl) trivial F (by decide) (v := .pointer (some ⟨g3, 0, none⟩)) (x_field0 Tryd.underlying40 rfl rfl (Tryd.sizeOf3 W) (F.slot rfl)) (fun _ => trivial) (fun a F => ?_)
          refine sq_put (M := [Asn.blk g1 [.int .i64 0, .int .i64 0, .slice none 0 0] 40, Asn.blk g2 [.string s3, .int .i64 2] 84, Asn.rd Kd.string _ A l.length l, Asn.blk g3 [.int .i64 a1, .int .i64 0, .slice A1 acc.length c1] 40, Asn.qu k33 33 (.slice A1 acc.length c1) acc ok]) (show Eq (α := OSk) _ (some (none, (.store 3 (.tmp 67) (.tmp 66)), 0, none)) by kernel_rfl) trivial F (x_store H (k := 3) (cs' := [.int .i64 a1, .int .i64 0, .slice A1 acc.length c1]) rfl (Tryd.sizeOf3 W) (F.slot rfl) (F.slot rfl) rfl (Nat.le_of_ble_eq_true rfl) rfl rfl) ?_
          intro W H
          refine ⟨(fun _ => trivial), ?_⟩
          unfold wpSeq
          refine t_normal ?_
          refine c_seq (by kernel_rfl) ?_
          refine c_text (id := 16) (by kernel_rfl) [(0, 2), (1, 2), (2, 2)] (by kernel_rfl) ?_
          refine sq2 (W' := W) (show Eq (α := OSk) _ (some (some 68, (.move (.tmp 6)), 2, none)) by kernel_rfl) trivial F (by decide) (v := .int .i64 n1) (x_move (F.slot rfl)) (fun _ => trivial) (fun a F => ?_)
          refine sq2 (W' := W) (show Eq (α := OSk) _ (some (some 69, (.fieldAddr 40 (.tmp 8) 1), 0, none)) by kernel_rfl) trivial F (by decide) (v := .pointer (some ⟨g3, 1, none⟩)) (x_field0 Tryd.underlying40 rfl rfl (Tryd.sizeOf3 W) (F.slot rfl)) (fun _ => trivial) (fun a F => ?_)
          refine sq_put (M := [Asn.blk g1 [.int .i64 0, .int .i64 0, .slice none 0 0] 40, Asn.blk g2 [.string s3, .int .i64 2] 84, Asn.rd Kd.string _ A l.length l, Asn.blk g3 [.int .i64 a1, .int .i64 n1, .slice A1 acc.length c1] 40, Asn.qu k33 33 (.slice A1 acc.length c1) acc ok]) (show Eq (α := OSk) _ (some (none, (.store 3 (.tmp 69) (.tmp 68)), 0, none)) by kernel_rfl) trivial F (x_store H (k := 3) (cs' := [.int .i64 a1, .int .i64 n1, .slice A1 acc.length c1]) rfl (Tryd.sizeOf3 W) (F.slot rfl) (F.slot rfl) rfl (Nat.le_of_ble_eq_true rfl) rfl rfl) ?_
          intro W H
          refine ⟨(fun _ => trivial), ?_⟩
          unfold wpSeq
          refine t_normal ?_
          refine c_seq (by kernel_rfl) ?_
          refine c_seq (by kernel_rfl) ?_
          refine c_text (id := 17) (by kernel_rfl) [(0, 2), (1, 2), (2, 2), (3, 2), (4, 2)] (by kernel_rfl) ?_
          refine sq2 (W' := W) (show Eq (α := OSk) _ (some (some 70, (.move (.tmp 4)), 82, none)) by kernel_rfl) trivial F (by decide) (v := .pointer (some ⟨g2, 0, none⟩)) (x_move (F.slot rfl)) (fun _ => trivial) (fun a F => ?_)
          refine sq2 (W' := W) (show Eq (α := OSk) _ (some (some 71, (.nilCheck (.tmp 70)), 0, none)) by kernel_rfl) trivial F (by decide) (v := .pointer (some ⟨g2, 0, none⟩)) (x_nil (F.slot rfl)) (fun _ => trivial) (fun a F => ?_)
          refine sq2 (W' := W) (show Eq (α := OSk) _ (some (some 72, (.fieldAddr 84 (.tmp 71) 1), 0, none)) by kernel_rfl) trivial F (by decide) (v := .pointer (some ⟨g2, 1, none⟩)) (x_field0 Tryd.underlying84 rfl rfl (Tryd.sizeOf24 W) (F.slot rfl)) (fun _ => trivial) (fun a F => ?_)
          refine sq2 (show Eq (α := OSk) _ (some (some 73, (.load 24 (.tmp 72)), 24, none)) by kernel_rfl) trivial F (by decide) (v := .int .i64 2) (x_load1 (Tryd.isAgg24 W) (F.slot rfl) (H.cell 1 rfl rfl)) (fun _ => trivial) (fun a F => ?_)
          refine sq2 (W' := W) (show Eq (α := OSk) _ (some (some 74, (.binOp .eql 24 (.tmp 73) (.const (.int .i64 0)) 24), 4, none)) by kernel_rfl) trivial F (by decide) (v := .bool false) (x_int (F.slot rfl) rfl rfl) (fun _ => trivial) (fun a F => ?_)
          unfold wpSeq
          refine t_normal ?_
          refine c_no (c := .tmp 74) (by kernel_rfl) (F.slot rfl) ?_
          refine c_skip (by kernel_rfl) ?_
          refine t_normal ?_
          refine c_seq (by kernel_rfl) ?_
          refine c_seq (by kernel_rfl) ?_
          refine c_text (id := 19) (by kernel_rfl) [(0, 2), (1, 2), (2, 2), (3, 2), (4, 2)] (by kernel_rfl) ?_
          refine sq2 (W' := W) (show Eq (α := OSk) _ (some (some 80, (.move (.tmp 4)), 82, none)) by kernel_rfl) trivial F (by decide) (v := .pointer (some ⟨g2, 0, none⟩)) (x_move (F.slot rfl)) (fun _ => trivial) (fun a F => ?_)
          refine sq2 (W' := W) (show Eq (α := OSk) _ (some (some 81, (.nilCheck (.tmp 80)), 0, none)) by kernel_rfl) trivial F (by decide) (v := .pointer (some ⟨g2, 0, none⟩)) (x_nil (F.slot rfl)) (fun _ => trivial) (fun a F => ?_)
          refine sq2 (W' := W) (show Eq (α := OSk) _ (some (some 82, (.fieldAddr 84 (.tmp 81) 1), 0, none)) by kernel_rfl) trivial F (by decide) (v := .pointer (some ⟨g2, 1, none⟩)) (x_field0 Tryd.underlying84 rfl rfl (Tryd.sizeOf24 W) (F.slot rfl)) (fun _ => trivial) (fun a F => ?_)
          refine sq2 (show Eq (α := OSk) _ (some (some 83, (.load 24 (.tmp 82)), 24, none)) by kernel_rfl) trivial F (by decide) (v := .int .i64 2) (x_load1 (Tryd.isAgg24 W) (F.slot rfl) (H.cell 1 rfl rfl)) (fun _ => trivial) (fun a F => ?_)
          refine sq2 (W' := W) (show Eq (α := OSk) _ (some (some 84, (.binOp .neq 24 (.tmp 83) (.const (.int .i64 0)) 24), 4, none)) by kernel_rfl) trivial F (by decide) (v := .bool true) (x_int (F.slot rfl) rfl rfl) (fun _ => trivial) (fun a F => ?_)
          unfold wpSeq
          refine t_normal ?_
          refine c_yes (c := .tmp 84) (by kernel_rfl) (F.slot rfl) ?_
          refine c_seq (by kernel_rfl) ?_
          refine c_drawn (id := 20) (by kernel_rfl) (by kernel_rfl) (Vs [Asn.blk g2 [.string s3, .int .i64 2] 84]) [0, 0, 2, 6, 14, 1, 63] [] [(0, 0), (1, 0), (2, 0), (3, 0), (4, 1), (5, 2), (6, 0)] (by kernel_rfl) (fun _ _ d _ _ h => by cases d <;> exact h) (Vs.drew ⟨H.get 1 rfl, trivial⟩) ?_
          have H := H.drew
          generalize World.drew W = W at H ⊢
          refine sq0 (show Eq (α := OSk) _ (some (some 85, (.build 40 #[]), 40, none)) by kernel_rfl) trivial F (by decide) (v := .agg #[.int .i64 0, .int .i64 0, .slice none 0 0]) (fun W_ => by simp [ex, execOp, Instr.build, Tryd.zeroValue40, run_underlying Tryd.underlying40, Instr.fill, Value.cells, Tryd.sizeOf3, Tryd.sizeOf38]) (fun a F => ?_)
          refine sq0 (show Eq (α := OSk) _ (some (some 86, (.move (.tmp 4)), 82, none)) by kernel_rfl) trivial F (by decide) (v := .pointer (some ⟨g2, 0, none⟩)) (fun W_ => x_move (F.slot rfl)) (fun a F => ?_)
          refine sq0 (show Eq (α := OSk) _ (some (some 87, (.nilCheck (.tmp 86)), 0, none)) by kernel_rfl) trivial F (by decide) (v := .pointer (some ⟨g2, 0, none⟩)) (fun W_ => x_nil (F.slot rfl)) (fun a F => ?_)
          refine sq0 (show Eq (α := OSk) _ (some (some 88, (.fieldAddr 84 (.tmp 87) 1), 0, none)) by kernel_rfl) trivial F (by decide) (v := .pointer (some ⟨g2, 1, none⟩)) (fun W_ => x_field0 Tryd.underlying84 rfl rfl (Tryd.sizeOf24 W_) (F.slot rfl)) (fun a F => ?_)
          refine sq1 (show Eq (α := OSk) _ (some (some 89, (.load 24 (.tmp 88)), 24, none)) by kernel_rfl) trivial F (by decide) (⟨H.get 1 rfl, trivial⟩) (v := .int .i64 2) (fun W_ hV => x_load1 (Tryd.isAgg24 W_) (F.slot rfl) (bcell hV.1 rfl)) (fun a F => ?_)
          refine sq_put (M := [Asn.blk g1 [.int .i64 0, .int .i64 0, .slice none 0 0] 40, Asn.blk g2 [.string s3, .int .i64 2] 84, Asn.rd Kd.string _ A l.length l, Asn.blk g3 [.int .i64 a1, .int .i64 n1, .slice A1 acc.length c1] 40, Asn.qu k33 33 (.slice A1 acc.length c1) acc ok]) (show Eq (α := OSk) _ (some (none, (.store 40 (.tmp 2) (.tmp 85)), 0, none)) by kernel_rfl) trivial F (x_store H (k := 0) (cs' := [.int .i64 0, .int .i64 0, .slice none 0 0]) rfl (Tryd.sizeOf40 W) (F.slot rfl) (F.slot rfl) rfl (Nat.le_of_ble_eq_true rfl) rfl rfl) ?_
          intro W H
          refine ⟨(fun _ => ⟨H.get 1 rfl, trivial⟩), ?_⟩
          refine sq0 (show Eq (α := OSk) _ (some (some 3, (.assign (.tmp 89)), 24, none)) by kernel_rfl) trivial F (by decide) (v := .int .i64 2) (fun W_ => x_assign (F.slot rfl)) (fun a F => ?_)
          unfold wpSeq
          refine t_normal ?_
          refine c_ret (by kernel_rfl) ?_
          refine t_ret ?_
          refine p_list (rs := [.cell 2 40, .tmp 3]) (vs := [.agg #[.int .i64 0, .int .i64 0, .slice none 0 0], .int .i64 2]) Tryd.results29 (by simp) F (Vals.cell' F rfl (H.blk 0 rfl) Tryd.underlying40 rfl (by kernel_rfl) (Vals.tmp' F rfl .nil)) ?_
          have HX := HX.2 (by simpa using hb7)
          rw [HX, if_pos (by omega)]
          exact ⟨none, 0, rfl, Nat.le_refl _, fun _ _ => Kd.C_nil _ _, H.ends⟩
        · have hb8d := of_decide_eq_false hb8
          have F := F.at 62 rfl (v' := .bool false) (congrArg Value.bool hb8)
          refine c_no (c := .tmp 62) (by kernel_rfl) (F.slot rfl) ?_
          refine c_skip (by kernel_rfl) ?_
          refine t_normal ?_
          refine c_seq (by kernel_rfl) ?_
          refine c_text (id := 15) (by kernel_rfl) [(0, 2), (1, 2), (2, 2)] (by kernel_rfl) ?_
          refine sq2 (W' := W) (show Eq (α := OSk) _ (some (some 66, (.move (.tmp 5)), 2, none)) by kernel_rfl) trivial F (by decide) (v := .int .i64 a1) (x_move (F.slot rfl)) (fun _ => trivial) (fun a F => ?_)
          refine sq2 (W' := W) (show Eq (α := OSk) _ (some (some 67, (.fieldAddr 40 (.tmp 8) 0), 0, none)) by kernel_rfl) trivial F (by decide) (v := .pointer (some ⟨g3, 0, none⟩)) (x_field0 Tryd.underlying40 rfl rfl (Tryd.sizeOf3 W) (F.slot rfl)) (fun _ => trivial) (fun a F => ?_)
          refine sq_put (M := [Asn.blk g1 [.int .i64 0, .int .i64 0, .slice none 0 0] 40, Asn.blk g2 [.string s3, .int .i64 E1] 84, Asn.rd Kd.string _ A l.length l, Asn.blk g3 [.int .i64 a1, .int .i64 0, .slice A1 acc.length c1] 40, Asn.qu k33 33 (.slice A1 acc.length c1) acc ok]) (show Eq (α := OSk) _ (some (none, (.store 3 (.tmp 67) (.tmp 66)), 0, none)) by kernel_rfl) trivial F (x_store H (k := 3) (cs' := [.int .i64 a1, .int .i64 0, .slice A1 acc.length c1]) rfl (Tryd.sizeOf3 W) (F.slot rfl) (F.slot rfl) rfl (Nat.le_of_ble_eq_true rfl) rfl rfl) ?_
          intro W H
          refine ⟨(fun _ => trivial), ?_⟩
          unfold wpSeq
          refine t_normal ?_
          refine c_seq (by kernel_rfl) ?_
          refine c_text (id := 16) (by kernel_rfl) [(0, 2), (1, 2), (2, 2)] (by kernel_rfl) ?_
          refine sq2 (W' := W) (show Eq (α := OSk) _ (some (some 68, (.move (.tmp 6)), 2, none)) by kernel_rfl) trivial F (by decide) (v := .int .i64 n1) (x_move (F.slot rfl)) (fun _ => trivial) (fun a F => ?_)
          refine sq2 (W' := W) (show Eq (α := OSk) _ (some (some 69, (.fieldAddr 40 (.tmp 8) 1), 0, none)) by kernel_rfl) trivial F (by decide) (v := .pointer (some ⟨g3, 1, none⟩)) (x_field0 Tryd.underlying40 rfl rfl (Tryd.sizeOf3 W) (F.slot rfl)) (fun _ => trivial) (fun a F => ?_)
          refine sq_put (M := [Asn.blk g1 [.int .i64 0, .int .i64 0, .slice none 0 0] 40, Asn.blk g2 [.string s3, .int .i64 E1] 84, Asn.rd Kd.string _ A l.length l, Asn.blk g3 [.int .i64 a1, .int .i64 n1, .slice A1 acc.length c1] 40, Asn.qu k33 33 (.slice A1 acc.length c1) acc ok]) (show Eq (α := OSk) _ (some (none, (.store 3 (.tmp 69) (.tmp 68)), 0, none)) by kernel_rfl) trivial F (x_store H (k := 3) (cs' := [.int .i64 a1, .int .i64 n1, .slice A1 acc.length c1]) rfl (Tryd.sizeOf3 W) (F.slot rfl) (F.slot rfl) rfl (Nat.le_of_ble_eq_true rfl) rfl rfl) ?_
          intro W H
          refine ⟨(fun _ => trivial), ?_⟩
          unfold wpSeq
          refine t_normal ?_
          refine c_seq (by kernel_rfl) ?_
          refine c_seq (by kernel_rfl) ?_
          refine c_text (id := 17) (by kernel_rfl) [(0, 2), (1, 2), (2, 2), (3, 2), (4, 2)] (by kernel_rfl) ?_
          refine sq2 (W' := W) (show Eq (α := OSk) _ (some (some 70, (.move (.tmp 4)), 82, none)) by kernel_rfl) trivial F (by decide) (v := .pointer (some ⟨g2, 0, none⟩)) (x_move (F.slot rfl)) (fun _ => trivial) (fun a F => ?_)
          refine sq2 (W' := W) (show Eq (α := OSk) _ (some (some 71, (.nilCheck (.tmp 70)), 0, none)) by kernel_rfl) trivial F (by decide) (v := .pointer (some ⟨g2, 0, none⟩)) (x_nil (F.slot rfl)) (fun _ => trivial) (fun a F => ?_)
          refine sq2 (W' := W) (show Eq (α := OSk) _ (some (some 72, (.fieldAddr 84 (.tmp 71) 1), 0, none)) by kernel_rfl) trivial F (by decide) (v := .pointer (some ⟨g2, 1, none⟩)) (x_field0 Tryd.underlying84 rfl rfl (Tryd.sizeOf24 W) (F.slot rfl)) (fun _ => trivial) (fun a F => ?_)
          refine sq2 (show Eq (α := OSk) _ (some (some 73, (.load 24 (.tmp 72)), 24, none)) by kernel_rfl) trivial F (by decide) (v := .int .i64 E1) (x_load1 (Tryd.isAgg24 W) (F.slot rfl) (H.cell 1 rfl rfl)) (fun _ => trivial) (fun a F => ?_)
          refine sq2 (W' := W) (show Eq (α := OSk) _ (some (some 74, (.binOp .eql 24 (.tmp 73) (.const (.int .i64 0)) 24), 4, none)) by kernel_rfl) trivial F (by decide) (v := .bool (E1 == (0 : Int))) (x_int (F.slot rfl) rfl rfl) (fun _ => trivial) (fun a F => ?_)
          unfold wpSeq
          refine t_normal ?_
          have hb10 : (E1 == (0 : Int)) = true := hb7
          have F := F.at 74 rfl (v' := .bool true) (congrArg Value.bool hb10)
          refine c_yes (c := .tmp 74) (by kernel_rfl) (F.slot rfl) ?_
          refine c_text (id := 18) (by kernel_rfl) [(0, 2), (1, 2), (2, 2), (3, 2), (4, 2), (5, 2)] (by kernel_rfl) ?_
          refine sq2 (W' := W) (show Eq (α := OSk) _ (some (some 75, (.move (.tmp 4)), 82, none)) by kernel_rfl) trivial F (by decide) (v := .pointer (some ⟨g2, 0, none⟩)) (x_move (F.slot rfl)) (fun _ => trivial) (fun a F => ?_)
          refine sq2 (show Eq (α := OSk) _ (some (some 76, (.load 40 (.tmp 8)), 40, none)) by kernel_rfl) trivial F (by decide) (v := .agg #[.int .i64 a1, .int .i64 n1, .slice A1 acc.length c1]) (x_loadB (Tryd.isAgg40 W) [.int .i64 a1, .int .i64 n1, .slice A1 acc.length c1] (Tryd.sizeOf40 W) (F.slot rfl) (H.blk 3 rfl)) (fun _ => trivial) (fun a F => ?_)
          obtain ⟨z2, hz2⟩ : ∃ z, bchk a1 n1 acc = z := ⟨_, rfl⟩
          have HK := rbchk_calls a1 n1 A1 c1 acc W (by omega) hLm (H.qu 4 rfl).read.2.2 (H.qu 4 rfl).read.2.1
          rw [hz2] at HK
          refine sqc (show Eq (α := OSk) _ (some (some 77, (.call { callee := (.value (.func 34)), args := #[(.tmp 76)], argTypes := #[40] }), 24, none)) by kernel_rfl) trivial F (by decide) (x_call Tryd.func34 (by kernel_rfl) rfl (args_1 (F.slot rfl))) (HK) ?_
          rintro e W ⟨rfl, hB⟩
          refine ⟨_, rfl, fun a F => ?_⟩
          have H := H.below hB
          refine ⟨(fun _ => trivial), ?_⟩
          refine sq2 (W' := W) (show Eq (α := OSk) _ (some (some 78, (.nilCheck (.tmp 75)), 0, none)) by kernel_rfl) trivial F (by decide) (v := .pointer (some ⟨g2, 0, none⟩)) (x_nil (F.slot rfl)) (fun _ => trivial) (fun a F => ?_)
          refine sq2 (W' := W) (show Eq (α := OSk) _ (some (some 79, (.fieldAddr 84 (.tmp 78) 1), 0, none)) by kernel_rfl) trivial F (by decide) (v := .pointer (some ⟨g2, 1, none⟩)) (x_field0 Tryd.underlying84 rfl rfl (Tryd.sizeOf24 W) (F.slot rfl)) (fun _ => trivial) (fun a F => ?_)
          refine sq_put (M := [Asn.blk g1 [.int .i64 0, .int .i64 0, .slice none 0 0] 40, Asn.blk g2 [.string s3, .int .i64 z2] 84, Asn.rd Kd.string _ A l.length l, Asn.blk g3 [.int .i64 a1, .int .i64 n1, .slice A1 acc.length c1] 40, Asn.qu k33 33 (.slice A1 acc.length c1) acc ok]) (show Eq (α := OSk) _ (some (none, (.store 24 (.tmp 79) (.tmp 77)), 0, none)) by kernel_rfl) trivial F (x_store H (k := 1) (cs' := [.string s3, .int .i64 z2]) rfl (Tryd.sizeOf24 W) (F.slot rfl) (F.slot rfl) rfl (Nat.le_of_ble_eq_true rfl) rfl rfl) ?_
          intro W H
          refine ⟨(fun _ => trivial), ?_⟩
          unfold wpSeq
          refine t_normal ?_
          refine c_seq (by kernel_rfl) ?_
          refine c_seq (by kernel_rfl) ?_
          refine c_text (id := 19) (by kernel_rfl) [(0, 2), (1, 2), (2, 2), (3, 2), (4, 2)] (by kernel_rfl) ?_
          refine sq2 (W' := W) (show Eq (α := OSk) _ (some (some 80, (.move (.tmp 4)), 82, none)) by kernel_rfl) trivial F (by decide) (v := .pointer (some ⟨g2, 0, none⟩)) (x_move (F.slot rfl)) (fun _ => trivial) (fun a F => ?_)
          refine sq2 (W' := W) (show Eq (α := OSk) _ (some (some 81, (.nilCheck (.tmp 80)), 0, none)) by kernel_rfl) trivial F (by decide) (v := .pointer (some ⟨g2, 0, none⟩)) (x_nil (F.slot rfl)) (fun _ => trivial) (fun a F => ?_)
          refine sq2 (W' := W) (show Eq (α := OSk) _ (some (some 82, (.fieldAddr 84 (.tmp 81) 1), 0, none)) by kernel_rfl) trivial F (by decide) (v := .pointer (some ⟨g2, 1, none⟩)) (x_field0 Tryd.underlying84 rfl rfl (Tryd.sizeOf24 W) (F.slot rfl)) (fun _ => trivial) (fun a F => ?_)
          refine sq2 (show Eq (α := OSk) _ (some (some 83, (.load 24 (.tmp 82)), 24, none)) by kernel_rfl) trivial F (by decide) (v := .int .i64 z2) (x_load1 (Tryd.isAgg24 W) (F.slot rfl) (H.cell 1 rfl rfl)) (fun _ => trivial) (fun a F => ?_)
          refine sq2 (W' := W) (show Eq (α := OSk) _ (some (some 84, (.binOp .neq 24 (.tmp 83) (.const (.int .i64 0)) 24), 4, none)) by kernel_rfl) trivial F (by decide) (v := .bool (z2 != (0 : Int))) (x_int (F.slot rfl) rfl rfl) (fun _ => trivial) (fun a F => ?_)
          unfold wpSeq
          refine t_normal ?_
          rcases bool_or (z2 != (0 : Int)) with hb11 | hb11
          · have F := F.at 84 rfl (v' := .bool true) (congrArg Value.bool hb11)
            refine c_yes (c := .tmp 84) (by kernel_rfl) (F.slot rfl) ?_
            refine c_seq (by kernel_rfl) ?_
            refine c_drawn (id := 20) (by kernel_rfl) (by kernel_rfl) (Vs [Asn.blk g2 [.string s3, .int .i64 z2] 84]) [0, 0, 2, 6, 14, 1, 63] [] [(0, 0), (1, 0), (2, 0), (3, 0), (4, 1), (5, 2), (6, 0)] (by kernel_rfl) (fun _ _ d _ _ h => by cases d <;> exact h) (Vs.drew ⟨H.get 1 rfl, trivial⟩) ?_
            have H := H.drew
            generalize World.drew W = W at H ⊢
            refine sq0 (show Eq (α := OSk) _ (some (some 85, (.build 40 #[]), 40, none)) by kernel_rfl) trivial F (by decide) (v := .agg #[.int .i64 0, .int .i64 0, .slice none 0 0]) (fun W_ => by simp [ex, execOp, Instr.build, Tryd.zeroValue40, run_underlying Tryd.underlying40, Instr.fill, Value.cells, Tryd.sizeOf3, Tryd.sizeOf38]) (fun a F => ?_)
            refine sq0 (show Eq (α := OSk) _ (some (some 86, (.move (.tmp 4)), 82, none)) by kernel_rfl) trivial F (by decide) (v := .pointer (some ⟨g2, 0, none⟩)) (fun W_ => x_move (F.slot rfl)) (fun a F => ?_)
            refine sq0 (show Eq (α := OSk) _ (some (some 87, (.nilCheck (.tmp 86)), 0, none)) by kernel_rfl) trivial F (by decide) (v := .pointer (some ⟨g2, 0, none⟩)) (fun W_ => x_nil (F.slot rfl)) (fun a F => ?_)
            refine sq0 (show Eq (α := OSk) _ (some (some 88, (.fieldAddr 84 (.tmp 87) 1), 0, none)) by kernel_rfl) trivial F (by decide) (v := .pointer (some ⟨g2, 1, none⟩)) (fun W_ => x_field0 Tryd.underlying84 rfl rfl (Tryd.sizeOf24 W_) (F.slot rfl)) (fun a F => ?_)
            refine sq1 (show Eq (α := OSk) _ (some (some 89, (.load 24 (.tmp 88)), 24, none)) by kernel_rfl) trivial F (by decide) (⟨H.get 1 rfl, trivial⟩) (v := .int .i64 z2) (fun W_ hV => x_load1 (Tryd.isAgg24 W_) (F.slot rfl) (bcell hV.1 rfl)) (fun a F => ?_)
            refine sq_put (M := [Asn.blk g1 [.int .i64 0, .int .i64 0, .slice none 0 0] 40, Asn.blk g2 [.string s3, .int .i64 z2] 84, Asn.rd Kd.string _ A l.length l, Asn.blk g3 [.int .i64 a1, .int .i64 n1, .slice A1 acc.length c1] 40, Asn.qu k33 33 (.slice A1 acc.length c1) acc ok]) (show Eq (α := OSk) _ (some (none, (.store 40 (.tmp 2) (.tmp 85)), 0, none)) by kernel_rfl) trivial F (x_store H (k := 0) (cs' := [.int .i64 0, .int .i64 0, .slice none 0 0]) rfl (Tryd.sizeOf40 W) (F.slot rfl) (F.slot rfl) rfl (Nat.le_of_ble_eq_true rfl) rfl rfl) ?_
            intro W H
            refine ⟨(fun _ => ⟨H.get 1 rfl, trivial⟩), ?_⟩
            refine sq0 (show Eq (α := OSk) _ (some (some 3, (.assign (.tmp 89)), 24, none)) by kernel_rfl) trivial F (by decide) (v := .int .i64 z2) (fun W_ => x_assign (F.slot rfl)) (fun a F => ?_)
            unfold wpSeq
            refine t_normal ?_
            refine c_ret (by kernel_rfl) ?_
            refine t_ret ?_
            refine p_list (rs := [.cell 2 40, .tmp 3]) (vs := [.agg #[.int .i64 0, .int .i64 0, .slice none 0 0], .int .i64 z2]) Tryd.results29 (by simp) F (Vals.cell' F rfl (H.blk 0 rfl) Tryd.underlying40 rfl (by kernel_rfl) (Vals.tmp' F rfl .nil)) ?_
            have HX := HX.2 (by simpa using hb7)
            rw [HX, if_neg (by omega), hz2]
            rw [if_neg (by simpa using hb11)]
            exact ⟨none, 0, rfl, Nat.le_refl _, fun _ _ => Kd.C_nil _ _, H.ends⟩
          · have F := F.at 84 rfl (v' := .bool false) (congrArg Value.bool hb11)
            refine c_no (c := .tmp 84) (by kernel_rfl) (F.slot rfl) ?_
            refine c_skip (by kernel_rfl) ?_
            refine t_normal ?_
            refine c_seq (by kernel_rfl) ?_
            refine c_text (id := 21) (by kernel_rfl) [(0, 2), (1, 2), (2, 2)] (by kernel_rfl) ?_
            refine sq2 (show Eq (α := OSk) _ (some (some 90, (.load 40 (.tmp 8)), 40, none)) by kernel_rfl) trivial F (by decide) (v := .agg #[.int .i64 a1, .int .i64 n1, .slice A1 acc.length c1]) (x_loadB (Tryd.isAgg40 W) [.int .i64 a1, .int .i64 n1, .slice A1 acc.length c1] (Tryd.sizeOf40 W) (F.slot rfl) (H.blk 3 rfl)) (fun _ => trivial) (fun a F => ?_)
            refine sq_put (M := [Asn.blk g1 [.int .i64 a1, .int .i64 n1, .slice A1 acc.length c1] 40, Asn.blk g2 [.string s3, .int .i64 z2] 84, Asn.rd Kd.string _ A l.length l, Asn.blk g3 [.int .i64 a1, .int .i64 n1, .slice A1 acc.length c1] 40, Asn.qu k33 33 (.slice A1 acc.length c1) acc ok]) (show Eq (α := OSk) _ (some (none, (.store 40 (.tmp 2) (.tmp 90)), 0, none)) by kernel_rfl) trivial F (x_store H (k := 0) (cs' := [.int .i64 a1, .int .i64 n1, .slice A1 acc.length c1]) rfl (Tryd.sizeOf40 W) (F.slot rfl) (F.slot rfl) rfl (Nat.le_of_ble_eq_true rfl) rfl rfl) ?_
            intro W H
            refine ⟨(fun _ => trivial), ?_⟩
            refine sq2 (W' := W) (show Eq (α := OSk) _ (some (some 3, (.assign (.const (.int .i64 0))), 24, none)) by kernel_rfl) trivial F (by decide) (v := .int .i64 0) (x_assign rfl) (fun _ => trivial) (fun a F => ?_)
            unfold wpSeq
            refine t_normal ?_
            refine c_ret (by kernel_rfl) ?_
            refine p_list (rs := [.cell 2 40, .tmp 3]) (vs := [.agg #[.int .i64 a1, .int .i64 n1, .slice A1 acc.length c1], .int .i64 0]) Tryd.results29 (by simp) F (Vals.cell' F rfl (H.blk 0 rfl) Tryd.underlying40 rfl (by kernel_rfl) (Vals.tmp' F rfl .nil)) ?_
            have HX := HX.2 (by simpa using hb7)
            rw [HX, if_neg (by omega), hz2]
            rw [if_pos (by simpa using hb11)]
            exact ⟨A1, c1, rfl, (H.qu 4 rfl).read.2.1, H.quFresh 4 rfl, H.ends⟩
      · have F := F.at 59 rfl (v' := .bool false) (congrArg Value.bool hb7)
        refine sqoff2 (e := 59) (show Eq (α := OSk) _ (some (some 60, (.move (.tmp 5)), 2, some (5, true))) by kernel_rfl) (by kernel_rfl) (.inl rfl) F (by decide) (trivial) (fun a F => ?_)
        refine sqoff2 (e := 59) (show Eq (α := OSk) _ (some (some 61, (.binOp .gtr 2 (.tmp 60) (.const (.int .i64 6)) 2), 4, some (5, true))) by kernel_rfl) (by kernel_rfl) (.inl rfl) F (by decide) (trivial) (fun a F => ?_)
        refine sq2 (W' := W) (show Eq (α := OSk) _ (some (some 62, (.pick (.tmp 59) (.tmp 61) (.const (.bool false))), 4, none)) by kernel_rfl) trivial F (by decide) (v := .bool false) (x_pickF (F.slot rfl) rfl) (fun _ => trivial) (fun a F => ?_)
        unfold wpSeq
        refine t_normal ?_
        refine c_no (c := .tmp 62) (by kernel_rfl) (F.slot rfl) ?_
        refine c_skip (by kernel_rfl) ?_
        refine t_normal ?_
        refine c_seq (by kernel_rfl) ?_
        refine c_text (id := 15) (by kernel_rfl) [(0, 2), (1, 2), (2, 2)] (by kernel_rfl) ?_
        refine sq2 (W' := W) (show Eq (α := OSk) _ (some (some 66, (.move (.tmp 5)), 2, none)) by kernel_rfl) trivial F (by decide) (v := .int .i64 a1) (x_move (F.slot rfl)) (fun _ => trivial) (fun a F => ?_)
        refine sq2 (W' := W) (show Eq (α := OSk) _ (some (some 67, (.fieldAddr 40 (.tmp 8) 0), 0, none)) by kernel_rfl) trivial F (by decide) (v := .pointer (some ⟨g3, 0, none⟩)) (x_field0 Tryd.underlying40 rfl rfl (Tryd.sizeOf3 W) (F.slot rfl)) (fun _ => trivial) (fun a F => ?_)
        refine sq_put (M := [Asn.blk g1 [.int .i64 0, .int .i64 0, .slice none 0 0] 40, Asn.blk g2 [.string s3, .int .i64 E1] 84, Asn.rd Kd.string _ A l.length l, Asn.blk g3 [.int .i64 a1, .int .i64 0, .slice A1 acc.length c1] 40, Asn.qu k33 33 (.slice A1 acc.length c1) acc ok]) (show Eq (α := OSk) _ (some (none, (.store 3 (.tmp 67) (.tmp 66)), 0, none)) by kernel_rfl) trivial F (x_store H (k := 3) (cs' := [.int .i64 a1, .int .i64 0, .slice A1 acc.length c1]) rfl (Tryd.sizeOf3 W) (F.slot rfl) (F.slot rfl) rfl (Nat.le_of_ble_eq_true rfl) rfl rfl) ?_
        intro W H
        refine ⟨(fun _ => trivial), ?_⟩
        unfold wpSeq
        refine t_normal ?_
        refine c_seq (by kernel_rfl) ?_
        refine c_text (id := 16) (by kernel_rfl) [(0, 2), (1, 2), (2, 2)] (by kernel_rfl) ?_
        refine sq2 (W' := W) (show Eq (α := OSk) _ (some (some 68, (.move (.tmp 6)), 2, none)) by kernel_rfl) trivial F (by decide) (v := .int .i64 n1) (x_move (F.slot rfl)) (fun _ => trivial) (fun a F => ?_)
        refine sq2 (W' := W) (show Eq (α := OSk) _ (some (some 69, (.fieldAddr 40 (.tmp 8) 1), 0, none)) by kernel_rfl) trivial F (by decide) (v := .pointer (some ⟨g3, 1, none⟩)) (x_field0 Tryd.underlying40 rfl rfl (Tryd.sizeOf3 W) (F.slot rfl)) (fun _ => trivial) (fun a F => ?_)
        refine sq_put (M := [Asn.blk g1 [.int .i64 0, .int .i64 0, .slice none 0 0] 40, Asn.blk g2 [.string s3, .int .i64 E1] 84, Asn.rd Kd.string _ A l.length l, Asn.blk g3 [.int .i64 a1, .int .i64 n1, .slice A1 acc.length c1] 40, Asn.qu k33 33 (.slice A1 acc.length c1) acc ok]) (show Eq (α := OSk) _ (some (none, (.store 3 (.tmp 69) (.tmp 68)), 0, none)) by kernel_rfl) trivial F (x_store H (k := 3) (cs' := [.int .i64 a1, .int .i64 n1, .slice A1 acc.length c1]) rfl (Tryd.sizeOf3 W) (F.slot rfl) (F.slot rfl) rfl (Nat.le_of_ble_eq_true rfl) rfl rfl) ?_
        intro W H
        refine ⟨(fun _ => trivial), ?_⟩
        unfold wpSeq
        refine t_normal ?_
        refine c_seq (by kernel_rfl) ?_
        refine c_seq (by kernel_rfl) ?_
        refine c_text (id := 17) (by kernel_rfl) [(0, 2), (1, 2), (2, 2), (3, 2), (4, 2)] (by kernel_rfl) ?_
        refine sq2 (W' := W) (show Eq (α := OSk) _ (some (some 70, (.move (.tmp 4)), 82, none)) by kernel_rfl) trivial F (by decide) (v := .pointer (some ⟨g2, 0, none⟩)) (x_move (F.slot rfl)) (fun _ => trivial) (fun a F => ?_)
        refine sq2 (W' := W) (show Eq (α := OSk) _ (some (some 71, (.nilCheck (.tmp 70)), 0, none)) by kernel_rfl) trivial F (by decide) (v := .pointer (some ⟨g2, 0, none⟩)) (x_nil (F.slot rfl)) (fun _ => trivial) (fun a F => ?_)
        refine sq2 (W' := W) (show Eq (α := OSk) _ (some (some 72, (.fieldAddr 84 (.tmp 71) 1), 0, none)) by kernel_rfl) trivial F (by decide) (v := .pointer (some ⟨g2, 1, none⟩)) (x_field0 Tryd.underlying84 rfl rfl (Tryd.sizeOf24 W) (F.slot rfl)) (fun _ => trivial) (fun a F => ?_)
        refine sq2 (show Eq (α := OSk) _ (some (some 73, (.load 24 (.tmp 72)), 24, none)) by kernel_rfl) trivial F (by decide) (v := .int .i64 E1) (x_load1 (Tryd.isAgg24 W) (F.slot rfl) (H.cell 1 rfl rfl)) (fun _ => trivial) (fun a F => ?_)
        refine sq2 (W' := W) (show Eq (α := OSk) _ (some (some 74, (.binOp .eql 24 (.tmp 73) (.const (.int .i64 0)) 24), 4, none)) by kernel_rfl) trivial F (by decide) (v := .bool (E1 == (0 : Int))) (x_int (F.slot rfl) rfl rfl) (fun _ => trivial) (fun a F => ?_)
        unfold wpSeq
        refine t_normal ?_
        have hb13 : (E1 == (0 : Int)) = false := hb7
        have F := F.at 74 rfl (v' := .bool false) (congrArg Value.bool hb13)
        refine c_no (c := .tmp 74) (by kernel_rfl) (F.slot rfl) ?_
        refine c_skip (by kernel_rfl) ?_
        refine t_normal ?_
        refine c_seq (by kernel_rfl) ?_
        refine c_seq (by kernel_rfl) ?_
        refine c_text (id := 19) (by kernel_rfl) [(0, 2), (1, 2), (2, 2), (3, 2), (4, 2)] (by kernel_rfl) ?_
        refine sq2 (W' := W) (show Eq (α := OSk) _ (some (some 80, (.move (.tmp 4)), 82, none)) by kernel_rfl) trivial F (by decide) (v := .pointer (some ⟨g2, 0, none⟩)) (x_move (F.slot rfl)) (fun _ => trivial) (fun a F => ?_)
        refine sq2 (W' := W) (show Eq (α := OSk) _ (some (some 81, (.nilCheck (.tmp 80)), 0, none)) by kernel_rfl) trivial F (by decide) (v := .pointer (some ⟨g2, 0, none⟩)) (x_nil (F.slot rfl)) (fun _ => trivial) (fun a F => ?_)
        refine sq2 (W' := W) (show Eq (α := OSk) _ (some (some 82, (.fieldAddr 84 (.tmp 81) 1), 0, none)) by kernel_rfl) trivial F (by decide) (v := .pointer (some ⟨g2, 1, none⟩)) (x_field0 Tryd.underlying84 rfl rfl (Tryd.sizeOf24 W) (F.slot rfl)) (fun _ => trivial) (fun a F => ?_)
        refine sq2 (show Eq (α := OSk) _ (some (some 83, (.load 24 (.tmp 82)), 24, none)) by kernel_rfl) trivial F (by decide) (v := .int .i64 E1) (x_load1 (Tryd.isAgg24 W) (F.slot rfl) (H.cell 1 rfl rfl)) (fun _ => trivial) (fun a F => ?_)
        refine sq2 (W' := W) (show Eq (α := OSk) _ (some (some 84, (.binOp .neq 24 (.tmp 83) (.const (.int .i64 0)) 24), 4, none)) by kernel_rfl) trivial F (by decide) (v := .bool (E1 != (0 : Int))) (x_int (F.slot rfl) rfl rfl) (fun _ => trivial) (fun a F => ?_)
        unfold wpSeq
        refine t_normal ?_
        have hb14 : (E1 != (0 : Int)) = true := by simpa using hb7
        have F := F.at 84 rfl (v' := .bool true) (congrArg Value.bool hb14)
        refine c_yes (c := .tmp 84) (by kernel_rfl) (F.slot rfl) ?_
        refine c_seq (by kernel_rfl) ?_
        refine c_drawn (id := 20) (by kernel_rfl) (by kernel_rfl) (Vs [Asn.blk g2 [.string s3, .int .i64 E1] 84]) [0, 0, 2, 6, 14, 1, 63] [] [(0, 0), (1, 0), (2, 0), (3, 0), (4, 1), (5, 2), (6, 0)] (by kernel_rfl) (fun _ _ d _ _ h => by cases d <;> exact h) (Vs.drew ⟨H.get 1 rfl, trivial⟩) ?_
        have H := H.drew
        generalize World.drew W = W at H ⊢
        refine sq0 (show Eq (α := OSk) _ (some (some 85, (.build 40 #[]), 40, none)) by kernel_rfl) trivial F (by decide) (v := .agg #[.int .i64 0, .int .i64 0, .slice none 0 0]) (fun W_ => by simp [ex, execOp, Instr.build, Tryd.zeroValue40, run_underlying Tryd.underlying40, Instr.fill, Value.cells, Tryd.sizeOf3, Tryd.sizeOf38]) (fun a F => ?_)
        refine sq0 (show Eq (α := OSk) _ (some (some 86, (.move (.tmp 4)), 82, none)) by kernel_rfl) trivial F (by decide) (v := .pointer (some ⟨g2, 0, none⟩)) (fun W_ => x_move (F.slot rfl)) (fun a F => ?_)
        refine sq0 (show Eq (α := OSk) _ (some (some 87, (.nilCheck (.tmp 86)), 0, none)) by kernel_rfl) trivial F (by decide) (v := .pointer (some ⟨g2, 0, none⟩)) (fun W_ => x_nil (F.slot rfl)) (fun a F => ?_)
        refine sq0 (show Eq (α := OSk) _ (some (some 88, (.fieldAddr 84 (.tmp 87) 1), 0, none)) by kernel_rfl) trivial F (by decide) (v := .pointer (some ⟨g2, 1, none⟩)) (fun W_ => x_field0 Tryd.underlying84 rfl rfl (Tryd.sizeOf24 W_) (F.slot rfl)) (fun a F => ?_)
        refine sq1 (show Eq (α := OSk) _ (some (some 89, (.load 24 (.tmp 88)), 24, none)) by kernel_rfl) trivial F (by decide) (⟨H.get 1 rfl, trivial⟩) (v := .int .i64 E1) (fun W_ hV => x_load1 (Tryd.isAgg24 W_) (F.slot rfl) (bcell hV.1 rfl)) (fun a F => ?_)
        refine sq_put (M := [Asn.blk g1 [.int .i64 0, .int .i64 0, .slice none 0 0] 40, Asn.blk g2 [.string s3, .int .i64 E1] 84, Asn.rd Kd.string _ A l.length l, Asn.blk g3 [.int .i64 a1, .int .i64 n1, .slice A1 acc.length c1] 40, Asn.qu k33 33 (.slice A1 acc.length c1) acc ok]) (show Eq (α := OSk) _ (some (none, (.store 40 (.tmp 2) (.tmp 85)), 0, none)) by kernel_rfl) trivial F (x_store H (k := 0) (cs' := [.int .i64 0, .int .i64 0, .slice none 0 0]) rfl (Tryd.sizeOf40 W) (F.slot rfl) (F.slot rfl) rfl (Nat.le_of_ble_eq_true rfl) rfl rfl) ?_
        intro W H
        refine ⟨(fun _ => ⟨H.get 1 rfl, trivial⟩), ?_⟩
        refine sq0 (show Eq (α := OSk) _ (some (some 3, (.assign (.tmp 89)), 24, none)) by kernel_rfl) trivial F (by decide) (v := .int .i64 E1) (fun W_ => x_assign (F.slot rfl)) (fun a F => ?_)
        unfold wpSeq
        refine t_normal ?_
        refine c_ret (by kernel_rfl) ?_
        refine t_ret ?_
        refine p_list (rs := [.cell 2 40, .tmp 3]) (vs := [.agg #[.int .i64 0, .int .i64 0, .slice none 0 0], .int .i64 E1]) Tryd.results29 (by simp) F (Vals.cell' F rfl (H.blk 0 rfl) Tryd.underlying40 rfl (by kernel_rfl) (Vals.tmp' F rfl .nil)) ?_
        rw [HX.1 (by simpa using hb7)]
        exact ⟨none, 0, rfl, Nat.le_refl _, fun _ _ => Kd.C_nil _ _, H.ends⟩
  · have hb4d := of_decide_eq_false hb4
    have F := F.at 25 rfl (v' := .bool false) (congrArg Value.bool hb4)
    refine sqoff2 (e := 25) (show Eq (α := OSk) _ (some (some 26, (.move (.tmp 4)), 82, some (4, true))) by kernel_rfl) (by kernel_rfl) (.inl rfl) F (by decide) (trivial) (fun a F => ?_)
    refine sqoff2 (e := 25) (show Eq (α := OSk) _ (some (some 27, (.nilCheck (.tmp 26)), 0, some (4, true))) by kernel_rfl) (by kernel_rfl) (.inl rfl) F (by decide) (trivial) (fun a F => ?_)
    refine sqoff2 (e := 25) (show Eq (α := OSk) _ (some (some 28, (.fieldAddr 84 (.tmp 27) 1), 0, some (4, true))) by kernel_rfl) (by kernel_rfl) (.inl rfl) F (by decide) (trivial) (fun a F => ?_)
    refine sqoff2 (e := 25) (show Eq (α := OSk) _ (some (some 29, (.load 24 (.tmp 28)), 24, some (4, true))) by kernel_rfl) (by kernel_rfl) (.inl rfl) F (by decide) (trivial) (fun a F => ?_)
    refine sqoff2 (e := 25) (show Eq (α := OSk) _ (some (some 30, (.binOp .eql 24 (.tmp 29) (.const (.int .i64 0)) 24), 4, some (4, true))) by kernel_rfl) (by kernel_rfl) (.inl rfl) F (by decide) (trivial) (fun a F => ?_)
    refine sq2 (W' := W) (show Eq (α := OSk) _ (some (some 31, (.pick (.tmp 25) (.tmp 30) (.const (.bool false))), 4, none)) by kernel_rfl) trivial F (by decide) (v := .bool false) (x_pickF (F.slot rfl) rfl) (fun _ => trivial) (fun a F => ?_)
    unfold wpSeq
    have H : St w (fun _ => False) (fun _ => False) [Asn.blk g1 [.int .i64 0, .int .i64 0, .slice none 0 0] 40, Asn.blk g2 [.string s3, .int .i64 E] 84, Asn.rd Kd.string _ A l.length l, Asn.blk g3 [.int .i64 0, .int .i64 0, .slice A1 acc.length c1] 40, Asn.qu k33 33 (.slice A1 acc.length c1) acc ok] W := H
    refine t_normal ?_
    refine c_no (c := .tmp 31) (by kernel_rfl) (F.slot rfl) ?_
    refine c_exit (id := 0) (by kernel_rfl) ?_
    refine t_exit ?_
    refine t_exit ?_
    refine b_here ?_
    refine t_normal ?_
    refine c_seq (by kernel_rfl) ?_
    have hJ : E = 0 → j = l.length := by intro h; first | omega | exact absurd h (by simpa using hb4)
    refine c_text (id := 12) (by kernel_rfl) [(0, 2), (1, 2)] (by kernel_rfl) ?_
    refine sq2 (W' := W) (show Eq (α := OSk) _ (some (some 52, (.move (.tmp 4)), 82, none)) by kernel_rfl) trivial F (by decide) (v := .pointer (some ⟨g2, 0, none⟩)) (x_move (F.slot rfl)) (fun _ => trivial) (fun a F => ?_)
    obtain ⟨E1, hE1⟩ : ∃ z, inE s3 E = z := ⟨_, rfl⟩
    have HK := In_End g2 s3 E W (H.blk 1 rfl)
    rw [hE1] at HK
    have HX := rb_fin HB hE hJ hE1
    refine sqc (show Eq (α := OSk) _ (some (some 53, (.call { callee := (.value (.func 59)), args := #[(.tmp 52)], argTypes := #[82] }), 0, none)) by kernel_rfl) trivial F (by decide) (x_call Tryd.func59 (by kernel_rfl) rfl (args_1 (F.slot rfl))) (HK) ?_
    rintro e W ⟨rfl, hr⟩
    refine ⟨_, rfl, fun a F => ?_⟩
    have H := H.ri 1 rfl hr
    have H : St w (fun _ => False) (fun _ => False) [Asn.blk g1 [.int .i64 0, .int .i64 0, .slice none 0 0] 40, Asn.blk g2 [.string s3, .int .i64 E1] 84, Asn.rd Kd.string _ A l.length l, Asn.blk g3 [.int .i64 0, .int .i64 0, .slice A1 acc.length c1] 40, Asn.qu k33 33 (.slice A1 acc.length c1) acc ok] W := H
    refine ⟨(fun _ => trivial), ?_⟩
    unfold wpSeq
    refine t_normal ?_
    refine c_seq (by kernel_rfl) ?_
    refine c_seq (by kernel_rfl) ?_
    refine c_text (id := 13) (by kernel_rfl) [(0, 2), (1, 2), (2, 2), (3, 2), (4, 2), (5, 2), (6, 2), (7, 2), (8, 2)] (by kernel_rfl) ?_
    refine sq2 (W' := W) (show Eq (α := OSk) _ (some (some 54, (.move (.tmp 4)), 82, none)) by kernel_rfl) trivial F (by decide) (v := .pointer (some ⟨g2, 0, none⟩)) (x_move (F.slot rfl)) (fun _ => trivial) (fun a F => ?_)
    refine sq2 (W' := W) (show Eq (α := OSk) _ (some (some 55, (.nilCheck (.tmp 54)), 0, none)) by kernel_rfl) trivial F (by decide) (v := .pointer (some ⟨g2, 0, none⟩)) (x_nil (F.slot rfl)) (fun _ => trivial) (fun a F => ?_)
    refine sq2 (W' := W) (show Eq (α := OSk) _ (some (some 56, (.fieldAddr 84 (.tmp 55) 1), 0, none)) by kernel_rfl) trivial F (by decide) (v := .pointer (some ⟨g2, 1, none⟩)) (x_field0 Tryd.underlying84 rfl rfl (Tryd.sizeOf24 W) (F.slot rfl)) (fun _ => trivial) (fun a F => ?_)
    refine sq2 (show Eq (α := OSk) _ (some (some 57, (.load 24 (.tmp 56)), 24, none)) by kernel_rfl) trivial F (by decide) (v := .int .i64 E1) (x_load1 (Tryd.isAgg24 W) (F.slot rfl) (H.cell 1 rfl rfl)) (fun _ => trivial) (fun a F => ?_)
    refine sq2 (W' := W) (show Eq (α := OSk) _ (some (some 58, (.binOp .eql 24 (.tmp 57) (.const (.int .i64 0)) 24), 4, none)) by kernel_rfl) trivial F (by decide) (v := .bool (E1 == (0 : Int))) (x_int (F.slot rfl) rfl rfl) (fun _ => trivial) (fun a F => ?_)
    refine sq2 (W' := W) (show Eq (α := OSk) _ (some (some 59, (.move (.tmp 58)), 4, none)) by kernel_rfl) trivial F (by decide) (v := .bool (E1 == (0 : Int))) (x_move (F.slot rfl)) (fun _ => trivial) (fun a F => ?_)
    rcases bool_or (E1 == (0 : Int)) with hb16 | hb16
    · have F := F.at 59 rfl (v' := .bool true) (congrArg Value.bool hb16)
      refine sq2 (W' := W) (show Eq (α := OSk) _ (some (some 60, (.move (.tmp 5)), 2, some (5, true))) by kernel_rfl) ⟨59, by kernel_rfl, rfl⟩ F (by decide) (v := .int .i64 a1) (x_move (F.slot rfl)) (fun _ => trivial) (fun a F => ?_)
      refine sq2 (W' := W) (show Eq (α := OSk) _ (some (some 61, (.binOp .gtr 2 (.tmp 60) (.const (.int .i64 6)) 2), 4, some (5, true))) by kernel_rfl) ⟨59, by kernel_rfl, rfl⟩ F (by decide) (v := .bool (decide (a1 > (6 : Int)))) (x_int (F.slot rfl) rfl rfl) (fun _ => trivial) (fun a F => ?_)
      refine sq2 (W' := W) (show Eq (α := OSk) _ (some (some 62, (.pick (.tmp 59) (.tmp 61) (.const (.bool false))), 4, none)) by kernel_rfl) trivial F (by decide) (v := .bool (decide (a1 > (6 : Int)))) (x_pickT (F.slot rfl) (F.slot rfl)) (fun _ => trivial) (fun a F => ?_)
      unfold wpSeq
      refine t_normal ?_
      rcases bool_or (decide (a1 > (6 : Int))) with hb17 | hb17
      · have hb17d := of_decide_eq_true hb17
        have F := F.at 62 rfl (v' := .bool true) (congrArg Value.bool hb17)
        refine c_yes (c := .tmp 62) (by kernel_rfl) (F.slot rfl) ?_
        refine c_text (id := 14) (by kernel_rfl) [(0, 2), (1, 2), (2, 2), (3, 2)] (by kernel_rfl) ?_
        refine sq2 (W' := W) (show Eq (α := OSk) _ (some (some 63, (.move (.tmp 4)), 82, none)) by kernel_rfl) trivial F (by decide) (v := .pointer (some ⟨g2, 0, none⟩)) (x_move (F.slot rfl)) (fun _ => trivial) (fun a F => ?_)
        refine sq2 (W' := W) (show Eq (α := OSk) _ (some (some 64, (.nilCheck (.tmp 63)), 0, none)) by kernel_rfl) trivial F (by decide) (v := .pointer (some ⟨g2, 0, none⟩)) (x_nil (F.slot rfl)) (fun _ => trivial) (fun a F => ?_)
        refine sq2 (W' := W) (show Eq (α := OSk) _ (some (some 65, (.fieldAddr 84 (.tmp 64) 1), 0, none)) by kernel_rfl) trivial F (by decide) (v := .pointer (some ⟨g2, 1, none⟩)) (x_field0 Tryd.underlying84 rfl rfl (Tryd.sizeOf24 W) (F.slot rfl)) (fun _ => trivial) (fun a F => ?_)
        refine sq_put (M := [Asn.blk g1 [.int .i64 0, .int .i64 0, .slice none 0 0] 40, Asn.blk g2 [.string s3, .int .i64 2] 84, Asn.rd Kd.string _ A l.length l, Asn.blk g3 [.int .i64 0, .int .i64 0, .slice A1 acc.length c1] 40, Asn.qu k33 33 (.slice A1 acc.length c1) acc ok]) (show Eq (α := OSk) _ (some (none, (.store 24 (.tmp 65) (.const (.int .i64 2))), 0, none)) by kernel_rfl) trivial F (x_store H (k := 1) (cs' := [.string s3, .int .i64 2]) rfl (Tryd.sizeOf24 W) (F.slot rfl) rfl rfl (Nat.le_of_ble_eq_true rfl) rfl rfl) ?_
        intro W H
        refine ⟨(fun _ => trivial), ?_⟩
        unfold wpSeq
        refine t_normal ?_
        refine c_seq (by kernel_rfl) ?_
        refine c_text (id := 15) (by kernel_rfl) [(0, 2), (1, 2), (2, 2)] (by kernel_rfl) ?_
        refine sq2 (W' := W) (show Eq (α := OSk) _ (some (some 66, (.move (.tmp 5)), 2, none)) by kernel_rfl) trivial F (by decide) (v := .int .i64 a1) (x_move (F.slot rfl)) (fun _ => trivial) (fun a F => ?_)
        refine sq2 (W' := W) (show Eq (α := OSk) _ (some (some 67, (.fieldAddr 40 (.tmp 8) 0), 0, none)) by kernel_rfl) trivial F (by decide) (v := .pointer (some ⟨g3, 0, none⟩)) (x_field0 Tryd.underlying40 rfl rfl (Tryd.sizeOf3 W) (F.slot rfl)) (fun _ => trivial) (fun a F => ?_)
        refine sq_put (M := [Asn.blk g1 [.int .i64 0, .int .i64 0, .slice none 0 0] 40, Asn.blk g2 [.string s3, .int .i64 2] 84, Asn.rd Kd.string _ A l.length l, Asn.blk g3 [.int .i64 a1, .int .i64 0, .slice A1 acc.length c1] 40, Asn.qu k33 33 (.slice A1 acc.length c1) acc ok]) (show Eq (α := OSk) _ (some (none, (.store 3 (.tmp 67) (.tmp 66)), 0, none)) by kernel_rfl) trivial F (x_store H (k := 3) (cs' := [.int .i64 a1, .int .i64 0, .slice A1 acc.length c1]) rfl (Tryd.sizeOf3 W) (F.slot rfl) (F.slot rfl) rfl (Nat.le_of_ble_eq_true rfl) rfl rfl) ?_
        intro W H
        refine ⟨(fun _ => trivial), ?_⟩
        unfold wpSeq
        refine t_normal ?_
        refine c_seq (by kernel_rfl) ?_
        refine c_text (id := 16) (by kernel_rfl) [(0, 2), (1, 2), (2, 2)] (by kernel_rfl) ?_
        refine sq2 (W' := W) (show Eq (α := OSk) _ (some (some 68, (.move (.tmp 6)), 2, none)) by kernel_rfl) trivial F (by decide) (v := .int .i64 n1) (x_move (F.slot rfl)) (fun _ => trivial) (fun a F => ?_)
        refine sq2 (W' := W) (show Eq (α := OSk) _ (some (some 69, (.fieldAddr 40 (.tmp 8) 1), 0, none)) by kernel_rfl) trivial F (by decide) (v := .pointer (some ⟨g3, 1, none⟩)) (x_field0 Tryd.underlying40 rfl rfl (Tryd.sizeOf3 W) (F.slot rfl)) (fun _ => trivial) (fun a F => ?_)
        refine sq_put (M := [Asn.blk g1 [.int .i64 0, .int .i64 0, .slice none 0 0] 40, Asn.blk g2 [.string s3, .int .i64 2] 84, Asn.rd Kd.string _ A l.length l, Asn.blk g3 [.int .i64 a1, .int .i64 n1, .slice A1 acc.length c1] 40, Asn.qu k33 33 (.slice A1 acc.length c1) acc ok]) (show Eq (α := OSk) _ (some (none, (.store 3 (.tmp 69) (.tmp 68)), 0, none)) by kernel_rfl) trivial F (x_store H (k := 3) (cs' := [.int .i64 a1, .int .i64 n1, .slice A1 acc.length c1]) rfl (Tryd.sizeOf3 W) (F.slot rfl) (F.slot rfl) rfl (Nat.le_of_ble_eq_true rfl) rfl rfl) ?_
        intro W H
        refine ⟨(fun _ => trivial), ?_⟩
        unfold wpSeq
        refine t_normal ?_
        refine c_seq (by kernel_rfl) ?_
        refine c_seq (by kernel_rfl) ?_
        refine c_text (id := 17) (by kernel_rfl) [(0, 2), (1, 2), (2, 2), (3, 2), (4, 2)] (by kernel_rfl) ?_
        refine sq2 (W' := W) (show Eq (α := OSk) _ (some (some 70, (.move (.tmp 4)), 82, none)) by kernel_rfl) trivial F (by decide) (v := .pointer (some ⟨g2, 0, none⟩)) (x_move (F.slot rfl)) (fun _ => trivial) (fun a F => ?_)
        refine sq2 (W' := W) (show Eq (α := OSk) _ (some (some 71, (.nilCheck (.tmp 70)), 0, none)) by kernel_rfl) trivial F (by decide) (v := .pointer (some ⟨g2, 0, none⟩)) (x_nil (F.slot rfl)) (fun _ => trivial) (fun a F => ?_)
        refine sq2 (W' := W) (show Eq (α := OSk) _ (some (some 72, (.fieldAddr 84 (.tmp 71) 1), 0, none)) by kernel_rfl) trivial F (by decide) (v := .pointer (some ⟨g2, 1, none⟩)) (x_field0 Tryd.underlying84 rfl rfl (Tryd.sizeOf24 W) (F.slot rfl)) (fun _ => trivial) (fun a F => ?_)
        refine sq2 (show Eq (α := OSk) _ (some (some 73, (.load 24 (.tmp 72)), 24, none)) by kernel_rfl) trivial F (by decide) (v := .int .i64 2) (x_load1 (Tryd.isAgg24 W) (F.slot rfl) (H.cell 1 rfl rfl)) (fun _ => trivial) (fun a F => ?_)
        refine sq2 (W' := W) (show Eq (α := OSk) _ (some (some 74, (.binOp .eql 24 (.tmp 73) (.const (.int .i64 0)) 24), 4, none)) by kernel_rfl) trivial F (by decide) (v := .bool false) (x_int (F.slot rfl) rfl rfl) (fun _ => trivial) (fun a F => ?_)
        unfold wpSeq
        refine t_normal ?_
        refine c_no (c := .tmp 74) (by kernel_rfl) (F.slot rfl) ?_
        refine c_skip (by kernel_rfl) ?_
        refine t_normal ?_
        refine c_seq (by kernel_rfl) ?_
        refine c_seq (by kernel_rfl) ?_
        refine c_text (id := 19) (by kernel_rfl) [(0, 2), (1, 2), (2, 2), (3, 2), (4, 2)] (by kernel_rfl) ?_
        refine sq2 (W' := W) (show Eq (α := OSk) _ (some (some 80, (.move (.tmp 4)), 82, none)) by kernel_rfl) trivial F (by decide) (v := .pointer (some ⟨g2, 0, none⟩)) (x_move (F.slot rfl)) (fun _ => trivial) (fun a F => ?_)
        refine sq2 (W' := W) (show Eq (α := OSk) _ (some (some 81, (.nilCheck (.tmp 80)), 0, none)) by kernel_rfl) trivial F (by decide) (v := .pointer (some ⟨g2, 0, none⟩)) (x_nil (F.slot rfl)) (fun _ => trivial) (fun a F => ?_)
        refine sq2 (W' := W) (show Eq (α := OSk) _ (some (some 82, (.fieldAddr 84 (.tmp 81) 1), 0, none)) by kernel_rfl) trivial F (by decide) (v := .pointer (some ⟨g2, 1, none⟩)) (x_field0 Tryd.underlying84 rfl rfl (Tryd.sizeOf24 W) (F.slot rfl)) (fun _ => trivial) (fun a F => ?_)
        refine sq2 (show Eq (α := OSk) _ (some (some 83, (.load 24 (.tmp 82)), 24, none)) by kernel_rfl) trivial F (by decide) (v := .int .i64 2) (x_load1 (Tryd.isAgg24 W) (F.slot rfl) (H.cell 1 rfl rfl)) (fun _ => trivial) (fun a F => ?_)
        refine sq2 (W' := W) (show Eq (α := OSk) _ (some (some 84, (.binOp .neq 24 (.tmp 83) (.const (.int .i64 0)) 24), 4, none)) by kernel_rfl) trivial F (by decide) (v := .bool true) (x_int (F.slot rfl) rfl rfl) (fun _ => trivial) (fun a F => ?_)
        unfold wpSeq
        refine t_normal ?_
        refine c_yes (c := .tmp 84) (by kernel_rfl) (F.slot rfl) ?_
        refine c_seq (by kernel_rfl) ?_
        refine c_drawn (id := 20) (by kernel_rfl) (by kernel_rfl) (Vs [Asn.blk g2 [.string s3, .int .i64 2] 84]) [0, 0, 2, 6, 14, 1, 63] [] [(0, 0), (1, 0), (2, 0), (3, 0), (4, 1), (5, 2), (6, 0)] (by kernel_rfl) (fun _ _ d _ _ h => by cases d <;> exact h) (Vs.drew ⟨H.get 1 rfl, trivial⟩) ?_
        have H := H.drew
        generalize World.drew W = W at H ⊢
        refine sq0 (show Eq (α := OSk) _ (some (some 85, (.build 40 #[]), 40, none)) by kernel_rfl) trivial F (by decide) (v := .agg #[.int .i64 0, .int .i64 0, .slice none 0 0]) (fun W_ => by simp [ex, execOp, Instr.build, Tryd.zeroValue40, run_underlying Tryd.underlying40, Instr.fill, Value.cells, Tryd.sizeOf3, Tryd.sizeOf38]) (fun a F => ?_)
        refine sq0 (show Eq (α := OSk) _ (some (some 86, (.move (.tmp 4)), 82, none)) by kernel_rfl) trivial F (by decide) (v := .pointer (some ⟨g2, 0, none⟩)) (fun W_ => x_move (F.slot rfl)) (fun a F => ?_)
        refine sq0 (show Eq (α := OSk) _ (some (some 87, (.nilCheck (.tmp 86)), 0, none)) by kernel_rfl) trivial F (by decide) (v := .pointer (some ⟨g2, 0, none⟩)) (fun W_ => x_nil (F.slot rfl)) (fun a F => ?_)
        refine sq0 (show Eq (α := OSk) _ (some (some 88, (.fieldAddr 84 (.tmp 87) 1), 0, none)) by kernel_rfl) trivial F (by decide) (v := .pointer (some ⟨g2, 1, none⟩)) (fun W_ => x_field0 Tryd.underlying84 rfl rfl (Tryd.sizeOf24 W_) (F.slot rfl)) (fun a F => ?_)
        refine sq1 (show Eq (α := OSk) _ (some (some 89, (.load 24 (.tmp 88)), 24, none)) by kernel_rfl) trivial F (by decide) (⟨H.get 1 rfl, trivial⟩) (v := .int .i64 2) (fun W_ hV => x_load1 (Tryd.isAgg24 W_) (F.slot rfl) (bcell hV.1 rfl)) (fun a F => ?_)
        refine sq_put (M := [Asn.blk g1 [.int .i64 0, .int .i64 0, .slice none 0 0] 40, Asn.blk g2 [.string s3, .int .i64 2] 84, Asn.rd Kd.string _ A l.length l, Asn.blk g3 [.int .i64 a1, .int .i64 n1, .slice A1 acc.length c1] 40, Asn.qu k33 33 (.slice A1 acc.length c1) acc ok]) (show Eq (α := OSk) _ (some (none, (.store 40 (.tmp 2) (.tmp 85)), 0, none)) by kernel_rfl) trivial F (x_store H (k := 0) (cs' := [.int .i64 0, .int .i64 0, .slice none 0 0]) rfl (Tryd.sizeOf40 W) (F.slot rfl) (F.slot rfl) rfl (Nat.le_of_ble_eq_true rfl) rfl rfl) ?_
        intro W H
        refine ⟨(fun _ => ⟨H.get 1 rfl, trivial⟩), ?_⟩
        refine sq0 (show Eq (α := OSk) _ (some (some 3, (.assign (.tmp 89)), 24, none)) by kernel_rfl) trivial F (by decide) (v := .int .i64 2) (fun W_ => x_assign (F.slot rfl)) (fun a F => ?_)
        unfold wpSeq
        refine t_normal ?_
        refine c_ret (by kernel_rfl) ?_
        refine t_ret ?_
        refine p_list (rs := [.cell 2 40, .tmp 3]) (vs := [.agg #[.int .i64 0, .int .i64 0, .slice none 0 0], .int .i64 2]) Tryd.results29 (by simp) F (Vals.cell' F rfl (H.blk 0 rfl) Tryd.underlying40 rfl (by kernel_rfl) (Vals.tmp' F rfl .nil)) ?_
        have HX := HX.2 (by simpa using hb16)
        rw [HX, if_pos (by omega)]
        exact ⟨none, 0, rfl, Nat.le_refl _, fun _ _ => Kd.C_nil _ _, H.ends⟩
      · have hb17d := of_decide_eq_false hb17
        have F := F.at 62 rfl (v' := .bool false) (congrArg Value.bool hb17)
        refine c_no (c := .tmp 62) (by kernel_rfl) (F.slot rfl) ?_
        refine c_skip (by kernel_rfl) ?_
        refine t_normal ?_
        refine c_seq (by kernel_rfl) ?_
        refine c_text (id := 15) (by kernel_rfl) [(0, 2), (1, 2), (2, 2)] (by kernel_rfl) ?_
        refine sq2 (W' := W) (show Eq (α := OSk) _ (some (some 66, (.move (.tmp 5)), 2, none)) by kernel_rfl) trivial F (by decide) (v := .int .i64 a1) (x_move (F.slot rfl)) (fun _ => trivial) (fun a F => ?_)
        refine sq2 (W' := W) (show Eq (α := OSk) _ (some (some 67, (.fieldAddr 40 (.tmp 8) 0), 0, none)) by kernel_rfl) trivial F (by decide) (v := .pointer (some ⟨g3, 0, none⟩)) (x_field0 Tryd.underlying40 rfl rfl (Tryd.sizeOf3 W) (F.slot rfl)) (fun _ => trivial) (fun a F => ?_)
        refine sq_put (M := [Asn.blk g1 [.int .i64 0, .int .i64 0, .slice none 0 0] 40, Asn.blk g2 [.string s3, .int .i64 E1] 84, Asn.rd Kd.string _ A l.length l, Asn.blk g3 [.int .i64 a1, .int .i64 0, .slice A1 acc.length c1] 40, Asn.qu k33 33 (.slice A1 acc.length c1) acc ok]) (show Eq (α := OSk) _ (some (none, (.store 3 (.tmp 67) (.tmp 66)), 0, none)) by kernel_rfl) trivial F (x_store H (k := 3) (cs' := [.int .i64 a1, .int .i64 0, .slice A1 acc.length c1]) rfl (Tryd.sizeOf3 W) (F.slot rfl) (F.slot rfl) rfl (Nat.le_of_ble_eq_true rfl) rfl rfl) ?_
        intro W H
        refine ⟨(fun _ => trivial), ?_⟩
        unfold wpSeq
        refine t_normal ?_
        refine c_seq (by kernel_rfl) ?_
        refine c_text (id := 16) (by kernel_rfl) [(0, 2), (1, 2), (2, 2)] (by kernel_rfl) ?_
        refine sq2 (W' := W) (show Eq (α := OSk) _ (some (some 68, (.move (.tmp 6)), 2, none)) by kernel_rfl) trivial F (by decide) (v := .int .i64 n1) (x_move (F.slot rfl)) (fun _ => trivial) (fun a F => ?_)
        refine sq2 (W' := W) (show Eq (α := OSk) _ (some (some 69, (.fieldAddr 40 (.tmp 8) 1), 0, none)) by kernel_rfl) trivial F (by decide) (v := .pointer (some ⟨g3, 1, none⟩)) (x_field0 Tryd.underlying40 rfl rfl (Tryd.sizeOf3 W) (F.slot rfl)) (fun _ => trivial) (fun a F => ?_)
        refine sq_put (M := [Asn.blk g1 [.int .i64 0, .int .i64 0, .slice none 0 0] 40, Asn.blk g2 [.string s3, .int .i64 E1] 84, Asn.rd Kd.string _ A l.length l, Asn.blk g3 [.int .i64 a1, .int .i64 n1, .slice A1 acc.length c1] 40, Asn.qu k33 33 (.slice A1 acc.length c1) acc ok]) (show Eq (α := OSk) _ (some (none, (.store 3 (.tmp 69) (.tmp 68)), 0, none)) by kernel_rfl) trivial F (x_store H (k := 3) (cs' := [.int .i64 a1, .int .i64 n1, .slice A1 acc.length c1]) rfl (Tryd.sizeOf3 W) (F.slot rfl) (F.slot rfl) rfl (Nat.le_of_ble_eq_true rfl) rfl rfl) ?_
        intro W H
        refine ⟨(fun _ => trivial), ?_⟩
        unfold wpSeq
        refine t_normal ?_
        refine c_seq (by kernel_rfl) ?_
        refine c_seq (by kernel_rfl) ?_
        refine c_text (id := 17) (by kernel_rfl) [(0, 2), (1, 2), (2, 2), (3, 2), (4, 2)] (by kernel_rfl) ?_
        refine sq2 (W' := W) (show Eq (α := OSk) _ (some (some 70, (.move (.tmp 4)), 82, none)) by kernel_rfl) trivial F (by decide) (v := .pointer (some ⟨g2, 0, none⟩)) (x_move (F.slot rfl)) (fun _ => trivial) (fun a F => ?_)
        refine sq2 (W' := W) (show Eq (α := OSk) _ (some (some 71, (.nilCheck (.tmp 70)), 0, none)) by kernel_rfl) trivial F (by decide) (v := .pointer (some ⟨g2, 0, none⟩)) (x_nil (F.slot rfl)) (fun _ => trivial) (fun a F => ?_)
        refine sq2 (W' := W) (show Eq (α := OSk) _ (some (some 72, (.fieldAddr 84 (.tmp 71) 1), 0, none)) by kernel_rfl) trivial F (by decide) (v := .pointer (some ⟨g2, 1, none⟩)) (x_field0 Tryd.underlying84 rfl rfl (Tryd.sizeOf24 W) (F.slot rfl)) (fun _ => trivial) (fun a F => ?_)
        refine sq2 (show Eq (α := OSk) _ (some (some 73, (.load 24 (.tmp 72)), 24, none)) by kernel_rfl) trivial F (by decide) (v := .int .i64 E1) (x_load1 (Tryd.isAgg24 W) (F.slot rfl) (H.cell 1 rfl rfl)) (fun _ => trivial) (fun a F => ?_)
        refine sq2 (W' := W) (show Eq (α := OSk) _ (some (some 74, (.binOp .eql 24 (.tmp 73) (.const (.int .i64 0)) 24), 4, none)) by kernel_rfl) trivial F (by decide) (v := .bool (E1 == (0 : Int))) (x_int (F.slot rfl) rfl rfl) (fun _ => trivial) (fun a F => ?_)
        unfold wpSeq
        refine t_normal ?_
        have hb19 : (E1 == (0 : Int)) = true := hb16
        have F := F.at 74 rfl (v' := .bool true) (congrArg Value.bool hb19)
        refine c_yes (c := .tmp 74) (by kernel_rfl) (F.slot rfl) ?_
        refine c_text (id := 18) (by kernel_rfl) [(0, 2), (1, 2), (2, 2), (3, 2), (4, 2), (5, 2)] (by kernel_rfl) ?_
        refine sq2 (W' := W) (show Eq (α := OSk) _ (some (some 75, (.move (.tmp 4)), 82, none)) by kernel_rfl) trivial F (by decide) (v := .pointer (some ⟨g2, 0, none⟩)) (x_move (F.slot rfl)) (fun _ => trivial) (fun a F => ?_)
        refine sq2 (show Eq (α := OSk) _ (some (some 76, (.load 40 (.tmp 8)), 40, none)) by kernel_rfl) trivial F (by decide) (v := .agg #[.int .i64 a1, .int .i64 n1, .slice A1 acc.length c1]) (x_loadB (Tryd.isAgg40 W) [.int .i64 a1, .int .i64 n1, .slice A1 acc.length c1] (Tryd.sizeOf40 W) (F.slot rfl) (H.blk 3 rfl)) (fun _ => trivial) (fun a F => ?_)
        obtain ⟨z2, hz2⟩ : ∃ z, bchk a1 n1 acc = z := ⟨_, rfl⟩
        have HK := rbchk_calls a1 n1 A1 c1 acc W (by omega) hLm (H.qu 4 rfl).read.2.2 (H.qu 4 rfl).read.2.1
        rw [hz2] at HK
        refine sqc (show Eq (α := OSk) _ (some (some 77, (.call { callee := (.value (.func 34)), args := #[(.tmp 76)], argTypes := #[40] }), 24, none)) by kernel_rfl) trivial F (by decide) (x_call Tryd.func34 (by kernel_rfl) rfl (args_1 (F.slot rfl))) (HK) ?_
        rintro e W ⟨rfl, hB⟩
        refine ⟨_, rfl, fun a F => ?_⟩
        have H := H.below hB
        refine ⟨(fun _ => trivial), ?_⟩
        refine sq2 (W' := W) (show Eq (α := OSk) _ (some (some 78, (.nilCheck (.tmp 75)), 0, none)) by kernel_rfl) trivial F (by decide) (v := .pointer (some ⟨g2, 0, none⟩)) (x_nil (F.slot rfl)) (fun _ => trivial) (fun a F => ?_)
        refine sq2 (W' := W) (show Eq (α := OSk) _ (some (some 79, (.fieldAddr 84 (.tmp 78) 1), 0, none)) by kernel_rfl) trivial F (by decide) (v := .pointer (some ⟨g2, 1, none⟩)) (x_field0 Tryd.underlying84 rfl rfl (Tryd.sizeOf24 W) (F.slot rfl)) (fun _ => trivial) (fun a F => ?_)
        refine sq_put (M := [Asn.blk g1 [.int .i64 0, .int .i64 0, .slice none 0 0] 40, Asn.blk g2 [.string s3, .int .i64 z2] 84, Asn.rd Kd.string _ A l.length l, Asn.blk g3 [.int .i64 a1, .int .i64 n1, .slice A1 acc.length c1] 40, Asn.qu k33 33 (.slice A1 acc.length c1) acc ok]) (show Eq (α := OSk) _ (some (none, (.store 24 (.tmp 79) (.tmp 77)), 0, none)) by kernel_rfl) trivial F (x_store H (k := 1) (cs' := [.string s3, .int .i64 z2]) rfl (Tryd.sizeOf24 W) (F.slot rfl) (F.slot rfl) rfl (Nat.le_of_ble_eq_true rfl) rfl rfl) ?_
        intro W H
        refine ⟨(fun _ => trivial), ?_⟩
        unfold wpSeq
        refine t_normal ?_
        refine c_seq (by kernel_rfl) ?_
        refine c_seq (by kernel_rfl) ?_
        refine c_text (id := 19) (by kernel_rfl) [(0, 2), (1, 2), (2, 2), (3, 2), (4, 2)] (by kernel_rfl) ?_
        refine sq2 (W' := W) (show Eq (α := OSk) _ (some (some 80, (.move (.tmp 4)), 82, none)) by kernel_rfl) trivial F (by decide) (v := .pointer (some ⟨g2, 0, none⟩)) (x_move (F.slot rfl)) (fun _ => trivial) (fun a F => ?_)
        refine sq2 (W' := W) (show Eq (α := OSk) _ (some (some 81, (.nilCheck (.tmp 80)), 0, none)) by kernel_rfl) trivial F (by decide) (v := .pointer (some ⟨g2, 0, none⟩)) (x_nil (F.slot rfl)) (fun _ => trivial) (fun a F => ?_)
        refine sq2 (W' := W) (show Eq (α := OSk) _ (some (some 82, (.fieldAddr 84 (.tmp 81) 1), 0, none)) by kernel_rfl) trivial F (by decide) (v := .pointer (some ⟨g2, 1, none⟩)) (x_field0 Tryd.underlying84 rfl rfl (Tryd.sizeOf24 W) (F.slot rfl)) (fun _ => trivial) (fun a F => ?_)
        refine sq2 (show Eq (α := OSk) _ (some (some 83, (.load 24 (.tmp 82)), 24, none)) by kernel_rfl) trivial F (by decide) (v := .int .i64 z2) (x_load1 (Tryd.isAgg24 W) (F.slot rfl) (H.cell 1 rfl rfl)) (fun _ => trivial) (fun a F => ?_)
        refine sq2 (W' := W) (show Eq (α := OSk) _ (some (some 84, (.binOp .neq 24 (.tmp 83) (.const (.int .i64 0)) 24), 4, none)) by kernel_rfl) trivial F (by decide) (v := .bool (z2 != (0 : Int))) (x_int (F.slot rfl) rfl rfl) (fun _ => trivial) (fun a F => ?_)
        unfold wpSeq
        refine t_normal ?_
        rcases bool_or (z2 != (0 : Int)) with hb20 | hb20
        · have F := F.at 84 rfl (v' := .bool true) (congrArg Value.bool hb20)
          refine c_yes (c := .tmp 84) (by kernel_rfl) (F.slot rfl) ?_
          refine c_seq (by kernel_rfl) ?_
          refine c_drawn (id := 20) (by kernel_rfl) (by kernel_rfl) (Vs [Asn.blk g2 [.string s3, .int .i64 z2] 84]) [0, 0, 2, 6, 14, 1, 63] [] [(0, 0), (1, 0), (2, 0), (3, 0), (4, 1), (5, 2), (6, 0)] (by kernel_rfl) (fun _ _ d _ _ h => by cases d <;> exact h) (Vs.drew ⟨H.get 1 rfl, trivial⟩) ?_
          have H := H.drew
          generalize World.drew W = W at H ⊢
          refine sq0 (show Eq (α := OSk) _ (some (some 85, (.build 40 #[]), 40, none)) by kernel_rfl) trivial F (by decide) (v := .agg #[.int .i64 0, .int .i64 0, .slice none 0 0]) (fun W_ => by simp [ex, execOp, Instr.build, Tryd.zeroValue40, run_underlying Tryd.underlying40, Instr.fill, Value.cells, Tryd.sizeOf3, Tryd.sizeOf38]) (fun a F => ?_)
          refine sq0 (show Eq (α := OSk) _ (some (some 86, (.move (.tmp 4)), 82, none)) by kernel_rfl) trivial F (by decide) (v := .pointer (some ⟨g2, 0, none⟩)) (fun W_ => x_move (F.slot rfl)) (fun a F => ?_)
          refine sq0 (show Eq (α := OSk) _ (some (some 87, (.nilCheck (.tmp 86)), 0, none)) by kernel_rfl) trivial F (by decide) (v := .pointer (some ⟨g2, 0, none⟩)) (fun W_ => x_nil (F.slot rfl)) (fun a F => ?_)
          refine sq0 (show Eq (α := OSk) _ (some (some 88, (.fieldAddr 84 (.tmp 87) 1), 0, none)) by kernel_rfl) trivial F (by decide) (v := .pointer (some ⟨g2, 1, none⟩)) (fun W_ => x_field0 Tryd.underlying84 rfl rfl (Tryd.sizeOf24 W_) (F.slot rfl)) (fun a F => ?_)
          refine sq1 (show Eq (α := OSk) _ (some (some 89, (.load 24 (.tmp 88)), 24, none)) by kernel_rfl) trivial F (by decide) (⟨H.get 1 rfl, trivial⟩) (v := .int .i64 z2) (fun W_ hV => x_load1 (Tryd.isAgg24 W_) (F.slot rfl) (bcell hV.1 rfl)) (fun a F => ?_)
          refine sq_put (M := [Asn.blk g1 [.int .i64 0, .int .i64 0, .slice none 0 0] 40, Asn.blk g2 [.string s3, .int .i64 z2] 84, Asn.rd Kd.string _ A l.length l, Asn.blk g3 [.int .i64 a1, .int .i64 n1, .slice A1 acc.length c1] 40, Asn.qu k33 33 (.slice A1 acc.length c1) acc ok]) (show Eq (α := OSk) _ (some (none, (.store 40 (.tmp 2) (.tmp 85)), 0, none)) by kernel_rfl) trivial F (x_store H (k := 0) (cs' := [.int .i64 0, .int .i64 0, .slice none 0 0]) rfl (Tryd.sizeOf40 W) (F.slot rfl) (F.slot rfl) rfl (Nat.le_of_ble_eq_true rfl) rfl rfl) ?_
          intro W H
          refine ⟨(fun _ => ⟨H.get 1 rfl, trivial⟩), ?_⟩
          refine sq0 (show Eq (α := OSk) _ (some (some 3, (.assign (.tmp 89)), 24, none)) by kernel_rfl) trivial F (by decide) (v := .int .i64 z2) (fun W_ => x_assign (F.slot rfl)) (fun a F => ?_)
          unfold wpSeq
          refine t_normal ?_
          refine c_ret (by kernel_rfl) ?_
          refine t_ret ?_
          refine p_list (rs := [.cell 2 40, .tmp 3]) (vs := [.agg #[.int .i64 0, .int .i64 0, .slice none 0 0], .int .i64 z2]) Tryd.results29 (by simp) F (Vals.cell' F rfl (H.blk 0 rfl) Tryd.underlying40 rfl (by kernel_rfl) (Vals.tmp' F rfl .nil)) ?_
          have HX := HX.2 (by simpa using hb16)
          rw [HX, if_neg (by omega), hz2]
          rw [if_neg (by simpa using hb20)]
          exact ⟨none, 0, rfl, Nat.le_refl _, fun _ _ => Kd.C_nil _ _, H.ends⟩
        · have F := F.at 84 rfl (v' := .bool false) (congrArg Value.bool hb20)
          refine c_no (c := .tmp 84) (by kernel_rfl) (F.slot rfl) ?_
          refine c_skip (by kernel_rfl) ?_
          refine t_normal ?_
          refine c_seq (by kernel_rfl) ?_
          refine c_text (id := 21) (by kernel_rfl) [(0, 2), (1, 2), (2, 2)] (by kernel_rfl) ?_
          refine sq2 (show Eq (α := OSk) _ (some (some 90, (.load 40 (.tmp 8)), 40, none)) by kernel_rfl) trivial F (by decide) (v := .agg #[.int .i64 a1, .int .i64 n1, .slice A1 acc.length c1]) (x_loadB (Tryd.isAgg40 W) [.int .i64 a1, .int .i64 n1, .slice A1 acc.length c1] (Tryd.sizeOf40 W) (F.slot rfl) (H.blk 3 rfl)) (fun _ => trivial) (fun a F => ?_)
          refine sq_put (M := [Asn.blk g1 [.int .i64 a1, .int .i64 n1, .slice A1 acc.length c1] 40, Asn.blk g2 [.string s3, .int .i64 z2] 84, Asn.rd Kd.string _ A l.length l, Asn.blk g3 [.int .i64 a1, .int .i64 n1, .slice A1 acc.length c1] 40, Asn.qu k33 33 (.slice A1 acc.length c1) acc ok]) (show Eq (α := OSk) _ (some (none, (.store 40 (.tmp 2) (.tmp 90)), 0, none)) by kernel_rfl) trivial F (x_store H (k := 0) (cs' := [.int .i64 a1, .int .i64 n1, .slice A1 acc.length c1]) rfl (Tryd.sizeOf40 W) (F.slot rfl) (F.slot rfl) rfl (Nat.le_of_ble_eq_true rfl) rfl rfl) ?_
          intro W H
          refine ⟨(fun _ => trivial), ?_⟩
          refine sq2 (W' := W) (show Eq (α := OSk) _ (some (some 3, (.assign (.const (.int .i64 0))), 24, none)) by kernel_rfl) trivial F (by decide) (v := .int .i64 0) (x_assign rfl) (fun _ => trivial) (fun a F => ?_)
          unfold wpSeq
          refine t_normal ?_
          refine c_ret (by kernel_rfl) ?_
          refine p_list (rs := [.cell 2 40, .tmp 3]) (vs := [.agg #[.int .i64 a1, .int .i64 n1, .slice A1 acc.length c1], .int .i64 0]) Tryd.results29 (by simp) F (Vals.cell' F rfl (H.blk 0 rfl) Tryd.underlying40 rfl (by kernel_rfl) (Vals.tmp' F rfl .nil)) ?_
          have HX := HX.2 (by simpa using hb16)
          rw [HX, if_neg (by omega), hz2]
          rw [if_pos (by simpa using hb20)]
          exact ⟨A1, c1, rfl, (H.qu 4 rfl).read.2.1, H.quFresh 4 rfl, H.ends⟩
    · have F := F.at 59 rfl (v' := .bool false) (congrArg Value.bool hb16)
      refine sqoff2 (e := 59) (show Eq (α := OSk) _ (some (some 60, (.move (.tmp 5)), 2, some (5, true))) by kernel_rfl) (by kernel_rfl) (.inl rfl) F (by decide) (trivial) (fun a F => ?_)
      refine sqoff2 (e := 59) (show Eq (α := OSk) _ (some (some 61, (.binOp .gtr 2 (.tmp 60) (.const (.int .i64 6)) 2), 4, some (5, true))) by kernel_rfl) (by kernel_rfl) (.inl rfl) F (by decide) (trivial) (fun a F => ?_)
      refine sq2 (W' := W) (show Eq (α := OSk) _ (some (some 62, (.pick (.tmp 59) (.tmp 61) (.const (.bool false))), 4, none)) by kernel_rfl) trivial F (by decide) (v := .bool false) (x_pickF (F.slot rfl) rfl) (fun _ => trivial) (fun a F => ?_)
      unfold wpSeq
      refine t_normal ?_
      refine c_no (c := .tmp 62) (by kernel_rfl) (F.slot rfl) ?_
      refine c_skip (by kernel_rfl) ?_
      refine t_normal ?_
      refine c_seq (by kernel_rfl) ?_
      refine c_text (id := 15) (by kernel_rfl) [(0, 2), (1, 2), (2, 2)] (by kernel_rfl) ?_
      refine sq2 (W' := W) (show Eq (α := OSk) _ (some (some 66, (.move (.tmp 5)), 2, none)) by kernel_rfl) trivial F (by decide) (v := .int .i64 a1) (x_move (F.slot rfl)) (fun _ => trivial) (fun a F => ?_)
      refine sq2 (W' := W) (show Eq (α := OSk) _ (some (some 67, (.fieldAddr 40 (.tmp 8) 0), 0, none)) by kernel_rfl) trivial F (by decide) (v := .pointer (some ⟨g3, 0, none⟩)) (x_field0 Tryd.underlying40 rfl rfl (Tryd.sizeOf3 W) (F.slot rfl)) (fun _ => trivial) (fun a F => ?_)
      refine sq_put (M := [Asn.blk g1 [.int .i64 0, .int .i64 0, .slice none 0 0] 40, Asn.blk g2 [.string s3, .int .i64 E1] 84, Asn.rd Kd.string _ A l.length l, Asn.blk g3 [.int .i64 a1, .int .i64 0, .slice A1 acc.length c1] 40, Asn.qu k33 33 (.slice A1 acc.length c1) acc ok]) (show Eq (α := OSk) _ (some (none, (.store 3 (.tmp 67) (.tmp 66)), 0, none)) by kernel_rfl) trivial F (x_store H (k := 3) (cs' := [.int .i64 a1, .int .i64 0, .slice A1 acc.length c1]) rfl (Tryd.sizeOf3 W) (F.slot rfl) (F.slot rfl) rfl (Nat.le_of_ble_eq_true rfl) rfl rfl) ?_
      intro W H
      refine ⟨(fun _ => trivial), ?_⟩
      unfold wpSeq
      refine t_normal ?_
      refine c_seq (by kernel_rfl) ?_
      refine c_text (id := 16) (by kernel_rfl) [(0, 2), (1, 2), (2, 2)] (by kernel_rfl) ?_
      refine sq2 (W' := W) (show Eq (α := OSk) _ (some (some 68, (.move (.tmp 6)), 2, none)) by kernel_rfl) trivial F (by decide) (v := .int .i64 n1) (x_move (F.slot rfl)) (fun _ => trivial) (fun a F => ?_)
      refine sq2 (W' := W) (show Eq (α := OSk) _ (some (some 69, (.fieldAddr 40 (.tmp 8) 1), 0, none)) by kernel_rfl) trivial F (by decide) (v := .pointer (some ⟨g3, 1, none⟩)) (x_field0 Tryd.underlying40 rfl rfl (Tryd.sizeOf3 W) (F.slot rfl)) (fun _ => trivial) (fun a F => ?_)
      refine sq_put (M := [Asn.blk g1 [.int .i64 0, .int .i64 0, .slice none 0 0] 40, Asn.blk g2 [.string s3, .int .i64 E1] 84, Asn.rd Kd.string _ A l.length l, Asn.blk g3 [.int .i64 a1, .int .i64 n1, .slice A1 acc.length c1] 40, Asn.qu k33 33 (.slice A1 acc.length c1) acc ok]) (show Eq (α := OSk) _ (some (none, (.store 3 (.tmp 69) (.tmp 68)), 0, none)) by kernel_rfl) trivial F (x_store H (k := 3) (cs' := [.int .i64 a1, .int .i64 n1, .slice A1 acc.length c1]) rfl (Tryd.sizeOf3 W) (F.slot rfl) (F.slot rfl) rfl (Nat.le_of_ble_eq_true rfl) rfl rfl) ?_
      intro W H
      refine ⟨(fun _ => trivial), ?_⟩
      unfold wpSeq
      refine t_normal ?_
      refine c_seq (by kernel_rfl) ?_
      refine c_seq (by kernel_rfl) ?_
      refine c_text (id := 17) (by kernel_rfl) [(0, 2), (1, 2), (2, 2), (3, 2), (4, 2)] (by kernel_rfl) ?_
      refine sq2 (W' := W) (show Eq (α := OSk) _ (some (some 70, (.move (.tmp 4)), 82, none)) by kernel_rfl) trivial F (by decide) (v := .pointer (some ⟨g2, 0, none⟩)) (x_move (F.slot rfl)) (fun _ => trivial) (fun a F => ?_)
      refine sq2 (W' := W) (show Eq (α := OSk) _ (some (some 71, (.nilCheck (.tmp 70)), 0, none)) by kernel_rfl) trivial F (by decide) (v := .pointer (some ⟨g2, 0, none⟩)) (x_nil (F.slot rfl)) (fun _ => trivial) (fun a F => ?_)
      refine sq2 (W' := W) (show Eq (α := OSk) _ (some (some 72, (.fieldAddr 84 (.tmp 71) 1), 0, none)) by kernel_rfl) trivial F (by decide) (v := .pointer (some ⟨g2, 1, none⟩)) (x_field0 Tryd.underlying84 rfl rfl (Tryd.sizeOf24 W) (F.slot rfl)) (fun _ => trivial) (fun a F => ?_)
      refine sq2 (show Eq (α := OSk) _ (some (some 73, (.load 24 (.tmp 72)), 24, none)) by kernel_rfl) trivial F (by decide) (v := .int .i64 E1) (x_load1 (Tryd.isAgg24 W) (F.slot rfl) (H.cell 1 rfl rfl)) (fun _ => trivial) (fun a F => ?_)
      refine sq2 (W' := W) (show Eq (α := OSk) _ (some (some 74, (.binOp .eql 24 (.tmp 73) (.const (.int .i64 0)) 24), 4, none)) by kernel_rfl) trivial F (by decide) (v := .bool (E1 == (0 : Int))) (x_int (F.slot rfl) rfl rfl) (fun _ => trivial) (fun a F => ?_)
      unfold wpSeq
      refine t_normal ?_
      have hb22 : (E1 == (0 : Int)) = false := hb16
      have F := F.at 74 rfl (v' := .bool false) (congrArg Value.bool hb22)
      refine c_no (c := .tmp 74) (by kernel_rfl) (F.slot rfl) ?_
      refine c_skip (by kernel_rfl) ?_
      refine t_normal ?_
      refine c_seq (by kernel_rfl) ?_
      refine c_seq (by kernel_rfl) ?_
      refine c_text (id := 19) (by kernel_rfl) [(0, 2), (1, 2), (2, 2), (3, 2), (4, 2)] (by kernel_rfl) ?_
      refine sq2 (W' := W) (show Eq (α := OSk) _ (some (some 80, (.move (.tmp 4)), 82, none)) by kernel_rfl) trivial F (by decide) (v := .pointer (some ⟨g2, 0, none⟩)) (x_move (F.slot rfl)) (fun _ => trivial) (fun a F => ?_)
      refine sq2 (W' := W) (show Eq (α := OSk) _ (some (some 81, (.nilCheck (.tmp 80)), 0, none)) by kernel_rfl) trivial F (by decide) (v := .pointer (some ⟨g2, 0, none⟩)) (x_nil (F.slot rfl)) (fun _ => trivial) (fun a F => ?_)
      refine sq2 (W' := W) (show Eq (α := OSk) _ (some (some 82, (.fieldAddr 84 (.tmp 81) 1), 0, none)) by kernel_rfl) trivial F (by decide) (v := .pointer (some ⟨g2, 1, none⟩)) (x_field0 Tryd.underlying84 rfl rfl (Tryd.sizeOf24 W) (F.slot rfl)) (fun _ => trivial) (fun a F => ?_)
      refine sq2 (show Eq (α := OSk) _ (some (some 83, (.load 24 (.tmp 82)), 24, none)) by kernel_rfl) trivial F (by decide) (v := .int .i64 E1) (x_load1 (Tryd.isAgg24 W) (F.slot rfl) (H.cell 1 rfl rfl)) (fun _ => trivial) (fun a F => ?_)
      refine sq2 (W' := W) (show Eq (α := OSk) _ (some (some 84, (.binOp .neq 24 (.tmp 83) (.const (.int .i64 0)) 24), 4, none)) by kernel_rfl) trivial F (by decide) (v := .bool (E1 != (0 : Int))) (x_int (F.slot rfl) rfl rfl) (fun _ => trivial) (fun a F => ?_)
      unfold wpSeq
      refine t_normal ?_
      have hb23 : (E1 != (0 : Int)) = true := by simpa using hb16
      have F := F.at 84 rfl (v' := .bool true) (congrArg Value.bool hb23)
      refine c_yes (c := .tmp 84) (by kernel_rfl) (F.slot rfl) ?_
      refine c_seq (by kernel_rfl) ?_
      refine c_drawn (id := 20) (by kernel_rfl) (by kernel_rfl) (Vs [Asn.blk g2 [.string s3, .int .i64 E1] 84]) [0, 0, 2, 6, 14, 1, 63] [] [(0, 0), (1, 0), (2, 0), (3, 0), (4, 1), (5, 2), (6, 0)] (by kernel_rfl) (fun _ _ d _ _ h => by cases d <;> exact h) (Vs.drew ⟨H.get 1 rfl, trivial⟩) ?_
      have H := H.drew
      generalize World.drew W = W at H ⊢
      refine sq0 (show Eq (α := OSk) _ (some (some 85, (.build 40 #[]), 40, none)) by kernel_rfl) trivial F (by decide) (v := .agg #[.int .i64 0, .int .i64 0, .slice none 0 0]) (fun W_ => by simp [ex, execOp, Instr.build, Tryd.zeroValue40, run_underlying Tryd.underlying40, Instr.fill, Value.cells, Tryd.sizeOf3, Tryd.sizeOf38]) (fun a F => ?_)
      refine sq0 (show Eq (α := OSk) _ (some (some 86, (.move (.tmp 4)), 82, none)) by kernel_rfl) trivial F (by decide) (v := .pointer (some ⟨g2, 0, none⟩)) (fun W_ => x_move (F.slot rfl)) (fun a F => ?_)
      refine sq0 (show Eq (α := OSk) _ (some (some 87, (.nilCheck (.tmp 86)), 0, none)) by kernel_rfl) trivial F (by decide) (v := .pointer (some ⟨g2, 0, none⟩)) (fun W_ => x_nil (F.slot rfl)) (fun a F => ?_)
      refine sq0 (show Eq (α := OSk) _ (some (some 88, (.fieldAddr 84 (.tmp 87) 1), 0, none)) by kernel_rfl) trivial F (by decide) (v := .pointer (some ⟨g2, 1, none⟩)) (fun W_ => x_field0 Tryd.underlying84 rfl rfl (Tryd.sizeOf24 W_) (F.slot rfl)) (fun a F => ?_)
      refine sq1 (show Eq (α := OSk) _ (some (some 89, (.load 24 (.tmp 88)), 24, none)) by kernel_rfl) trivial F (by decide) (⟨H.get 1 rfl, trivial⟩) (v := .int .i64 E1) (fun W_ hV => x_load1 (Tryd.isAgg24 W_) (F.slot rfl) (bcell hV.1 rfl)) (fun a F => ?_)
      refine sq_put (M := [Asn.blk g1 [.int .i64 0, .int .i64 0, .slice none 0 0] 40, Asn.blk g2 [.string s3, .int .i64 E1] 84, Asn.rd Kd.string _ A l.length l, Asn.blk g3 [.int .i64 a1, .int .i64 n1, .slice A1 acc.length c1] 40, Asn.qu k33 33 (.slice A1 acc.length c1) acc ok]) (show Eq (α := OSk) _ (some (none, (.store 40 (.tmp 2) (.tmp 85)), 0, none)) by kernel_rfl) trivial F (x_store H (k := 0) (cs' := [.int .i64 0, .int .i64 0, .slice none 0 0]) rfl (Tryd.sizeOf40 W) (F.slot rfl) (F.slot rfl) rfl (Nat.le_of_ble_eq_true rfl) rfl rfl) ?_
      intro W H
      refine ⟨(fun _ => ⟨H.get 1 rfl, trivial⟩), ?_⟩
      refine sq0 (show Eq (α := OSk) _ (some (some 3, (.assign (.tmp 89)), 24, none)) by kernel_rfl) trivial F (by decide) (v := .int .i64 E1) (fun W_ => x_assign (F.slot rfl)) (fun a F => ?_)
      unfold wpSeq
      refine t_normal ?_
      refine c_ret (by kernel_rfl) ?_
      refine t_ret ?_
      refine p_list (rs := [.cell 2 40, .tmp 3]) (vs := [.agg #[.int .i64 0, .int .i64 0, .slice none 0 0], .int .i64 E1]) Tryd.results29 (by simp) F (Vals.cell' F rfl (H.blk 0 rfl) Tryd.underlying40 rfl (by kernel_rfl) (Vals.tmp' F rfl .nil)) ?_
      rw [HX.1 (by simpa using hb16)]
      exact ⟨none, 0, rfl, Nat.le_refl _, fun _ _ => Kd.C_nil _ _, H.ends⟩
end Go.Proofs.YtndicjikjcifaaaDoor
