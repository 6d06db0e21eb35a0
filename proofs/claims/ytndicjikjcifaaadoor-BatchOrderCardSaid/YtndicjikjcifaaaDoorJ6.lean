/- Texts joined by wip/tools/slim2.py: Border, Seals, Opsl, Browo. -/
import Derived.Test.YtndicjikjcifaaaDoorJ5
/- BatchOrder. -/
namespace Go.Proofs.YtndicjikjcifaaaDoor
open Go.RowKit Go.Proofs.YtndicjikjcifaaaDoorW.PrintWords Go.Proofs.YtndicjikjcifaaaDoorW.PrintLast
set_option linter.unusedVariables false
set_option linter.unusedSimpArgs false
set_option maxRecDepth 100000
open PB (S33 k33)
theorem mul_le64 (T x : Int) (h0 : 0 ≤ T) (h1 : T ≤ 20) (h2 : 0 ≤ x) (h3 : x ≤ 64) : T * x ≤ 1280 := by
  have := Int.mul_le_mul h1 h3 h2 (by omega)
  omega
theorem mul_drop (T x y : Int) (h : 0 ≤ T) (hy : y ≤ x - 1) : T * y ≤ T * x - T := by
  have := Int.mul_le_mul_of_nonneg_left hy h
  rw [Int.mul_sub, Int.mul_one] at this
  exact this
theorem len_zero (T x k : Int) (h1 : 1 ≤ T) (h2 : T * x ≤ k) (h3 : k + 1 ≤ T) (h4 : 0 ≤ x) : x = 0 := by
  refine Classical.byContradiction fun h => ?_
  have := Int.mul_le_mul_of_nonneg_left (show 1 ≤ x by omega) (show 0 ≤ T by omega)
  omega
theorem bchL_zero : ∀ l : List S33, (∀ t ∈ l, chT t = 0) → bchL l = 0
  | [], _ => rfl
  | t :: r, h => by
    rw [bchL, if_pos (h t List.mem_cons_self)]
    exact bchL_zero r (fun t ht => h t (List.mem_cons_of_mem _ ht))
theorem bchk_of {n : Int} {l : List S33} (h1 : 1 ≤ n) (h2 : n ≤ 4611686018427387903) (h3 : 1 ≤ l.length) (h4 : l.length ≤ 16) (h : ∀ t ∈ l, chT t = 0) : bchk 3 n l = 0 := by
  unfold bchk
  rw [if_neg (by omega), if_neg (by omega), if_neg (by omega)]
  exact bchL_zero l h
theorem chT_lenB {t : S33} (h : chT t = 0) : LenB t := by
  have hF := ch_fine (show ch t.f0 t.f1 t.f2 t.f3 t.f4 t.f5 t.f6 t.f7 t.f8 = 0 from h)
  have h7 := (ke_zero hF.rs).1
  have h8 := (ke_zero hF.ws).1
  exact ⟨by omega, by omega⟩
theorem same4_calls (t : S33) (A : Option Addr) (c : Nat) (B : Option Addr) (d : Nat) (A' : Option Addr) (c' : Nat) (B' : Option Addr) (d' : Nat) (w : World) (hL : LenT t) (h : k33.K w t (txc t A c B d)) (h' : k33.K w t [.int .i64 t.f0, .string t.f1, .string t.f2, .int .u64 t.f3, .int .u64 t.f4, .string t.f5, .string t.f6, .slice A' t.f7.length c', .slice B' t.f8.length d']) :
    Calls Tryd.prog 27 #[.agg (txc t A c B d).toArray, .agg #[.int .i64 t.f0, .string t.f1, .string t.f2, .int .u64 t.f3, .int .u64 t.f4, .string t.f5, .string t.f6, .slice A' t.f7.length c', .slice B' t.f8.length d']] w fun e w' => e = .returned (.bool true) ∧ Below w.heap.size w w' := by
  obtain ⟨l7, g7, l8, g8⟩ := k33_parts h
  obtain ⟨m7, q7, m8, q8⟩ := k33_parts h'
  exact PB.tuskref04_Same.calls 4611686018427387904 t.f0 t.f1 t.f2 t.f3 t.f4 t.f5 t.f6 A c t.f7 B d t.f8 t.f0 t.f1 t.f2 t.f3 t.f4 t.f5 t.f6 A' c' t.f7 B' d' t.f8 true w g7 l7 g8 l8 q7 m7 q8 m8 (bsame4 t hL _ (Nat.le_refl _))
set_option maxHeartbeats 4000000 in
theorem batchOrder_calls (a0 b0 : Int) (A : Option Addr) (c : Nat) (l : List (Bool × S33)) (w : World) (hr : kOp.C w A l.length l) (hc : l.length ≤ c) (hl : l.length < 4611686018427387904) (hOB : ∀ o ∈ l, OpB o) : Calls Tryd.prog 7 #[.int .i64 a0, .int .i64 b0, .slice A l.length c] w fun e W => e = .returned (.bool true) ∧ Below w.heap.size w W := by
  obtain ⟨z1, hzz, hz1, hz2⟩ := cut_num 1 a0 16 (by decide) (by decide) (by decide) (by decide)
  obtain ⟨T1, hT, hT1, hT2⟩ := cut_num 1 b0 20 (by decide) (by decide) (by decide) (by decide)
  have hok : SealOk 3 z1 T1 := by unfold SealOk; omega
  have H0 : St w (fun _ => False) (fun _ => True) [Asn.rd kOp (fun k => k < w.heap.size) A l.length l] w := (St.first w _ _).old _ (k33_C_heap hr) (fun B hB => by cases hB)
  refine c_enter2 (args := [.int .i64 a0, .int .i64 b0, .slice A l.length c]) (S := (fun _ => False)) (R := (fun _ => True)) (M := [Asn.rd kOp (fun k => k < w.heap.size) A l.length l]) Tryd.func7 (by kernel_rfl) 138 Tryd.ntmps7 (Nat.le_of_ble_eq_true rfl) (H0) (fun a W F H => ?_)
  have F := F.less [(0, .int .i64 a0), (1, .int .i64 b0), (2, .slice A l.length c)] (subc rfl (subc rfl (subc rfl sub0)))
  refine c_seq (by kernel_rfl) ?_
  refine c_text (id := 0) (by kernel_rfl) [(0, 2)] (by kernel_rfl) ?_
  refine q2 (o_s 6 (.assign (.const (.bool false))) 4 (by kernel_rfl)) F (by decide) (v := .bool false) (x_assign rfl) (fun a F => ?_)
  unfold wpSeq
  have H : St w (fun _ => False) (fun _ => True) [Asn.rd kOp (fun k => k < w.heap.size) A l.length l] W := H
  refine t_normal ?_
  refine c_seq (by kernel_rfl) ?_
  refine c_seq (by kernel_rfl) ?_
  refine c_text (id := 1) (by kernel_rfl) [(0, 2), (1, 2)] (by kernel_rfl) ?_
  refine sqc (o_s 16 (.call { callee := (.value (.func 37)), args := #[], argTypes := #[] }) 4 (by kernel_rfl)) trivial F (by decide) (x_call Tryd.func37 (by kernel_rfl) rfl (args_0)) (bworks_calls W) ?_
  rintro e W ⟨rfl, hB⟩
  refine ⟨_, rfl, fun a F => ?_⟩
  have H := H.below hB
  refine ⟨(fun _ => trivial), ?_⟩
  refine q2 (o_s 17 (.unOp .not 4 (.tmp 16)) 4 (by kernel_rfl)) F (by decide) (v := .bool false) (x_not (b := true) (F.slot rfl)) (fun a F => ?_)
  unfold wpSeq
  refine t_normal ?_
  refine c_no (c := .tmp 17) (by kernel_rfl) (F.slot rfl) ?_
  refine c_skip (by kernel_rfl) ?_
  refine t_normal ?_
  refine c_seq (by kernel_rfl) ?_
  refine c_text (id := 3) (by kernel_rfl) [(0, 2), (1, 2), (2, 2), (3, 2), (4, 2), (5, 2), (6, 2), (7, 2), (8, 2), (9, 2), (10, 2), (11, 2)] (by kernel_rfl) ?_
  refine q2 (o_s 18 (.move (.tmp 0)) 3 (by kernel_rfl)) F (by decide) (x_move (F.slot rfl)) (fun a F => ?_)
  refine q2 (o_s 19 (.convert 3 30 (.tmp 18)) 30 (by kernel_rfl)) F (by decide) (v := .int .u64 (IntKind.u64.wrap a0)) (x_conv Tryd.underlying3 Tryd.underlying30 (F.slot rfl)) (fun a F => ?_)
  refine q2 (o_s 20 (.binOp .rem 30 (.tmp 19) (.const (.int .u64 16)) 30) 30 (by kernel_rfl)) F (by decide) (v := .int .u64 (Int.tmod (IntKind.u64.wrap a0) 16)) (x_int (F.slot rfl) rfl rfl) (fun a F => ?_)
  refine q2 (o_s 21 (.convert 30 3 (.tmp 20)) 3 (by kernel_rfl)) F (by decide) (v := .int .i64 (IntKind.i64.wrap (Int.tmod (IntKind.u64.wrap a0) 16))) (x_conv Tryd.underlying30 Tryd.underlying3 (F.slot rfl)) (fun a F => ?_)
  have F := F.conv (v' := .int .i64 (IntKind.i64.wrap (Int.tmod (IntKind.u64.wrap a0) 16))) (rfl)
  refine q2 (o_s 22 (.binOp .add 3 (.const (.int .i64 1)) (.tmp 21) 3) 3 (by kernel_rfl)) F (by decide) (v := .int .i64 (IntKind.i64.wrap (1 + (IntKind.i64.wrap (Int.tmod (IntKind.u64.wrap a0) 16))))) (x_int rfl (F.slot rfl) rfl) (fun a F => ?_)
  have F := F.conv (v' := .int .i64 z1) (congrArg (Value.int .i64) hzz)
  refine q2 (o_s 23 (.move (.tmp 1)) 3 (by kernel_rfl)) F (by decide) (x_move (F.slot rfl)) (fun a F => ?_)
  refine q2 (o_s 24 (.convert 3 30 (.tmp 23)) 30 (by kernel_rfl)) F (by decide) (v := .int .u64 (IntKind.u64.wrap b0)) (x_conv Tryd.underlying3 Tryd.underlying30 (F.slot rfl)) (fun a F => ?_)
  refine q2 (o_s 25 (.binOp .rem 30 (.tmp 24) (.const (.int .u64 20)) 30) 30 (by kernel_rfl)) F (by decide) (v := .int .u64 (Int.tmod (IntKind.u64.wrap b0) 20)) (x_int (F.slot rfl) rfl rfl) (fun a F => ?_)
  refine q2 (o_s 26 (.convert 30 3 (.tmp 25)) 3 (by kernel_rfl)) F (by decide) (v := .int .i64 (IntKind.i64.wrap (Int.tmod (IntKind.u64.wrap b0) 20))) (x_conv Tryd.underlying30 Tryd.underlying3 (F.slot rfl)) (fun a F => ?_)
  have F := F.conv (v' := .int .i64 (IntKind.i64.wrap (Int.tmod (IntKind.u64.wrap b0) 20))) (rfl)
  refine q2 (o_s 27 (.binOp .add 3 (.const (.int .i64 1)) (.tmp 26) 3) 3 (by kernel_rfl)) F (by decide) (v := .int .i64 (IntKind.i64.wrap (1 + (IntKind.i64.wrap (Int.tmod (IntKind.u64.wrap b0) 20))))) (x_int rfl (F.slot rfl) rfl) (fun a F => ?_)
  have F := F.conv (v' := .int .i64 T1) (congrArg (Value.int .i64) hT)
  refine q2 (o_s 0 (.assign (.tmp 22)) 3 (by kernel_rfl)) F (by decide) (v := .int .i64 z1) (x_assign (F.slot rfl)) (fun a F => ?_)
  refine q2 (o_s 1 (.assign (.tmp 27)) 3 (by kernel_rfl)) F (by decide) (v := .int .i64 T1) (x_assign (F.slot rfl)) (fun a F => ?_)
  unfold wpSeq
  refine t_normal ?_
  refine c_seq (by kernel_rfl) ?_
  refine c_text (id := 4) (by kernel_rfl) [(0, 2), (1, 2), (2, 2), (3, 2), (4, 2), (5, 2), (6, 2), (7, 2)] (by kernel_rfl) ?_
  refine q2 (o_s 29 (.move (.tmp 0)) 3 (by kernel_rfl)) F (by decide) (x_move (F.slot rfl)) (fun a F => ?_)
  refine q2 (o_s 30 (.move (.tmp 1)) 3 (by kernel_rfl)) F (by decide) (x_move (F.slot rfl)) (fun a F => ?_)
  refine sqc (o_s 31 (.call { callee := (.value (.func 16)), args := #[(.const (.int .i64 3)), (.tmp 29), (.tmp 30)], argTypes := #[3, 3, 3] }) 25 (by kernel_rfl)) trivial F (by decide) (x_call Tryd.func16 (by kernel_rfl) rfl (args_3 rfl (F.slot rfl) (F.slot rfl))) ((new_calls 3 z1 T1 W).mono (fun _ _ h => h.is hok)) ?_
  rintro e W ⟨ga, rfl, hga, hbga, hB⟩
  refine ⟨_, rfl, fun a F => ?_⟩
  have H := H.newBlk hB hga hbga
  have H : St w (fun _ => False) (fun _ => True) [Asn.rd kOp (fun k => k < w.heap.size) A l.length l, Asn.blk ga [.int .i64 3, .int .i64 z1, .int .i64 T1, .slice none 0 0, .int .i64 0, .int .i64 0] 72] W := H
  refine ⟨(fun _ => trivial), ?_⟩
  refine q2 (o_s 28 (.move (.tmp 31)) 25 (by kernel_rfl)) F (by decide) (x_move (F.slot rfl)) (fun a F => ?_)
  refine q2 (o_s 32 (.extract (.tmp 28) 0) 23 (by kernel_rfl)) F (by decide) (v := .pointer (some ⟨ga, 0, none⟩)) (x_extract (F.slot rfl) rfl) (fun a F => ?_)
  refine q2 (o_s 33 (.extract (.tmp 28) 1) 24 (by kernel_rfl)) F (by decide) (v := .int .i64 0) (x_extract (F.slot rfl) rfl) (fun a F => ?_)
  refine q2 (o_s 7 (.assign (.tmp 32)) 23 (by kernel_rfl)) F (by decide) (v := .pointer (some ⟨ga, 0, none⟩)) (x_assign (F.slot rfl)) (fun a F => ?_)
  refine q2 (o_s 8 (.assign (.tmp 33)) 24 (by kernel_rfl)) F (by decide) (v := .int .i64 0) (x_assign (F.slot rfl)) (fun a F => ?_)
  unfold wpSeq
  refine t_normal ?_
  refine c_seq (by kernel_rfl) ?_
  refine c_seq (by kernel_rfl) ?_
  refine c_text (id := 5) (by kernel_rfl) [(0, 2), (1, 2), (2, 2), (3, 2), (4, 2), (5, 2)] (by kernel_rfl) ?_
  refine q2 (o_s 34 (.move (.tmp 8)) 24 (by kernel_rfl)) F (by decide) (x_move (F.slot rfl)) (fun a F => ?_)
  refine q2 (o_s 35 (.binOp .neq 24 (.tmp 34) (.const (.int .i64 0)) 24) 4 (by kernel_rfl)) F (by decide) (v := .bool false) (x_int (F.slot rfl) rfl rfl) (fun a F => ?_)
  refine q2 (o_s 36 (.move (.tmp 35)) 4 (by kernel_rfl)) F (by decide) (x_move (F.slot rfl)) (fun a F => ?_)
  refine sq2 (W' := W) (o_g 37 (.move (.tmp 7)) 23 2 false (by kernel_rfl)) ⟨36, by kernel_rfl, rfl⟩ F (by decide) (v := .pointer (some ⟨ga, 0, none⟩)) (x_move (F.slot rfl)) (fun _ => trivial) (fun a F => ?_)
  refine sq2 (W' := W) (o_g 38 (.binOp .eql 23 (.tmp 37) (.const (.pointer none)) 23) 4 2 false (by kernel_rfl)) ⟨36, by kernel_rfl, rfl⟩ F (by decide) (v := .bool false) (x_bin (F.slot rfl) rfl rfl) (fun _ => trivial) (fun a F => ?_)
  refine q2 (o_s 39 (.pick (.tmp 36) (.const (.bool true)) (.tmp 38)) 4 (by kernel_rfl)) F (by decide) (v := .bool false) (x_pickF (F.slot rfl) (F.slot rfl)) (fun a F => ?_)
  unfold wpSeq
  refine t_normal ?_
  refine c_no (c := .tmp 39) (by kernel_rfl) (F.slot rfl) ?_
  refine c_skip (by kernel_rfl) ?_
  refine t_normal ?_
  refine c_seq (by kernel_rfl) ?_
  have H := ((H.quNil k33 33).quNil k33 33).quNil k33 33
  refine c_text (id := 7) (by kernel_rfl) [(0, 2), (1, 2)] (by kernel_rfl) ?_
  refine q2 (o_s 9 (.assign (.const (.slice none 0 0))) 38 (by kernel_rfl)) F (by decide) (v := .slice none 0 0) (x_assign rfl) (fun a F => ?_)
  refine q2 (o_s 10 (.assign (.const (.slice none 0 0))) 38 (by kernel_rfl)) F (by decide) (v := .slice none 0 0) (x_assign rfl) (fun a F => ?_)
  unfold wpSeq
  have H : St w (fun _ => False) (fun _ => True) [Asn.rd kOp (fun k => k < w.heap.size) A l.length l, Asn.blk ga [.int .i64 3, .int .i64 z1, .int .i64 T1, .slice none 0 0, .int .i64 0, .int .i64 0] 72, Asn.qu k33 33 (.slice none 0 0) ([] : List S33) (fun _ => False), Asn.qu k33 33 (.slice none 0 0) ([] : List S33) (fun _ => False), Asn.qu k33 33 (.slice none 0 0) ([] : List S33) (fun _ => False)] W := H
  refine t_normal ?_
  refine c_seq (by kernel_rfl) ?_
  refine c_text (id := 8) (by kernel_rfl) [(0, 2)] (by kernel_rfl) ?_
  refine q2 (o_s 11 (.assign (.const (.int .i64 0))) 3 (by kernel_rfl)) F (by decide) (v := .int .i64 0) (x_assign rfl) (fun a F => ?_)
  unfold wpSeq
  refine t_normal ?_
  refine c_seq (by kernel_rfl) ?_
  refine c_seq (by kernel_rfl) ?_
  refine c_text (id := 9) (by kernel_rfl) [(0, 2)] (by kernel_rfl) ?_
  refine q2 (o_s 12 (.assign (.const (.int .i64 0))) 3 (by kernel_rfl)) F (by decide) (v := .int .i64 0) (x_assign rfl) (fun a F => ?_)
  unfold wpSeq
  refine t_normal ?_
  refine c_block (id := 0) (by kernel_rfl) ?_
  refine c_loop (by kernel_rfl) (fun k a W => ∃ (j : Nat) (k0 : Int) (n0 : Int) (p0 : Int) (A1 : Option Addr) (c1 : Nat) (xs : List S33) (ok1 : Nat → Prop) (Ai : Option Addr) (ci : Nat) (xin : List S33) (oki : Nat → Prop) (Ao : Option Addr) (co : Nat) (xout : List S33) (oko : Nat → Prop), Fr 138 [(0, .int .i64 z1), (1, .int .i64 T1), (2, .slice A l.length c), (16, .bool true), (17, .bool false), (18, .int .i64 a0), (19, .int .u64 (IntKind.u64.wrap a0)), (20, .int .u64 (Int.tmod (IntKind.u64.wrap a0) 16)), (21, .int .i64 (IntKind.i64.wrap (Int.tmod (IntKind.u64.wrap a0) 16))), (22, .int .i64 z1), (23, .int .i64 b0), (24, .int .u64 (IntKind.u64.wrap b0)), (25, .int .u64 (Int.tmod (IntKind.u64.wrap b0) 20)), (26, .int .i64 (IntKind.i64.wrap (Int.tmod (IntKind.u64.wrap b0) 20))), (27, .int .i64 T1), (29, .int .i64 z1), (30, .int .i64 T1), (31, .tuple #[.pointer (some ⟨ga, 0, none⟩), .int .i64 0]), (28, .tuple #[.pointer (some ⟨ga, 0, none⟩), .int .i64 0]), (32, .pointer (some ⟨ga, 0, none⟩)), (33, .int .i64 0), (7, .pointer (some ⟨ga, 0, none⟩)), (8, .int .i64 0), (34, .int .i64 0), (35, .bool false), (36, .bool false), (37, .pointer (some ⟨ga, 0, none⟩)), (38, .bool false), (39, .bool false), (12, .int .i64 (j : Int)), (11, .int .i64 n0), (9, .slice Ai xin.length ci), (10, .slice Ao xout.length co)] a ∧ St w (fun _ => False) (fun _ => True) [Asn.rd kOp (fun k => k < w.heap.size) A l.length l, Asn.blk ga [.int .i64 3, .int .i64 z1, .int .i64 T1, .slice A1 xs.length c1, .int .i64 k0, .int .i64 n0] 72, Asn.qu k33 33 (.slice A1 xs.length c1) xs ok1, Asn.qu k33 33 (.slice Ai xin.length ci) xin oki, Asn.qu k33 33 (.slice Ao xout.length co) xout oko] W ∧ (k + j = 1500) ∧ (j ≤ 1500) ∧ (∀ x ∈ xin, chT x = 0) ∧ (xin = xout ++ xs) ∧ (xin.length ≤ j) ∧ (xin.length ≤ 100) ∧ (0 ≤ k0) ∧ (k0 + 1 ≤ T1) ∧ (0 ≤ n0) ∧ (n0 ≤ j) ∧ ((xs.length : Int) ≤ 4 * z1) ∧ (T1 * (xs.length : Int) = p0) ∧ (100 ≤ j → p0 - k0 ≤ 1500 - j)) 1500 ⟨0, 0, 0, 0, none, 0, [], _, none, 0, [], _, none, 0, [], _, F.less _ (subc rfl (subc rfl (subc rfl (subc rfl (subc rfl (subc rfl (subc rfl (subc rfl (subc rfl (subc rfl (subc rfl (subc rfl (subc rfl (subc rfl (subc rfl (subc rfl (subc rfl (subc rfl (subc rfl (subc rfl (subc rfl (subc rfl (subc rfl (subc rfl (subc rfl (subc rfl (subc rfl (subc rfl (subc rfl (subc rfl (subc rfl (subc rfl (subc rfl sub0))))))))))))))))))))))))))))))))), H, (by omega), (by omega), (fun _ h => by cases h), rfl, (Nat.le_refl _), (by decide), (by omega), (by omega), (by omega), (by omega), (by simp; omega), (by simp), (by omega)⟩ ?_
  rintro k a W ⟨j, k0, n0, p0, A1, c1, xs, ok1, Ai, ci, xin, oki, Ao, co, xout, oko, F, H, hkj, hj, hX, hin, hxj, hx1, hk1, hk2, hn1, hn2, hx4, hp0, hp1⟩
  refine c_seq (by kernel_rfl) ?_
  refine c_seq (by kernel_rfl) ?_
  refine c_text (id := 10) (by kernel_rfl) [(0, 2), (1, 2)] (by kernel_rfl) ?_
  refine q2 (o_s 40 (.move (.tmp 12)) 3 (by kernel_rfl)) F (by decide) (x_move (F.slot rfl)) (fun a F => ?_)
  refine q2 (o_s 41 (.binOp .lss 3 (.tmp 40) (.const (.int .i64 1500)) 3) 4 (by kernel_rfl)) F (by decide) (v := .bool (decide ((j : Int) < (1500 : Int)))) (x_int (F.slot rfl) rfl rfl) (fun a F => ?_)
  unfold wpSeq
  have H : St w (fun _ => False) (fun _ => True) [Asn.rd kOp (fun k => k < w.heap.size) A l.length l, Asn.blk ga [.int .i64 3, .int .i64 z1, .int .i64 T1, .slice A1 xs.length c1, .int .i64 k0, .int .i64 n0] 72, Asn.qu k33 33 (.slice A1 xs.length c1) xs ok1, Asn.qu k33 33 (.slice Ai xin.length ci) xin oki, Asn.qu k33 33 (.slice Ao xout.length co) xout oko] W := H
  refine t_normal ?_
  rcases bool_or (decide ((j : Int) < (1500 : Int))) with hb1 | hb1
  · have hb1d := of_decide_eq_true hb1
    have F := F.at 41 rfl (v' := .bool true) (congrArg Value.bool hb1)
    refine c_yes (c := .tmp 41) (by kernel_rfl) (F.slot rfl) ?_
    refine c_skip (by kernel_rfl) ?_
    refine t_normal ?_
    refine c_seq (by kernel_rfl) ?_
    refine c_block (id := 1) (by kernel_rfl) ?_
    refine c_seq (by kernel_rfl) ?_
    refine c_seq (by kernel_rfl) ?_
    have hio := congrArg List.length hin
    rw [List.length_append] at hio
    rcases Nat.lt_or_ge j l.length with hjl | hjl
    · obtain ⟨⟨b, t⟩, htbt⟩ : ∃ t_, (l)[j]? = some t_ := ⟨_, List.getElem?_eq_getElem (by omega)⟩
      obtain ⟨adbt, csbt, hAbt, hKbt, H⟩ := H.elem 0 rfl (by decide) j (b, t) htbt
      obtain ⟨A7, c7, A8, c8, rfl⟩ := kOp_open hKbt
      have H : St w (fun _ => False) (fun _ => True) [Asn.rd kOp (fun k => k < w.heap.size) A l.length l, Asn.blk ga [.int .i64 3, .int .i64 z1, .int .i64 T1, .slice A1 xs.length c1, .int .i64 k0, .int .i64 n0] 72, Asn.qu k33 33 (.slice A1 xs.length c1) xs ok1, Asn.qu k33 33 (.slice Ai xin.length ci) xin oki, Asn.qu k33 33 (.slice Ao xout.length co) xout oko, Asn.fk kOp (fun k => k < w.heap.size) (b, t) [.bool b, .int .i64 t.f0, .string t.f1, .string t.f2, .int .u64 t.f3, .int .u64 t.f4, .string t.f5, .string t.f6, .slice A7 t.f7.length c7, .slice A8 t.f8.length c8], Asn.cl (adbt.add (j * 10)) [.bool b, .int .i64 t.f0, .string t.f1, .string t.f2, .int .u64 t.f3, .int .u64 t.f4, .string t.f5, .string t.f6, .slice A7 t.f7.length c7, .slice A8 t.f8.length c8] (fun k => k < w.heap.size)] W := H
      have H := H.addF1 5 rfl (fun _ h => h) (fun W => k33.K W t (txc t A7 c7 A8 c8)) _ (fun _ h => h) (Foot.imp (H.get 5 rfl) (fun _ h => kOp_tx h))
      have H : St w (fun _ => False) (fun _ => True) [Asn.rd kOp (fun k => k < w.heap.size) A l.length l, Asn.blk ga [.int .i64 3, .int .i64 z1, .int .i64 T1, .slice A1 xs.length c1, .int .i64 k0, .int .i64 n0] 72, Asn.qu k33 33 (.slice A1 xs.length c1) xs ok1, Asn.qu k33 33 (.slice Ai xin.length ci) xin oki, Asn.qu k33 33 (.slice Ao xout.length co) xout oko, Asn.fk kOp (fun k => k < w.heap.size) (b, t) [.bool b, .int .i64 t.f0, .string t.f1, .string t.f2, .int .u64 t.f3, .int .u64 t.f4, .string t.f5, .string t.f6, .slice A7 t.f7.length c7, .slice A8 t.f8.length c8], Asn.cl (adbt.add (j * 10)) [.bool b, .int .i64 t.f0, .string t.f1, .string t.f2, .int .u64 t.f3, .int .u64 t.f4, .string t.f5, .string t.f6, .slice A7 t.f7.length c7, .slice A8 t.f8.length c8] (fun k => k < w.heap.size), Asn.fk k33 (fun k => k < w.heap.size) t (txc t A7 c7 A8 c8)] W := H
      obtain ⟨hL, hB1, hB2⟩ := hOB _ (List.mem_of_getElem? htbt)
      refine c_text (id := 12) (by kernel_rfl) [(0, 2), (1, 2), (2, 2), (3, 2), (4, 2), (5, 2), (6, 2), (7, 2), (8, 2), (9, 2), (10, 2), (11, 2), (12, 2), (13, 2), (14, 2), (15, 2)] (by kernel_rfl) ?_
      refine q2 (o_s 44 (.move (.tmp 12)) 3 (by kernel_rfl)) F (by decide) (x_move (F.slot rfl)) (fun a F => ?_)
      refine q2 (o_s 45 (.move (.tmp 2)) 22 (by kernel_rfl)) F (by decide) (x_move (F.slot rfl)) (fun a F => ?_)
      refine q2 (o_s 46 (.call { callee := (.builtin .len), args := #[(.tmp 45)], argTypes := #[22] }) 3 (by kernel_rfl)) F (by decide) (v := .int .i64 (l.length : Int)) (x_lenL Tryd.underlying22 (F.slot rfl)) (fun a F => ?_)
      refine q2 (o_s 47 (.binOp .lss 3 (.tmp 44) (.tmp 46) 3) 4 (by kernel_rfl)) F (by decide) (v := .bool (decide ((j : Int) < (l.length : Int)))) (x_int (F.slot rfl) (F.slot rfl) rfl) (fun a F => ?_)
      refine q2 (o_s 48 (.move (.tmp 47)) 4 (by kernel_rfl)) F (by decide) (x_move (F.slot rfl)) (fun a F => ?_)
      have hb2 : decide ((j : Int) < (l.length : Int)) = true := decide_eq_true (by omega)
      have F := F.at 48 rfl (v' := .bool true) (congrArg Value.bool hb2)
      refine sq2 (W' := W) (o_g 49 (.move (.tmp 12)) 3 4 true (by kernel_rfl)) ⟨48, by kernel_rfl, rfl⟩ F (by decide) (v := .int .i64 (j : Int)) (x_move (F.slot rfl)) (fun _ => trivial) (fun a F => ?_)
      refine sq2 (W' := W) (o_g 50 (.binOp .lss 3 (.tmp 49) (.const (.int .i64 100)) 3) 4 4 true (by kernel_rfl)) ⟨48, by kernel_rfl, rfl⟩ F (by decide) (v := .bool (decide ((j : Int) < (100 : Int)))) (x_int (F.slot rfl) rfl rfl) (fun _ => trivial) (fun a F => ?_)
      refine q2 (o_s 51 (.pick (.tmp 48) (.tmp 50) (.const (.bool false))) 4 (by kernel_rfl)) F (by decide) (v := .bool (decide ((j : Int) < (100 : Int)))) (x_pickT (F.slot rfl) (F.slot rfl)) (fun a F => ?_)
      refine q2 (o_s 52 (.move (.tmp 51)) 4 (by kernel_rfl)) F (by decide) (x_move (F.slot rfl)) (fun a F => ?_)
      rcases bool_or (decide ((j : Int) < (100 : Int))) with hb3 | hb3
      · have hb3d := of_decide_eq_true hb3
        have F := F.at 52 rfl (v' := .bool true) (congrArg Value.bool hb3)
        refine sq2 (W' := W) (o_g 53 (.move (.tmp 2)) 22 8 true (by kernel_rfl)) ⟨52, by kernel_rfl, rfl⟩ F (by decide) (v := .slice A l.length c) (x_move (F.slot rfl)) (fun _ => trivial) (fun a F => ?_)
        refine sq2 (W' := W) (o_g 54 (.move (.tmp 12)) 3 8 true (by kernel_rfl)) ⟨52, by kernel_rfl, rfl⟩ F (by decide) (v := .int .i64 (j : Int)) (x_move (F.slot rfl)) (fun _ => trivial) (fun a F => ?_)
        refine sq2 (W' := W) (o_g 55 (.indexAddr 22 (.tmp 53) (.tmp 54)) 0 8 true (by kernel_rfl)) ⟨52, by kernel_rfl, rfl⟩ F (by decide) (v := .pointer (some (adbt.add (j * 10)))) (x_indexE Tryd.underlying22 (Tryd.sizeOf35 W) (F.slot rfl) hAbt (F.slot rfl) (by omega)) (fun _ => trivial) (fun a F => ?_)
        refine sq2 (W' := W) (o_g 56 (.fieldAddr 35 (.tmp 55) 0) 0 8 true (by kernel_rfl)) ⟨52, by kernel_rfl, rfl⟩ F (by decide) (v := .pointer (some (Addr.add (adbt.add (j * 10)) 0))) (x_fieldAddr Tryd.underlying35 rfl rfl (Tryd.sizeOf4 W) (F.slot rfl)) (fun _ => trivial) (fun a F => ?_)
        refine sq2 (o_g 57 (.load 4 (.tmp 56)) 4 8 true (by kernel_rfl)) ⟨52, by kernel_rfl, rfl⟩ F (by decide) (v := .bool b) (x_load1 (Tryd.isAgg4 W) (F.slot rfl) (cl1 (H.get 6 rfl) 0 rfl)) (fun _ => trivial) (fun a F => ?_)
        refine sq2 (W' := W) (o_g 58 (.unOp .not 4 (.tmp 57)) 4 8 true (by kernel_rfl)) ⟨52, by kernel_rfl, rfl⟩ F (by decide) (v := .bool (!b)) (x_not (F.slot rfl)) (fun _ => trivial) (fun a F => ?_)
        refine q2 (o_s 59 (.pick (.tmp 52) (.tmp 58) (.const (.bool false))) 4 (by kernel_rfl)) F (by decide) (v := .bool (!b)) (x_pickT (F.slot rfl) (F.slot rfl)) (fun a F => ?_)
        unfold wpSeq
        refine t_normal ?_
        rcases bool_or (!b) with hb4 | hb4
        · have F := F.at 59 rfl (v' := .bool true) (congrArg Value.bool hb4)
          refine c_yes (c := .tmp 59) (by kernel_rfl) (F.slot rfl) ?_
          refine c_seq (by kernel_rfl) ?_
          refine c_seq (by kernel_rfl) ?_
          obtain ⟨z, hz⟩ : ∃ z, chT t = z := ⟨_, rfl⟩
          have hxsl : xs.length ≤ xin.length := by omega
          rcases (show (z = 0 ∧ ¬ (xs.length : Int) ≥ 4 * z1) ∨ (z = 0 ∧ (xs.length : Int) ≥ 4 * z1) ∨ z ≠ 0 by omega) with ⟨rfl, hf⟩ | ⟨rfl, hf⟩ | hz0
          · refine c_text (id := 13) (by kernel_rfl) [(0, 2), (1, 2), (2, 2), (3, 2), (4, 2), (5, 2), (6, 2), (7, 2), (8, 2)] (by kernel_rfl) ?_
            refine q2 (o_s 60 (.move (.tmp 7)) 23 (by kernel_rfl)) F (by decide) (x_move (F.slot rfl)) (fun a F => ?_)
            refine q2 (o_s 61 (.move (.tmp 2)) 22 (by kernel_rfl)) F (by decide) (x_move (F.slot rfl)) (fun a F => ?_)
            refine q2 (o_s 62 (.move (.tmp 12)) 3 (by kernel_rfl)) F (by decide) (x_move (F.slot rfl)) (fun a F => ?_)
            refine q2 (o_s 63 (.indexAddr 22 (.tmp 61) (.tmp 62)) 0 (by kernel_rfl)) F (by decide) (v := .pointer (some (adbt.add (j * 10)))) (x_indexE Tryd.underlying22 (Tryd.sizeOf35 W) (F.slot rfl) hAbt (F.slot rfl) (by omega)) (fun a F => ?_)
            refine q2 (o_s 64 (.fieldAddr 35 (.tmp 63) 1) 0 (by kernel_rfl)) F (by decide) (v := .pointer (some (Addr.add (adbt.add (j * 10)) 1))) (x_fieldAddr Tryd.underlying35 rfl rfl (Tryd.sizeOf33 W) (F.slot rfl)) (fun a F => ?_)
            refine q2 (o_s 65 (.load 33 (.tmp 64)) 33 (by kernel_rfl)) F (by decide) (v := .agg (txc t A7 c7 A8 c8).toArray) (x_loadN (Tryd.isAgg33 W) (txc t A7 c7 A8 c8) (Tryd.sizeOf33 W) (F.slot rfl) (cln (H.get 6 rfl) 1 _ rfl)) (fun a F => ?_)
            refine sqc (o_s 66 (.call { callee := (.value (.func 19)), args := #[(.tmp 65)], argTypes := #[33] }) 33 (by kernel_rfl)) trivial F (by decide) (x_call Tryd.func19 (by kernel_rfl) rfl (args_1 (F.slot rfl))) (ownF_calls t A7 A8 c7 c8 W (H.rd 7 rfl) hB1 hB2) ?_
            rintro e W ⟨A7o, c7o, A8o, c8o, rfl, hF, hB⟩
            refine ⟨_, rfl, fun a F => ?_⟩
            have H := H.freshF hB _ _ hF (fun k hk => hk)
            have H : St w (fun _ => False) (fun _ => True) [Asn.rd kOp (fun k => k < w.heap.size) A l.length l, Asn.blk ga [.int .i64 3, .int .i64 z1, .int .i64 T1, .slice A1 xs.length c1, .int .i64 k0, .int .i64 n0] 72, Asn.qu k33 33 (.slice A1 xs.length c1) xs ok1, Asn.qu k33 33 (.slice Ai xin.length ci) xin oki, Asn.qu k33 33 (.slice Ao xout.length co) xout oko, Asn.fk kOp (fun k => k < w.heap.size) (b, t) [.bool b, .int .i64 t.f0, .string t.f1, .string t.f2, .int .u64 t.f3, .int .u64 t.f4, .string t.f5, .string t.f6, .slice A7 t.f7.length c7, .slice A8 t.f8.length c8], Asn.cl (adbt.add (j * 10)) [.bool b, .int .i64 t.f0, .string t.f1, .string t.f2, .int .u64 t.f3, .int .u64 t.f4, .string t.f5, .string t.f6, .slice A7 t.f7.length c7, .slice A8 t.f8.length c8] (fun k => k < w.heap.size), Asn.fk k33 (fun k => k < w.heap.size) t (txc t A7 c7 A8 c8), Asn.fk k33 _ t (txc t A7o c7o A8o c8o)] W := H
            refine ⟨(fun _ => trivial), ?_⟩
            have HS := H.select [1, 2, 8] [Asn.blk ga [.int .i64 3, .int .i64 z1, .int .i64 T1, .slice A1 xs.length c1, .int .i64 k0, .int .i64 n0] 72, Asn.qu k33 33 (.slice A1 xs.length c1) xs ok1, Asn.fk k33 _ t (txc t A7o c7o A8o c8o)] rfl (by decide)
            refine sqc (o_s 67 (.call { callee := (.value (.func 18)), args := #[(.tmp 60), (.tmp 66)], argTypes := #[23, 33] }) 24 (by kernel_rfl)) trivial F (by decide) (x_call Tryd.func18 (by kernel_rfl) rfl (args_2 (F.slot rfl) (F.slot rfl))) ((add_calls ga 3 z1 T1 k0 n0 A1 c1 xs ok1 _ t A7o A8o c7o c8o W (by omega) (by omega) HS).mono (fun _ _ h => h.in_ hz hf)) ?_
            rintro e W ⟨rfl, Ap, cp, okp, H1⟩
            refine ⟨_, rfl, fun a F => ?_⟩
            have H := H.back [1, 2, 8] [Asn.blk ga [.int .i64 3, .int .i64 z1, .int .i64 T1, .slice A1 xs.length c1, .int .i64 k0, .int .i64 n0] 72, Asn.qu k33 33 (.slice A1 xs.length c1) xs ok1, Asn.fk k33 _ t (txc t A7o c7o A8o c8o)] rfl (by decide) [Asn.blk ga [.int .i64 3, .int .i64 z1, .int .i64 T1, .slice Ap ((xs ++ [t]).length) cp, .int .i64 k0, .int .i64 n0] 72, Asn.qu k33 33 (.slice Ap ((xs ++ [t]).length) cp) (xs ++ [t]) okp, Asn.fk k33 _ t (txc t A7o c7o A8o c8o)] [] rfl H1
            clear HS H1
            have H : St w (fun _ => False) (fun _ => True) [Asn.rd kOp (fun k => k < w.heap.size) A l.length l, Asn.blk ga [.int .i64 3, .int .i64 z1, .int .i64 T1, .slice Ap ((xs ++ [t]).length) cp, .int .i64 k0, .int .i64 n0] 72, Asn.qu k33 33 (.slice Ap ((xs ++ [t]).length) cp) (xs ++ [t]) okp, Asn.qu k33 33 (.slice Ai xin.length ci) xin oki, Asn.qu k33 33 (.slice Ao xout.length co) xout oko, Asn.fk kOp (fun k => k < w.heap.size) (b, t) [.bool b, .int .i64 t.f0, .string t.f1, .string t.f2, .int .u64 t.f3, .int .u64 t.f4, .string t.f5, .string t.f6, .slice A7 t.f7.length c7, .slice A8 t.f8.length c8], Asn.cl (adbt.add (j * 10)) [.bool b, .int .i64 t.f0, .string t.f1, .string t.f2, .int .u64 t.f3, .int .u64 t.f4, .string t.f5, .string t.f6, .slice A7 t.f7.length c7, .slice A8 t.f8.length c8] (fun k => k < w.heap.size), Asn.fk k33 (fun k => k < w.heap.size) t (txc t A7 c7 A8 c8), Asn.fk k33 _ t (txc t A7o c7o A8o c8o)] W := H
            refine ⟨(fun _ => trivial), ?_⟩
            refine q2 (o_s 68 (.binOp .eql 24 (.tmp 67) (.const (.int .i64 0)) 24) 4 (by kernel_rfl)) F (by decide) (v := .bool true) (x_int (F.slot rfl) rfl rfl) (fun a F => ?_)
            unfold wpSeq
            refine t_normal ?_
            refine c_yes (c := .tmp 68) (by kernel_rfl) (F.slot rfl) ?_
            refine c_text (id := 14) (by kernel_rfl) [(0, 2), (1, 2), (2, 2), (3, 2), (4, 2), (5, 2), (6, 2), (7, 2), (8, 2)] (by kernel_rfl) ?_
            refine q2 (o_s 69 (.move (.tmp 9)) 38 (by kernel_rfl)) F (by decide) (x_move (F.slot rfl)) (fun a F => ?_)
            refine q2 (o_s 70 (.move (.tmp 2)) 22 (by kernel_rfl)) F (by decide) (x_move (F.slot rfl)) (fun a F => ?_)
            refine q2 (o_s 71 (.move (.tmp 12)) 3 (by kernel_rfl)) F (by decide) (x_move (F.slot rfl)) (fun a F => ?_)
            refine q2 (o_s 72 (.indexAddr 22 (.tmp 70) (.tmp 71)) 0 (by kernel_rfl)) F (by decide) (v := .pointer (some (adbt.add (j * 10)))) (x_indexE Tryd.underlying22 (Tryd.sizeOf35 W) (F.slot rfl) hAbt (F.slot rfl) (by omega)) (fun a F => ?_)
            refine q2 (o_s 73 (.fieldAddr 35 (.tmp 72) 1) 0 (by kernel_rfl)) F (by decide) (v := .pointer (some (Addr.add (adbt.add (j * 10)) 1))) (x_fieldAddr Tryd.underlying35 rfl rfl (Tryd.sizeOf33 W) (F.slot rfl)) (fun a F => ?_)
            refine q2 (o_s 74 (.load 33 (.tmp 73)) 33 (by kernel_rfl)) F (by decide) (v := .agg (txc t A7 c7 A8 c8).toArray) (x_loadN (Tryd.isAgg33 W) (txc t A7 c7 A8 c8) (Tryd.sizeOf33 W) (F.slot rfl) (cln (H.get 6 rfl) 1 _ rfl)) (fun a F => ?_)
            refine sq_bapp k33 3 7 (by decide) (o_s 75 (.buildSlice 38 1 #[(0, (.tmp 74))]) 38 (by kernel_rfl)) trivial (o_s 76 (.call { callee := (.builtin .append), args := #[(.tmp 69), (.tmp 75)], argTypes := #[38, 38] }) 38 (by kernel_rfl)) (fun _ => trivial) F (by decide) (by decide) rfl (fun a F => F.slot rfl) (F.slot rfl) rfl Tryd.underlying38 PB.info33 rfl (by decide) (by decide) (by decide) H rfl rfl (by omega) (fun W H => (fun _ => trivial)) ?_
            intro v_ W a H F
            obtain ⟨An, cn, rfl, hcn⟩ := (H.qu 3 rfl).form
            have H : St w (fun _ => False) (fun _ => True) [Asn.rd kOp (fun k => k < w.heap.size) A l.length l, Asn.blk ga [.int .i64 3, .int .i64 z1, .int .i64 T1, .slice Ap ((xs ++ [t]).length) cp, .int .i64 k0, .int .i64 n0] 72, Asn.qu k33 33 (.slice Ap ((xs ++ [t]).length) cp) (xs ++ [t]) okp, Asn.qu k33 33 (.slice An ((xin ++ [t]).length) cn) (xin ++ [t]) _, Asn.qu k33 33 (.slice Ao xout.length co) xout oko, Asn.fk kOp (fun k => k < w.heap.size) (b, t) [.bool b, .int .i64 t.f0, .string t.f1, .string t.f2, .int .u64 t.f3, .int .u64 t.f4, .string t.f5, .string t.f6, .slice A7 t.f7.length c7, .slice A8 t.f8.length c8], Asn.cl (adbt.add (j * 10)) [.bool b, .int .i64 t.f0, .string t.f1, .string t.f2, .int .u64 t.f3, .int .u64 t.f4, .string t.f5, .string t.f6, .slice A7 t.f7.length c7, .slice A8 t.f8.length c8] (fun k => k < w.heap.size), Asn.fk k33 (fun k => k < w.heap.size) t (txc t A7 c7 A8 c8), Asn.fk k33 _ t (txc t A7o c7o A8o c8o)] W := H
            refine ⟨(fun _ => trivial), ?_⟩
            refine q2 (o_s 9 (.assign (.tmp 76)) 38 (by kernel_rfl)) F (by decide) (v := .slice An ((xin ++ [t]).length) cn) (x_assign (F.slot rfl)) (fun a F => ?_)
            unfold wpSeq
            refine t_normal ?_
            refine c_exit (id := 1) (by kernel_rfl) ?_
            refine t_exit ?_
            refine b_here ?_
            refine t_normal ?_
            refine c_text (id := 11) (by kernel_rfl) [(0, 2), (1, 2), (2, 2)] (by kernel_rfl) ?_
            refine q2 (o_s 42 (.move (.tmp 12)) 3 (by kernel_rfl)) F (by decide) (x_move (F.slot rfl)) (fun a F => ?_)
            refine q2 (o_s 43 (.binOp .add 3 (.tmp 42) (.const (.int .i64 1)) 3) 3 (by kernel_rfl)) F (by decide) (v := .int .i64 (IntKind.i64.wrap ((j : Int) + 1))) (x_int (F.slot rfl) rfl rfl) (fun a F => ?_)
            have F := F.conv (v' := .int .i64 ((j : Int) + 1)) (congrArg (Value.int .i64) (wrap_i64 _ (by omega) (by omega)))
            refine q2 (o_s 12 (.assign (.tmp 43)) 3 (by kernel_rfl)) F (by decide) (v := .int .i64 ((j : Int) + 1)) (x_assign (F.slot rfl)) (fun a F => ?_)
            unfold wpSeq
            refine t_normal ?_
            have F_ := F
            have H := H.front 5
            have F := F.at 12 rfl (v' := .int .i64 ((j + 1 : Nat) : Int)) (congrArg (Value.int .i64) (by omega))
            have e1 : (xs ++ [t]).length = xs.length + 1 := by simp
            have e2 : (xin ++ [t]).length = xin.length + 1 := by simp
            have e3 : xin ++ [t] = xout ++ (xs ++ [t]) := by rw [hin, List.append_assoc]
            have e5 := mul_le64 T1 (((xs ++ [t])).length : Int) (by omega) (by omega) (by omega) (by omega)
            exact ⟨k - 1, by omega, j + 1, k0, n0, _, Ap, cp, (xs ++ [t]), _, An, cn, (xin ++ [t]), _, Ao, co, xout, _, F.less _ (subc rfl (subc rfl (subc rfl (subc rfl (subc rfl (subc rfl (subc rfl (subc rfl (subc rfl (subc rfl (subc rfl (subc rfl (subc rfl (subc rfl (subc rfl (subc rfl (subc rfl (subc rfl (subc rfl (subc rfl (subc rfl (subc rfl (subc rfl (subc rfl (subc rfl (subc rfl (subc rfl (subc rfl (subc rfl (subc rfl (subc rfl (subc rfl (subc rfl sub0))))))))))))))))))))))))))))))))), H, (by omega), (by omega), (fun x hx => (List.mem_append.1 hx).elim (hX x) (fun h => (List.mem_singleton.1 h) ▸ hz)), e3, (by omega), (by omega), (by omega), (by omega), (by omega), (by omega), (by omega), rfl, (by omega)⟩
          · refine c_text (id := 13) (by kernel_rfl) [(0, 2), (1, 2), (2, 2), (3, 2), (4, 2), (5, 2), (6, 2), (7, 2), (8, 2)] (by kernel_rfl) ?_
            refine q2 (o_s 60 (.move (.tmp 7)) 23 (by kernel_rfl)) F (by decide) (x_move (F.slot rfl)) (fun a F => ?_)
            refine q2 (o_s 61 (.move (.tmp 2)) 22 (by kernel_rfl)) F (by decide) (x_move (F.slot rfl)) (fun a F => ?_)
            refine q2 (o_s 62 (.move (.tmp 12)) 3 (by kernel_rfl)) F (by decide) (x_move (F.slot rfl)) (fun a F => ?_)
            refine q2 (o_s 63 (.indexAddr 22 (.tmp 61) (.tmp 62)) 0 (by kernel_rfl)) F (by decide) (v := .pointer (some (adbt.add (j * 10)))) (x_indexE Tryd.underlying22 (Tryd.sizeOf35 W) (F.slot rfl) hAbt (F.slot rfl) (by omega)) (fun a F => ?_)
            refine q2 (o_s 64 (.fieldAddr 35 (.tmp 63) 1) 0 (by kernel_rfl)) F (by decide) (v := .pointer (some (Addr.add (adbt.add (j * 10)) 1))) (x_fieldAddr Tryd.underlying35 rfl rfl (Tryd.sizeOf33 W) (F.slot rfl)) (fun a F => ?_)
            refine q2 (o_s 65 (.load 33 (.tmp 64)) 33 (by kernel_rfl)) F (by decide) (v := .agg (txc t A7 c7 A8 c8).toArray) (x_loadN (Tryd.isAgg33 W) (txc t A7 c7 A8 c8) (Tryd.sizeOf33 W) (F.slot rfl) (cln (H.get 6 rfl) 1 _ rfl)) (fun a F => ?_)
            refine sqc (o_s 66 (.call { callee := (.value (.func 19)), args := #[(.tmp 65)], argTypes := #[33] }) 33 (by kernel_rfl)) trivial F (by decide) (x_call Tryd.func19 (by kernel_rfl) rfl (args_1 (F.slot rfl))) (ownF_calls t A7 A8 c7 c8 W (H.rd 7 rfl) hB1 hB2) ?_
            rintro e W ⟨A7o, c7o, A8o, c8o, rfl, hF, hB⟩
            refine ⟨_, rfl, fun a F => ?_⟩
            have H := H.freshF hB _ _ hF (fun k hk => hk)
            have H : St w (fun _ => False) (fun _ => True) [Asn.rd kOp (fun k => k < w.heap.size) A l.length l, Asn.blk ga [.int .i64 3, .int .i64 z1, .int .i64 T1, .slice A1 xs.length c1, .int .i64 k0, .int .i64 n0] 72, Asn.qu k33 33 (.slice A1 xs.length c1) xs ok1, Asn.qu k33 33 (.slice Ai xin.length ci) xin oki, Asn.qu k33 33 (.slice Ao xout.length co) xout oko, Asn.fk kOp (fun k => k < w.heap.size) (b, t) [.bool b, .int .i64 t.f0, .string t.f1, .string t.f2, .int .u64 t.f3, .int .u64 t.f4, .string t.f5, .string t.f6, .slice A7 t.f7.length c7, .slice A8 t.f8.length c8], Asn.cl (adbt.add (j * 10)) [.bool b, .int .i64 t.f0, .string t.f1, .string t.f2, .int .u64 t.f3, .int .u64 t.f4, .string t.f5, .string t.f6, .slice A7 t.f7.length c7, .slice A8 t.f8.length c8] (fun k => k < w.heap.size), Asn.fk k33 (fun k => k < w.heap.size) t (txc t A7 c7 A8 c8), Asn.fk k33 _ t (txc t A7o c7o A8o c8o)] W := H
            refine ⟨(fun _ => trivial), ?_⟩
            have HS := H.select [1, 2, 8] [Asn.blk ga [.int .i64 3, .int .i64 z1, .int .i64 T1, .slice A1 xs.length c1, .int .i64 k0, .int .i64 n0] 72, Asn.qu k33 33 (.slice A1 xs.length c1) xs ok1, Asn.fk k33 _ t (txc t A7o c7o A8o c8o)] rfl (by decide)
            refine sqc (o_s 67 (.call { callee := (.value (.func 18)), args := #[(.tmp 60), (.tmp 66)], argTypes := #[23, 33] }) 24 (by kernel_rfl)) trivial F (by decide) (x_call Tryd.func18 (by kernel_rfl) rfl (args_2 (F.slot rfl) (F.slot rfl))) ((add_calls ga 3 z1 T1 k0 n0 A1 c1 xs ok1 _ t A7o A8o c7o c8o W (by omega) (by omega) HS).mono (fun _ _ h => h.full hz hf)) ?_
            rintro e W ⟨rfl, H1⟩
            refine ⟨_, rfl, fun a F => ?_⟩
            have H := H.back [1, 2, 8] [Asn.blk ga [.int .i64 3, .int .i64 z1, .int .i64 T1, .slice A1 xs.length c1, .int .i64 k0, .int .i64 n0] 72, Asn.qu k33 33 (.slice A1 xs.length c1) xs ok1, Asn.fk k33 _ t (txc t A7o c7o A8o c8o)] rfl (by decide) [Asn.blk ga [.int .i64 3, .int .i64 z1, .int .i64 T1, .slice A1 xs.length c1, .int .i64 k0, .int .i64 n0] 72, Asn.qu k33 33 (.slice A1 xs.length c1) xs ok1, Asn.fk k33 _ t (txc t A7o c7o A8o c8o)] [] rfl H1
            clear HS H1
            refine ⟨(fun _ => trivial), ?_⟩
            refine q2 (o_s 68 (.binOp .eql 24 (.tmp 67) (.const (.int .i64 0)) 24) 4 (by kernel_rfl)) F (by decide) (v := .bool false) (x_int (F.slot rfl) rfl rfl) (fun a F => ?_)
            unfold wpSeq
            refine t_normal ?_
            refine c_no (c := .tmp 68) (by kernel_rfl) (F.slot rfl) ?_
            refine c_skip (by kernel_rfl) ?_
            refine t_normal ?_
            refine c_exit (id := 1) (by kernel_rfl) ?_
            refine t_exit ?_
            refine b_here ?_
            refine t_normal ?_
            refine c_text (id := 11) (by kernel_rfl) [(0, 2), (1, 2), (2, 2)] (by kernel_rfl) ?_
            refine q2 (o_s 42 (.move (.tmp 12)) 3 (by kernel_rfl)) F (by decide) (x_move (F.slot rfl)) (fun a F => ?_)
            refine q2 (o_s 43 (.binOp .add 3 (.tmp 42) (.const (.int .i64 1)) 3) 3 (by kernel_rfl)) F (by decide) (v := .int .i64 (IntKind.i64.wrap ((j : Int) + 1))) (x_int (F.slot rfl) rfl rfl) (fun a F => ?_)
            have F := F.conv (v' := .int .i64 ((j : Int) + 1)) (congrArg (Value.int .i64) (wrap_i64 _ (by omega) (by omega)))
            refine q2 (o_s 12 (.assign (.tmp 43)) 3 (by kernel_rfl)) F (by decide) (v := .int .i64 ((j : Int) + 1)) (x_assign (F.slot rfl)) (fun a F => ?_)
            unfold wpSeq
            refine t_normal ?_
            have F_ := F
            have H := H.front 5
            have F := F.at 12 rfl (v' := .int .i64 ((j + 1 : Nat) : Int)) (congrArg (Value.int .i64) (by omega))
            have e5 := mul_le64 T1 ((xs).length : Int) (by omega) (by omega) (by omega) (by omega)
            exact ⟨k - 1, by omega, j + 1, k0, n0, _, A1, c1, xs, _, Ai, ci, xin, _, Ao, co, xout, _, F.less _ (subc rfl (subc rfl (subc rfl (subc rfl (subc rfl (subc rfl (subc rfl (subc rfl (subc rfl (subc rfl (subc rfl (subc rfl (subc rfl (subc rfl (subc rfl (subc rfl (subc rfl (subc rfl (subc rfl (subc rfl (subc rfl (subc rfl (subc rfl (subc rfl (subc rfl (subc rfl (subc rfl (subc rfl (subc rfl (subc rfl (subc rfl (subc rfl (subc rfl sub0))))))))))))))))))))))))))))))))), H, (by omega), (by omega), hX, hin, (by omega), (by omega), (by omega), (by omega), (by omega), (by omega), (by omega), rfl, (by omega)⟩
          · refine c_text (id := 13) (by kernel_rfl) [(0, 2), (1, 2), (2, 2), (3, 2), (4, 2), (5, 2), (6, 2), (7, 2), (8, 2)] (by kernel_rfl) ?_
            refine q2 (o_s 60 (.move (.tmp 7)) 23 (by kernel_rfl)) F (by decide) (x_move (F.slot rfl)) (fun a F => ?_)
            refine q2 (o_s 61 (.move (.tmp 2)) 22 (by kernel_rfl)) F (by decide) (x_move (F.slot rfl)) (fun a F => ?_)
            refine q2 (o_s 62 (.move (.tmp 12)) 3 (by kernel_rfl)) F (by decide) (x_move (F.slot rfl)) (fun a F => ?_)
            refine q2 (o_s 63 (.indexAddr 22 (.tmp 61) (.tmp 62)) 0 (by kernel_rfl)) F (by decide) (v := .pointer (some (adbt.add (j * 10)))) (x_indexE Tryd.underlying22 (Tryd.sizeOf35 W) (F.slot rfl) hAbt (F.slot rfl) (by omega)) (fun a F => ?_)
            refine q2 (o_s 64 (.fieldAddr 35 (.tmp 63) 1) 0 (by kernel_rfl)) F (by decide) (v := .pointer (some (Addr.add (adbt.add (j * 10)) 1))) (x_fieldAddr Tryd.underlying35 rfl rfl (Tryd.sizeOf33 W) (F.slot rfl)) (fun a F => ?_)
            refine q2 (o_s 65 (.load 33 (.tmp 64)) 33 (by kernel_rfl)) F (by decide) (v := .agg (txc t A7 c7 A8 c8).toArray) (x_loadN (Tryd.isAgg33 W) (txc t A7 c7 A8 c8) (Tryd.sizeOf33 W) (F.slot rfl) (cln (H.get 6 rfl) 1 _ rfl)) (fun a F => ?_)
            refine sqc (o_s 66 (.call { callee := (.value (.func 19)), args := #[(.tmp 65)], argTypes := #[33] }) 33 (by kernel_rfl)) trivial F (by decide) (x_call Tryd.func19 (by kernel_rfl) rfl (args_1 (F.slot rfl))) (ownF_calls t A7 A8 c7 c8 W (H.rd 7 rfl) hB1 hB2) ?_
            rintro e W ⟨A7o, c7o, A8o, c8o, rfl, hF, hB⟩
            refine ⟨_, rfl, fun a F => ?_⟩
            have H := H.freshF hB _ _ hF (fun k hk => hk)
            have H : St w (fun _ => False) (fun _ => True) [Asn.rd kOp (fun k => k < w.heap.size) A l.length l, Asn.blk ga [.int .i64 3, .int .i64 z1, .int .i64 T1, .slice A1 xs.length c1, .int .i64 k0, .int .i64 n0] 72, Asn.qu k33 33 (.slice A1 xs.length c1) xs ok1, Asn.qu k33 33 (.slice Ai xin.length ci) xin oki, Asn.qu k33 33 (.slice Ao xout.length co) xout oko, Asn.fk kOp (fun k => k < w.heap.size) (b, t) [.bool b, .int .i64 t.f0, .string t.f1, .string t.f2, .int .u64 t.f3, .int .u64 t.f4, .string t.f5, .string t.f6, .slice A7 t.f7.length c7, .slice A8 t.f8.length c8], Asn.cl (adbt.add (j * 10)) [.bool b, .int .i64 t.f0, .string t.f1, .string t.f2, .int .u64 t.f3, .int .u64 t.f4, .string t.f5, .string t.f6, .slice A7 t.f7.length c7, .slice A8 t.f8.length c8] (fun k => k < w.heap.size), Asn.fk k33 (fun k => k < w.heap.size) t (txc t A7 c7 A8 c8), Asn.fk k33 _ t (txc t A7o c7o A8o c8o)] W := H
            refine ⟨(fun _ => trivial), ?_⟩
            have HS := H.select [1, 2, 8] [Asn.blk ga [.int .i64 3, .int .i64 z1, .int .i64 T1, .slice A1 xs.length c1, .int .i64 k0, .int .i64 n0] 72, Asn.qu k33 33 (.slice A1 xs.length c1) xs ok1, Asn.fk k33 _ t (txc t A7o c7o A8o c8o)] rfl (by decide)
            refine sqc (o_s 67 (.call { callee := (.value (.func 18)), args := #[(.tmp 60), (.tmp 66)], argTypes := #[23, 33] }) 24 (by kernel_rfl)) trivial F (by decide) (x_call Tryd.func18 (by kernel_rfl) rfl (args_2 (F.slot rfl) (F.slot rfl))) ((add_calls ga 3 z1 T1 k0 n0 A1 c1 xs ok1 _ t A7o A8o c7o c8o W (by omega) (by omega) HS).mono (fun _ _ h => h.no (fun e => hz0 (hz.symm.trans e)))) ?_
            rintro e W ⟨rfl, H1⟩
            refine ⟨_, rfl, fun a F => ?_⟩
            have H := H.back [1, 2, 8] [Asn.blk ga [.int .i64 3, .int .i64 z1, .int .i64 T1, .slice A1 xs.length c1, .int .i64 k0, .int .i64 n0] 72, Asn.qu k33 33 (.slice A1 xs.length c1) xs ok1, Asn.fk k33 _ t (txc t A7o c7o A8o c8o)] rfl (by decide) [Asn.blk ga [.int .i64 3, .int .i64 z1, .int .i64 T1, .slice A1 xs.length c1, .int .i64 k0, .int .i64 n0] 72, Asn.qu k33 33 (.slice A1 xs.length c1) xs ok1, Asn.fk k33 _ t (txc t A7o c7o A8o c8o)] [] rfl H1
            clear HS H1
            refine ⟨(fun _ => trivial), ?_⟩
            refine q2 (o_s 68 (.binOp .eql 24 (.tmp 67) (.const (.int .i64 0)) 24) 4 (by kernel_rfl)) F (by decide) (v := .bool ((chT t) == (0 : Int))) (x_int (F.slot rfl) rfl rfl) (fun a F => ?_)
            unfold wpSeq
            refine t_normal ?_
            have hb5 : ((chT t) == (0 : Int)) = false := beq_false_of_ne (fun e => hz0 (hz.symm.trans e))
            have F := F.at 68 rfl (v' := .bool false) (congrArg Value.bool hb5)
            refine c_no (c := .tmp 68) (by kernel_rfl) (F.slot rfl) ?_
            refine c_skip (by kernel_rfl) ?_
            refine t_normal ?_
            refine c_exit (id := 1) (by kernel_rfl) ?_
            refine t_exit ?_
            refine b_here ?_
            refine t_normal ?_
            refine c_text (id := 11) (by kernel_rfl) [(0, 2), (1, 2), (2, 2)] (by kernel_rfl) ?_
            refine q2 (o_s 42 (.move (.tmp 12)) 3 (by kernel_rfl)) F (by decide) (x_move (F.slot rfl)) (fun a F => ?_)
            refine q2 (o_s 43 (.binOp .add 3 (.tmp 42) (.const (.int .i64 1)) 3) 3 (by kernel_rfl)) F (by decide) (v := .int .i64 (IntKind.i64.wrap ((j : Int) + 1))) (x_int (F.slot rfl) rfl rfl) (fun a F => ?_)
            have F := F.conv (v' := .int .i64 ((j : Int) + 1)) (congrArg (Value.int .i64) (wrap_i64 _ (by omega) (by omega)))
            refine q2 (o_s 12 (.assign (.tmp 43)) 3 (by kernel_rfl)) F (by decide) (v := .int .i64 ((j : Int) + 1)) (x_assign (F.slot rfl)) (fun a F => ?_)
            unfold wpSeq
            refine t_normal ?_
            have F_ := F
            have H := H.front 5
            have F := F.at 12 rfl (v' := .int .i64 ((j + 1 : Nat) : Int)) (congrArg (Value.int .i64) (by omega))
            have e5 := mul_le64 T1 ((xs).length : Int) (by omega) (by omega) (by omega) (by omega)
            exact ⟨k - 1, by omega, j + 1, k0, n0, _, A1, c1, xs, _, Ai, ci, xin, _, Ao, co, xout, _, F.less _ (subc rfl (subc rfl (subc rfl (subc rfl (subc rfl (subc rfl (subc rfl (subc rfl (subc rfl (subc rfl (subc rfl (subc rfl (subc rfl (subc rfl (subc rfl (subc rfl (subc rfl (subc rfl (subc rfl (subc rfl (subc rfl (subc rfl (subc rfl (subc rfl (subc rfl (subc rfl (subc rfl (subc rfl (subc rfl (subc rfl (subc rfl (subc rfl (subc rfl sub0))))))))))))))))))))))))))))))))), H, (by omega), (by omega), hX, hin, (by omega), (by omega), (by omega), (by omega), (by omega), (by omega), (by omega), rfl, (by omega)⟩
        · have F := F.at 59 rfl (v' := .bool false) (congrArg Value.bool hb4)
          refine c_no (c := .tmp 59) (by kernel_rfl) (F.slot rfl) ?_
          refine c_skip (by kernel_rfl) ?_
          refine t_normal ?_
          refine c_seq (by kernel_rfl) ?_
          rcases (show xs.length = 0 ∨ (xs.length ≠ 0 ∧ ((xs.length : Int) < z1 ∧ k0 + 1 < T1)) ∨ (xs.length ≠ 0 ∧ ¬ ((xs.length : Int) < z1 ∧ k0 + 1 < T1)) by omega) with hx0 | ⟨hx0, hw⟩ | ⟨hx0, hw⟩
          · refine c_text (id := 15) (by kernel_rfl) [(0, 2), (1, 2), (2, 2), (3, 2), (4, 2), (5, 2), (6, 2), (7, 2)] (by kernel_rfl) ?_
            refine q2 (o_s 78 (.move (.tmp 7)) 23 (by kernel_rfl)) F (by decide) (x_move (F.slot rfl)) (fun a F => ?_)
            have HS := H.select [1, 2] [Asn.blk ga [.int .i64 3, .int .i64 z1, .int .i64 T1, .slice A1 xs.length c1, .int .i64 k0, .int .i64 n0] 72, Asn.qu k33 33 (.slice A1 xs.length c1) xs ok1] rfl (by decide)
            refine sqc (o_s 79 (.call { callee := (.value (.func 21)), args := #[(.tmp 78)], argTypes := #[23] }) 41 (by kernel_rfl)) trivial F (by decide) (x_call Tryd.func21 (by kernel_rfl) rfl (args_1 (F.slot rfl))) ((tick_calls ga 3 z1 T1 k0 n0 A1 c1 xs ok1 W (by omega) (by omega) (by omega) (by omega) (by omega) (by omega) (by omega) HS).mono (fun _ _ h => h.none hx0)) ?_
            rintro e W ⟨rfl, H1⟩
            refine ⟨_, rfl, fun a F => ?_⟩
            have H := H.back [1, 2] [Asn.blk ga [.int .i64 3, .int .i64 z1, .int .i64 T1, .slice A1 xs.length c1, .int .i64 k0, .int .i64 n0] 72, Asn.qu k33 33 (.slice A1 xs.length c1) xs ok1] rfl (by decide) [Asn.blk ga [.int .i64 3, .int .i64 z1, .int .i64 T1, .slice A1 xs.length c1, .int .i64 k0, .int .i64 n0] 72, Asn.qu k33 33 (.slice A1 xs.length c1) xs ok1] [] rfl H1
            clear HS H1
            refine ⟨(fun _ => trivial), ?_⟩
            refine q2 (o_s 77 (.move (.tmp 79)) 41 (by kernel_rfl)) F (by decide) (x_move (F.slot rfl)) (fun a F => ?_)
            refine q2 (o_s 80 (.extract (.tmp 77) 0) 40 (by kernel_rfl)) F (by decide) (v := .agg #[.int .i64 0, .int .i64 0, .slice none 0 0]) (x_extract (F.slot rfl) rfl) (fun a F => ?_)
            refine q2 (o_s 81 (.extract (.tmp 77) 1) 4 (by kernel_rfl)) F (by decide) (v := .bool false) (x_extract (F.slot rfl) rfl) (fun a F => ?_)
            refine sq_new (o_s 13 (.alloc 40) 0 (by kernel_rfl)) trivial F (by decide) H [.int .i64 0, .int .i64 0, .slice none 0 0] 40 (x_alloc Tryd.zeroValue40 rfl) ?_
            intro g6 W a hg6 H F
            refine ⟨(fun _ => trivial), ?_⟩
            refine sq_put (M := [Asn.rd kOp (fun k => k < w.heap.size) A l.length l, Asn.blk ga [.int .i64 3, .int .i64 z1, .int .i64 T1, .slice A1 xs.length c1, .int .i64 k0, .int .i64 n0] 72, Asn.qu k33 33 (.slice A1 xs.length c1) xs ok1, Asn.qu k33 33 (.slice Ai xin.length ci) xin oki, Asn.qu k33 33 (.slice Ao xout.length co) xout oko, Asn.fk kOp (fun k => k < w.heap.size) (b, t) [.bool b, .int .i64 t.f0, .string t.f1, .string t.f2, .int .u64 t.f3, .int .u64 t.f4, .string t.f5, .string t.f6, .slice A7 t.f7.length c7, .slice A8 t.f8.length c8], Asn.cl (adbt.add (j * 10)) [.bool b, .int .i64 t.f0, .string t.f1, .string t.f2, .int .u64 t.f3, .int .u64 t.f4, .string t.f5, .string t.f6, .slice A7 t.f7.length c7, .slice A8 t.f8.length c8] (fun k => k < w.heap.size), Asn.fk k33 (fun k => k < w.heap.size) t (txc t A7 c7 A8 c8), Asn.blk g6 [.int .i64 0, .int .i64 0, .slice none 0 0] 40]) (o_n (.store 40 (.tmp 13) (.tmp 80)) 0 (by kernel_rfl)) trivial F (x_store H (k := 8) (cs' := [.int .i64 0, .int .i64 0, .slice none 0 0]) rfl (Tryd.sizeOf40 W) (F.slot rfl) (F.slot rfl) rfl (Nat.le_of_ble_eq_true rfl) rfl rfl) ?_
            intro W H
            refine ⟨(fun _ => trivial), ?_⟩
            refine q2 (o_s 14 (.assign (.tmp 81)) 4 (by kernel_rfl)) F (by decide) (v := .bool false) (x_assign (F.slot rfl)) (fun a F => ?_)
            unfold wpSeq
            refine t_normal ?_
            refine c_seq (by kernel_rfl) ?_
            refine c_seq (by kernel_rfl) ?_
            refine c_text (id := 16) (by kernel_rfl) [(0, 2), (1, 2)] (by kernel_rfl) ?_
            refine q2 (o_s 82 (.move (.tmp 14)) 4 (by kernel_rfl)) F (by decide) (x_move (F.slot rfl)) (fun a F => ?_)
            refine q2 (o_s 83 (.unOp .not 4 (.tmp 82)) 4 (by kernel_rfl)) F (by decide) (v := .bool true) (x_not (b := false) (F.slot rfl)) (fun a F => ?_)
            unfold wpSeq
            refine t_normal ?_
            refine c_yes (c := .tmp 83) (by kernel_rfl) (F.slot rfl) ?_
            refine c_exit (id := 1) (by kernel_rfl) ?_
            refine t_exit ?_
            refine b_here ?_
            refine t_normal ?_
            refine c_text (id := 11) (by kernel_rfl) [(0, 2), (1, 2), (2, 2)] (by kernel_rfl) ?_
            refine q2 (o_s 42 (.move (.tmp 12)) 3 (by kernel_rfl)) F (by decide) (x_move (F.slot rfl)) (fun a F => ?_)
            refine q2 (o_s 43 (.binOp .add 3 (.tmp 42) (.const (.int .i64 1)) 3) 3 (by kernel_rfl)) F (by decide) (v := .int .i64 (IntKind.i64.wrap ((j : Int) + 1))) (x_int (F.slot rfl) rfl rfl) (fun a F => ?_)
            have F := F.conv (v' := .int .i64 ((j : Int) + 1)) (congrArg (Value.int .i64) (wrap_i64 _ (by omega) (by omega)))
            refine q2 (o_s 12 (.assign (.tmp 43)) 3 (by kernel_rfl)) F (by decide) (v := .int .i64 ((j : Int) + 1)) (x_assign (F.slot rfl)) (fun a F => ?_)
            unfold wpSeq
            refine t_normal ?_
            have F_ := F
            have H := H.front 5
            have F := F.at 12 rfl (v' := .int .i64 ((j + 1 : Nat) : Int)) (congrArg (Value.int .i64) (by omega))
            have e6 : p0 = 0 := by rw [← hp0, hx0]; simp
            have e5 := mul_le64 T1 ((xs).length : Int) (by omega) (by omega) (by omega) (by omega)
            exact ⟨k - 1, by omega, j + 1, k0, n0, _, A1, c1, xs, _, Ai, ci, xin, _, Ao, co, xout, _, F.less _ (subc rfl (subc rfl (subc rfl (subc rfl (subc rfl (subc rfl (subc rfl (subc rfl (subc rfl (subc rfl (subc rfl (subc rfl (subc rfl (subc rfl (subc rfl (subc rfl (subc rfl (subc rfl (subc rfl (subc rfl (subc rfl (subc rfl (subc rfl (subc rfl (subc rfl (subc rfl (subc rfl (subc rfl (subc rfl (subc rfl (subc rfl (subc rfl (subc rfl sub0))))))))))))))))))))))))))))))))), H, (by omega), (by omega), hX, hin, (by omega), (by omega), (by omega), (by omega), (by omega), (by omega), (by omega), rfl, (by omega)⟩
          · refine c_text (id := 15) (by kernel_rfl) [(0, 2), (1, 2), (2, 2), (3, 2), (4, 2), (5, 2), (6, 2), (7, 2)] (by kernel_rfl) ?_
            refine q2 (o_s 78 (.move (.tmp 7)) 23 (by kernel_rfl)) F (by decide) (x_move (F.slot rfl)) (fun a F => ?_)
            have HS := H.select [1, 2] [Asn.blk ga [.int .i64 3, .int .i64 z1, .int .i64 T1, .slice A1 xs.length c1, .int .i64 k0, .int .i64 n0] 72, Asn.qu k33 33 (.slice A1 xs.length c1) xs ok1] rfl (by decide)
            refine sqc (o_s 79 (.call { callee := (.value (.func 21)), args := #[(.tmp 78)], argTypes := #[23] }) 41 (by kernel_rfl)) trivial F (by decide) (x_call Tryd.func21 (by kernel_rfl) rfl (args_1 (F.slot rfl))) ((tick_calls ga 3 z1 T1 k0 n0 A1 c1 xs ok1 W (by omega) (by omega) (by omega) (by omega) (by omega) (by omega) (by omega) HS).mono (fun _ _ h => h.wait hx0 hw)) ?_
            rintro e W ⟨rfl, H1⟩
            refine ⟨_, rfl, fun a F => ?_⟩
            have H := H.back [1, 2] [Asn.blk ga [.int .i64 3, .int .i64 z1, .int .i64 T1, .slice A1 xs.length c1, .int .i64 k0, .int .i64 n0] 72, Asn.qu k33 33 (.slice A1 xs.length c1) xs ok1] rfl (by decide) [Asn.blk ga [.int .i64 3, .int .i64 z1, .int .i64 T1, .slice A1 xs.length c1, .int .i64 (k0 + 1), .int .i64 n0] 72, Asn.qu k33 33 (.slice A1 xs.length c1) xs ok1] [] rfl H1
            clear HS H1
            have H : St w (fun _ => False) (fun _ => True) [Asn.rd kOp (fun k => k < w.heap.size) A l.length l, Asn.blk ga [.int .i64 3, .int .i64 z1, .int .i64 T1, .slice A1 xs.length c1, .int .i64 (k0 + 1), .int .i64 n0] 72, Asn.qu k33 33 (.slice A1 xs.length c1) xs ok1, Asn.qu k33 33 (.slice Ai xin.length ci) xin oki, Asn.qu k33 33 (.slice Ao xout.length co) xout oko, Asn.fk kOp (fun k => k < w.heap.size) (b, t) [.bool b, .int .i64 t.f0, .string t.f1, .string t.f2, .int .u64 t.f3, .int .u64 t.f4, .string t.f5, .string t.f6, .slice A7 t.f7.length c7, .slice A8 t.f8.length c8], Asn.cl (adbt.add (j * 10)) [.bool b, .int .i64 t.f0, .string t.f1, .string t.f2, .int .u64 t.f3, .int .u64 t.f4, .string t.f5, .string t.f6, .slice A7 t.f7.length c7, .slice A8 t.f8.length c8] (fun k => k < w.heap.size), Asn.fk k33 (fun k => k < w.heap.size) t (txc t A7 c7 A8 c8)] W := H
            refine ⟨(fun _ => trivial), ?_⟩
            refine q2 (o_s 77 (.move (.tmp 79)) 41 (by kernel_rfl)) F (by decide) (x_move (F.slot rfl)) (fun a F => ?_)
            refine q2 (o_s 80 (.extract (.tmp 77) 0) 40 (by kernel_rfl)) F (by decide) (v := .agg #[.int .i64 0, .int .i64 0, .slice none 0 0]) (x_extract (F.slot rfl) rfl) (fun a F => ?_)
            refine q2 (o_s 81 (.extract (.tmp 77) 1) 4 (by kernel_rfl)) F (by decide) (v := .bool false) (x_extract (F.slot rfl) rfl) (fun a F => ?_)
            refine sq_new (o_s 13 (.alloc 40) 0 (by kernel_rfl)) trivial F (by decide) H [.int .i64 0, .int .i64 0, .slice none 0 0] 40 (x_alloc Tryd.zeroValue40 rfl) ?_
            intro g7 W a hg7 H F
            refine ⟨(fun _ => trivial), ?_⟩
            refine sq_put (M := [Asn.rd kOp (fun k => k < w.heap.size) A l.length l, Asn.blk ga [.int .i64 3, .int .i64 z1, .int .i64 T1, .slice A1 xs.length c1, .int .i64 (k0 + 1), .int .i64 n0] 72, Asn.qu k33 33 (.slice A1 xs.length c1) xs ok1, Asn.qu k33 33 (.slice Ai xin.length ci) xin oki, Asn.qu k33 33 (.slice Ao xout.length co) xout oko, Asn.fk kOp (fun k => k < w.heap.size) (b, t) [.bool b, .int .i64 t.f0, .string t.f1, .string t.f2, .int .u64 t.f3, .int .u64 t.f4, .string t.f5, .string t.f6, .slice A7 t.f7.length c7, .slice A8 t.f8.length c8], Asn.cl (adbt.add (j * 10)) [.bool b, .int .i64 t.f0, .string t.f1, .string t.f2, .int .u64 t.f3, .int .u64 t.f4, .string t.f5, .string t.f6, .slice A7 t.f7.length c7, .slice A8 t.f8.length c8] (fun k => k < w.heap.size), Asn.fk k33 (fun k => k < w.heap.size) t (txc t A7 c7 A8 c8), Asn.blk g7 [.int .i64 0, .int .i64 0, .slice none 0 0] 40]) (o_n (.store 40 (.tmp 13) (.tmp 80)) 0 (by kernel_rfl)) trivial F (x_store H (k := 8) (cs' := [.int .i64 0, .int .i64 0, .slice none 0 0]) rfl (Tryd.sizeOf40 W) (F.slot rfl) (F.slot rfl) rfl (Nat.le_of_ble_eq_true rfl) rfl rfl) ?_
            intro W H
            refine ⟨(fun _ => trivial), ?_⟩
            refine q2 (o_s 14 (.assign (.tmp 81)) 4 (by kernel_rfl)) F (by decide) (v := .bool false) (x_assign (F.slot rfl)) (fun a F => ?_)
            unfold wpSeq
            refine t_normal ?_
            refine c_seq (by kernel_rfl) ?_
            refine c_seq (by kernel_rfl) ?_
            refine c_text (id := 16) (by kernel_rfl) [(0, 2), (1, 2)] (by kernel_rfl) ?_
            refine q2 (o_s 82 (.move (.tmp 14)) 4 (by kernel_rfl)) F (by decide) (x_move (F.slot rfl)) (fun a F => ?_)
            refine q2 (o_s 83 (.unOp .not 4 (.tmp 82)) 4 (by kernel_rfl)) F (by decide) (v := .bool true) (x_not (b := false) (F.slot rfl)) (fun a F => ?_)
            unfold wpSeq
            refine t_normal ?_
            refine c_yes (c := .tmp 83) (by kernel_rfl) (F.slot rfl) ?_
            refine c_exit (id := 1) (by kernel_rfl) ?_
            refine t_exit ?_
            refine b_here ?_
            refine t_normal ?_
            refine c_text (id := 11) (by kernel_rfl) [(0, 2), (1, 2), (2, 2)] (by kernel_rfl) ?_
            refine q2 (o_s 42 (.move (.tmp 12)) 3 (by kernel_rfl)) F (by decide) (x_move (F.slot rfl)) (fun a F => ?_)
            refine q2 (o_s 43 (.binOp .add 3 (.tmp 42) (.const (.int .i64 1)) 3) 3 (by kernel_rfl)) F (by decide) (v := .int .i64 (IntKind.i64.wrap ((j : Int) + 1))) (x_int (F.slot rfl) rfl rfl) (fun a F => ?_)
            have F := F.conv (v' := .int .i64 ((j : Int) + 1)) (congrArg (Value.int .i64) (wrap_i64 _ (by omega) (by omega)))
            refine q2 (o_s 12 (.assign (.tmp 43)) 3 (by kernel_rfl)) F (by decide) (v := .int .i64 ((j : Int) + 1)) (x_assign (F.slot rfl)) (fun a F => ?_)
            unfold wpSeq
            refine t_normal ?_
            have F_ := F
            have H := H.front 5
            have F := F.at 12 rfl (v' := .int .i64 ((j + 1 : Nat) : Int)) (congrArg (Value.int .i64) (by omega))
            have e5 := mul_le64 T1 ((xs).length : Int) (by omega) (by omega) (by omega) (by omega)
            exact ⟨k - 1, by omega, j + 1, (k0 + 1), n0, _, A1, c1, xs, _, Ai, ci, xin, _, Ao, co, xout, _, F.less _ (subc rfl (subc rfl (subc rfl (subc rfl (subc rfl (subc rfl (subc rfl (subc rfl (subc rfl (subc rfl (subc rfl (subc rfl (subc rfl (subc rfl (subc rfl (subc rfl (subc rfl (subc rfl (subc rfl (subc rfl (subc rfl (subc rfl (subc rfl (subc rfl (subc rfl (subc rfl (subc rfl (subc rfl (subc rfl (subc rfl (subc rfl (subc rfl (subc rfl sub0))))))))))))))))))))))))))))))))), H, (by omega), (by omega), hX, hin, (by omega), (by omega), (by omega), (by omega), (by omega), (by omega), (by omega), rfl, (by omega)⟩
          · obtain ⟨m, hm⟩ : ∃ m : Nat, (m : Int) = min z1 (xs.length : Int) := ⟨(min z1 (xs.length : Int)).toNat, by omega⟩
            have htk : (xs.take m).length = m := by rw [List.length_take]; omega
            have hb0 : bchk 3 (n0 + 1) (xs.take m) = 0 := bchk_of (by omega) (by omega) (by omega) (by omega) (fun x hx => hX x (hin ▸ List.mem_append_right _ (List.mem_of_mem_take hx)))
            refine c_text (id := 15) (by kernel_rfl) [(0, 2), (1, 2), (2, 2), (3, 2), (4, 2), (5, 2), (6, 2), (7, 2)] (by kernel_rfl) ?_
            refine q2 (o_s 78 (.move (.tmp 7)) 23 (by kernel_rfl)) F (by decide) (x_move (F.slot rfl)) (fun a F => ?_)
            have HS := H.select [1, 2] [Asn.blk ga [.int .i64 3, .int .i64 z1, .int .i64 T1, .slice A1 xs.length c1, .int .i64 k0, .int .i64 n0] 72, Asn.qu k33 33 (.slice A1 xs.length c1) xs ok1] rfl (by decide)
            refine sqc (o_s 79 (.call { callee := (.value (.func 21)), args := #[(.tmp 78)], argTypes := #[23] }) 41 (by kernel_rfl)) trivial F (by decide) (x_call Tryd.func21 (by kernel_rfl) rfl (args_1 (F.slot rfl))) ((tick_calls ga 3 z1 T1 k0 n0 A1 c1 xs ok1 W (by omega) (by omega) (by omega) (by omega) (by omega) (by omega) (by omega) HS).mono (fun _ _ h => h.seal hx0 hw m hm)) ?_
            rintro e W ⟨rfl, H1⟩
            refine ⟨_, rfl, fun a F => ?_⟩
            have H := H.back [1, 2] [Asn.blk ga [.int .i64 3, .int .i64 z1, .int .i64 T1, .slice A1 xs.length c1, .int .i64 k0, .int .i64 n0] 72, Asn.qu k33 33 (.slice A1 xs.length c1) xs ok1] rfl (by decide) [Asn.blk ga [.int .i64 3, .int .i64 z1, .int .i64 T1, .slice (cutA A1 c1 m) ((xs.drop m).length) (c1 - m), .int .i64 0, .int .i64 (n0 + 1)] 72, Asn.qf k33 33 (.slice (cutA A1 c1 m) (xs.drop m).length (c1 - m)) (xs.drop m) ok1 A1 (xs.take m).length (xs.take m)] [] rfl H1
            clear HS H1
            have H : St w (fun _ => False) (fun _ => True) [Asn.rd kOp (fun k => k < w.heap.size) A l.length l, Asn.blk ga [.int .i64 3, .int .i64 z1, .int .i64 T1, .slice (cutA A1 c1 m) ((xs.drop m).length) (c1 - m), .int .i64 0, .int .i64 (n0 + 1)] 72, Asn.qf k33 33 (.slice (cutA A1 c1 m) (xs.drop m).length (c1 - m)) (xs.drop m) ok1 A1 (xs.take m).length (xs.take m), Asn.qu k33 33 (.slice Ai xin.length ci) xin oki, Asn.qu k33 33 (.slice Ao xout.length co) xout oko, Asn.fk kOp (fun k => k < w.heap.size) (b, t) [.bool b, .int .i64 t.f0, .string t.f1, .string t.f2, .int .u64 t.f3, .int .u64 t.f4, .string t.f5, .string t.f6, .slice A7 t.f7.length c7, .slice A8 t.f8.length c8], Asn.cl (adbt.add (j * 10)) [.bool b, .int .i64 t.f0, .string t.f1, .string t.f2, .int .u64 t.f3, .int .u64 t.f4, .string t.f5, .string t.f6, .slice A7 t.f7.length c7, .slice A8 t.f8.length c8] (fun k => k < w.heap.size), Asn.fk k33 (fun k => k < w.heap.size) t (txc t A7 c7 A8 c8)] W := H
            refine ⟨(fun _ => trivial), ?_⟩
            refine q2 (o_s 77 (.move (.tmp 79)) 41 (by kernel_rfl)) F (by decide) (x_move (F.slot rfl)) (fun a F => ?_)
            refine q2 (o_s 80 (.extract (.tmp 77) 0) 40 (by kernel_rfl)) F (by decide) (v := .agg #[.int .i64 3, .int .i64 (n0 + 1), .slice A1 ((xs.take m).length) m]) (x_extract (F.slot rfl) rfl) (fun a F => ?_)
            refine q2 (o_s 81 (.extract (.tmp 77) 1) 4 (by kernel_rfl)) F (by decide) (v := .bool true) (x_extract (F.slot rfl) rfl) (fun a F => ?_)
            refine sq_new (o_s 13 (.alloc 40) 0 (by kernel_rfl)) trivial F (by decide) H [.int .i64 0, .int .i64 0, .slice none 0 0] 40 (x_alloc Tryd.zeroValue40 rfl) ?_
            intro g8 W a hg8 H F
            refine ⟨(fun _ => trivial), ?_⟩
            refine sq_put (M := [Asn.rd kOp (fun k => k < w.heap.size) A l.length l, Asn.blk ga [.int .i64 3, .int .i64 z1, .int .i64 T1, .slice (cutA A1 c1 m) ((xs.drop m).length) (c1 - m), .int .i64 0, .int .i64 (n0 + 1)] 72, Asn.qf k33 33 (.slice (cutA A1 c1 m) (xs.drop m).length (c1 - m)) (xs.drop m) ok1 A1 (xs.take m).length (xs.take m), Asn.qu k33 33 (.slice Ai xin.length ci) xin oki, Asn.qu k33 33 (.slice Ao xout.length co) xout oko, Asn.fk kOp (fun k => k < w.heap.size) (b, t) [.bool b, .int .i64 t.f0, .string t.f1, .string t.f2, .int .u64 t.f3, .int .u64 t.f4, .string t.f5, .string t.f6, .slice A7 t.f7.length c7, .slice A8 t.f8.length c8], Asn.cl (adbt.add (j * 10)) [.bool b, .int .i64 t.f0, .string t.f1, .string t.f2, .int .u64 t.f3, .int .u64 t.f4, .string t.f5, .string t.f6, .slice A7 t.f7.length c7, .slice A8 t.f8.length c8] (fun k => k < w.heap.size), Asn.fk k33 (fun k => k < w.heap.size) t (txc t A7 c7 A8 c8), Asn.blk g8 [.int .i64 3, .int .i64 (n0 + 1), .slice A1 ((xs.take m).length) m] 40]) (o_n (.store 40 (.tmp 13) (.tmp 80)) 0 (by kernel_rfl)) trivial F (x_store H (k := 8) (cs' := [.int .i64 3, .int .i64 (n0 + 1), .slice A1 ((xs.take m).length) m]) rfl (Tryd.sizeOf40 W) (F.slot rfl) (F.slot rfl) rfl (Nat.le_of_ble_eq_true rfl) rfl rfl) ?_
            intro W H
            refine ⟨(fun _ => trivial), ?_⟩
            refine q2 (o_s 14 (.assign (.tmp 81)) 4 (by kernel_rfl)) F (by decide) (v := .bool true) (x_assign (F.slot rfl)) (fun a F => ?_)
            unfold wpSeq
            refine t_normal ?_
            refine c_seq (by kernel_rfl) ?_
            refine c_seq (by kernel_rfl) ?_
            refine c_text (id := 16) (by kernel_rfl) [(0, 2), (1, 2)] (by kernel_rfl) ?_
            refine q2 (o_s 82 (.move (.tmp 14)) 4 (by kernel_rfl)) F (by decide) (x_move (F.slot rfl)) (fun a F => ?_)
            refine q2 (o_s 83 (.unOp .not 4 (.tmp 82)) 4 (by kernel_rfl)) F (by decide) (v := .bool false) (x_not (b := true) (F.slot rfl)) (fun a F => ?_)
            unfold wpSeq
            refine t_normal ?_
            refine c_no (c := .tmp 83) (by kernel_rfl) (F.slot rfl) ?_
            refine c_skip (by kernel_rfl) ?_
            refine t_normal ?_
            refine c_seq (by kernel_rfl) ?_
            refine c_text (id := 17) (by kernel_rfl) [(0, 2), (1, 2), (2, 2)] (by kernel_rfl) ?_
            refine q2 (o_s 84 (.move (.tmp 11)) 3 (by kernel_rfl)) F (by decide) (x_move (F.slot rfl)) (fun a F => ?_)
            refine q2 (o_s 85 (.binOp .add 3 (.tmp 84) (.const (.int .i64 1)) 3) 3 (by kernel_rfl)) F (by decide) (v := .int .i64 (IntKind.i64.wrap (n0 + 1))) (x_int (F.slot rfl) rfl rfl) (fun a F => ?_)
            have F := F.conv (v' := .int .i64 (n0 + 1)) (congrArg (Value.int .i64) (wrap_i64 _ (by omega) (by omega)))
            refine q2 (o_s 11 (.assign (.tmp 85)) 3 (by kernel_rfl)) F (by decide) (v := .int .i64 (n0 + 1)) (x_assign (F.slot rfl)) (fun a F => ?_)
            unfold wpSeq
            refine t_normal ?_
            refine c_seq (by kernel_rfl) ?_
            refine c_seq (by kernel_rfl) ?_
            refine c_text (id := 18) (by kernel_rfl) [(0, 2), (1, 2), (2, 2), (3, 2), (4, 2), (5, 2), (6, 2), (7, 2), (8, 2), (9, 2), (10, 2), (11, 2), (12, 2), (13, 2), (14, 2), (15, 2), (16, 2), (17, 2), (18, 2), (19, 2), (20, 2), (21, 2)] (by kernel_rfl) ?_
            refine q2 (o_s 86 (.load 40 (.tmp 13)) 40 (by kernel_rfl)) F (by decide) (v := .agg #[.int .i64 3, .int .i64 (n0 + 1), .slice A1 ((xs.take m).length) m]) (x_loadB (Tryd.isAgg40 W) [.int .i64 3, .int .i64 (n0 + 1), .slice A1 ((xs.take m).length) m] (Tryd.sizeOf40 W) (F.slot rfl) (H.blk 8 rfl)) (fun a F => ?_)
            refine sqc (o_s 87 (.call { callee := (.value (.func 30)), args := #[(.tmp 86)], argTypes := #[40] }) 40 (by kernel_rfl)) trivial F (by decide) (x_call Tryd.func30 (by kernel_rfl) rfl (args_1 (F.slot rfl))) (bown_calls 3 (n0 + 1) A1 m (xs.take m) W (by omega) (fun t ht => chT_lenB (hX t (hin ▸ List.mem_append_right _ (List.mem_of_mem_take ht)))) (H.qfRead 2 rfl) (by omega)) ?_
            rintro e W ⟨Aw, cw, rfl, hcw, hF, hB⟩
            refine ⟨_, rfl, fun a F => ?_⟩
            have H := H.freshF hB _ _ hF (fun k hk => hk)
            have H : St w (fun _ => False) (fun _ => True) [Asn.rd kOp (fun k => k < w.heap.size) A l.length l, Asn.blk ga [.int .i64 3, .int .i64 z1, .int .i64 T1, .slice (cutA A1 c1 m) ((xs.drop m).length) (c1 - m), .int .i64 0, .int .i64 (n0 + 1)] 72, Asn.qf k33 33 (.slice (cutA A1 c1 m) (xs.drop m).length (c1 - m)) (xs.drop m) ok1 A1 (xs.take m).length (xs.take m), Asn.qu k33 33 (.slice Ai xin.length ci) xin oki, Asn.qu k33 33 (.slice Ao xout.length co) xout oko, Asn.fk kOp (fun k => k < w.heap.size) (b, t) [.bool b, .int .i64 t.f0, .string t.f1, .string t.f2, .int .u64 t.f3, .int .u64 t.f4, .string t.f5, .string t.f6, .slice A7 t.f7.length c7, .slice A8 t.f8.length c8], Asn.cl (adbt.add (j * 10)) [.bool b, .int .i64 t.f0, .string t.f1, .string t.f2, .int .u64 t.f3, .int .u64 t.f4, .string t.f5, .string t.f6, .slice A7 t.f7.length c7, .slice A8 t.f8.length c8] (fun k => k < w.heap.size), Asn.fk k33 (fun k => k < w.heap.size) t (txc t A7 c7 A8 c8), Asn.blk g8 [.int .i64 3, .int .i64 (n0 + 1), .slice A1 ((xs.take m).length) m] 40, Asn.rd k33 _ Aw ((xs.take m).length) (xs.take m)] W := H
            refine ⟨(fun _ => trivial), ?_⟩
            have HK := bchk_calls 3 (n0 + 1) Aw cw (xs.take m) W (by omega) (H.rd 9 rfl) hcw
            rw [hb0] at HK
            refine sqc (o_s 88 (.call { callee := (.value (.func 33)), args := #[(.tmp 87)], argTypes := #[40] }) 24 (by kernel_rfl)) trivial F (by decide) (x_call Tryd.func33 (by kernel_rfl) rfl (args_1 (F.slot rfl))) (HK) ?_
            rintro e W ⟨rfl, hB⟩
            refine ⟨_, rfl, fun a F => ?_⟩
            have H := H.below hB
            refine ⟨(fun _ => trivial), ?_⟩
            refine q2 (o_s 89 (.binOp .neq 24 (.tmp 88) (.const (.int .i64 0)) 24) 4 (by kernel_rfl)) F (by decide) (v := .bool false) (x_int (F.slot rfl) rfl rfl) (fun a F => ?_)
            refine q2 (o_s 90 (.move (.tmp 89)) 4 (by kernel_rfl)) F (by decide) (x_move (F.slot rfl)) (fun a F => ?_)
            refine sq2 (W' := W) (o_g 91 (.fieldAddr 40 (.tmp 13) 0) 0 4 false (by kernel_rfl)) ⟨90, by kernel_rfl, rfl⟩ F (by decide) (v := .pointer (some ⟨g8, 0, none⟩)) (x_field0 Tryd.underlying40 rfl rfl (Tryd.sizeOf3 W) (F.slot rfl)) (fun _ => trivial) (fun a F => ?_)
            refine sq2 (o_g 92 (.load 3 (.tmp 91)) 3 4 false (by kernel_rfl)) ⟨90, by kernel_rfl, rfl⟩ F (by decide) (v := .int .i64 3) (x_load1 (Tryd.isAgg3 W) (F.slot rfl) (H.cell 8 rfl rfl)) (fun _ => trivial) (fun a F => ?_)
            refine sq2 (W' := W) (o_g 93 (.binOp .neq 3 (.tmp 92) (.const (.int .i64 3)) 3) 4 4 false (by kernel_rfl)) ⟨90, by kernel_rfl, rfl⟩ F (by decide) (v := .bool false) (x_int (F.slot rfl) rfl rfl) (fun _ => trivial) (fun a F => ?_)
            refine q2 (o_s 94 (.pick (.tmp 90) (.const (.bool true)) (.tmp 93)) 4 (by kernel_rfl)) F (by decide) (v := .bool false) (x_pickF (F.slot rfl) (F.slot rfl)) (fun a F => ?_)
            refine q2 (o_s 95 (.move (.tmp 94)) 4 (by kernel_rfl)) F (by decide) (x_move (F.slot rfl)) (fun a F => ?_)
            refine sq2 (W' := W) (o_g 96 (.fieldAddr 40 (.tmp 13) 1) 0 9 false (by kernel_rfl)) ⟨95, by kernel_rfl, rfl⟩ F (by decide) (v := .pointer (some ⟨g8, 1, none⟩)) (x_field0 Tryd.underlying40 rfl rfl (Tryd.sizeOf3 W) (F.slot rfl)) (fun _ => trivial) (fun a F => ?_)
            refine sq2 (o_g 97 (.load 3 (.tmp 96)) 3 9 false (by kernel_rfl)) ⟨95, by kernel_rfl, rfl⟩ F (by decide) (v := .int .i64 (n0 + 1)) (x_load1 (Tryd.isAgg3 W) (F.slot rfl) (H.cell 8 rfl rfl)) (fun _ => trivial) (fun a F => ?_)
            refine sq2 (W' := W) (o_g 98 (.move (.tmp 11)) 3 9 false (by kernel_rfl)) ⟨95, by kernel_rfl, rfl⟩ F (by decide) (v := .int .i64 (n0 + 1)) (x_move (F.slot rfl)) (fun _ => trivial) (fun a F => ?_)
            refine sq2 (W' := W) (o_g 99 (.binOp .neq 3 (.tmp 97) (.tmp 98) 3) 4 9 false (by kernel_rfl)) ⟨95, by kernel_rfl, rfl⟩ F (by decide) (v := .bool ((n0 + 1) != (n0 + 1))) (x_int (F.slot rfl) (F.slot rfl) rfl) (fun _ => trivial) (fun a F => ?_)
            refine q2 (o_s 100 (.pick (.tmp 95) (.const (.bool true)) (.tmp 99)) 4 (by kernel_rfl)) F (by decide) (v := .bool ((n0 + 1) != (n0 + 1))) (x_pickF (F.slot rfl) (F.slot rfl)) (fun a F => ?_)
            refine q2 (o_s 101 (.move (.tmp 100)) 4 (by kernel_rfl)) F (by decide) (x_move (F.slot rfl)) (fun a F => ?_)
            have hb9 : ((n0 + 1) != (n0 + 1)) = false := by simp
            have F := F.at 101 rfl (v' := .bool false) (congrArg Value.bool hb9)
            refine sq2 (W' := W) (o_g 102 (.fieldAddr 40 (.tmp 13) 2) 0 15 false (by kernel_rfl)) ⟨101, by kernel_rfl, rfl⟩ F (by decide) (v := .pointer (some ⟨g8, 2, none⟩)) (x_field0 Tryd.underlying40 rfl rfl (Tryd.sizeOf38 W) (F.slot rfl)) (fun _ => trivial) (fun a F => ?_)
            refine sq2 (o_g 103 (.load 38 (.tmp 102)) 38 15 false (by kernel_rfl)) ⟨101, by kernel_rfl, rfl⟩ F (by decide) (v := .slice A1 ((xs.take m).length) m) (x_load1 (Tryd.isAgg38 W) (F.slot rfl) (H.cell 8 rfl rfl)) (fun _ => trivial) (fun a F => ?_)
            refine sq2 (W' := W) (o_g 104 (.call { callee := (.builtin .len), args := #[(.tmp 103)], argTypes := #[38] }) 3 15 false (by kernel_rfl)) ⟨101, by kernel_rfl, rfl⟩ F (by decide) (v := .int .i64 ((xs.take m).length : Int)) (x_lenL Tryd.underlying38 (F.slot rfl)) (fun _ => trivial) (fun a F => ?_)
            refine sq2 (W' := W) (o_g 105 (.move (.tmp 0)) 3 15 false (by kernel_rfl)) ⟨101, by kernel_rfl, rfl⟩ F (by decide) (v := .int .i64 z1) (x_move (F.slot rfl)) (fun _ => trivial) (fun a F => ?_)
            refine sq2 (W' := W) (o_g 106 (.binOp .gtr 3 (.tmp 104) (.tmp 105) 3) 4 15 false (by kernel_rfl)) ⟨101, by kernel_rfl, rfl⟩ F (by decide) (v := .bool (decide (((xs.take m).length : Int) > z1))) (x_int (F.slot rfl) (F.slot rfl) rfl) (fun _ => trivial) (fun a F => ?_)
            refine q2 (o_s 107 (.pick (.tmp 101) (.const (.bool true)) (.tmp 106)) 4 (by kernel_rfl)) F (by decide) (v := .bool (decide (((xs.take m).length : Int) > z1))) (x_pickF (F.slot rfl) (F.slot rfl)) (fun a F => ?_)
            unfold wpSeq
            refine t_normal ?_
            have hb10 : decide (((xs.take m).length : Int) > z1) = false := decide_eq_false (by omega)
            have F := F.at 107 rfl (v' := .bool false) (congrArg Value.bool hb10)
            refine c_no (c := .tmp 107) (by kernel_rfl) (F.slot rfl) ?_
            refine c_skip (by kernel_rfl) ?_
            refine t_normal ?_
            refine c_text (id := 20) (by kernel_rfl) [(0, 2), (1, 2), (2, 2), (3, 2), (4, 2)] (by kernel_rfl) ?_
            refine q2 (o_s 108 (.move (.tmp 10)) 38 (by kernel_rfl)) F (by decide) (x_move (F.slot rfl)) (fun a F => ?_)
            refine q2 (o_s 109 (.fieldAddr 40 (.tmp 13) 2) 0 (by kernel_rfl)) F (by decide) (v := .pointer (some ⟨g8, 2, none⟩)) (x_field0 Tryd.underlying40 rfl rfl (Tryd.sizeOf38 W) (F.slot rfl)) (fun a F => ?_)
            refine q2 (o_s 110 (.load 38 (.tmp 109)) 38 (by kernel_rfl)) F (by decide) (v := .slice A1 ((xs.take m).length) m) (x_load1 (Tryd.isAgg38 W) (F.slot rfl) (H.cell 8 rfl rfl)) (fun a F => ?_)
            refine sq_fapp k33 4 2 (by decide) (o_s 111 (.call { callee := (.builtin .append), args := #[(.tmp 108), (.tmp 110)], argTypes := #[38, 38] }) 38 (by kernel_rfl)) trivial F (by decide) (F.slot rfl) (F.slot rfl) (rfl) Tryd.underlying38 (show (Tryd.prog.info? 33).map (fun i => (i.zero, i.size, i.bytes)) = some (some (.agg #[.int .i64 0, .string ⟨#[]⟩, .string ⟨#[]⟩, .int .u64 0, .int .u64 0, .string ⟨#[]⟩, .string ⟨#[]⟩, .slice none 0 0, .slice none 0 0]), 9, 136) by kernel_rfl) rfl (by decide) (by decide) H rfl rfl (by omega) ?_
            intro v_ W a H F
            obtain ⟨A20_3, c20_3, rfl, hc20_3⟩ := (H.qu 4 rfl).form
            have H : St w (fun _ => False) (fun _ => True) [Asn.rd kOp (fun k => k < w.heap.size) A l.length l, Asn.blk ga [.int .i64 3, .int .i64 z1, .int .i64 T1, .slice (cutA A1 c1 m) ((xs.drop m).length) (c1 - m), .int .i64 0, .int .i64 (n0 + 1)] 72, Asn.qf k33 33 (.slice (cutA A1 c1 m) (xs.drop m).length (c1 - m)) (xs.drop m) ok1 A1 (xs.take m).length (xs.take m), Asn.qu k33 33 (.slice Ai xin.length ci) xin oki, Asn.qu k33 33 (.slice A20_3 (((xout ++ (xs.take m))).length) c20_3) (xout ++ (xs.take m)) (fun k => oko k ∨ ok1 k), Asn.fk kOp (fun k => k < w.heap.size) (b, t) [.bool b, .int .i64 t.f0, .string t.f1, .string t.f2, .int .u64 t.f3, .int .u64 t.f4, .string t.f5, .string t.f6, .slice A7 t.f7.length c7, .slice A8 t.f8.length c8], Asn.cl (adbt.add (j * 10)) [.bool b, .int .i64 t.f0, .string t.f1, .string t.f2, .int .u64 t.f3, .int .u64 t.f4, .string t.f5, .string t.f6, .slice A7 t.f7.length c7, .slice A8 t.f8.length c8] (fun k => k < w.heap.size), Asn.fk k33 (fun k => k < w.heap.size) t (txc t A7 c7 A8 c8), Asn.blk g8 [.int .i64 3, .int .i64 (n0 + 1), .slice A1 ((xs.take m).length) m] 40, Asn.rd k33 _ Aw ((xs.take m).length) (xs.take m)] W := H
            refine ⟨(fun _ => trivial), ?_⟩
            refine q2 (o_s 10 (.assign (.tmp 111)) 38 (by kernel_rfl)) F (by decide) (v := .slice A20_3 (((xout ++ (xs.take m))).length) c20_3) (x_assign (F.slot rfl)) (fun a F => ?_)
            unfold wpSeq
            refine b_normal ?_
            refine t_normal ?_
            refine c_text (id := 11) (by kernel_rfl) [(0, 2), (1, 2), (2, 2)] (by kernel_rfl) ?_
            refine q2 (o_s 42 (.move (.tmp 12)) 3 (by kernel_rfl)) F (by decide) (x_move (F.slot rfl)) (fun a F => ?_)
            refine q2 (o_s 43 (.binOp .add 3 (.tmp 42) (.const (.int .i64 1)) 3) 3 (by kernel_rfl)) F (by decide) (v := .int .i64 (IntKind.i64.wrap ((j : Int) + 1))) (x_int (F.slot rfl) rfl rfl) (fun a F => ?_)
            have F := F.conv (v' := .int .i64 ((j : Int) + 1)) (congrArg (Value.int .i64) (wrap_i64 _ (by omega) (by omega)))
            refine q2 (o_s 12 (.assign (.tmp 43)) 3 (by kernel_rfl)) F (by decide) (v := .int .i64 ((j : Int) + 1)) (x_assign (F.slot rfl)) (fun a F => ?_)
            unfold wpSeq
            refine t_normal ?_
            have F_ := F
            have H := H.qfQu 2 rfl
            have H := H.front 5
            have F := F.at 12 rfl (v' := .int .i64 ((j + 1 : Nat) : Int)) (congrArg (Value.int .i64) (by omega))
            have e1 : (xs.drop m).length = xs.length - m := List.length_drop
            have e3 : xin = (xout ++ xs.take m) ++ xs.drop m := by rw [hin, List.append_assoc, List.take_append_drop]
            have e4 := mul_drop T1 (xs.length : Int) ((xs.drop m).length : Int) (by omega) (by omega)
            have e5 := mul_le64 T1 (((xs.drop m)).length : Int) (by omega) (by omega) (by omega) (by omega)
            exact ⟨k - 1, by omega, j + 1, 0, (n0 + 1), _, (cutA A1 c1 m), (c1 - m), (xs.drop m), _, Ai, ci, xin, _, A20_3, c20_3, (xout ++ (xs.take m)), _, F.less _ (subc rfl (subc rfl (subc rfl (subc rfl (subc rfl (subc rfl (subc rfl (subc rfl (subc rfl (subc rfl (subc rfl (subc rfl (subc rfl (subc rfl (subc rfl (subc rfl (subc rfl (subc rfl (subc rfl (subc rfl (subc rfl (subc rfl (subc rfl (subc rfl (subc rfl (subc rfl (subc rfl (subc rfl (subc rfl (subc rfl (subc rfl (subc rfl (subc rfl sub0))))))))))))))))))))))))))))))))), H, (by omega), (by omega), hX, e3, (by omega), (by omega), (by omega), (by omega), (by omega), (by omega), (by omega), rfl, (by omega)⟩
      · have hb3d := of_decide_eq_false hb3
        have F := F.at 52 rfl (v' := .bool false) (congrArg Value.bool hb3)
        refine sqoff2 (e := 52) (o_g 53 (.move (.tmp 2)) 22 8 true (by kernel_rfl)) (by kernel_rfl) (.inl rfl) F (by decide) (trivial) (fun a F => ?_)
        refine sqoff2 (e := 52) (o_g 54 (.move (.tmp 12)) 3 8 true (by kernel_rfl)) (by kernel_rfl) (.inl rfl) F (by decide) (trivial) (fun a F => ?_)
        refine sqoff2 (e := 52) (o_g 55 (.indexAddr 22 (.tmp 53) (.tmp 54)) 0 8 true (by kernel_rfl)) (by kernel_rfl) (.inl rfl) F (by decide) (trivial) (fun a F => ?_)
        refine sqoff2 (e := 52) (o_g 56 (.fieldAddr 35 (.tmp 55) 0) 0 8 true (by kernel_rfl)) (by kernel_rfl) (.inl rfl) F (by decide) (trivial) (fun a F => ?_)
        refine sqoff2 (e := 52) (o_g 57 (.load 4 (.tmp 56)) 4 8 true (by kernel_rfl)) (by kernel_rfl) (.inl rfl) F (by decide) (trivial) (fun a F => ?_)
        refine sqoff2 (e := 52) (o_g 58 (.unOp .not 4 (.tmp 57)) 4 8 true (by kernel_rfl)) (by kernel_rfl) (.inl rfl) F (by decide) (trivial) (fun a F => ?_)
        refine q2 (o_s 59 (.pick (.tmp 52) (.tmp 58) (.const (.bool false))) 4 (by kernel_rfl)) F (by decide) (v := .bool false) (x_pickF (F.slot rfl) rfl) (fun a F => ?_)
        unfold wpSeq
        refine t_normal ?_
        refine c_no (c := .tmp 59) (by kernel_rfl) (F.slot rfl) ?_
        refine c_skip (by kernel_rfl) ?_
        refine t_normal ?_
        refine c_seq (by kernel_rfl) ?_
        rcases (show xs.length = 0 ∨ (xs.length ≠ 0 ∧ ((xs.length : Int) < z1 ∧ k0 + 1 < T1)) ∨ (xs.length ≠ 0 ∧ ¬ ((xs.length : Int) < z1 ∧ k0 + 1 < T1)) by omega) with hx0 | ⟨hx0, hw⟩ | ⟨hx0, hw⟩
        · refine c_text (id := 15) (by kernel_rfl) [(0, 2), (1, 2), (2, 2), (3, 2), (4, 2), (5, 2), (6, 2), (7, 2)] (by kernel_rfl) ?_
          refine q2 (o_s 78 (.move (.tmp 7)) 23 (by kernel_rfl)) F (by decide) (x_move (F.slot rfl)) (fun a F => ?_)
          have HS := H.select [1, 2] [Asn.blk ga [.int .i64 3, .int .i64 z1, .int .i64 T1, .slice A1 xs.length c1, .int .i64 k0, .int .i64 n0] 72, Asn.qu k33 33 (.slice A1 xs.length c1) xs ok1] rfl (by decide)
          refine sqc (o_s 79 (.call { callee := (.value (.func 21)), args := #[(.tmp 78)], argTypes := #[23] }) 41 (by kernel_rfl)) trivial F (by decide) (x_call Tryd.func21 (by kernel_rfl) rfl (args_1 (F.slot rfl))) ((tick_calls ga 3 z1 T1 k0 n0 A1 c1 xs ok1 W (by omega) (by omega) (by omega) (by omega) (by omega) (by omega) (by omega) HS).mono (fun _ _ h => h.none hx0)) ?_
          rintro e W ⟨rfl, H1⟩
          refine ⟨_, rfl, fun a F => ?_⟩
          have H := H.back [1, 2] [Asn.blk ga [.int .i64 3, .int .i64 z1, .int .i64 T1, .slice A1 xs.length c1, .int .i64 k0, .int .i64 n0] 72, Asn.qu k33 33 (.slice A1 xs.length c1) xs ok1] rfl (by decide) [Asn.blk ga [.int .i64 3, .int .i64 z1, .int .i64 T1, .slice A1 xs.length c1, .int .i64 k0, .int .i64 n0] 72, Asn.qu k33 33 (.slice A1 xs.length c1) xs ok1] [] rfl H1
          clear HS H1
          refine ⟨(fun _ => trivial), ?_⟩
          refine q2 (o_s 77 (.move (.tmp 79)) 41 (by kernel_rfl)) F (by decide) (x_move (F.slot rfl)) (fun a F => ?_)
          refine q2 (o_s 80 (.extract (.tmp 77) 0) 40 (by kernel_rfl)) F (by decide) (v := .agg #[.int .i64 0, .int .i64 0, .slice none 0 0]) (x_extract (F.slot rfl) rfl) (fun a F => ?_)
          refine q2 (o_s 81 (.extract (.tmp 77) 1) 4 (by kernel_rfl)) F (by decide) (v := .bool false) (x_extract (F.slot rfl) rfl) (fun a F => ?_)
          refine sq_new (o_s 13 (.alloc 40) 0 (by kernel_rfl)) trivial F (by decide) H [.int .i64 0, .int .i64 0, .slice none 0 0] 40 (x_alloc Tryd.zeroValue40 rfl) ?_
          intro g11 W a hg11 H F
          refine ⟨(fun _ => trivial), ?_⟩
          refine sq_put (M := [Asn.rd kOp (fun k => k < w.heap.size) A l.length l, Asn.blk ga [.int .i64 3, .int .i64 z1, .int .i64 T1, .slice A1 xs.length c1, .int .i64 k0, .int .i64 n0] 72, Asn.qu k33 33 (.slice A1 xs.length c1) xs ok1, Asn.qu k33 33 (.slice Ai xin.length ci) xin oki, Asn.qu k33 33 (.slice Ao xout.length co) xout oko, Asn.fk kOp (fun k => k < w.heap.size) (b, t) [.bool b, .int .i64 t.f0, .string t.f1, .string t.f2, .int .u64 t.f3, .int .u64 t.f4, .string t.f5, .string t.f6, .slice A7 t.f7.length c7, .slice A8 t.f8.length c8], Asn.cl (adbt.add (j * 10)) [.bool b, .int .i64 t.f0, .string t.f1, .string t.f2, .int .u64 t.f3, .int .u64 t.f4, .string t.f5, .string t.f6, .slice A7 t.f7.length c7, .slice A8 t.f8.length c8] (fun k => k < w.heap.size), Asn.fk k33 (fun k => k < w.heap.size) t (txc t A7 c7 A8 c8), Asn.blk g11 [.int .i64 0, .int .i64 0, .slice none 0 0] 40]) (o_n (.store 40 (.tmp 13) (.tmp 80)) 0 (by kernel_rfl)) trivial F (x_store H (k := 8) (cs' := [.int .i64 0, .int .i64 0, .slice none 0 0]) rfl (Tryd.sizeOf40 W) (F.slot rfl) (F.slot rfl) rfl (Nat.le_of_ble_eq_true rfl) rfl rfl) ?_
          intro W H
          refine ⟨(fun _ => trivial), ?_⟩
          refine q2 (o_s 14 (.assign (.tmp 81)) 4 (by kernel_rfl)) F (by decide) (v := .bool false) (x_assign (F.slot rfl)) (fun a F => ?_)
          unfold wpSeq
          refine t_normal ?_
          refine c_seq (by kernel_rfl) ?_
          refine c_seq (by kernel_rfl) ?_
          refine c_text (id := 16) (by kernel_rfl) [(0, 2), (1, 2)] (by kernel_rfl) ?_
          refine q2 (o_s 82 (.move (.tmp 14)) 4 (by kernel_rfl)) F (by decide) (x_move (F.slot rfl)) (fun a F => ?_)
          refine q2 (o_s 83 (.unOp .not 4 (.tmp 82)) 4 (by kernel_rfl)) F (by decide) (v := .bool true) (x_not (b := false) (F.slot rfl)) (fun a F => ?_)
          unfold wpSeq
          refine t_normal ?_
          refine c_yes (c := .tmp 83) (by kernel_rfl) (F.slot rfl) ?_
          refine c_exit (id := 1) (by kernel_rfl) ?_
          refine t_exit ?_
          refine b_here ?_
          refine t_normal ?_
          refine c_text (id := 11) (by kernel_rfl) [(0, 2), (1, 2), (2, 2)] (by kernel_rfl) ?_
          refine q2 (o_s 42 (.move (.tmp 12)) 3 (by kernel_rfl)) F (by decide) (x_move (F.slot rfl)) (fun a F => ?_)
          refine q2 (o_s 43 (.binOp .add 3 (.tmp 42) (.const (.int .i64 1)) 3) 3 (by kernel_rfl)) F (by decide) (v := .int .i64 (IntKind.i64.wrap ((j : Int) + 1))) (x_int (F.slot rfl) rfl rfl) (fun a F => ?_)
          have F := F.conv (v' := .int .i64 ((j : Int) + 1)) (congrArg (Value.int .i64) (wrap_i64 _ (by omega) (by omega)))
          refine q2 (o_s 12 (.assign (.tmp 43)) 3 (by kernel_rfl)) F (by decide) (v := .int .i64 ((j : Int) + 1)) (x_assign (F.slot rfl)) (fun a F => ?_)
          unfold wpSeq
          refine t_normal ?_
          have F_ := F
          have H := H.front 5
          have F := F.at 12 rfl (v' := .int .i64 ((j + 1 : Nat) : Int)) (congrArg (Value.int .i64) (by omega))
          have e6 : p0 = 0 := by rw [← hp0, hx0]; simp
          have e5 := mul_le64 T1 ((xs).length : Int) (by omega) (by omega) (by omega) (by omega)
          exact ⟨k - 1, by omega, j + 1, k0, n0, _, A1, c1, xs, _, Ai, ci, xin, _, Ao, co, xout, _, F.less _ (subc rfl (subc rfl (subc rfl (subc rfl (subc rfl (subc rfl (subc rfl (subc rfl (subc rfl (subc rfl (subc rfl (subc rfl (subc rfl (subc rfl (subc rfl (subc rfl (subc rfl (subc rfl (subc rfl (subc rfl (subc rfl (subc rfl (subc rfl (subc rfl (subc rfl (subc rfl (subc rfl (subc rfl (subc rfl (subc rfl (subc rfl (subc rfl (subc rfl sub0))))))))))))))))))))))))))))))))), H, (by omega), (by omega), hX, hin, (by omega), (by omega), (by omega), (by omega), (by omega), (by omega), (by omega), rfl, (by omega)⟩
        · refine c_text (id := 15) (by kernel_rfl) [(0, 2), (1, 2), (2, 2), (3, 2), (4, 2), (5, 2), (6, 2), (7, 2)] (by kernel_rfl) ?_
          refine q2 (o_s 78 (.move (.tmp 7)) 23 (by kernel_rfl)) F (by decide) (x_move (F.slot rfl)) (fun a F => ?_)
          have HS := H.select [1, 2] [Asn.blk ga [.int .i64 3, .int .i64 z1, .int .i64 T1, .slice A1 xs.length c1, .int .i64 k0, .int .i64 n0] 72, Asn.qu k33 33 (.slice A1 xs.length c1) xs ok1] rfl (by decide)
          refine sqc (o_s 79 (.call { callee := (.value (.func 21)), args := #[(.tmp 78)], argTypes := #[23] }) 41 (by kernel_rfl)) trivial F (by decide) (x_call Tryd.func21 (by kernel_rfl) rfl (args_1 (F.slot rfl))) ((tick_calls ga 3 z1 T1 k0 n0 A1 c1 xs ok1 W (by omega) (by omega) (by omega) (by omega) (by omega) (by omega) (by omega) HS).mono (fun _ _ h => h.wait hx0 hw)) ?_
          rintro e W ⟨rfl, H1⟩
          refine ⟨_, rfl, fun a F => ?_⟩
          have H := H.back [1, 2] [Asn.blk ga [.int .i64 3, .int .i64 z1, .int .i64 T1, .slice A1 xs.length c1, .int .i64 k0, .int .i64 n0] 72, Asn.qu k33 33 (.slice A1 xs.length c1) xs ok1] rfl (by decide) [Asn.blk ga [.int .i64 3, .int .i64 z1, .int .i64 T1, .slice A1 xs.length c1, .int .i64 (k0 + 1), .int .i64 n0] 72, Asn.qu k33 33 (.slice A1 xs.length c1) xs ok1] [] rfl H1
          clear HS H1
          have H : St w (fun _ => False) (fun _ => True) [Asn.rd kOp (fun k => k < w.heap.size) A l.length l, Asn.blk ga [.int .i64 3, .int .i64 z1, .int .i64 T1, .slice A1 xs.length c1, .int .i64 (k0 + 1), .int .i64 n0] 72, Asn.qu k33 33 (.slice A1 xs.length c1) xs ok1, Asn.qu k33 33 (.slice Ai xin.length ci) xin oki, Asn.qu k33 33 (.slice Ao xout.length co) xout oko, Asn.fk kOp (fun k => k < w.heap.size) (b, t) [.bool b, .int .i64 t.f0, .string t.f1, .string t.f2, .int .u64 t.f3, .int .u64 t.f4, .string t.f5, .string t.f6, .slice A7 t.f7.length c7, .slice A8 t.f8.length c8], Asn.cl (adbt.add (j * 10)) [.bool b, .int .i64 t.f0, .string t.f1, .string t.f2, .int .u64 t.f3, .int .u64 t.f4, .string t.f5, .string t.f6, .slice A7 t.f7.length c7, .slice A8 t.f8.length c8] (fun k => k < w.heap.size), Asn.fk k33 (fun k => k < w.heap.size) t (txc t A7 c7 A8 c8)] W := H
          refine ⟨(fun _ => trivial), ?_⟩
          refine q2 (o_s 77 (.move (.tmp 79)) 41 (by kernel_rfl)) F (by decide) (x_move (F.slot rfl)) (fun a F => ?_)
          refine q2 (o_s 80 (.extract (.tmp 77) 0) 40 (by kernel_rfl)) F (by decide) (v := .agg #[.int .i64 0, .int .i64 0, .slice none 0 0]) (x_extract (F.slot rfl) rfl) (fun a F => ?_)
          refine q2 (o_s 81 (.extract (.tmp 77) 1) 4 (by kernel_rfl)) F (by decide) (v := .bool false) (x_extract (F.slot rfl) rfl) (fun a F => ?_)
          refine sq_new (o_s 13 (.alloc 40) 0 (by kernel_rfl)) trivial F (by decide) H [.int .i64 0, .int .i64 0, .slice none 0 0] 40 (x_alloc Tryd.zeroValue40 rfl) ?_
          intro g12 W a hg12 H F
          refine ⟨(fun _ => trivial), ?_⟩
          refine sq_put (M := [Asn.rd kOp (fun k => k < w.heap.size) A l.length l, Asn.blk ga [.int .i64 3, .int .i64 z1, .int .i64 T1, .slice A1 xs.length c1, .int .i64 (k0 + 1), .int .i64 n0] 72, Asn.qu k33 33 (.slice A1 xs.length c1) xs ok1, Asn.qu k33 33 (.slice Ai xin.length ci) xin oki, Asn.qu k33 33 (.slice Ao xout.length co) xout oko, Asn.fk kOp (fun k => k < w.heap.size) (b, t) [.bool b, .int .i64 t.f0, .string t.f1, .string t.f2, .int .u64 t.f3, .int .u64 t.f4, .string t.f5, .string t.f6, .slice A7 t.f7.length c7, .slice A8 t.f8.length c8], Asn.cl (adbt.add (j * 10)) [.bool b, .int .i64 t.f0, .string t.f1, .string t.f2, .int .u64 t.f3, .int .u64 t.f4, .string t.f5, .string t.f6, .slice A7 t.f7.length c7, .slice A8 t.f8.length c8] (fun k => k < w.heap.size), Asn.fk k33 (fun k => k < w.heap.size) t (txc t A7 c7 A8 c8), Asn.blk g12 [.int .i64 0, .int .i64 0, .slice none 0 0] 40]) (o_n (.store 40 (.tmp 13) (.tmp 80)) 0 (by kernel_rfl)) trivial F (x_store H (k := 8) (cs' := [.int .i64 0, .int .i64 0, .slice none 0 0]) rfl (Tryd.sizeOf40 W) (F.slot rfl) (F.slot rfl) rfl (Nat.le_of_ble_eq_true rfl) rfl rfl) ?_
          intro W H
          refine ⟨(fun _ => trivial), ?_⟩
          refine q2 (o_s 14 (.assign (.tmp 81)) 4 (by kernel_rfl)) F (by decide) (v := .bool false) (x_assign (F.slot rfl)) (fun a F => ?_)
          unfold wpSeq
          refine t_normal ?_
          refine c_seq (by kernel_rfl) ?_
          refine c_seq (by kernel_rfl) ?_
          refine c_text (id := 16) (by kernel_rfl) [(0, 2), (1, 2)] (by kernel_rfl) ?_
          refine q2 (o_s 82 (.move (.tmp 14)) 4 (by kernel_rfl)) F (by decide) (x_move (F.slot rfl)) (fun a F => ?_)
          refine q2 (o_s 83 (.unOp .not 4 (.tmp 82)) 4 (by kernel_rfl)) F (by decide) (v := .bool true) (x_not (b := false) (F.slot rfl)) (fun a F => ?_)
          unfold wpSeq
          refine t_normal ?_
          refine c_yes (c := .tmp 83) (by kernel_rfl) (F.slot rfl) ?_
          refine c_exit (id := 1) (by kernel_rfl) ?_
          refine t_exit ?_
          refine b_here ?_
          refine t_normal ?_
          refine c_text (id := 11) (by kernel_rfl) [(0, 2), (1, 2), (2, 2)] (by kernel_rfl) ?_
          refine q2 (o_s 42 (.move (.tmp 12)) 3 (by kernel_rfl)) F (by decide) (x_move (F.slot rfl)) (fun a F => ?_)
          refine q2 (o_s 43 (.binOp .add 3 (.tmp 42) (.const (.int .i64 1)) 3) 3 (by kernel_rfl)) F (by decide) (v := .int .i64 (IntKind.i64.wrap ((j : Int) + 1))) (x_int (F.slot rfl) rfl rfl) (fun a F => ?_)
          have F := F.conv (v' := .int .i64 ((j : Int) + 1)) (congrArg (Value.int .i64) (wrap_i64 _ (by omega) (by omega)))
          refine q2 (o_s 12 (.assign (.tmp 43)) 3 (by kernel_rfl)) F (by decide) (v := .int .i64 ((j : Int) + 1)) (x_assign (F.slot rfl)) (fun a F => ?_)
          unfold wpSeq
          refine t_normal ?_
          have F_ := F
          have H := H.front 5
          have F := F.at 12 rfl (v' := .int .i64 ((j + 1 : Nat) : Int)) (congrArg (Value.int .i64) (by omega))
          have e5 := mul_le64 T1 ((xs).length : Int) (by omega) (by omega) (by omega) (by omega)
          exact ⟨k - 1, by omega, j + 1, (k0 + 1), n0, _, A1, c1, xs, _, Ai, ci, xin, _, Ao, co, xout, _, F.less _ (subc rfl (subc rfl (subc rfl (subc rfl (subc rfl (subc rfl (subc rfl (subc rfl (subc rfl (subc rfl (subc rfl (subc rfl (subc rfl (subc rfl (subc rfl (subc rfl (subc rfl (subc rfl (subc rfl (subc rfl (subc rfl (subc rfl (subc rfl (subc rfl (subc rfl (subc rfl (subc rfl (subc rfl (subc rfl (subc rfl (subc rfl (subc rfl (subc rfl sub0))))))))))))))))))))))))))))))))), H, (by omega), (by omega), hX, hin, (by omega), (by omega), (by omega), (by omega), (by omega), (by omega), (by omega), rfl, (by omega)⟩
        · obtain ⟨m, hm⟩ : ∃ m : Nat, (m : Int) = min z1 (xs.length : Int) := ⟨(min z1 (xs.length : Int)).toNat, by omega⟩
          have htk : (xs.take m).length = m := by rw [List.length_take]; omega
          have hb0 : bchk 3 (n0 + 1) (xs.take m) = 0 := bchk_of (by omega) (by omega) (by omega) (by omega) (fun x hx => hX x (hin ▸ List.mem_append_right _ (List.mem_of_mem_take hx)))
          refine c_text (id := 15) (by kernel_rfl) [(0, 2), (1, 2), (2, 2), (3, 2), (4, 2), (5, 2), (6, 2), (7, 2)] (by kernel_rfl) ?_
          refine q2 (o_s 78 (.move (.tmp 7)) 23 (by kernel_rfl)) F (by decide) (x_move (F.slot rfl)) (fun a F => ?_)
          have HS := H.select [1, 2] [Asn.blk ga [.int .i64 3, .int .i64 z1, .int .i64 T1, .slice A1 xs.length c1, .int .i64 k0, .int .i64 n0] 72, Asn.qu k33 33 (.slice A1 xs.length c1) xs ok1] rfl (by decide)
          refine sqc (o_s 79 (.call { callee := (.value (.func 21)), args := #[(.tmp 78)], argTypes := #[23] }) 41 (by kernel_rfl)) trivial F (by decide) (x_call Tryd.func21 (by kernel_rfl) rfl (args_1 (F.slot rfl))) ((tick_calls ga 3 z1 T1 k0 n0 A1 c1 xs ok1 W (by omega) (by omega) (by omega) (by omega) (by omega) (by omega) (by omega) HS).mono (fun _ _ h => h.seal hx0 hw m hm)) ?_
          rintro e W ⟨rfl, H1⟩
          refine ⟨_, rfl, fun a F => ?_⟩
          have H := H.back [1, 2] [Asn.blk ga [.int .i64 3, .int .i64 z1, .int .i64 T1, .slice A1 xs.length c1, .int .i64 k0, .int .i64 n0] 72, Asn.qu k33 33 (.slice A1 xs.length c1) xs ok1] rfl (by decide) [Asn.blk ga [.int .i64 3, .int .i64 z1, .int .i64 T1, .slice (cutA A1 c1 m) ((xs.drop m).length) (c1 - m), .int .i64 0, .int .i64 (n0 + 1)] 72, Asn.qf k33 33 (.slice (cutA A1 c1 m) (xs.drop m).length (c1 - m)) (xs.drop m) ok1 A1 (xs.take m).length (xs.take m)] [] rfl H1
          clear HS H1
          have H : St w (fun _ => False) (fun _ => True) [Asn.rd kOp (fun k => k < w.heap.size) A l.length l, Asn.blk ga [.int .i64 3, .int .i64 z1, .int .i64 T1, .slice (cutA A1 c1 m) ((xs.drop m).length) (c1 - m), .int .i64 0, .int .i64 (n0 + 1)] 72, Asn.qf k33 33 (.slice (cutA A1 c1 m) (xs.drop m).length (c1 - m)) (xs.drop m) ok1 A1 (xs.take m).length (xs.take m), Asn.qu k33 33 (.slice Ai xin.length ci) xin oki, Asn.qu k33 33 (.slice Ao xout.length co) xout oko, Asn.fk kOp (fun k => k < w.heap.size) (b, t) [.bool b, .int .i64 t.f0, .string t.f1, .string t.f2, .int .u64 t.f3, .int .u64 t.f4, .string t.f5, .string t.f6, .slice A7 t.f7.length c7, .slice A8 t.f8.length c8], Asn.cl (adbt.add (j * 10)) [.bool b, .int .i64 t.f0, .string t.f1, .string t.f2, .int .u64 t.f3, .int .u64 t.f4, .string t.f5, .string t.f6, .slice A7 t.f7.length c7, .slice A8 t.f8.length c8] (fun k => k < w.heap.size), Asn.fk k33 (fun k => k < w.heap.size) t (txc t A7 c7 A8 c8)] W := H
          refine ⟨(fun _ => trivial), ?_⟩
          refine q2 (o_s 77 (.move (.tmp 79)) 41 (by kernel_rfl)) F (by decide) (x_move (F.slot rfl)) (fun a F => ?_)
          refine q2 (o_s 80 (.extract (.tmp 77) 0) 40 (by kernel_rfl)) F (by decide) (v := .agg #[.int .i64 3, .int .i64 (n0 + 1), .slice A1 ((xs.take m).length) m]) (x_extract (F.slot rfl) rfl) (fun a F => ?_)
          refine q2 (o_s 81 (.extract (.tmp 77) 1) 4 (by kernel_rfl)) F (by decide) (v := .bool true) (x_extract (F.slot rfl) rfl) (fun a F => ?_)
          refine sq_new (o_s 13 (.alloc 40) 0 (by kernel_rfl)) trivial F (by decide) H [.int .i64 0, .int .i64 0, .slice none 0 0] 40 (x_alloc Tryd.zeroValue40 rfl) ?_
          intro g13 W a hg13 H F
          refine ⟨(fun _ => trivial), ?_⟩
          refine sq_put (M := [Asn.rd kOp (fun k => k < w.heap.size) A l.length l, Asn.blk ga [.int .i64 3, .int .i64 z1, .int .i64 T1, .slice (cutA A1 c1 m) ((xs.drop m).length) (c1 - m), .int .i64 0, .int .i64 (n0 + 1)] 72, Asn.qf k33 33 (.slice (cutA A1 c1 m) (xs.drop m).length (c1 - m)) (xs.drop m) ok1 A1 (xs.take m).length (xs.take m), Asn.qu k33 33 (.slice Ai xin.length ci) xin oki, Asn.qu k33 33 (.slice Ao xout.length co) xout oko, Asn.fk kOp (fun k => k < w.heap.size) (b, t) [.bool b, .int .i64 t.f0, .string t.f1, .string t.f2, .int .u64 t.f3, .int .u64 t.f4, .string t.f5, .string t.f6, .slice A7 t.f7.length c7, .slice A8 t.f8.length c8], Asn.cl (adbt.add (j * 10)) [.bool b, .int .i64 t.f0, .string t.f1, .string t.f2, .int .u64 t.f3, .int .u64 t.f4, .string t.f5, .string t.f6, .slice A7 t.f7.length c7, .slice A8 t.f8.length c8] (fun k => k < w.heap.size), Asn.fk k33 (fun k => k < w.heap.size) t (txc t A7 c7 A8 c8), Asn.blk g13 [.int .i64 3, .int .i64 (n0 + 1), .slice A1 ((xs.take m).length) m] 40]) (o_n (.store 40 (.tmp 13) (.tmp 80)) 0 (by kernel_rfl)) trivial F (x_store H (k := 8) (cs' := [.int .i64 3, .int .i64 (n0 + 1), .slice A1 ((xs.take m).length) m]) rfl (Tryd.sizeOf40 W) (F.slot rfl) (F.slot rfl) rfl (Nat.le_of_ble_eq_true rfl) rfl rfl) ?_
          intro W H
          refine ⟨(fun _ => trivial), ?_⟩
          refine q2 (o_s 14 (.assign (.tmp 81)) 4 (by kernel_rfl)) F (by decide) (v := .bool true) (x_assign (F.slot rfl)) (fun a F => ?_)
          unfold wpSeq
          refine t_normal ?_
          refine c_seq (by kernel_rfl) ?_
          refine c_seq (by kernel_rfl) ?_
          refine c_text (id := 16) (by kernel_rfl) [(0, 2), (1, 2)] (by kernel_rfl) ?_
          refine q2 (o_s 82 (.move (.tmp 14)) 4 (by kernel_rfl)) F (by decide) (x_move (F.slot rfl)) (fun a F => ?_)
          refine q2 (o_s 83 (.unOp .not 4 (.tmp 82)) 4 (by kernel_rfl)) F (by decide) (v := .bool false) (x_not (b := true) (F.slot rfl)) (fun a F => ?_)
          unfold wpSeq
          refine t_normal ?_
          refine c_no (c := .tmp 83) (by kernel_rfl) (F.slot rfl) ?_
          refine c_skip (by kernel_rfl) ?_
          refine t_normal ?_
          refine c_seq (by kernel_rfl) ?_
          refine c_text (id := 17) (by kernel_rfl) [(0, 2), (1, 2), (2, 2)] (by kernel_rfl) ?_
          refine q2 (o_s 84 (.move (.tmp 11)) 3 (by kernel_rfl)) F (by decide) (x_move (F.slot rfl)) (fun a F => ?_)
          refine q2 (o_s 85 (.binOp .add 3 (.tmp 84) (.const (.int .i64 1)) 3) 3 (by kernel_rfl)) F (by decide) (v := .int .i64 (IntKind.i64.wrap (n0 + 1))) (x_int (F.slot rfl) rfl rfl) (fun a F => ?_)
          have F := F.conv (v' := .int .i64 (n0 + 1)) (congrArg (Value.int .i64) (wrap_i64 _ (by omega) (by omega)))
          refine q2 (o_s 11 (.assign (.tmp 85)) 3 (by kernel_rfl)) F (by decide) (v := .int .i64 (n0 + 1)) (x_assign (F.slot rfl)) (fun a F => ?_)
          unfold wpSeq
          refine t_normal ?_
          refine c_seq (by kernel_rfl) ?_
          refine c_seq (by kernel_rfl) ?_
          refine c_text (id := 18) (by kernel_rfl) [(0, 2), (1, 2), (2, 2), (3, 2), (4, 2), (5, 2), (6, 2), (7, 2), (8, 2), (9, 2), (10, 2), (11, 2), (12, 2), (13, 2), (14, 2), (15, 2), (16, 2), (17, 2), (18, 2), (19, 2), (20, 2), (21, 2)] (by kernel_rfl) ?_
          refine q2 (o_s 86 (.load 40 (.tmp 13)) 40 (by kernel_rfl)) F (by decide) (v := .agg #[.int .i64 3, .int .i64 (n0 + 1), .slice A1 ((xs.take m).length) m]) (x_loadB (Tryd.isAgg40 W) [.int .i64 3, .int .i64 (n0 + 1), .slice A1 ((xs.take m).length) m] (Tryd.sizeOf40 W) (F.slot rfl) (H.blk 8 rfl)) (fun a F => ?_)
          refine sqc (o_s 87 (.call { callee := (.value (.func 30)), args := #[(.tmp 86)], argTypes := #[40] }) 40 (by kernel_rfl)) trivial F (by decide) (x_call Tryd.func30 (by kernel_rfl) rfl (args_1 (F.slot rfl))) (bown_calls 3 (n0 + 1) A1 m (xs.take m) W (by omega) (fun t ht => chT_lenB (hX t (hin ▸ List.mem_append_right _ (List.mem_of_mem_take ht)))) (H.qfRead 2 rfl) (by omega)) ?_
          rintro e W ⟨Aw, cw, rfl, hcw, hF, hB⟩
          refine ⟨_, rfl, fun a F => ?_⟩
          have H := H.freshF hB _ _ hF (fun k hk => hk)
          have H : St w (fun _ => False) (fun _ => True) [Asn.rd kOp (fun k => k < w.heap.size) A l.length l, Asn.blk ga [.int .i64 3, .int .i64 z1, .int .i64 T1, .slice (cutA A1 c1 m) ((xs.drop m).length) (c1 - m), .int .i64 0, .int .i64 (n0 + 1)] 72, Asn.qf k33 33 (.slice (cutA A1 c1 m) (xs.drop m).length (c1 - m)) (xs.drop m) ok1 A1 (xs.take m).length (xs.take m), Asn.qu k33 33 (.slice Ai xin.length ci) xin oki, Asn.qu k33 33 (.slice Ao xout.length co) xout oko, Asn.fk kOp (fun k => k < w.heap.size) (b, t) [.bool b, .int .i64 t.f0, .string t.f1, .string t.f2, .int .u64 t.f3, .int .u64 t.f4, .string t.f5, .string t.f6, .slice A7 t.f7.length c7, .slice A8 t.f8.length c8], Asn.cl (adbt.add (j * 10)) [.bool b, .int .i64 t.f0, .string t.f1, .string t.f2, .int .u64 t.f3, .int .u64 t.f4, .string t.f5, .string t.f6, .slice A7 t.f7.length c7, .slice A8 t.f8.length c8] (fun k => k < w.heap.size), Asn.fk k33 (fun k => k < w.heap.size) t (txc t A7 c7 A8 c8), Asn.blk g13 [.int .i64 3, .int .i64 (n0 + 1), .slice A1 ((xs.take m).length) m] 40, Asn.rd k33 _ Aw ((xs.take m).length) (xs.take m)] W := H
          refine ⟨(fun _ => trivial), ?_⟩
          have HK := bchk_calls 3 (n0 + 1) Aw cw (xs.take m) W (by omega) (H.rd 9 rfl) hcw
          rw [hb0] at HK
          refine sqc (o_s 88 (.call { callee := (.value (.func 33)), args := #[(.tmp 87)], argTypes := #[40] }) 24 (by kernel_rfl)) trivial F (by decide) (x_call Tryd.func33 (by kernel_rfl) rfl (args_1 (F.slot rfl))) (HK) ?_
          rintro e W ⟨rfl, hB⟩
          refine ⟨_, rfl, fun a F => ?_⟩
          have H := H.below hB
          refine ⟨(fun _ => trivial), ?_⟩
          refine q2 (o_s 89 (.binOp .neq 24 (.tmp 88) (.const (.int .i64 0)) 24) 4 (by kernel_rfl)) F (by decide) (v := .bool false) (x_int (F.slot rfl) rfl rfl) (fun a F => ?_)
          refine q2 (o_s 90 (.move (.tmp 89)) 4 (by kernel_rfl)) F (by decide) (x_move (F.slot rfl)) (fun a F => ?_)
          refine sq2 (W' := W) (o_g 91 (.fieldAddr 40 (.tmp 13) 0) 0 4 false (by kernel_rfl)) ⟨90, by kernel_rfl, rfl⟩ F (by decide) (v := .pointer (some ⟨g13, 0, none⟩)) (x_field0 Tryd.underlying40 rfl rfl (Tryd.sizeOf3 W) (F.slot rfl)) (fun _ => trivial) (fun a F => ?_)
          refine sq2 (o_g 92 (.load 3 (.tmp 91)) 3 4 false (by kernel_rfl)) ⟨90, by kernel_rfl, rfl⟩ F (by decide) (v := .int .i64 3) (x_load1 (Tryd.isAgg3 W) (F.slot rfl) (H.cell 8 rfl rfl)) (fun _ => trivial) (fun a F => ?_)
          refine sq2 (W' := W) (o_g 93 (.binOp .neq 3 (.tmp 92) (.const (.int .i64 3)) 3) 4 4 false (by kernel_rfl)) ⟨90, by kernel_rfl, rfl⟩ F (by decide) (v := .bool false) (x_int (F.slot rfl) rfl rfl) (fun _ => trivial) (fun a F => ?_)
          refine q2 (o_s 94 (.pick (.tmp 90) (.const (.bool true)) (.tmp 93)) 4 (by kernel_rfl)) F (by decide) (v := .bool false) (x_pickF (F.slot rfl) (F.slot rfl)) (fun a F => ?_)
          refine q2 (o_s 95 (.move (.tmp 94)) 4 (by kernel_rfl)) F (by decide) (x_move (F.slot rfl)) (fun a F => ?_)
          refine sq2 (W' := W) (o_g 96 (.fieldAddr 40 (.tmp 13) 1) 0 9 false (by kernel_rfl)) ⟨95, by kernel_rfl, rfl⟩ F (by decide) (v := .pointer (some ⟨g13, 1, none⟩)) (x_field0 Tryd.underlying40 rfl rfl (Tryd.sizeOf3 W) (F.slot rfl)) (fun _ => trivial) (fun a F => ?_)
          refine sq2 (o_g 97 (.load 3 (.tmp 96)) 3 9 false (by kernel_rfl)) ⟨95, by kernel_rfl, rfl⟩ F (by decide) (v := .int .i64 (n0 + 1)) (x_load1 (Tryd.isAgg3 W) (F.slot rfl) (H.cell 8 rfl rfl)) (fun _ => trivial) (fun a F => ?_)
          refine sq2 (W' := W) (o_g 98 (.move (.tmp 11)) 3 9 false (by kernel_rfl)) ⟨95, by kernel_rfl, rfl⟩ F (by decide) (v := .int .i64 (n0 + 1)) (x_move (F.slot rfl)) (fun _ => trivial) (fun a F => ?_)
          refine sq2 (W' := W) (o_g 99 (.binOp .neq 3 (.tmp 97) (.tmp 98) 3) 4 9 false (by kernel_rfl)) ⟨95, by kernel_rfl, rfl⟩ F (by decide) (v := .bool ((n0 + 1) != (n0 + 1))) (x_int (F.slot rfl) (F.slot rfl) rfl) (fun _ => trivial) (fun a F => ?_)
          refine q2 (o_s 100 (.pick (.tmp 95) (.const (.bool true)) (.tmp 99)) 4 (by kernel_rfl)) F (by decide) (v := .bool ((n0 + 1) != (n0 + 1))) (x_pickF (F.slot rfl) (F.slot rfl)) (fun a F => ?_)
          refine q2 (o_s 101 (.move (.tmp 100)) 4 (by kernel_rfl)) F (by decide) (x_move (F.slot rfl)) (fun a F => ?_)
          have hb14 : ((n0 + 1) != (n0 + 1)) = false := by simp
          have F := F.at 101 rfl (v' := .bool false) (congrArg Value.bool hb14)
          refine sq2 (W' := W) (o_g 102 (.fieldAddr 40 (.tmp 13) 2) 0 15 false (by kernel_rfl)) ⟨101, by kernel_rfl, rfl⟩ F (by decide) (v := .pointer (some ⟨g13, 2, none⟩)) (x_field0 Tryd.underlying40 rfl rfl (Tryd.sizeOf38 W) (F.slot rfl)) (fun _ => trivial) (fun a F => ?_)
          refine sq2 (o_g 103 (.load 38 (.tmp 102)) 38 15 false (by kernel_rfl)) ⟨101, by kernel_rfl, rfl⟩ F (by decide) (v := .slice A1 ((xs.take m).length) m) (x_load1 (Tryd.isAgg38 W) (F.slot rfl) (H.cell 8 rfl rfl)) (fun _ => trivial) (fun a F => ?_)
          refine sq2 (W' := W) (o_g 104 (.call { callee := (.builtin .len), args := #[(.tmp 103)], argTypes := #[38] }) 3 15 false (by kernel_rfl)) ⟨101, by kernel_rfl, rfl⟩ F (by decide) (v := .int .i64 ((xs.take m).length : Int)) (x_lenL Tryd.underlying38 (F.slot rfl)) (fun _ => trivial) (fun a F => ?_)
          refine sq2 (W' := W) (o_g 105 (.move (.tmp 0)) 3 15 false (by kernel_rfl)) ⟨101, by kernel_rfl, rfl⟩ F (by decide) (v := .int .i64 z1) (x_move (F.slot rfl)) (fun _ => trivial) (fun a F => ?_)
          refine sq2 (W' := W) (o_g 106 (.binOp .gtr 3 (.tmp 104) (.tmp 105) 3) 4 15 false (by kernel_rfl)) ⟨101, by kernel_rfl, rfl⟩ F (by decide) (v := .bool (decide (((xs.take m).length : Int) > z1))) (x_int (F.slot rfl) (F.slot rfl) rfl) (fun _ => trivial) (fun a F => ?_)
          refine q2 (o_s 107 (.pick (.tmp 101) (.const (.bool true)) (.tmp 106)) 4 (by kernel_rfl)) F (by decide) (v := .bool (decide (((xs.take m).length : Int) > z1))) (x_pickF (F.slot rfl) (F.slot rfl)) (fun a F => ?_)
          unfold wpSeq
          refine t_normal ?_
          have hb15 : decide (((xs.take m).length : Int) > z1) = false := decide_eq_false (by omega)
          have F := F.at 107 rfl (v' := .bool false) (congrArg Value.bool hb15)
          refine c_no (c := .tmp 107) (by kernel_rfl) (F.slot rfl) ?_
          refine c_skip (by kernel_rfl) ?_
          refine t_normal ?_
          refine c_text (id := 20) (by kernel_rfl) [(0, 2), (1, 2), (2, 2), (3, 2), (4, 2)] (by kernel_rfl) ?_
          refine q2 (o_s 108 (.move (.tmp 10)) 38 (by kernel_rfl)) F (by decide) (x_move (F.slot rfl)) (fun a F => ?_)
          refine q2 (o_s 109 (.fieldAddr 40 (.tmp 13) 2) 0 (by kernel_rfl)) F (by decide) (v := .pointer (some ⟨g13, 2, none⟩)) (x_field0 Tryd.underlying40 rfl rfl (Tryd.sizeOf38 W) (F.slot rfl)) (fun a F => ?_)
          refine q2 (o_s 110 (.load 38 (.tmp 109)) 38 (by kernel_rfl)) F (by decide) (v := .slice A1 ((xs.take m).length) m) (x_load1 (Tryd.isAgg38 W) (F.slot rfl) (H.cell 8 rfl rfl)) (fun a F => ?_)
          refine sq_fapp k33 4 2 (by decide) (o_s 111 (.call { callee := (.builtin .append), args := #[(.tmp 108), (.tmp 110)], argTypes := #[38, 38] }) 38 (by kernel_rfl)) trivial F (by decide) (F.slot rfl) (F.slot rfl) (rfl) Tryd.underlying38 (show (Tryd.prog.info? 33).map (fun i => (i.zero, i.size, i.bytes)) = some (some (.agg #[.int .i64 0, .string ⟨#[]⟩, .string ⟨#[]⟩, .int .u64 0, .int .u64 0, .string ⟨#[]⟩, .string ⟨#[]⟩, .slice none 0 0, .slice none 0 0]), 9, 136) by kernel_rfl) rfl (by decide) (by decide) H rfl rfl (by omega) ?_
          intro v_ W a H F
          obtain ⟨A20_3, c20_3, rfl, hc20_3⟩ := (H.qu 4 rfl).form
          have H : St w (fun _ => False) (fun _ => True) [Asn.rd kOp (fun k => k < w.heap.size) A l.length l, Asn.blk ga [.int .i64 3, .int .i64 z1, .int .i64 T1, .slice (cutA A1 c1 m) ((xs.drop m).length) (c1 - m), .int .i64 0, .int .i64 (n0 + 1)] 72, Asn.qf k33 33 (.slice (cutA A1 c1 m) (xs.drop m).length (c1 - m)) (xs.drop m) ok1 A1 (xs.take m).length (xs.take m), Asn.qu k33 33 (.slice Ai xin.length ci) xin oki, Asn.qu k33 33 (.slice A20_3 (((xout ++ (xs.take m))).length) c20_3) (xout ++ (xs.take m)) (fun k => oko k ∨ ok1 k), Asn.fk kOp (fun k => k < w.heap.size) (b, t) [.bool b, .int .i64 t.f0, .string t.f1, .string t.f2, .int .u64 t.f3, .int .u64 t.f4, .string t.f5, .string t.f6, .slice A7 t.f7.length c7, .slice A8 t.f8.length c8], Asn.cl (adbt.add (j * 10)) [.bool b, .int .i64 t.f0, .string t.f1, .string t.f2, .int .u64 t.f3, .int .u64 t.f4, .string t.f5, .string t.f6, .slice A7 t.f7.length c7, .slice A8 t.f8.length c8] (fun k => k < w.heap.size), Asn.fk k33 (fun k => k < w.heap.size) t (txc t A7 c7 A8 c8), Asn.blk g13 [.int .i64 3, .int .i64 (n0 + 1), .slice A1 ((xs.take m).length) m] 40, Asn.rd k33 _ Aw ((xs.take m).length) (xs.take m)] W := H
          refine ⟨(fun _ => trivial), ?_⟩
          refine q2 (o_s 10 (.assign (.tmp 111)) 38 (by kernel_rfl)) F (by decide) (v := .slice A20_3 (((xout ++ (xs.take m))).length) c20_3) (x_assign (F.slot rfl)) (fun a F => ?_)
          unfold wpSeq
          refine b_normal ?_
          refine t_normal ?_
          refine c_text (id := 11) (by kernel_rfl) [(0, 2), (1, 2), (2, 2)] (by kernel_rfl) ?_
          refine q2 (o_s 42 (.move (.tmp 12)) 3 (by kernel_rfl)) F (by decide) (x_move (F.slot rfl)) (fun a F => ?_)
          refine q2 (o_s 43 (.binOp .add 3 (.tmp 42) (.const (.int .i64 1)) 3) 3 (by kernel_rfl)) F (by decide) (v := .int .i64 (IntKind.i64.wrap ((j : Int) + 1))) (x_int (F.slot rfl) rfl rfl) (fun a F => ?_)
          have F := F.conv (v' := .int .i64 ((j : Int) + 1)) (congrArg (Value.int .i64) (wrap_i64 _ (by omega) (by omega)))
          refine q2 (o_s 12 (.assign (.tmp 43)) 3 (by kernel_rfl)) F (by decide) (v := .int .i64 ((j : Int) + 1)) (x_assign (F.slot rfl)) (fun a F => ?_)
          unfold wpSeq
          refine t_normal ?_
          have F_ := F
          have H := H.qfQu 2 rfl
          have H := H.front 5
          have F := F.at 12 rfl (v' := .int .i64 ((j + 1 : Nat) : Int)) (congrArg (Value.int .i64) (by omega))
          have e1 : (xs.drop m).length = xs.length - m := List.length_drop
          have e3 : xin = (xout ++ xs.take m) ++ xs.drop m := by rw [hin, List.append_assoc, List.take_append_drop]
          have e4 := mul_drop T1 (xs.length : Int) ((xs.drop m).length : Int) (by omega) (by omega)
          have e5 := mul_le64 T1 (((xs.drop m)).length : Int) (by omega) (by omega) (by omega) (by omega)
          exact ⟨k - 1, by omega, j + 1, 0, (n0 + 1), _, (cutA A1 c1 m), (c1 - m), (xs.drop m), _, Ai, ci, xin, _, A20_3, c20_3, (xout ++ (xs.take m)), _, F.less _ (subc rfl (subc rfl (subc rfl (subc rfl (subc rfl (subc rfl (subc rfl (subc rfl (subc rfl (subc rfl (subc rfl (subc rfl (subc rfl (subc rfl (subc rfl (subc rfl (subc rfl (subc rfl (subc rfl (subc rfl (subc rfl (subc rfl (subc rfl (subc rfl (subc rfl (subc rfl (subc rfl (subc rfl (subc rfl (subc rfl (subc rfl (subc rfl (subc rfl sub0))))))))))))))))))))))))))))))))), H, (by omega), (by omega), hX, e3, (by omega), (by omega), (by omega), (by omega), (by omega), (by omega), (by omega), rfl, (by omega)⟩
    · refine c_text (id := 12) (by kernel_rfl) [(0, 2), (1, 2), (2, 2), (3, 2), (4, 2), (5, 2), (6, 2), (7, 2), (8, 2), (9, 2), (10, 2), (11, 2), (12, 2), (13, 2), (14, 2), (15, 2)] (by kernel_rfl) ?_
      refine q2 (o_s 44 (.move (.tmp 12)) 3 (by kernel_rfl)) F (by decide) (x_move (F.slot rfl)) (fun a F => ?_)
      refine q2 (o_s 45 (.move (.tmp 2)) 22 (by kernel_rfl)) F (by decide) (x_move (F.slot rfl)) (fun a F => ?_)
      refine q2 (o_s 46 (.call { callee := (.builtin .len), args := #[(.tmp 45)], argTypes := #[22] }) 3 (by kernel_rfl)) F (by decide) (v := .int .i64 (l.length : Int)) (x_lenL Tryd.underlying22 (F.slot rfl)) (fun a F => ?_)
      refine q2 (o_s 47 (.binOp .lss 3 (.tmp 44) (.tmp 46) 3) 4 (by kernel_rfl)) F (by decide) (v := .bool (decide ((j : Int) < (l.length : Int)))) (x_int (F.slot rfl) (F.slot rfl) rfl) (fun a F => ?_)
      refine q2 (o_s 48 (.move (.tmp 47)) 4 (by kernel_rfl)) F (by decide) (x_move (F.slot rfl)) (fun a F => ?_)
      have hb16 : decide ((j : Int) < (l.length : Int)) = false := decide_eq_false (by omega)
      have F := F.at 48 rfl (v' := .bool false) (congrArg Value.bool hb16)
      refine sqoff2 (e := 48) (o_g 49 (.move (.tmp 12)) 3 4 true (by kernel_rfl)) (by kernel_rfl) (.inl rfl) F (by decide) (trivial) (fun a F => ?_)
      refine sqoff2 (e := 48) (o_g 50 (.binOp .lss 3 (.tmp 49) (.const (.int .i64 100)) 3) 4 4 true (by kernel_rfl)) (by kernel_rfl) (.inl rfl) F (by decide) (trivial) (fun a F => ?_)
      refine q2 (o_s 51 (.pick (.tmp 48) (.tmp 50) (.const (.bool false))) 4 (by kernel_rfl)) F (by decide) (v := .bool false) (x_pickF (F.slot rfl) rfl) (fun a F => ?_)
      refine q2 (o_s 52 (.move (.tmp 51)) 4 (by kernel_rfl)) F (by decide) (x_move (F.slot rfl)) (fun a F => ?_)
      refine sqoff2 (e := 52) (o_g 53 (.move (.tmp 2)) 22 8 true (by kernel_rfl)) (by kernel_rfl) (.inl rfl) F (by decide) (trivial) (fun a F => ?_)
      refine sqoff2 (e := 52) (o_g 54 (.move (.tmp 12)) 3 8 true (by kernel_rfl)) (by kernel_rfl) (.inl rfl) F (by decide) (trivial) (fun a F => ?_)
      refine sqoff2 (e := 52) (o_g 55 (.indexAddr 22 (.tmp 53) (.tmp 54)) 0 8 true (by kernel_rfl)) (by kernel_rfl) (.inl rfl) F (by decide) (trivial) (fun a F => ?_)
      refine sqoff2 (e := 52) (o_g 56 (.fieldAddr 35 (.tmp 55) 0) 0 8 true (by kernel_rfl)) (by kernel_rfl) (.inl rfl) F (by decide) (trivial) (fun a F => ?_)
      refine sqoff2 (e := 52) (o_g 57 (.load 4 (.tmp 56)) 4 8 true (by kernel_rfl)) (by kernel_rfl) (.inl rfl) F (by decide) (trivial) (fun a F => ?_)
      refine sqoff2 (e := 52) (o_g 58 (.unOp .not 4 (.tmp 57)) 4 8 true (by kernel_rfl)) (by kernel_rfl) (.inl rfl) F (by decide) (trivial) (fun a F => ?_)
      refine q2 (o_s 59 (.pick (.tmp 52) (.tmp 58) (.const (.bool false))) 4 (by kernel_rfl)) F (by decide) (v := .bool false) (x_pickF (F.slot rfl) rfl) (fun a F => ?_)
      unfold wpSeq
      refine t_normal ?_
      refine c_no (c := .tmp 59) (by kernel_rfl) (F.slot rfl) ?_
      refine c_skip (by kernel_rfl) ?_
      refine t_normal ?_
      refine c_seq (by kernel_rfl) ?_
      rcases (show xs.length = 0 ∨ (xs.length ≠ 0 ∧ ((xs.length : Int) < z1 ∧ k0 + 1 < T1)) ∨ (xs.length ≠ 0 ∧ ¬ ((xs.length : Int) < z1 ∧ k0 + 1 < T1)) by omega) with hx0 | ⟨hx0, hw⟩ | ⟨hx0, hw⟩
      · refine c_text (id := 15) (by kernel_rfl) [(0, 2), (1, 2), (2, 2), (3, 2), (4, 2), (5, 2), (6, 2), (7, 2)] (by kernel_rfl) ?_
        refine q2 (o_s 78 (.move (.tmp 7)) 23 (by kernel_rfl)) F (by decide) (x_move (F.slot rfl)) (fun a F => ?_)
        have HS := H.select [1, 2] [Asn.blk ga [.int .i64 3, .int .i64 z1, .int .i64 T1, .slice A1 xs.length c1, .int .i64 k0, .int .i64 n0] 72, Asn.qu k33 33 (.slice A1 xs.length c1) xs ok1] rfl (by decide)
        refine sqc (o_s 79 (.call { callee := (.value (.func 21)), args := #[(.tmp 78)], argTypes := #[23] }) 41 (by kernel_rfl)) trivial F (by decide) (x_call Tryd.func21 (by kernel_rfl) rfl (args_1 (F.slot rfl))) ((tick_calls ga 3 z1 T1 k0 n0 A1 c1 xs ok1 W (by omega) (by omega) (by omega) (by omega) (by omega) (by omega) (by omega) HS).mono (fun _ _ h => h.none hx0)) ?_
        rintro e W ⟨rfl, H1⟩
        refine ⟨_, rfl, fun a F => ?_⟩
        have H := H.back [1, 2] [Asn.blk ga [.int .i64 3, .int .i64 z1, .int .i64 T1, .slice A1 xs.length c1, .int .i64 k0, .int .i64 n0] 72, Asn.qu k33 33 (.slice A1 xs.length c1) xs ok1] rfl (by decide) [Asn.blk ga [.int .i64 3, .int .i64 z1, .int .i64 T1, .slice A1 xs.length c1, .int .i64 k0, .int .i64 n0] 72, Asn.qu k33 33 (.slice A1 xs.length c1) xs ok1] [] rfl H1
        clear HS H1
        refine ⟨(fun _ => trivial), ?_⟩
        refine q2 (o_s 77 (.move (.tmp 79)) 41 (by kernel_rfl)) F (by decide) (x_move (F.slot rfl)) (fun a F => ?_)
        refine q2 (o_s 80 (.extract (.tmp 77) 0) 40 (by kernel_rfl)) F (by decide) (v := .agg #[.int .i64 0, .int .i64 0, .slice none 0 0]) (x_extract (F.slot rfl) rfl) (fun a F => ?_)
        refine q2 (o_s 81 (.extract (.tmp 77) 1) 4 (by kernel_rfl)) F (by decide) (v := .bool false) (x_extract (F.slot rfl) rfl) (fun a F => ?_)
        refine sq_new (o_s 13 (.alloc 40) 0 (by kernel_rfl)) trivial F (by decide) H [.int .i64 0, .int .i64 0, .slice none 0 0] 40 (x_alloc Tryd.zeroValue40 rfl) ?_
        intro g17 W a hg17 H F
        refine ⟨(fun _ => trivial), ?_⟩
        refine sq_put (M := [Asn.rd kOp (fun k => k < w.heap.size) A l.length l, Asn.blk ga [.int .i64 3, .int .i64 z1, .int .i64 T1, .slice A1 xs.length c1, .int .i64 k0, .int .i64 n0] 72, Asn.qu k33 33 (.slice A1 xs.length c1) xs ok1, Asn.qu k33 33 (.slice Ai xin.length ci) xin oki, Asn.qu k33 33 (.slice Ao xout.length co) xout oko, Asn.blk g17 [.int .i64 0, .int .i64 0, .slice none 0 0] 40]) (o_n (.store 40 (.tmp 13) (.tmp 80)) 0 (by kernel_rfl)) trivial F (x_store H (k := 5) (cs' := [.int .i64 0, .int .i64 0, .slice none 0 0]) rfl (Tryd.sizeOf40 W) (F.slot rfl) (F.slot rfl) rfl (Nat.le_of_ble_eq_true rfl) rfl rfl) ?_
        intro W H
        refine ⟨(fun _ => trivial), ?_⟩
        refine q2 (o_s 14 (.assign (.tmp 81)) 4 (by kernel_rfl)) F (by decide) (v := .bool false) (x_assign (F.slot rfl)) (fun a F => ?_)
        unfold wpSeq
        refine t_normal ?_
        refine c_seq (by kernel_rfl) ?_
        refine c_seq (by kernel_rfl) ?_
        refine c_text (id := 16) (by kernel_rfl) [(0, 2), (1, 2)] (by kernel_rfl) ?_
        refine q2 (o_s 82 (.move (.tmp 14)) 4 (by kernel_rfl)) F (by decide) (x_move (F.slot rfl)) (fun a F => ?_)
        refine q2 (o_s 83 (.unOp .not 4 (.tmp 82)) 4 (by kernel_rfl)) F (by decide) (v := .bool true) (x_not (b := false) (F.slot rfl)) (fun a F => ?_)
        unfold wpSeq
        refine t_normal ?_
        refine c_yes (c := .tmp 83) (by kernel_rfl) (F.slot rfl) ?_
        refine c_exit (id := 1) (by kernel_rfl) ?_
        refine t_exit ?_
        refine b_here ?_
        refine t_normal ?_
        refine c_text (id := 11) (by kernel_rfl) [(0, 2), (1, 2), (2, 2)] (by kernel_rfl) ?_
        refine q2 (o_s 42 (.move (.tmp 12)) 3 (by kernel_rfl)) F (by decide) (x_move (F.slot rfl)) (fun a F => ?_)
        refine q2 (o_s 43 (.binOp .add 3 (.tmp 42) (.const (.int .i64 1)) 3) 3 (by kernel_rfl)) F (by decide) (v := .int .i64 (IntKind.i64.wrap ((j : Int) + 1))) (x_int (F.slot rfl) rfl rfl) (fun a F => ?_)
        have F := F.conv (v' := .int .i64 ((j : Int) + 1)) (congrArg (Value.int .i64) (wrap_i64 _ (by omega) (by omega)))
        refine q2 (o_s 12 (.assign (.tmp 43)) 3 (by kernel_rfl)) F (by decide) (v := .int .i64 ((j : Int) + 1)) (x_assign (F.slot rfl)) (fun a F => ?_)
        unfold wpSeq
        refine t_normal ?_
        have F_ := F
        have H := H.front 5
        have F := F.at 12 rfl (v' := .int .i64 ((j + 1 : Nat) : Int)) (congrArg (Value.int .i64) (by omega))
        have e6 : p0 = 0 := by rw [← hp0, hx0]; simp
        have e5 := mul_le64 T1 ((xs).length : Int) (by omega) (by omega) (by omega) (by omega)
        exact ⟨k - 1, by omega, j + 1, k0, n0, _, A1, c1, xs, _, Ai, ci, xin, _, Ao, co, xout, _, F.less _ (subc rfl (subc rfl (subc rfl (subc rfl (subc rfl (subc rfl (subc rfl (subc rfl (subc rfl (subc rfl (subc rfl (subc rfl (subc rfl (subc rfl (subc rfl (subc rfl (subc rfl (subc rfl (subc rfl (subc rfl (subc rfl (subc rfl (subc rfl (subc rfl (subc rfl (subc rfl (subc rfl (subc rfl (subc rfl (subc rfl (subc rfl (subc rfl (subc rfl sub0))))))))))))))))))))))))))))))))), H, (by omega), (by omega), hX, hin, (by omega), (by omega), (by omega), (by omega), (by omega), (by omega), (by omega), rfl, (by omega)⟩
      · refine c_text (id := 15) (by kernel_rfl) [(0, 2), (1, 2), (2, 2), (3, 2), (4, 2), (5, 2), (6, 2), (7, 2)] (by kernel_rfl) ?_
        refine q2 (o_s 78 (.move (.tmp 7)) 23 (by kernel_rfl)) F (by decide) (x_move (F.slot rfl)) (fun a F => ?_)
        have HS := H.select [1, 2] [Asn.blk ga [.int .i64 3, .int .i64 z1, .int .i64 T1, .slice A1 xs.length c1, .int .i64 k0, .int .i64 n0] 72, Asn.qu k33 33 (.slice A1 xs.length c1) xs ok1] rfl (by decide)
        refine sqc (o_s 79 (.call { callee := (.value (.func 21)), args := #[(.tmp 78)], argTypes := #[23] }) 41 (by kernel_rfl)) trivial F (by decide) (x_call Tryd.func21 (by kernel_rfl) rfl (args_1 (F.slot rfl))) ((tick_calls ga 3 z1 T1 k0 n0 A1 c1 xs ok1 W (by omega) (by omega) (by omega) (by omega) (by omega) (by omega) (by omega) HS).mono (fun _ _ h => h.wait hx0 hw)) ?_
        rintro e W ⟨rfl, H1⟩
        refine ⟨_, rfl, fun a F => ?_⟩
        have H := H.back [1, 2] [Asn.blk ga [.int .i64 3, .int .i64 z1, .int .i64 T1, .slice A1 xs.length c1, .int .i64 k0, .int .i64 n0] 72, Asn.qu k33 33 (.slice A1 xs.length c1) xs ok1] rfl (by decide) [Asn.blk ga [.int .i64 3, .int .i64 z1, .int .i64 T1, .slice A1 xs.length c1, .int .i64 (k0 + 1), .int .i64 n0] 72, Asn.qu k33 33 (.slice A1 xs.length c1) xs ok1] [] rfl H1
        clear HS H1
        have H : St w (fun _ => False) (fun _ => True) [Asn.rd kOp (fun k => k < w.heap.size) A l.length l, Asn.blk ga [.int .i64 3, .int .i64 z1, .int .i64 T1, .slice A1 xs.length c1, .int .i64 (k0 + 1), .int .i64 n0] 72, Asn.qu k33 33 (.slice A1 xs.length c1) xs ok1, Asn.qu k33 33 (.slice Ai xin.length ci) xin oki, Asn.qu k33 33 (.slice Ao xout.length co) xout oko] W := H
        refine ⟨(fun _ => trivial), ?_⟩
        refine q2 (o_s 77 (.move (.tmp 79)) 41 (by kernel_rfl)) F (by decide) (x_move (F.slot rfl)) (fun a F => ?_)
        refine q2 (o_s 80 (.extract (.tmp 77) 0) 40 (by kernel_rfl)) F (by decide) (v := .agg #[.int .i64 0, .int .i64 0, .slice none 0 0]) (x_extract (F.slot rfl) rfl) (fun a F => ?_)
        refine q2 (o_s 81 (.extract (.tmp 77) 1) 4 (by kernel_rfl)) F (by decide) (v := .bool false) (x_extract (F.slot rfl) rfl) (fun a F => ?_)
        refine sq_new (o_s 13 (.alloc 40) 0 (by kernel_rfl)) trivial F (by decide) H [.int .i64 0, .int .i64 0, .slice none 0 0] 40 (x_alloc Tryd.zeroValue40 rfl) ?_
        intro g18 W a hg18 H F
        refine ⟨(fun _ => trivial), ?_⟩
        refine sq_put (M := [Asn.rd kOp (fun k => k < w.heap.size) A l.length l, Asn.blk ga [.int .i64 3, .int .i64 z1, .int .i64 T1, .slice A1 xs.length c1, .int .i64 (k0 + 1), .int .i64 n0] 72, Asn.qu k33 33 (.slice A1 xs.length c1) xs ok1, Asn.qu k33 33 (.slice Ai xin.length ci) xin oki, Asn.qu k33 33 (.slice Ao xout.length co) xout oko, Asn.blk g18 [.int .i64 0, .int .i64 0, .slice none 0 0] 40]) (o_n (.store 40 (.tmp 13) (.tmp 80)) 0 (by kernel_rfl)) trivial F (x_store H (k := 5) (cs' := [.int .i64 0, .int .i64 0, .slice none 0 0]) rfl (Tryd.sizeOf40 W) (F.slot rfl) (F.slot rfl) rfl (Nat.le_of_ble_eq_true rfl) rfl rfl) ?_
        intro W H
        refine ⟨(fun _ => trivial), ?_⟩
        refine q2 (o_s 14 (.assign (.tmp 81)) 4 (by kernel_rfl)) F (by decide) (v := .bool false) (x_assign (F.slot rfl)) (fun a F => ?_)
        unfold wpSeq
        refine t_normal ?_
        refine c_seq (by kernel_rfl) ?_
        refine c_seq (by kernel_rfl) ?_
        refine c_text (id := 16) (by kernel_rfl) [(0, 2), (1, 2)] (by kernel_rfl) ?_
        refine q2 (o_s 82 (.move (.tmp 14)) 4 (by kernel_rfl)) F (by decide) (x_move (F.slot rfl)) (fun a F => ?_)
        refine q2 (o_s 83 (.unOp .not 4 (.tmp 82)) 4 (by kernel_rfl)) F (by decide) (v := .bool true) (x_not (b := false) (F.slot rfl)) (fun a F => ?_)
        unfold wpSeq
        refine t_normal ?_
        refine c_yes (c := .tmp 83) (by kernel_rfl) (F.slot rfl) ?_
        refine c_exit (id := 1) (by kernel_rfl) ?_
        refine t_exit ?_
        refine b_here ?_
        refine t_normal ?_
        refine c_text (id := 11) (by kernel_rfl) [(0, 2), (1, 2), (2, 2)] (by kernel_rfl) ?_
        refine q2 (o_s 42 (.move (.tmp 12)) 3 (by kernel_rfl)) F (by decide) (x_move (F.slot rfl)) (fun a F => ?_)
        refine q2 (o_s 43 (.binOp .add 3 (.tmp 42) (.const (.int .i64 1)) 3) 3 (by kernel_rfl)) F (by decide) (v := .int .i64 (IntKind.i64.wrap ((j : Int) + 1))) (x_int (F.slot rfl) rfl rfl) (fun a F => ?_)
        have F := F.conv (v' := .int .i64 ((j : Int) + 1)) (congrArg (Value.int .i64) (wrap_i64 _ (by omega) (by omega)))
        refine q2 (o_s 12 (.assign (.tmp 43)) 3 (by kernel_rfl)) F (by decide) (v := .int .i64 ((j : Int) + 1)) (x_assign (F.slot rfl)) (fun a F => ?_)
        unfold wpSeq
        refine t_normal ?_
        have F_ := F
        have H := H.front 5
        have F := F.at 12 rfl (v' := .int .i64 ((j + 1 : Nat) : Int)) (congrArg (Value.int .i64) (by omega))
        have e5 := mul_le64 T1 ((xs).length : Int) (by omega) (by omega) (by omega) (by omega)
        exact ⟨k - 1, by omega, j + 1, (k0 + 1), n0, _, A1, c1, xs, _, Ai, ci, xin, _, Ao, co, xout, _, F.less _ (subc rfl (subc rfl (subc rfl (subc rfl (subc rfl (subc rfl (subc rfl (subc rfl (subc rfl (subc rfl (subc rfl (subc rfl (subc rfl (subc rfl (subc rfl (subc rfl (subc rfl (subc rfl (subc rfl (subc rfl (subc rfl (subc rfl (subc rfl (subc rfl (subc rfl (subc rfl (subc rfl (subc rfl (subc rfl (subc rfl (subc rfl (subc rfl (subc rfl sub0))))))))))))))))))))))))))))))))), H, (by omega), (by omega), hX, hin, (by omega), (by omega), (by omega), (by omega), (by omega), (by omega), (by omega), rfl, (by omega)⟩
      · obtain ⟨m, hm⟩ : ∃ m : Nat, (m : Int) = min z1 (xs.length : Int) := ⟨(min z1 (xs.length : Int)).toNat, by omega⟩
        have htk : (xs.take m).length = m := by rw [List.length_take]; omega
        have hb0 : bchk 3 (n0 + 1) (xs.take m) = 0 := bchk_of (by omega) (by omega) (by omega) (by omega) (fun x hx => hX x (hin ▸ List.mem_append_right _ (List.mem_of_mem_take hx)))
        refine c_text (id := 15) (by kernel_rfl) [(0, 2), (1, 2), (2, 2), (3, 2), (4, 2), (5, 2), (6, 2), (7, 2)] (by kernel_rfl) ?_
        refine q2 (o_s 78 (.move (.tmp 7)) 23 (by kernel_rfl)) F (by decide) (x_move (F.slot rfl)) (fun a F => ?_)
        have HS := H.select [1, 2] [Asn.blk ga [.int .i64 3, .int .i64 z1, .int .i64 T1, .slice A1 xs.length c1, .int .i64 k0, .int .i64 n0] 72, Asn.qu k33 33 (.slice A1 xs.length c1) xs ok1] rfl (by decide)
        refine sqc (o_s 79 (.call { callee := (.value (.func 21)), args := #[(.tmp 78)], argTypes := #[23] }) 41 (by kernel_rfl)) trivial F (by decide) (x_call Tryd.func21 (by kernel_rfl) rfl (args_1 (F.slot rfl))) ((tick_calls ga 3 z1 T1 k0 n0 A1 c1 xs ok1 W (by omega) (by omega) (by omega) (by omega) (by omega) (by omega) (by omega) HS).mono (fun _ _ h => h.seal hx0 hw m hm)) ?_
        rintro e W ⟨rfl, H1⟩
        refine ⟨_, rfl, fun a F => ?_⟩
        have H := H.back [1, 2] [Asn.blk ga [.int .i64 3, .int .i64 z1, .int .i64 T1, .slice A1 xs.length c1, .int .i64 k0, .int .i64 n0] 72, Asn.qu k33 33 (.slice A1 xs.length c1) xs ok1] rfl (by decide) [Asn.blk ga [.int .i64 3, .int .i64 z1, .int .i64 T1, .slice (cutA A1 c1 m) ((xs.drop m).length) (c1 - m), .int .i64 0, .int .i64 (n0 + 1)] 72, Asn.qf k33 33 (.slice (cutA A1 c1 m) (xs.drop m).length (c1 - m)) (xs.drop m) ok1 A1 (xs.take m).length (xs.take m)] [] rfl H1
        clear HS H1
        have H : St w (fun _ => False) (fun _ => True) [Asn.rd kOp (fun k => k < w.heap.size) A l.length l, Asn.blk ga [.int .i64 3, .int .i64 z1, .int .i64 T1, .slice (cutA A1 c1 m) ((xs.drop m).length) (c1 - m), .int .i64 0, .int .i64 (n0 + 1)] 72, Asn.qf k33 33 (.slice (cutA A1 c1 m) (xs.drop m).length (c1 - m)) (xs.drop m) ok1 A1 (xs.take m).length (xs.take m), Asn.qu k33 33 (.slice Ai xin.length ci) xin oki, Asn.qu k33 33 (.slice Ao xout.length co) xout oko] W := H
        refine ⟨(fun _ => trivial), ?_⟩
        refine q2 (o_s 77 (.move (.tmp 79)) 41 (by kernel_rfl)) F (by decide) (x_move (F.slot rfl)) (fun a F => ?_)
        refine q2 (o_s 80 (.extract (.tmp 77) 0) 40 (by kernel_rfl)) F (by decide) (v := .agg #[.int .i64 3, .int .i64 (n0 + 1), .slice A1 ((xs.take m).length) m]) (x_extract (F.slot rfl) rfl) (fun a F => ?_)
        refine q2 (o_s 81 (.extract (.tmp 77) 1) 4 (by kernel_rfl)) F (by decide) (v := .bool true) (x_extract (F.slot rfl) rfl) (fun a F => ?_)
        refine sq_new (o_s 13 (.alloc 40) 0 (by kernel_rfl)) trivial F (by decide) H [.int .i64 0, .int .i64 0, .slice none 0 0] 40 (x_alloc Tryd.zeroValue40 rfl) ?_
        intro g19 W a hg19 H F
        refine ⟨(fun _ => trivial), ?_⟩
        refine sq_put (M := [Asn.rd kOp (fun k => k < w.heap.size) A l.length l, Asn.blk ga [.int .i64 3, .int .i64 z1, .int .i64 T1, .slice (cutA A1 c1 m) ((xs.drop m).length) (c1 - m), .int .i64 0, .int .i64 (n0 + 1)] 72, Asn.qf k33 33 (.slice (cutA A1 c1 m) (xs.drop m).length (c1 - m)) (xs.drop m) ok1 A1 (xs.take m).length (xs.take m), Asn.qu k33 33 (.slice Ai xin.length ci) xin oki, Asn.qu k33 33 (.slice Ao xout.length co) xout oko, Asn.blk g19 [.int .i64 3, .int .i64 (n0 + 1), .slice A1 ((xs.take m).length) m] 40]) (o_n (.store 40 (.tmp 13) (.tmp 80)) 0 (by kernel_rfl)) trivial F (x_store H (k := 5) (cs' := [.int .i64 3, .int .i64 (n0 + 1), .slice A1 ((xs.take m).length) m]) rfl (Tryd.sizeOf40 W) (F.slot rfl) (F.slot rfl) rfl (Nat.le_of_ble_eq_true rfl) rfl rfl) ?_
        intro W H
        refine ⟨(fun _ => trivial), ?_⟩
        refine q2 (o_s 14 (.assign (.tmp 81)) 4 (by kernel_rfl)) F (by decide) (v := .bool true) (x_assign (F.slot rfl)) (fun a F => ?_)
        unfold wpSeq
        refine t_normal ?_
        refine c_seq (by kernel_rfl) ?_
        refine c_seq (by kernel_rfl) ?_
        refine c_text (id := 16) (by kernel_rfl) [(0, 2), (1, 2)] (by kernel_rfl) ?_
        refine q2 (o_s 82 (.move (.tmp 14)) 4 (by kernel_rfl)) F (by decide) (x_move (F.slot rfl)) (fun a F => ?_)
        refine q2 (o_s 83 (.unOp .not 4 (.tmp 82)) 4 (by kernel_rfl)) F (by decide) (v := .bool false) (x_not (b := true) (F.slot rfl)) (fun a F => ?_)
        unfold wpSeq
        refine t_normal ?_
        refine c_no (c := .tmp 83) (by kernel_rfl) (F.slot rfl) ?_
        refine c_skip (by kernel_rfl) ?_
        refine t_normal ?_
        refine c_seq (by kernel_rfl) ?_
        refine c_text (id := 17) (by kernel_rfl) [(0, 2), (1, 2), (2, 2)] (by kernel_rfl) ?_
        refine q2 (o_s 84 (.move (.tmp 11)) 3 (by kernel_rfl)) F (by decide) (x_move (F.slot rfl)) (fun a F => ?_)
        refine q2 (o_s 85 (.binOp .add 3 (.tmp 84) (.const (.int .i64 1)) 3) 3 (by kernel_rfl)) F (by decide) (v := .int .i64 (IntKind.i64.wrap (n0 + 1))) (x_int (F.slot rfl) rfl rfl) (fun a F => ?_)
        have F := F.conv (v' := .int .i64 (n0 + 1)) (congrArg (Value.int .i64) (wrap_i64 _ (by omega) (by omega)))
        refine q2 (o_s 11 (.assign (.tmp 85)) 3 (by kernel_rfl)) F (by decide) (v := .int .i64 (n0 + 1)) (x_assign (F.slot rfl)) (fun a F => ?_)
        unfold wpSeq
        refine t_normal ?_
        refine c_seq (by kernel_rfl) ?_
        refine c_seq (by kernel_rfl) ?_
        refine c_text (id := 18) (by kernel_rfl) [(0, 2), (1, 2), (2, 2), (3, 2), (4, 2), (5, 2), (6, 2), (7, 2), (8, 2), (9, 2), (10, 2), (11, 2), (12, 2), (13, 2), (14, 2), (15, 2), (16, 2), (17, 2), (18, 2), (19, 2), (20, 2), (21, 2)] (by kernel_rfl) ?_
        refine q2 (o_s 86 (.load 40 (.tmp 13)) 40 (by kernel_rfl)) F (by decide) (v := .agg #[.int .i64 3, .int .i64 (n0 + 1), .slice A1 ((xs.take m).length) m]) (x_loadB (Tryd.isAgg40 W) [.int .i64 3, .int .i64 (n0 + 1), .slice A1 ((xs.take m).length) m] (Tryd.sizeOf40 W) (F.slot rfl) (H.blk 5 rfl)) (fun a F => ?_)
        refine sqc (o_s 87 (.call { callee := (.value (.func 30)), args := #[(.tmp 86)], argTypes := #[40] }) 40 (by kernel_rfl)) trivial F (by decide) (x_call Tryd.func30 (by kernel_rfl) rfl (args_1 (F.slot rfl))) (bown_calls 3 (n0 + 1) A1 m (xs.take m) W (by omega) (fun t ht => chT_lenB (hX t (hin ▸ List.mem_append_right _ (List.mem_of_mem_take ht)))) (H.qfRead 2 rfl) (by omega)) ?_
        rintro e W ⟨Aw, cw, rfl, hcw, hF, hB⟩
        refine ⟨_, rfl, fun a F => ?_⟩
        have H := H.freshF hB _ _ hF (fun k hk => hk)
        have H : St w (fun _ => False) (fun _ => True) [Asn.rd kOp (fun k => k < w.heap.size) A l.length l, Asn.blk ga [.int .i64 3, .int .i64 z1, .int .i64 T1, .slice (cutA A1 c1 m) ((xs.drop m).length) (c1 - m), .int .i64 0, .int .i64 (n0 + 1)] 72, Asn.qf k33 33 (.slice (cutA A1 c1 m) (xs.drop m).length (c1 - m)) (xs.drop m) ok1 A1 (xs.take m).length (xs.take m), Asn.qu k33 33 (.slice Ai xin.length ci) xin oki, Asn.qu k33 33 (.slice Ao xout.length co) xout oko, Asn.blk g19 [.int .i64 3, .int .i64 (n0 + 1), .slice A1 ((xs.take m).length) m] 40, Asn.rd k33 _ Aw ((xs.take m).length) (xs.take m)] W := H
        refine ⟨(fun _ => trivial), ?_⟩
        have HK := bchk_calls 3 (n0 + 1) Aw cw (xs.take m) W (by omega) (H.rd 6 rfl) hcw
        rw [hb0] at HK
        refine sqc (o_s 88 (.call { callee := (.value (.func 33)), args := #[(.tmp 87)], argTypes := #[40] }) 24 (by kernel_rfl)) trivial F (by decide) (x_call Tryd.func33 (by kernel_rfl) rfl (args_1 (F.slot rfl))) (HK) ?_
        rintro e W ⟨rfl, hB⟩
        refine ⟨_, rfl, fun a F => ?_⟩
        have H := H.below hB
        refine ⟨(fun _ => trivial), ?_⟩
        refine q2 (o_s 89 (.binOp .neq 24 (.tmp 88) (.const (.int .i64 0)) 24) 4 (by kernel_rfl)) F (by decide) (v := .bool false) (x_int (F.slot rfl) rfl rfl) (fun a F => ?_)
        refine q2 (o_s 90 (.move (.tmp 89)) 4 (by kernel_rfl)) F (by decide) (x_move (F.slot rfl)) (fun a F => ?_)
        refine sq2 (W' := W) (o_g 91 (.fieldAddr 40 (.tmp 13) 0) 0 4 false (by kernel_rfl)) ⟨90, by kernel_rfl, rfl⟩ F (by decide) (v := .pointer (some ⟨g19, 0, none⟩)) (x_field0 Tryd.underlying40 rfl rfl (Tryd.sizeOf3 W) (F.slot rfl)) (fun _ => trivial) (fun a F => ?_)
        refine sq2 (o_g 92 (.load 3 (.tmp 91)) 3 4 false (by kernel_rfl)) ⟨90, by kernel_rfl, rfl⟩ F (by decide) (v := .int .i64 3) (x_load1 (Tryd.isAgg3 W) (F.slot rfl) (H.cell 5 rfl rfl)) (fun _ => trivial) (fun a F => ?_)
        refine sq2 (W' := W) (o_g 93 (.binOp .neq 3 (.tmp 92) (.const (.int .i64 3)) 3) 4 4 false (by kernel_rfl)) ⟨90, by kernel_rfl, rfl⟩ F (by decide) (v := .bool false) (x_int (F.slot rfl) rfl rfl) (fun _ => trivial) (fun a F => ?_)
        refine q2 (o_s 94 (.pick (.tmp 90) (.const (.bool true)) (.tmp 93)) 4 (by kernel_rfl)) F (by decide) (v := .bool false) (x_pickF (F.slot rfl) (F.slot rfl)) (fun a F => ?_)
        refine q2 (o_s 95 (.move (.tmp 94)) 4 (by kernel_rfl)) F (by decide) (x_move (F.slot rfl)) (fun a F => ?_)
        refine sq2 (W' := W) (o_g 96 (.fieldAddr 40 (.tmp 13) 1) 0 9 false (by kernel_rfl)) ⟨95, by kernel_rfl, rfl⟩ F (by decide) (v := .pointer (some ⟨g19, 1, none⟩)) (x_field0 Tryd.underlying40 rfl rfl (Tryd.sizeOf3 W) (F.slot rfl)) (fun _ => trivial) (fun a F => ?_)
        refine sq2 (o_g 97 (.load 3 (.tmp 96)) 3 9 false (by kernel_rfl)) ⟨95, by kernel_rfl, rfl⟩ F (by decide) (v := .int .i64 (n0 + 1)) (x_load1 (Tryd.isAgg3 W) (F.slot rfl) (H.cell 5 rfl rfl)) (fun _ => trivial) (fun a F => ?_)
        refine sq2 (W' := W) (o_g 98 (.move (.tmp 11)) 3 9 false (by kernel_rfl)) ⟨95, by kernel_rfl, rfl⟩ F (by decide) (v := .int .i64 (n0 + 1)) (x_move (F.slot rfl)) (fun _ => trivial) (fun a F => ?_)
        refine sq2 (W' := W) (o_g 99 (.binOp .neq 3 (.tmp 97) (.tmp 98) 3) 4 9 false (by kernel_rfl)) ⟨95, by kernel_rfl, rfl⟩ F (by decide) (v := .bool ((n0 + 1) != (n0 + 1))) (x_int (F.slot rfl) (F.slot rfl) rfl) (fun _ => trivial) (fun a F => ?_)
        refine q2 (o_s 100 (.pick (.tmp 95) (.const (.bool true)) (.tmp 99)) 4 (by kernel_rfl)) F (by decide) (v := .bool ((n0 + 1) != (n0 + 1))) (x_pickF (F.slot rfl) (F.slot rfl)) (fun a F => ?_)
        refine q2 (o_s 101 (.move (.tmp 100)) 4 (by kernel_rfl)) F (by decide) (x_move (F.slot rfl)) (fun a F => ?_)
        have hb20 : ((n0 + 1) != (n0 + 1)) = false := by simp
        have F := F.at 101 rfl (v' := .bool false) (congrArg Value.bool hb20)
        refine sq2 (W' := W) (o_g 102 (.fieldAddr 40 (.tmp 13) 2) 0 15 false (by kernel_rfl)) ⟨101, by kernel_rfl, rfl⟩ F (by decide) (v := .pointer (some ⟨g19, 2, none⟩)) (x_field0 Tryd.underlying40 rfl rfl (Tryd.sizeOf38 W) (F.slot rfl)) (fun _ => trivial) (fun a F => ?_)
        refine sq2 (o_g 103 (.load 38 (.tmp 102)) 38 15 false (by kernel_rfl)) ⟨101, by kernel_rfl, rfl⟩ F (by decide) (v := .slice A1 ((xs.take m).length) m) (x_load1 (Tryd.isAgg38 W) (F.slot rfl) (H.cell 5 rfl rfl)) (fun _ => trivial) (fun a F => ?_)
        refine sq2 (W' := W) (o_g 104 (.call { callee := (.builtin .len), args := #[(.tmp 103)], argTypes := #[38] }) 3 15 false (by kernel_rfl)) ⟨101, by kernel_rfl, rfl⟩ F (by decide) (v := .int .i64 ((xs.take m).length : Int)) (x_lenL Tryd.underlying38 (F.slot rfl)) (fun _ => trivial) (fun a F => ?_)
        refine sq2 (W' := W) (o_g 105 (.move (.tmp 0)) 3 15 false (by kernel_rfl)) ⟨101, by kernel_rfl, rfl⟩ F (by decide) (v := .int .i64 z1) (x_move (F.slot rfl)) (fun _ => trivial) (fun a F => ?_)
        refine sq2 (W' := W) (o_g 106 (.binOp .gtr 3 (.tmp 104) (.tmp 105) 3) 4 15 false (by kernel_rfl)) ⟨101, by kernel_rfl, rfl⟩ F (by decide) (v := .bool (decide (((xs.take m).length : Int) > z1))) (x_int (F.slot rfl) (F.slot rfl) rfl) (fun _ => trivial) (fun a F => ?_)
        refine q2 (o_s 107 (.pick (.tmp 101) (.const (.bool true)) (.tmp 106)) 4 (by kernel_rfl)) F (by decide) (v := .bool (decide (((xs.take m).length : Int) > z1))) (x_pickF (F.slot rfl) (F.slot rfl)) (fun a F => ?_)
        unfold wpSeq
        refine t_normal ?_
        have hb21 : decide (((xs.take m).length : Int) > z1) = false := decide_eq_false (by omega)
        have F := F.at 107 rfl (v' := .bool false) (congrArg Value.bool hb21)
        refine c_no (c := .tmp 107) (by kernel_rfl) (F.slot rfl) ?_
        refine c_skip (by kernel_rfl) ?_
        refine t_normal ?_
        refine c_text (id := 20) (by kernel_rfl) [(0, 2), (1, 2), (2, 2), (3, 2), (4, 2)] (by kernel_rfl) ?_
        refine q2 (o_s 108 (.move (.tmp 10)) 38 (by kernel_rfl)) F (by decide) (x_move (F.slot rfl)) (fun a F => ?_)
        refine q2 (o_s 109 (.fieldAddr 40 (.tmp 13) 2) 0 (by kernel_rfl)) F (by decide) (v := .pointer (some ⟨g19, 2, none⟩)) (x_field0 Tryd.underlying40 rfl rfl (Tryd.sizeOf38 W) (F.slot rfl)) (fun a F => ?_)
        refine q2 (o_s 110 (.load 38 (.tmp 109)) 38 (by kernel_rfl)) F (by decide) (v := .slice A1 ((xs.take m).length) m) (x_load1 (Tryd.isAgg38 W) (F.slot rfl) (H.cell 5 rfl rfl)) (fun a F => ?_)
        refine sq_fapp k33 4 2 (by decide) (o_s 111 (.call { callee := (.builtin .append), args := #[(.tmp 108), (.tmp 110)], argTypes := #[38, 38] }) 38 (by kernel_rfl)) trivial F (by decide) (F.slot rfl) (F.slot rfl) (rfl) Tryd.underlying38 (show (Tryd.prog.info? 33).map (fun i => (i.zero, i.size, i.bytes)) = some (some (.agg #[.int .i64 0, .string ⟨#[]⟩, .string ⟨#[]⟩, .int .u64 0, .int .u64 0, .string ⟨#[]⟩, .string ⟨#[]⟩, .slice none 0 0, .slice none 0 0]), 9, 136) by kernel_rfl) rfl (by decide) (by decide) H rfl rfl (by omega) ?_
        intro v_ W a H F
        obtain ⟨A20_3, c20_3, rfl, hc20_3⟩ := (H.qu 4 rfl).form
        have H : St w (fun _ => False) (fun _ => True) [Asn.rd kOp (fun k => k < w.heap.size) A l.length l, Asn.blk ga [.int .i64 3, .int .i64 z1, .int .i64 T1, .slice (cutA A1 c1 m) ((xs.drop m).length) (c1 - m), .int .i64 0, .int .i64 (n0 + 1)] 72, Asn.qf k33 33 (.slice (cutA A1 c1 m) (xs.drop m).length (c1 - m)) (xs.drop m) ok1 A1 (xs.take m).length (xs.take m), Asn.qu k33 33 (.slice Ai xin.length ci) xin oki, Asn.qu k33 33 (.slice A20_3 (((xout ++ (xs.take m))).length) c20_3) (xout ++ (xs.take m)) (fun k => oko k ∨ ok1 k), Asn.blk g19 [.int .i64 3, .int .i64 (n0 + 1), .slice A1 ((xs.take m).length) m] 40, Asn.rd k33 _ Aw ((xs.take m).length) (xs.take m)] W := H
        refine ⟨(fun _ => trivial), ?_⟩
        refine q2 (o_s 10 (.assign (.tmp 111)) 38 (by kernel_rfl)) F (by decide) (v := .slice A20_3 (((xout ++ (xs.take m))).length) c20_3) (x_assign (F.slot rfl)) (fun a F => ?_)
        unfold wpSeq
        refine b_normal ?_
        refine t_normal ?_
        refine c_text (id := 11) (by kernel_rfl) [(0, 2), (1, 2), (2, 2)] (by kernel_rfl) ?_
        refine q2 (o_s 42 (.move (.tmp 12)) 3 (by kernel_rfl)) F (by decide) (x_move (F.slot rfl)) (fun a F => ?_)
        refine q2 (o_s 43 (.binOp .add 3 (.tmp 42) (.const (.int .i64 1)) 3) 3 (by kernel_rfl)) F (by decide) (v := .int .i64 (IntKind.i64.wrap ((j : Int) + 1))) (x_int (F.slot rfl) rfl rfl) (fun a F => ?_)
        have F := F.conv (v' := .int .i64 ((j : Int) + 1)) (congrArg (Value.int .i64) (wrap_i64 _ (by omega) (by omega)))
        refine q2 (o_s 12 (.assign (.tmp 43)) 3 (by kernel_rfl)) F (by decide) (v := .int .i64 ((j : Int) + 1)) (x_assign (F.slot rfl)) (fun a F => ?_)
        unfold wpSeq
        refine t_normal ?_
        have F_ := F
        have H := H.qfQu 2 rfl
        have H := H.front 5
        have F := F.at 12 rfl (v' := .int .i64 ((j + 1 : Nat) : Int)) (congrArg (Value.int .i64) (by omega))
        have e1 : (xs.drop m).length = xs.length - m := List.length_drop
        have e3 : xin = (xout ++ xs.take m) ++ xs.drop m := by rw [hin, List.append_assoc, List.take_append_drop]
        have e4 := mul_drop T1 (xs.length : Int) ((xs.drop m).length : Int) (by omega) (by omega)
        have e5 := mul_le64 T1 (((xs.drop m)).length : Int) (by omega) (by omega) (by omega) (by omega)
        exact ⟨k - 1, by omega, j + 1, 0, (n0 + 1), _, (cutA A1 c1 m), (c1 - m), (xs.drop m), _, Ai, ci, xin, _, A20_3, c20_3, (xout ++ (xs.take m)), _, F.less _ (subc rfl (subc rfl (subc rfl (subc rfl (subc rfl (subc rfl (subc rfl (subc rfl (subc rfl (subc rfl (subc rfl (subc rfl (subc rfl (subc rfl (subc rfl (subc rfl (subc rfl (subc rfl (subc rfl (subc rfl (subc rfl (subc rfl (subc rfl (subc rfl (subc rfl (subc rfl (subc rfl (subc rfl (subc rfl (subc rfl (subc rfl (subc rfl (subc rfl sub0))))))))))))))))))))))))))))))))), H, (by omega), (by omega), hX, e3, (by omega), (by omega), (by omega), (by omega), (by omega), (by omega), (by omega), rfl, (by omega)⟩
  · have hb1d := of_decide_eq_false hb1
    have F := F.at 41 rfl (v' := .bool false) (congrArg Value.bool hb1)
    refine c_no (c := .tmp 41) (by kernel_rfl) (F.slot rfl) ?_
    refine c_exit (id := 0) (by kernel_rfl) ?_
    refine t_exit ?_
    refine t_exit ?_
    refine b_here ?_
    refine t_normal ?_
    refine c_seq (by kernel_rfl) ?_
    refine c_seq (by kernel_rfl) ?_
    have hxs : xs = [] := List.eq_nil_of_length_eq_zero (by have := len_zero T1 (xs.length : Int) k0 (by omega) (by omega) (by omega) (by omega); omega)
    have hio : xin = xout := by rw [hin, hxs, List.append_nil]
    refine c_text (id := 21) (by kernel_rfl) [(0, 2), (1, 2), (2, 2), (3, 2), (4, 2), (5, 2), (6, 2), (7, 2), (8, 2), (9, 2)] (by kernel_rfl) ?_
    refine q2 (o_s 112 (.move (.tmp 9)) 38 (by kernel_rfl)) F (by decide) (x_move (F.slot rfl)) (fun a F => ?_)
    refine q2 (o_s 113 (.call { callee := (.builtin .len), args := #[(.tmp 112)], argTypes := #[38] }) 3 (by kernel_rfl)) F (by decide) (v := .int .i64 (xin.length : Int)) (x_lenL Tryd.underlying38 (F.slot rfl)) (fun a F => ?_)
    refine q2 (o_s 114 (.move (.tmp 10)) 38 (by kernel_rfl)) F (by decide) (x_move (F.slot rfl)) (fun a F => ?_)
    refine q2 (o_s 115 (.call { callee := (.builtin .len), args := #[(.tmp 114)], argTypes := #[38] }) 3 (by kernel_rfl)) F (by decide) (v := .int .i64 (xout.length : Int)) (x_lenL Tryd.underlying38 (F.slot rfl)) (fun a F => ?_)
    refine q2 (o_s 116 (.binOp .neq 3 (.tmp 113) (.tmp 115) 3) 4 (by kernel_rfl)) F (by decide) (v := .bool ((xin.length : Int) != (xout.length : Int))) (x_int (F.slot rfl) (F.slot rfl) rfl) (fun a F => ?_)
    refine q2 (o_s 117 (.move (.tmp 116)) 4 (by kernel_rfl)) F (by decide) (x_move (F.slot rfl)) (fun a F => ?_)
    have hb22 : ((xin.length : Int) != (xout.length : Int)) = false := by rw [hio]; simp
    have F := F.at 117 rfl (v' := .bool false) (congrArg Value.bool hb22)
    refine sq2 (W' := W) (o_g 118 (.move (.tmp 7)) 23 5 false (by kernel_rfl)) ⟨117, by kernel_rfl, rfl⟩ F (by decide) (v := .pointer (some ⟨ga, 0, none⟩)) (x_move (F.slot rfl)) (fun _ => trivial) (fun a F => ?_)
    have HS := H.select [1] [Asn.blk ga [.int .i64 3, .int .i64 z1, .int .i64 T1, .slice A1 xs.length c1, .int .i64 k0, .int .i64 n0] 72] rfl (by decide)
    refine sqc (o_g 119 (.call { callee := (.value (.func 24)), args := #[(.tmp 118)], argTypes := #[23] }) 3 5 false (by kernel_rfl)) ⟨117, by kernel_rfl, rfl⟩ F (by decide) (x_call Tryd.func24 (by kernel_rfl) rfl (args_1 (F.slot rfl))) (waits_calls ga 3 z1 T1 k0 n0 A1 xs.length c1  W HS) ?_
    rintro e W ⟨rfl, H1⟩
    refine ⟨_, rfl, fun a F => ?_⟩
    have H := H.back [1] [Asn.blk ga [.int .i64 3, .int .i64 z1, .int .i64 T1, .slice A1 xs.length c1, .int .i64 k0, .int .i64 n0] 72] rfl (by decide) [Asn.blk ga [.int .i64 3, .int .i64 z1, .int .i64 T1, .slice A1 xs.length c1, .int .i64 k0, .int .i64 n0] 72] [] rfl H1
    clear HS H1
    refine ⟨(fun _ => trivial), ?_⟩
    refine sq2 (W' := W) (o_g 120 (.binOp .neq 3 (.tmp 119) (.const (.int .i64 0)) 3) 4 5 false (by kernel_rfl)) ⟨117, by kernel_rfl, rfl⟩ F (by decide) (v := .bool ((xs.length : Int) != (0 : Int))) (x_int (F.slot rfl) rfl rfl) (fun _ => trivial) (fun a F => ?_)
    refine q2 (o_s 121 (.pick (.tmp 117) (.const (.bool true)) (.tmp 120)) 4 (by kernel_rfl)) F (by decide) (v := .bool ((xs.length : Int) != (0 : Int))) (x_pickF (F.slot rfl) (F.slot rfl)) (fun a F => ?_)
    unfold wpSeq
    refine t_normal ?_
    have hb23 : ((xs.length : Int) != (0 : Int)) = false := by rw [hxs]; rfl
    have F := F.at 121 rfl (v' := .bool false) (congrArg Value.bool hb23)
    refine c_no (c := .tmp 121) (by kernel_rfl) (F.slot rfl) ?_
    refine c_skip (by kernel_rfl) ?_
    refine t_normal ?_
    refine c_seq (by kernel_rfl) ?_
    refine c_seq (by kernel_rfl) ?_
    have H := (H.quRd 3 rfl).quRd 4 rfl
    have H : St w (fun _ => False) (fun _ => True) [Asn.rd kOp (fun k => k < w.heap.size) A l.length l, Asn.blk ga [.int .i64 3, .int .i64 z1, .int .i64 T1, .slice A1 xs.length c1, .int .i64 k0, .int .i64 n0] 72, Asn.qu k33 33 (.slice A1 xs.length c1) xs ok1, Asn.rd k33 (fun j => (Value.slice Ai xin.length ci).ownBlock = some j ∨ oki j) Ai xin.length xin, Asn.rd k33 (fun j => (Value.slice Ao xout.length co).ownBlock = some j ∨ oko j) Ao xout.length xout] W := H
    refine c_text (id := 23) (by kernel_rfl) [(0, 2)] (by kernel_rfl) ?_
    refine q2 (o_s 15 (.assign (.const (.int .i64 0))) 3 (by kernel_rfl)) F (by decide) (v := .int .i64 0) (x_assign rfl) (fun a F => ?_)
    unfold wpSeq
    refine t_normal ?_
    refine c_block (id := 2) (by kernel_rfl) ?_
    refine c_loop (by kernel_rfl) (fun k a W => ∃ (i : Nat), Fr 138 [(0, .int .i64 z1), (1, .int .i64 T1), (2, .slice A l.length c), (16, .bool true), (17, .bool false), (18, .int .i64 a0), (19, .int .u64 (IntKind.u64.wrap a0)), (20, .int .u64 (Int.tmod (IntKind.u64.wrap a0) 16)), (21, .int .i64 (IntKind.i64.wrap (Int.tmod (IntKind.u64.wrap a0) 16))), (22, .int .i64 z1), (23, .int .i64 b0), (24, .int .u64 (IntKind.u64.wrap b0)), (25, .int .u64 (Int.tmod (IntKind.u64.wrap b0) 20)), (26, .int .i64 (IntKind.i64.wrap (Int.tmod (IntKind.u64.wrap b0) 20))), (27, .int .i64 T1), (29, .int .i64 z1), (30, .int .i64 T1), (31, .tuple #[.pointer (some ⟨ga, 0, none⟩), .int .i64 0]), (28, .tuple #[.pointer (some ⟨ga, 0, none⟩), .int .i64 0]), (32, .pointer (some ⟨ga, 0, none⟩)), (33, .int .i64 0), (7, .pointer (some ⟨ga, 0, none⟩)), (8, .int .i64 0), (34, .int .i64 0), (35, .bool false), (36, .bool false), (37, .pointer (some ⟨ga, 0, none⟩)), (38, .bool false), (39, .bool false), (12, .int .i64 (j : Int)), (11, .int .i64 n0), (9, .slice Ai xin.length ci), (10, .slice Ao xout.length co), (40, .int .i64 (j : Int)), (41, .bool false), (112, .slice Ai xin.length ci), (113, .int .i64 (xin.length : Int)), (114, .slice Ao xout.length co), (115, .int .i64 (xout.length : Int)), (116, .bool ((xin.length : Int) != (xout.length : Int))), (117, .bool false), (118, .pointer (some ⟨ga, 0, none⟩)), (119, .int .i64 (xs.length : Int)), (120, .bool ((xs.length : Int) != (0 : Int))), (121, .bool false), (15, .int .i64 (i : Int))] a ∧ St w (fun _ => False) (fun _ => True) [Asn.rd kOp (fun k => k < w.heap.size) A l.length l, Asn.blk ga [.int .i64 3, .int .i64 z1, .int .i64 T1, .slice A1 xs.length c1, .int .i64 k0, .int .i64 n0] 72, Asn.qu k33 33 (.slice A1 xs.length c1) xs ok1, Asn.rd k33 (fun j => (Value.slice Ai xin.length ci).ownBlock = some j ∨ oki j) Ai xin.length xin, Asn.rd k33 (fun j => (Value.slice Ao xout.length co).ownBlock = some j ∨ oko j) Ao xout.length xout] W ∧ (k + i = xin.length) ∧ (i ≤ xin.length)) xin.length ⟨0, F.less _ (subc rfl (subc rfl (subc rfl (subc rfl (subc rfl (subc rfl (subc rfl (subc rfl (subc rfl (subc rfl (subc rfl (subc rfl (subc rfl (subc rfl (subc rfl (subc rfl (subc rfl (subc rfl (subc rfl (subc rfl (subc rfl (subc rfl (subc rfl (subc rfl (subc rfl (subc rfl (subc rfl (subc rfl (subc rfl (subc rfl (subc rfl (subc rfl (subc rfl (subc rfl (subc rfl (subc rfl (subc rfl (subc rfl (subc rfl (subc rfl (subc rfl (subc rfl (subc rfl (subc rfl (subc rfl (subc rfl sub0)))))))))))))))))))))))))))))))))))))))))))))), H, (by omega), (Nat.zero_le _)⟩ ?_
    rintro k a W ⟨i, F, H, hki, hi⟩
    refine c_seq (by kernel_rfl) ?_
    refine c_seq (by kernel_rfl) ?_
    refine c_text (id := 24) (by kernel_rfl) [(0, 2), (1, 2), (2, 2), (3, 2)] (by kernel_rfl) ?_
    refine q2 (o_s 122 (.move (.tmp 15)) 3 (by kernel_rfl)) F (by decide) (x_move (F.slot rfl)) (fun a F => ?_)
    refine q2 (o_s 123 (.move (.tmp 9)) 38 (by kernel_rfl)) F (by decide) (x_move (F.slot rfl)) (fun a F => ?_)
    refine q2 (o_s 124 (.call { callee := (.builtin .len), args := #[(.tmp 123)], argTypes := #[38] }) 3 (by kernel_rfl)) F (by decide) (v := .int .i64 (xin.length : Int)) (x_lenL Tryd.underlying38 (F.slot rfl)) (fun a F => ?_)
    refine q2 (o_s 125 (.binOp .lss 3 (.tmp 122) (.tmp 124) 3) 4 (by kernel_rfl)) F (by decide) (v := .bool (decide ((i : Int) < (xin.length : Int)))) (x_int (F.slot rfl) (F.slot rfl) rfl) (fun a F => ?_)
    unfold wpSeq
    refine t_normal ?_
    rcases bool_or (decide ((i : Int) < (xin.length : Int))) with hb24 | hb24
    · have hb24d := of_decide_eq_true hb24
      have F := F.at 125 rfl (v' := .bool true) (congrArg Value.bool hb24)
      refine c_yes (c := .tmp 125) (by kernel_rfl) (F.slot rfl) ?_
      refine c_skip (by kernel_rfl) ?_
      refine t_normal ?_
      refine c_seq (by kernel_rfl) ?_
      refine c_block (id := 3) (by kernel_rfl) ?_
      refine c_seq (by kernel_rfl) ?_
      have hil : i < xin.length := by omega
      obtain ⟨u, hu⟩ : ∃ u, xin[i]? = some u := ⟨_, List.getElem?_eq_getElem hil⟩
      have hu2 : xout[i]? = some u := hio ▸ hu
      have hcu := hX u (List.mem_of_getElem? hu)
      have hol : xout.length = xin.length := by rw [hio]
      obtain ⟨adu1, csu1, hAu1, hKu1, H⟩ := H.elem 3 rfl (by decide) i u hu
      obtain ⟨Au7, cu7, Au8, cu8, rfl, lu7, gu7, lu8, gu8⟩ := PB.k33_open hKu1
      have H : St w (fun _ => False) (fun _ => True) [Asn.rd kOp (fun k => k < w.heap.size) A l.length l, Asn.blk ga [.int .i64 3, .int .i64 z1, .int .i64 T1, .slice A1 xs.length c1, .int .i64 k0, .int .i64 n0] 72, Asn.qu k33 33 (.slice A1 xs.length c1) xs ok1, Asn.rd k33 (fun j => (Value.slice Ai xin.length ci).ownBlock = some j ∨ oki j) Ai xin.length xin, Asn.rd k33 (fun j => (Value.slice Ao xout.length co).ownBlock = some j ∨ oko j) Ao xout.length xout, Asn.fk k33 (fun j => (Value.slice Ai xin.length ci).ownBlock = some j ∨ oki j) u (txc u Au7 cu7 Au8 cu8), Asn.cl (adu1.add (i * 9)) (txc u Au7 cu7 Au8 cu8) (fun j => (Value.slice Ai xin.length ci).ownBlock = some j ∨ oki j)] W := H
      obtain ⟨adu2, csu2, hAu2, hKu2, H⟩ := H.elem 4 rfl (by decide) i u hu2
      obtain ⟨Av7, cv7, Av8, cv8, rfl, lv7, gv7, lv8, gv8⟩ := PB.k33_open hKu2
      have H : St w (fun _ => False) (fun _ => True) [Asn.rd kOp (fun k => k < w.heap.size) A l.length l, Asn.blk ga [.int .i64 3, .int .i64 z1, .int .i64 T1, .slice A1 xs.length c1, .int .i64 k0, .int .i64 n0] 72, Asn.qu k33 33 (.slice A1 xs.length c1) xs ok1, Asn.rd k33 (fun j => (Value.slice Ai xin.length ci).ownBlock = some j ∨ oki j) Ai xin.length xin, Asn.rd k33 (fun j => (Value.slice Ao xout.length co).ownBlock = some j ∨ oko j) Ao xout.length xout, Asn.fk k33 (fun j => (Value.slice Ai xin.length ci).ownBlock = some j ∨ oki j) u (txc u Au7 cu7 Au8 cu8), Asn.cl (adu1.add (i * 9)) (txc u Au7 cu7 Au8 cu8) (fun j => (Value.slice Ai xin.length ci).ownBlock = some j ∨ oki j), Asn.fk k33 (fun j => (Value.slice Ao xout.length co).ownBlock = some j ∨ oko j) u (txc u Av7 cv7 Av8 cv8), Asn.cl (adu2.add (i * 9)) (txc u Av7 cv7 Av8 cv8) (fun j => (Value.slice Ao xout.length co).ownBlock = some j ∨ oko j)] W := H
      refine c_drawn (id := 26) (by kernel_rfl) (by kernel_rfl) (Vs [Asn.cl (adu1.add (i * 9)) (txc u Au7 cu7 Au8 cu8) (fun j => (Value.slice Ai xin.length ci).ownBlock = some j ∨ oki j), Asn.cl (adu2.add (i * 9)) (txc u Av7 cv7 Av8 cv8) (fun j => (Value.slice Ao xout.length co).ownBlock = some j ∨ oko j)]) [0, 0, 3, 7, 0, 0, 48, 112, 255, 511] [] [(0, 0), (1, 0), (2, 0), (4, 0), (5, 0), (6, 0), (3, 1), (7, 1), (8, 2), (9, 0)] (by kernel_rfl) (fun _ _ d _ _ h => by cases d <;> exact h) (Vs.drew ⟨H.get 6 rfl, H.get 8 rfl, trivial⟩) ?_
      have H := H.drew
      generalize World.drew W = W at H ⊢
      refine q0 (o_s 128 (.move (.tmp 9)) 38 (by kernel_rfl)) F (by decide) (fun W_ => x_move (F.slot rfl)) (fun a F => ?_)
      refine q0 (o_s 129 (.move (.tmp 15)) 3 (by kernel_rfl)) F (by decide) (fun W_ => x_move (F.slot rfl)) (fun a F => ?_)
      refine q0 (o_s 130 (.indexAddr 38 (.tmp 128) (.tmp 129)) 0 (by kernel_rfl)) F (by decide) (v := .pointer (some (adu1.add (i * 9)))) (fun W_ => x_indexE Tryd.underlying38 (Tryd.sizeOf33 W_) (F.slot rfl) hAu1 (F.slot rfl) (by omega)) (fun a F => ?_)
      refine q0 (o_s 132 (.move (.tmp 10)) 38 (by kernel_rfl)) F (by decide) (fun W_ => x_move (F.slot rfl)) (fun a F => ?_)
      refine q0 (o_s 133 (.move (.tmp 15)) 3 (by kernel_rfl)) F (by decide) (fun W_ => x_move (F.slot rfl)) (fun a F => ?_)
      refine q0 (o_s 134 (.indexAddr 38 (.tmp 132) (.tmp 133)) 0 (by kernel_rfl)) F (by decide) (v := .pointer (some (adu2.add (i * 9)))) (fun W_ => x_indexE Tryd.underlying38 (Tryd.sizeOf33 W_) (F.slot rfl) hAu2 (F.slot rfl) (by omega)) (fun a F => ?_)
      refine q1 (o_s 131 (.load 33 (.tmp 130)) 33 (by kernel_rfl)) F (by decide) (⟨H.get 6 rfl, H.get 8 rfl, trivial⟩) (v := .agg (txc u Au7 cu7 Au8 cu8).toArray) (fun W_ hV => x_loadN (Tryd.isAgg33 W_) (txc u Au7 cu7 Au8 cu8) (Tryd.sizeOf33 W_) (F.slot rfl) (clnz hV.1 _ rfl)) (fun a F => ?_)
      refine q1 (o_s 135 (.load 33 (.tmp 134)) 33 (by kernel_rfl)) F (by decide) (⟨H.get 6 rfl, H.get 8 rfl, trivial⟩) (v := .agg (txc u Av7 cv7 Av8 cv8).toArray) (fun W_ hV => x_loadN (Tryd.isAgg33 W_) (txc u Av7 cv7 Av8 cv8) (Tryd.sizeOf33 W_) (F.slot rfl) (clnz hV.2.1 _ rfl)) (fun a F => ?_)
      refine sqc (o_s 136 (.call { callee := (.value (.func 27)), args := #[(.tmp 131), (.tmp 135)], argTypes := #[33, 33] }) 4 (by kernel_rfl)) trivial F (by decide) (x_call Tryd.func27 (by kernel_rfl) rfl (args_2 (F.slot rfl) (F.slot rfl))) (same4_calls u Au7 cu7 Au8 cu8 Av7 cv7 Av8 cv8 W (chT_len hcu) (H.rd 5 rfl) (H.rd 7 rfl)) ?_
      rintro e W ⟨rfl, hB⟩
      refine ⟨_, rfl, fun a F => ?_⟩
      have H := H.below hB
      refine ⟨(fun _ => ⟨H.get 6 rfl, H.get 8 rfl, trivial⟩), ?_⟩
      refine q0 (o_s 137 (.unOp .not 4 (.tmp 136)) 4 (by kernel_rfl)) F (by decide) (v := .bool false) (fun W_ => x_not (b := true) (F.slot rfl)) (fun a F => ?_)
      unfold wpSeq
      refine t_normal ?_
      refine c_no (c := .tmp 137) (by kernel_rfl) (F.slot rfl) ?_
      refine c_skip (by kernel_rfl) ?_
      refine b_normal ?_
      refine t_normal ?_
      refine c_text (id := 25) (by kernel_rfl) [(0, 2), (1, 2), (2, 2)] (by kernel_rfl) ?_
      refine q2 (o_s 126 (.move (.tmp 15)) 3 (by kernel_rfl)) F (by decide) (x_move (F.slot rfl)) (fun a F => ?_)
      refine q2 (o_s 127 (.binOp .add 3 (.tmp 126) (.const (.int .i64 1)) 3) 3 (by kernel_rfl)) F (by decide) (v := .int .i64 (IntKind.i64.wrap ((i : Int) + 1))) (x_int (F.slot rfl) rfl rfl) (fun a F => ?_)
      have F := F.conv (v' := .int .i64 ((i : Int) + 1)) (congrArg (Value.int .i64) (wrap_i64 _ (by omega) (by omega)))
      refine q2 (o_s 15 (.assign (.tmp 127)) 3 (by kernel_rfl)) F (by decide) (v := .int .i64 ((i : Int) + 1)) (x_assign (F.slot rfl)) (fun a F => ?_)
      unfold wpSeq
      refine t_normal ?_
      have F_ := F
      have H := H.front 5
      have F := F.at 15 rfl (v' := .int .i64 ((i + 1 : Nat) : Int)) (congrArg (Value.int .i64) (by omega))
      exact ⟨k - 1, by omega, i + 1, F.less _ (subc rfl (subc rfl (subc rfl (subc rfl (subc rfl (subc rfl (subc rfl (subc rfl (subc rfl (subc rfl (subc rfl (subc rfl (subc rfl (subc rfl (subc rfl (subc rfl (subc rfl (subc rfl (subc rfl (subc rfl (subc rfl (subc rfl (subc rfl (subc rfl (subc rfl (subc rfl (subc rfl (subc rfl (subc rfl (subc rfl (subc rfl (subc rfl (subc rfl (subc rfl (subc rfl (subc rfl (subc rfl (subc rfl (subc rfl (subc rfl (subc rfl (subc rfl (subc rfl (subc rfl (subc rfl (subc rfl sub0)))))))))))))))))))))))))))))))))))))))))))))), H, (by omega), (by omega)⟩
    · have hb24d := of_decide_eq_false hb24
      have F := F.at 125 rfl (v' := .bool false) (congrArg Value.bool hb24)
      refine c_no (c := .tmp 125) (by kernel_rfl) (F.slot rfl) ?_
      refine c_exit (id := 2) (by kernel_rfl) ?_
      refine t_exit ?_
      refine t_exit ?_
      refine b_here ?_
      refine t_normal ?_
      refine c_seq (by kernel_rfl) ?_
      refine c_text (id := 28) (by kernel_rfl) [(0, 2)] (by kernel_rfl) ?_
      refine q2 (o_s 6 (.assign (.const (.bool true))) 4 (by kernel_rfl)) F (by decide) (v := .bool true) (x_assign rfl) (fun a F => ?_)
      unfold wpSeq
      refine t_normal ?_
      refine c_ret (by kernel_rfl) ?_
      refine p_tmp Tryd.results7 F rfl ?_
      exact ⟨rfl, H.ends⟩
end Go.Proofs.YtndicjikjcifaaaDoor

/- BatchSeals. -/
namespace Go.Proofs.YtndicjikjcifaaaDoor
open Go.RowKit Go.Proofs.YtndicjikjcifaaaDoorW.PrintWords Go.Proofs.YtndicjikjcifaaaDoorW.PrintLast
set_option linter.unusedVariables false
set_option linter.unusedSimpArgs false
set_option maxRecDepth 100000
open PB (S33 k33)
end Go.Proofs.YtndicjikjcifaaaDoor

/- The batch laws' arguments: rows of operations, a transaction, a batch: from data to plain values. -/
namespace Go.Proofs.YtndicjikjcifaaaDoor
open Go.RowKit Go.Proofs.YtndicjikjcifaaaDoorW.PrintWords Go.Proofs.YtndicjikjcifaaaDoorW.PrintLast
open PB (S33 k33)
set_option linter.unusedVariables false
set_option linter.unusedSimpArgs false
def gTx (t : S33) : Prop := (Lit.int .i64 t.f0).wf = true ∧ t.f1.size ≤ 140737488351232 ∧ t.f2.size ≤ 140737488351232 ∧ (Lit.int .u64 t.f3).wf = true ∧ (Lit.int .u64 t.f4).wf = true ∧ t.f5.size ≤ 140737488351232 ∧ t.f6.size ≤ 140737488351232 ∧
  ((∀ a ∈ t.f7, a.size ≤ 140737488351232) ∧ t.f7.length * 16 ≤ 140737488351232 ∧ t.f7.length ≤ maxLen) ∧ ((∀ a ∈ t.f8, a.size ≤ 140737488351232) ∧ t.f8.length * 16 ≤ 140737488351232 ∧ t.f8.length ≤ maxLen)
theorem opensTx : Opens Tryd.prog 33 k33 gTx :=
  Opens.iso (Opens.struct (d := kTx) Tryd.underlying33 (by kernel_rfl) (Fields.cons rfl opensInt (Fields.cons rfl opensStr (Fields.cons rfl opensStr (Fields.cons rfl opensU64 (Fields.cons rfl opensU64 (Fields.cons rfl opensStr (Fields.cons rfl opensStr (Fields.cons rfl opensStrs (Fields.one rfl opensStrs)))))))))) _ (fun x => ⟨x.1, x.2.1, x.2.2.1, x.2.2.2.1, x.2.2.2.2.1, x.2.2.2.2.2.1, x.2.2.2.2.2.2.1, x.2.2.2.2.2.2.2.1, x.2.2.2.2.2.2.2.2⟩) (fun _ => rfl)
theorem opensBl : Opens Tryd.prog 4 Kd.bool (fun _ => True) := Opens.bool Tryd.underlying4 (by kernel_rfl)
theorem opensOp : Opens Tryd.prog 35 kOp (fun x => True ∧ gTx x.2) := Opens.struct Tryd.underlying35 (by kernel_rfl) (Fields.cons (G := fun _ => True) (G' := gTx) rfl opensBl (Fields.one rfl opensTx))
theorem opensOps : Opens Tryd.prog 22 (Kd.slice 35 kOp) (fun l => (∀ a ∈ l, (True ∧ gTx a.2)) ∧ l.length * 144 ≤ 140737488351232 ∧ l.length ≤ maxLen) := Opens.slice Tryd.underlying22 (by kernel_rfl) opensOp 144 (by kernel_rfl)
theorem gTx_lim {t : S33} (h : gTx t) : LimT t ∧ t.f7.length < 8796093022208 ∧ t.f8.length < 8796093022208 ∧ 0 ≤ t.f3 ∧ 0 ≤ t.f4 := by
  obtain ⟨g0, g1, g2, g3, g4, g5, g6, g7, g8⟩ := h
  refine ⟨⟨by omega, by omega, by omega, fun x hx => ?_, fun x hx => ?_⟩, by omega, by omega, u64_lo g3, u64_lo g4⟩
  · have := g7.1 x hx; omega
  · have := g8.1 x hx; omega
end Go.Proofs.YtndicjikjcifaaaDoor

/- BatchOrder's row. -/
namespace Go.Proofs.YtndicjikjcifaaaDoor
open Go.RowKit Go.Proofs.YtndicjikjcifaaaDoorW.PrintWords Go.Proofs.YtndicjikjcifaaaDoorW.PrintLast
open PB (S33 k33)
set_option linter.unusedVariables false
theorem batchOrder_row (a0 b0 : Int) (A : Option Addr) (c : Nat) (l : List (Bool × S33)) (w : World) (hr : kOp.C w A l.length l) (hc : l.length ≤ c) (hG : (∀ a ∈ l, (True ∧ gTx a.2)) ∧ l.length * 144 ≤ 140737488351232 ∧ l.length ≤ maxLen) :
    Calls Tryd.prog 7 #[.int .i64 a0, .int .i64 b0, .slice A l.length c] w fun e W => e = .returned (.bool true) ∧ Below w.heap.size w W :=
  batchOrder_calls a0 b0 A c l w hr hc (by omega) (fun o ho => by
    have := gTx_lim (hG.1 o ho).2
    exact ⟨this.1, this.2.1, this.2.2.1⟩)
end Go.Proofs.YtndicjikjcifaaaDoor
