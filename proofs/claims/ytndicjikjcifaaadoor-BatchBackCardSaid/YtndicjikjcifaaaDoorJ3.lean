/- Texts joined by wip/tools/slim2.py: Same5, Batchk0, Bchkh, PBx3, PBx4, Batchk, Radd, Wlist, Txenc, Benc, Batpl, Add, Tick, Rtick, Waits. -/
import Derived.Test.YtndicjikjcifaaaDoorJ1
import Derived.Test.YtndicjikjcifaaaDoorJ2
import Derived.Shelf.Strings.Builder1
import Derived.Shelf.Strings.OnBuilder
import Derived.Deep.RegionHeld3
import Derived.Test.YtndicjikjcifaaaDoorProg
/- tuskref04.Same and tuskref05.Same of equal ones. -/
namespace Go.Proofs.YtndicjikjcifaaaDoor
open Go.RowKit Go.Proofs.YtndicjikjcifaaaDoorW.PrintWords Go.Proofs.YtndicjikjcifaaaDoorW.PrintLast
set_option linter.unusedVariables false
set_option linter.unusedSimpArgs false
set_option maxRecDepth 100000
open PB (S33 k33)
theorem k33_heap : Kd.Heap k33 := Kd.heap_iso _ (Kd.heap_pair (Kd.heap_int _) (Kd.heap_pair Kd.heap_string (Kd.heap_pair Kd.heap_string (Kd.heap_pair (Kd.heap_int _) (Kd.heap_pair (Kd.heap_int _) (Kd.heap_pair Kd.heap_string (Kd.heap_pair Kd.heap_string (Kd.heap_pair (Kd.heap_slice _ Kd.heap_string) (Kd.heap_slice _ Kd.heap_string)))))))))
theorem k33_parts {w : World} {t : S33} {A7 A8 : Option Addr} {c7 c8 : Nat} (h : k33.K w t (txc t A7 c7 A8 c8)) : t.f7.length ≤ c7 ∧ Kd.string.C w A7 t.f7.length t.f7 ∧ t.f8.length ≤ c8 ∧ Kd.string.C w A8 t.f8.length t.f8 := by
  obtain ⟨B7, d7, B8, d8, e, l7, g7, l8, g8⟩ := PB.k33_open h
  simp only [List.cons.injEq, Value.slice.injEq, true_and, and_true] at e
  obtain ⟨⟨rfl, rfl⟩, rfl, rfl⟩ := e
  exact ⟨l7, g7, l8, g8⟩
theorem k33_oldK {w : World} {t : S33} {cs : List Value} (h : k33.K w t cs) : Foot (fun W => k33.K W t cs) w (fun k => k < w.heap.size) := fun W' hW => k33_heap.K (fun k hk => hW k hk hk) h
theorem bsame1_calls (xs : List ByteArray) (A : Option Addr) (c : Nat) (A' : Option Addr) (c' : Nat) (w : World) (hx : xs.length < 4611686018427387904) (hr : Kd.string.C w A xs.length xs) (hc : xs.length ≤ c) (hr' : Kd.string.C w A' xs.length xs) (hc' : xs.length ≤ c') :
    Calls Tryd.prog 43 #[.slice A xs.length c, .slice A' xs.length c'] w fun e w' => e = .returned (.bool true) ∧ Below w.heap.size w w' :=
  (PB.tuskref01_Same.calls (xs.length + 1) A c xs A' c' xs true w hr hc hr' hc' (bsame1 xs hx _ (Nat.le_refl _))).mono fun e w' ⟨h1, ⟨⟨n, h2⟩⟩⟩ => ⟨h1, h2 ▸ pw_below_drewN (Below.refl _ _) n⟩
theorem same4_calls (t : S33) (A : Option Addr) (c : Nat) (B : Option Addr) (d : Nat) (A' : Option Addr) (c' : Nat) (B' : Option Addr) (d' : Nat) (w : World) (hL : LenT t) (h : k33.K w t (txc t A c B d)) (h' : k33.K w t [.int .i64 t.f0, .string t.f1, .string t.f2, .int .u64 t.f3, .int .u64 t.f4, .string t.f5, .string t.f6, .slice A' t.f7.length c', .slice B' t.f8.length d']) :
    Calls Tryd.prog 27 #[.agg (txc t A c B d).toArray, .agg #[.int .i64 t.f0, .string t.f1, .string t.f2, .int .u64 t.f3, .int .u64 t.f4, .string t.f5, .string t.f6, .slice A' t.f7.length c', .slice B' t.f8.length d']] w fun e w' => e = .returned (.bool true) ∧ Below w.heap.size w w' := by
  have H0 : St w (fun _ => False) (fun _ => True) [Asn.fk k33 (fun k => k < w.heap.size) t (txc t A c B d), Asn.fk k33 (fun k => k < w.heap.size) t [.int .i64 t.f0, .string t.f1, .string t.f2, .int .u64 t.f3, .int .u64 t.f4, .string t.f5, .string t.f6, .slice A' t.f7.length c', .slice B' t.f8.length d']] w := ((St.first w _ _).old _ (k33_oldK h) (fun B hB => by cases hB)).old _ (k33_oldK h') (fun B hB k hk => by rcases List.mem_singleton.1 hB with rfl; exact hk.elim)
  refine c_enter2 (args := [.agg (txc t A c B d).toArray, .agg #[.int .i64 t.f0, .string t.f1, .string t.f2, .int .u64 t.f3, .int .u64 t.f4, .string t.f5, .string t.f6, .slice A' t.f7.length c', .slice B' t.f8.length d']]) (S := (fun _ => False)) (R := (fun _ => True)) (M := [Asn.fk k33 (fun k => k < w.heap.size) t (txc t A c B d), Asn.fk k33 (fun k => k < w.heap.size) t [.int .i64 t.f0, .string t.f1, .string t.f2, .int .u64 t.f3, .int .u64 t.f4, .string t.f5, .string t.f6, .slice A' t.f7.length c', .slice B' t.f8.length d']]) Tryd.func27 (by kernel_rfl) 66 Tryd.ntmps27 (Nat.le_of_ble_eq_true rfl) (H0) (fun a W F H => ?_)
  have F := F.less [(0, .agg (txc t A c B d).toArray), (1, .agg #[.int .i64 t.f0, .string t.f1, .string t.f2, .int .u64 t.f3, .int .u64 t.f4, .string t.f5, .string t.f6, .slice A' t.f7.length c', .slice B' t.f8.length d'])] (subc rfl (subc rfl sub0))
  refine c_seq (by kernel_rfl) ?_
  refine c_text (id := 0) (by kernel_rfl) [(0, 2), (1, 2), (2, 2)] (by kernel_rfl) ?_
  refine sq_new (o_s 2 (.box 33 (.tmp 0)) 0 (by kernel_rfl)) trivial F (by decide) H (txc t A c B d) 33 (x_box (F.slot rfl) rfl) ?_
  intro g1 W a hg1 H F
  refine ⟨(fun _ => trivial), ?_⟩
  refine sq_new (o_s 3 (.box 33 (.tmp 1)) 0 (by kernel_rfl)) trivial F (by decide) H [.int .i64 t.f0, .string t.f1, .string t.f2, .int .u64 t.f3, .int .u64 t.f4, .string t.f5, .string t.f6, .slice A' t.f7.length c', .slice B' t.f8.length d'] 33 (x_box (F.slot rfl) rfl) ?_
  intro g2 W a hg2 H F
  refine ⟨(fun _ => trivial), ?_⟩
  refine q2 (o_s 4 (.assign (.const (.bool false))) 4 (by kernel_rfl)) F (by decide) (v := .bool false) (x_assign rfl) (fun a F => ?_)
  unfold wpSeq
  have H : St w (fun _ => False) (fun _ => True) [Asn.fk k33 (fun k => k < w.heap.size) t (txc t A c B d), Asn.fk k33 (fun k => k < w.heap.size) t [.int .i64 t.f0, .string t.f1, .string t.f2, .int .u64 t.f3, .int .u64 t.f4, .string t.f5, .string t.f6, .slice A' t.f7.length c', .slice B' t.f8.length d'], Asn.blk g1 (txc t A c B d) 33, Asn.blk g2 [.int .i64 t.f0, .string t.f1, .string t.f2, .int .u64 t.f3, .int .u64 t.f4, .string t.f5, .string t.f6, .slice A' t.f7.length c', .slice B' t.f8.length d'] 33] W := H
  refine t_normal ?_
  refine c_seq (by kernel_rfl) ?_
  refine c_text (id := 1) (by kernel_rfl) [(0, 2), (1, 2), (2, 2), (3, 2), (4, 2), (5, 2), (6, 2), (7, 2), (8, 2), (9, 2), (10, 2), (11, 2), (12, 2), (13, 2), (14, 2), (15, 2), (16, 2), (17, 2), (18, 2), (19, 2), (20, 2), (21, 2), (22, 2), (23, 2), (24, 2), (25, 2), (26, 2), (27, 2), (28, 2), (29, 2), (30, 2), (31, 2), (32, 2), (33, 2), (34, 2), (35, 2), (36, 2), (37, 2), (38, 2), (39, 2), (40, 2), (41, 2), (42, 2), (43, 2), (44, 2), (45, 2), (46, 2), (47, 2), (48, 2), (49, 2), (50, 2), (51, 2), (52, 2), (53, 2), (54, 2), (55, 2), (56, 2), (57, 2), (58, 2), (59, 2), (60, 2), (61, 2)] (by kernel_rfl) ?_
  refine q2 (o_s 5 (.fieldAddr 33 (.tmp 2) 0) 0 (by kernel_rfl)) F (by decide) (v := .pointer (some ⟨g1, 0, none⟩)) (x_field0 Tryd.underlying33 rfl rfl (Tryd.sizeOf3 W) (F.slot rfl)) (fun a F => ?_)
  refine q2 (o_s 6 (.load 3 (.tmp 5)) 3 (by kernel_rfl)) F (by decide) (v := .int .i64 t.f0) (x_load1 (Tryd.isAgg3 W) (F.slot rfl) (H.cell 2 rfl rfl)) (fun a F => ?_)
  refine q2 (o_s 7 (.fieldAddr 33 (.tmp 3) 0) 0 (by kernel_rfl)) F (by decide) (v := .pointer (some ⟨g2, 0, none⟩)) (x_field0 Tryd.underlying33 rfl rfl (Tryd.sizeOf3 W) (F.slot rfl)) (fun a F => ?_)
  refine q2 (o_s 8 (.load 3 (.tmp 7)) 3 (by kernel_rfl)) F (by decide) (v := .int .i64 t.f0) (x_load1 (Tryd.isAgg3 W) (F.slot rfl) (H.cell 3 rfl rfl)) (fun a F => ?_)
  refine q2 (o_s 9 (.binOp .eql 3 (.tmp 6) (.tmp 8) 3) 4 (by kernel_rfl)) F (by decide) (v := .bool (t.f0 == t.f0)) (x_int (F.slot rfl) (F.slot rfl) rfl) (fun a F => ?_)
  refine q2 (o_s 10 (.move (.tmp 9)) 4 (by kernel_rfl)) F (by decide) (x_move (F.slot rfl)) (fun a F => ?_)
  have hb3 : (t.f0 == t.f0) = true := by simp
  have F := F.at 10 rfl (v' := .bool true) (congrArg Value.bool hb3)
  refine sq2 (W' := W) (o_g 11 (.fieldAddr 33 (.tmp 2) 1) 0 5 true (by kernel_rfl)) ⟨10, by kernel_rfl, rfl⟩ F (by decide) (v := .pointer (some ⟨g1, 1, none⟩)) (x_field0 Tryd.underlying33 rfl rfl (Tryd.sizeOf9 W) (F.slot rfl)) (fun _ => trivial) (fun a F => ?_)
  refine sq2 (o_g 12 (.load 9 (.tmp 11)) 9 5 true (by kernel_rfl)) ⟨10, by kernel_rfl, rfl⟩ F (by decide) (v := .string t.f1) (x_load1 (Tryd.isAgg9 W) (F.slot rfl) (H.cell 2 rfl rfl)) (fun _ => trivial) (fun a F => ?_)
  refine sq2 (W' := W) (o_g 13 (.fieldAddr 33 (.tmp 3) 1) 0 5 true (by kernel_rfl)) ⟨10, by kernel_rfl, rfl⟩ F (by decide) (v := .pointer (some ⟨g2, 1, none⟩)) (x_field0 Tryd.underlying33 rfl rfl (Tryd.sizeOf9 W) (F.slot rfl)) (fun _ => trivial) (fun a F => ?_)
  refine sq2 (o_g 14 (.load 9 (.tmp 13)) 9 5 true (by kernel_rfl)) ⟨10, by kernel_rfl, rfl⟩ F (by decide) (v := .string t.f1) (x_load1 (Tryd.isAgg9 W) (F.slot rfl) (H.cell 3 rfl rfl)) (fun _ => trivial) (fun a F => ?_)
  refine sq2 (W' := W) (o_g 15 (.binOp .eql 9 (.tmp 12) (.tmp 14) 9) 4 5 true (by kernel_rfl)) ⟨10, by kernel_rfl, rfl⟩ F (by decide) (v := .bool (t.f1.toList == t.f1.toList)) (x_bin (F.slot rfl) (F.slot rfl) rfl) (fun _ => trivial) (fun a F => ?_)
  refine q2 (o_s 16 (.pick (.tmp 10) (.tmp 15) (.const (.bool false))) 4 (by kernel_rfl)) F (by decide) (v := .bool (t.f1.toList == t.f1.toList)) (x_pickT (F.slot rfl) (F.slot rfl)) (fun a F => ?_)
  refine q2 (o_s 17 (.move (.tmp 16)) 4 (by kernel_rfl)) F (by decide) (x_move (F.slot rfl)) (fun a F => ?_)
  have hb4 : (t.f1.toList == t.f1.toList) = true := by simp
  have F := F.at 17 rfl (v' := .bool true) (congrArg Value.bool hb4)
  refine sq2 (W' := W) (o_g 18 (.fieldAddr 33 (.tmp 2) 2) 0 12 true (by kernel_rfl)) ⟨17, by kernel_rfl, rfl⟩ F (by decide) (v := .pointer (some ⟨g1, 2, none⟩)) (x_field0 Tryd.underlying33 rfl rfl (Tryd.sizeOf9 W) (F.slot rfl)) (fun _ => trivial) (fun a F => ?_)
  refine sq2 (o_g 19 (.load 9 (.tmp 18)) 9 12 true (by kernel_rfl)) ⟨17, by kernel_rfl, rfl⟩ F (by decide) (v := .string t.f2) (x_load1 (Tryd.isAgg9 W) (F.slot rfl) (H.cell 2 rfl rfl)) (fun _ => trivial) (fun a F => ?_)
  refine sq2 (W' := W) (o_g 20 (.fieldAddr 33 (.tmp 3) 2) 0 12 true (by kernel_rfl)) ⟨17, by kernel_rfl, rfl⟩ F (by decide) (v := .pointer (some ⟨g2, 2, none⟩)) (x_field0 Tryd.underlying33 rfl rfl (Tryd.sizeOf9 W) (F.slot rfl)) (fun _ => trivial) (fun a F => ?_)
  refine sq2 (o_g 21 (.load 9 (.tmp 20)) 9 12 true (by kernel_rfl)) ⟨17, by kernel_rfl, rfl⟩ F (by decide) (v := .string t.f2) (x_load1 (Tryd.isAgg9 W) (F.slot rfl) (H.cell 3 rfl rfl)) (fun _ => trivial) (fun a F => ?_)
  refine sq2 (W' := W) (o_g 22 (.binOp .eql 9 (.tmp 19) (.tmp 21) 9) 4 12 true (by kernel_rfl)) ⟨17, by kernel_rfl, rfl⟩ F (by decide) (v := .bool (t.f2.toList == t.f2.toList)) (x_bin (F.slot rfl) (F.slot rfl) rfl) (fun _ => trivial) (fun a F => ?_)
  refine q2 (o_s 23 (.pick (.tmp 17) (.tmp 22) (.const (.bool false))) 4 (by kernel_rfl)) F (by decide) (v := .bool (t.f2.toList == t.f2.toList)) (x_pickT (F.slot rfl) (F.slot rfl)) (fun a F => ?_)
  refine q2 (o_s 24 (.move (.tmp 23)) 4 (by kernel_rfl)) F (by decide) (x_move (F.slot rfl)) (fun a F => ?_)
  have hb5 : (t.f2.toList == t.f2.toList) = true := by simp
  have F := F.at 24 rfl (v' := .bool true) (congrArg Value.bool hb5)
  refine sq2 (W' := W) (o_g 25 (.fieldAddr 33 (.tmp 2) 3) 0 19 true (by kernel_rfl)) ⟨24, by kernel_rfl, rfl⟩ F (by decide) (v := .pointer (some ⟨g1, 3, none⟩)) (x_field0 Tryd.underlying33 rfl rfl (Tryd.sizeOf30 W) (F.slot rfl)) (fun _ => trivial) (fun a F => ?_)
  refine sq2 (o_g 26 (.load 30 (.tmp 25)) 30 19 true (by kernel_rfl)) ⟨24, by kernel_rfl, rfl⟩ F (by decide) (v := .int .u64 t.f3) (x_load1 (Tryd.isAgg30 W) (F.slot rfl) (H.cell 2 rfl rfl)) (fun _ => trivial) (fun a F => ?_)
  refine sq2 (W' := W) (o_g 27 (.fieldAddr 33 (.tmp 3) 3) 0 19 true (by kernel_rfl)) ⟨24, by kernel_rfl, rfl⟩ F (by decide) (v := .pointer (some ⟨g2, 3, none⟩)) (x_field0 Tryd.underlying33 rfl rfl (Tryd.sizeOf30 W) (F.slot rfl)) (fun _ => trivial) (fun a F => ?_)
  refine sq2 (o_g 28 (.load 30 (.tmp 27)) 30 19 true (by kernel_rfl)) ⟨24, by kernel_rfl, rfl⟩ F (by decide) (v := .int .u64 t.f3) (x_load1 (Tryd.isAgg30 W) (F.slot rfl) (H.cell 3 rfl rfl)) (fun _ => trivial) (fun a F => ?_)
  refine sq2 (W' := W) (o_g 29 (.binOp .eql 30 (.tmp 26) (.tmp 28) 30) 4 19 true (by kernel_rfl)) ⟨24, by kernel_rfl, rfl⟩ F (by decide) (v := .bool (t.f3 == t.f3)) (x_int (F.slot rfl) (F.slot rfl) rfl) (fun _ => trivial) (fun a F => ?_)
  refine q2 (o_s 30 (.pick (.tmp 24) (.tmp 29) (.const (.bool false))) 4 (by kernel_rfl)) F (by decide) (v := .bool (t.f3 == t.f3)) (x_pickT (F.slot rfl) (F.slot rfl)) (fun a F => ?_)
  refine q2 (o_s 31 (.move (.tmp 30)) 4 (by kernel_rfl)) F (by decide) (x_move (F.slot rfl)) (fun a F => ?_)
  have hb6 : (t.f3 == t.f3) = true := by simp
  have F := F.at 31 rfl (v' := .bool true) (congrArg Value.bool hb6)
  refine sq2 (W' := W) (o_g 32 (.fieldAddr 33 (.tmp 2) 4) 0 26 true (by kernel_rfl)) ⟨31, by kernel_rfl, rfl⟩ F (by decide) (v := .pointer (some ⟨g1, 4, none⟩)) (x_field0 Tryd.underlying33 rfl rfl (Tryd.sizeOf30 W) (F.slot rfl)) (fun _ => trivial) (fun a F => ?_)
  refine sq2 (o_g 33 (.load 30 (.tmp 32)) 30 26 true (by kernel_rfl)) ⟨31, by kernel_rfl, rfl⟩ F (by decide) (v := .int .u64 t.f4) (x_load1 (Tryd.isAgg30 W) (F.slot rfl) (H.cell 2 rfl rfl)) (fun _ => trivial) (fun a F => ?_)
  refine sq2 (W' := W) (o_g 34 (.fieldAddr 33 (.tmp 3) 4) 0 26 true (by kernel_rfl)) ⟨31, by kernel_rfl, rfl⟩ F (by decide) (v := .pointer (some ⟨g2, 4, none⟩)) (x_field0 Tryd.underlying33 rfl rfl (Tryd.sizeOf30 W) (F.slot rfl)) (fun _ => trivial) (fun a F => ?_)
  refine sq2 (o_g 35 (.load 30 (.tmp 34)) 30 26 true (by kernel_rfl)) ⟨31, by kernel_rfl, rfl⟩ F (by decide) (v := .int .u64 t.f4) (x_load1 (Tryd.isAgg30 W) (F.slot rfl) (H.cell 3 rfl rfl)) (fun _ => trivial) (fun a F => ?_)
  refine sq2 (W' := W) (o_g 36 (.binOp .eql 30 (.tmp 33) (.tmp 35) 30) 4 26 true (by kernel_rfl)) ⟨31, by kernel_rfl, rfl⟩ F (by decide) (v := .bool (t.f4 == t.f4)) (x_int (F.slot rfl) (F.slot rfl) rfl) (fun _ => trivial) (fun a F => ?_)
  refine q2 (o_s 37 (.pick (.tmp 31) (.tmp 36) (.const (.bool false))) 4 (by kernel_rfl)) F (by decide) (v := .bool (t.f4 == t.f4)) (x_pickT (F.slot rfl) (F.slot rfl)) (fun a F => ?_)
  refine q2 (o_s 38 (.move (.tmp 37)) 4 (by kernel_rfl)) F (by decide) (x_move (F.slot rfl)) (fun a F => ?_)
  have hb7 : (t.f4 == t.f4) = true := by simp
  have F := F.at 38 rfl (v' := .bool true) (congrArg Value.bool hb7)
  refine sq2 (W' := W) (o_g 39 (.fieldAddr 33 (.tmp 2) 5) 0 33 true (by kernel_rfl)) ⟨38, by kernel_rfl, rfl⟩ F (by decide) (v := .pointer (some ⟨g1, 5, none⟩)) (x_field0 Tryd.underlying33 rfl rfl (Tryd.sizeOf9 W) (F.slot rfl)) (fun _ => trivial) (fun a F => ?_)
  refine sq2 (o_g 40 (.load 9 (.tmp 39)) 9 33 true (by kernel_rfl)) ⟨38, by kernel_rfl, rfl⟩ F (by decide) (v := .string t.f5) (x_load1 (Tryd.isAgg9 W) (F.slot rfl) (H.cell 2 rfl rfl)) (fun _ => trivial) (fun a F => ?_)
  refine sq2 (W' := W) (o_g 41 (.fieldAddr 33 (.tmp 3) 5) 0 33 true (by kernel_rfl)) ⟨38, by kernel_rfl, rfl⟩ F (by decide) (v := .pointer (some ⟨g2, 5, none⟩)) (x_field0 Tryd.underlying33 rfl rfl (Tryd.sizeOf9 W) (F.slot rfl)) (fun _ => trivial) (fun a F => ?_)
  refine sq2 (o_g 42 (.load 9 (.tmp 41)) 9 33 true (by kernel_rfl)) ⟨38, by kernel_rfl, rfl⟩ F (by decide) (v := .string t.f5) (x_load1 (Tryd.isAgg9 W) (F.slot rfl) (H.cell 3 rfl rfl)) (fun _ => trivial) (fun a F => ?_)
  refine sq2 (W' := W) (o_g 43 (.binOp .eql 9 (.tmp 40) (.tmp 42) 9) 4 33 true (by kernel_rfl)) ⟨38, by kernel_rfl, rfl⟩ F (by decide) (v := .bool (t.f5.toList == t.f5.toList)) (x_bin (F.slot rfl) (F.slot rfl) rfl) (fun _ => trivial) (fun a F => ?_)
  refine q2 (o_s 44 (.pick (.tmp 38) (.tmp 43) (.const (.bool false))) 4 (by kernel_rfl)) F (by decide) (v := .bool (t.f5.toList == t.f5.toList)) (x_pickT (F.slot rfl) (F.slot rfl)) (fun a F => ?_)
  refine q2 (o_s 45 (.move (.tmp 44)) 4 (by kernel_rfl)) F (by decide) (x_move (F.slot rfl)) (fun a F => ?_)
  have hb8 : (t.f5.toList == t.f5.toList) = true := by simp
  have F := F.at 45 rfl (v' := .bool true) (congrArg Value.bool hb8)
  refine sq2 (W' := W) (o_g 46 (.fieldAddr 33 (.tmp 2) 6) 0 40 true (by kernel_rfl)) ⟨45, by kernel_rfl, rfl⟩ F (by decide) (v := .pointer (some ⟨g1, 6, none⟩)) (x_field0 Tryd.underlying33 rfl rfl (Tryd.sizeOf9 W) (F.slot rfl)) (fun _ => trivial) (fun a F => ?_)
  refine sq2 (o_g 47 (.load 9 (.tmp 46)) 9 40 true (by kernel_rfl)) ⟨45, by kernel_rfl, rfl⟩ F (by decide) (v := .string t.f6) (x_load1 (Tryd.isAgg9 W) (F.slot rfl) (H.cell 2 rfl rfl)) (fun _ => trivial) (fun a F => ?_)
  refine sq2 (W' := W) (o_g 48 (.fieldAddr 33 (.tmp 3) 6) 0 40 true (by kernel_rfl)) ⟨45, by kernel_rfl, rfl⟩ F (by decide) (v := .pointer (some ⟨g2, 6, none⟩)) (x_field0 Tryd.underlying33 rfl rfl (Tryd.sizeOf9 W) (F.slot rfl)) (fun _ => trivial) (fun a F => ?_)
  refine sq2 (o_g 49 (.load 9 (.tmp 48)) 9 40 true (by kernel_rfl)) ⟨45, by kernel_rfl, rfl⟩ F (by decide) (v := .string t.f6) (x_load1 (Tryd.isAgg9 W) (F.slot rfl) (H.cell 3 rfl rfl)) (fun _ => trivial) (fun a F => ?_)
  refine sq2 (W' := W) (o_g 50 (.binOp .eql 9 (.tmp 47) (.tmp 49) 9) 4 40 true (by kernel_rfl)) ⟨45, by kernel_rfl, rfl⟩ F (by decide) (v := .bool (t.f6.toList == t.f6.toList)) (x_bin (F.slot rfl) (F.slot rfl) rfl) (fun _ => trivial) (fun a F => ?_)
  refine q2 (o_s 51 (.pick (.tmp 45) (.tmp 50) (.const (.bool false))) 4 (by kernel_rfl)) F (by decide) (v := .bool (t.f6.toList == t.f6.toList)) (x_pickT (F.slot rfl) (F.slot rfl)) (fun a F => ?_)
  refine q2 (o_s 52 (.move (.tmp 51)) 4 (by kernel_rfl)) F (by decide) (x_move (F.slot rfl)) (fun a F => ?_)
  have hb9 : (t.f6.toList == t.f6.toList) = true := by simp
  have F := F.at 52 rfl (v' := .bool true) (congrArg Value.bool hb9)
  refine sq2 (W' := W) (o_g 53 (.fieldAddr 33 (.tmp 2) 7) 0 47 true (by kernel_rfl)) ⟨52, by kernel_rfl, rfl⟩ F (by decide) (v := .pointer (some ⟨g1, 7, none⟩)) (x_field0 Tryd.underlying33 rfl rfl (Tryd.sizeOf31 W) (F.slot rfl)) (fun _ => trivial) (fun a F => ?_)
  refine sq2 (o_g 54 (.load 31 (.tmp 53)) 31 47 true (by kernel_rfl)) ⟨52, by kernel_rfl, rfl⟩ F (by decide) (v := .slice A t.f7.length c) (x_load1 (Tryd.isAgg31 W) (F.slot rfl) (H.cell 2 rfl rfl)) (fun _ => trivial) (fun a F => ?_)
  refine sq2 (W' := W) (o_g 55 (.fieldAddr 33 (.tmp 3) 7) 0 47 true (by kernel_rfl)) ⟨52, by kernel_rfl, rfl⟩ F (by decide) (v := .pointer (some ⟨g2, 7, none⟩)) (x_field0 Tryd.underlying33 rfl rfl (Tryd.sizeOf31 W) (F.slot rfl)) (fun _ => trivial) (fun a F => ?_)
  refine sq2 (o_g 56 (.load 31 (.tmp 55)) 31 47 true (by kernel_rfl)) ⟨52, by kernel_rfl, rfl⟩ F (by decide) (v := .slice A' t.f7.length c') (x_load1 (Tryd.isAgg31 W) (F.slot rfl) (H.cell 3 rfl rfl)) (fun _ => trivial) (fun a F => ?_)
  obtain ⟨l7, g7, l8, g8⟩ := k33_parts (H.rd 0 rfl)
  obtain ⟨m7, q7, m8, q8⟩ := k33_parts (H.rd 1 rfl)
  refine sqc (o_g 57 (.call { callee := (.value (.func 43)), args := #[(.tmp 54), (.tmp 56)], argTypes := #[31, 31] }) 4 47 true (by kernel_rfl)) ⟨52, by kernel_rfl, rfl⟩ F (by decide) (x_call Tryd.func43 (by kernel_rfl) rfl (args_2 (F.slot rfl) (F.slot rfl))) (bsame1_calls t.f7 A c A' c' W hL.1 g7 l7 q7 m7) ?_
  rintro e W ⟨rfl, hB⟩
  refine ⟨_, rfl, fun a F => ?_⟩
  have H := H.below hB
  refine ⟨(fun _ => trivial), ?_⟩
  refine q2 (o_s 58 (.pick (.tmp 52) (.tmp 57) (.const (.bool false))) 4 (by kernel_rfl)) F (by decide) (v := .bool true) (x_pickT (F.slot rfl) (F.slot rfl)) (fun a F => ?_)
  refine q2 (o_s 59 (.move (.tmp 58)) 4 (by kernel_rfl)) F (by decide) (x_move (F.slot rfl)) (fun a F => ?_)
  refine sq2 (W' := W) (o_g 60 (.fieldAddr 33 (.tmp 2) 8) 0 54 true (by kernel_rfl)) ⟨59, by kernel_rfl, rfl⟩ F (by decide) (v := .pointer (some ⟨g1, 8, none⟩)) (x_field0 Tryd.underlying33 rfl rfl (Tryd.sizeOf31 W) (F.slot rfl)) (fun _ => trivial) (fun a F => ?_)
  refine sq2 (o_g 61 (.load 31 (.tmp 60)) 31 54 true (by kernel_rfl)) ⟨59, by kernel_rfl, rfl⟩ F (by decide) (v := .slice B t.f8.length d) (x_load1 (Tryd.isAgg31 W) (F.slot rfl) (H.cell 2 rfl rfl)) (fun _ => trivial) (fun a F => ?_)
  refine sq2 (W' := W) (o_g 62 (.fieldAddr 33 (.tmp 3) 8) 0 54 true (by kernel_rfl)) ⟨59, by kernel_rfl, rfl⟩ F (by decide) (v := .pointer (some ⟨g2, 8, none⟩)) (x_field0 Tryd.underlying33 rfl rfl (Tryd.sizeOf31 W) (F.slot rfl)) (fun _ => trivial) (fun a F => ?_)
  refine sq2 (o_g 63 (.load 31 (.tmp 62)) 31 54 true (by kernel_rfl)) ⟨59, by kernel_rfl, rfl⟩ F (by decide) (v := .slice B' t.f8.length d') (x_load1 (Tryd.isAgg31 W) (F.slot rfl) (H.cell 3 rfl rfl)) (fun _ => trivial) (fun a F => ?_)
  obtain ⟨l7, g7, l8, g8⟩ := k33_parts (H.rd 0 rfl)
  obtain ⟨m7, q7, m8, q8⟩ := k33_parts (H.rd 1 rfl)
  refine sqc (o_g 64 (.call { callee := (.value (.func 43)), args := #[(.tmp 61), (.tmp 63)], argTypes := #[31, 31] }) 4 54 true (by kernel_rfl)) ⟨59, by kernel_rfl, rfl⟩ F (by decide) (x_call Tryd.func43 (by kernel_rfl) rfl (args_2 (F.slot rfl) (F.slot rfl))) (bsame1_calls t.f8 B d B' d' W hL.2 g8 l8 q8 m8) ?_
  rintro e W ⟨rfl, hB⟩
  refine ⟨_, rfl, fun a F => ?_⟩
  have H := H.below hB
  refine ⟨(fun _ => trivial), ?_⟩
  refine q2 (o_s 65 (.pick (.tmp 59) (.tmp 64) (.const (.bool false))) 4 (by kernel_rfl)) F (by decide) (v := .bool true) (x_pickT (F.slot rfl) (F.slot rfl)) (fun a F => ?_)
  refine q2 (o_s 4 (.assign (.tmp 65)) 4 (by kernel_rfl)) F (by decide) (v := .bool true) (x_assign (F.slot rfl)) (fun a F => ?_)
  unfold wpSeq
  have F := F.less [(0, .agg (txc t A c B d).toArray), (1, .agg #[.int .i64 t.f0, .string t.f1, .string t.f2, .int .u64 t.f3, .int .u64 t.f4, .string t.f5, .string t.f6, .slice A' t.f7.length c', .slice B' t.f8.length d']), (4, .bool true)] (subc rfl (subc rfl (subc rfl sub0)))
  refine t_normal ?_
  refine c_ret (by kernel_rfl) ?_
  refine p_tmp Tryd.results27 F rfl ?_
  exact ⟨rfl, H.ends⟩
theorem k33_oldC {w : World} {A : Option Addr} {n : Nat} {l : List S33} (h : k33.C w A n l) : Foot (fun W => k33.C W A n l) w (fun k => k < w.heap.size) := fun W' hW => k33_heap.C (fun k hk => hW k hk hk) h
theorem bsame_calls (au n : Int) (A A' : Option Addr) (c c' : Nat) (l : List S33) (w : World) (hl : l.length < 4611686018427387904) (hL : ∀ t ∈ l, LenT t) (hr : k33.C w A l.length l) (hc : l.length ≤ c) (hr' : k33.C w A' l.length l) (hc' : l.length ≤ c') :
    Calls Tryd.prog 23 #[.agg #[.int .i64 au, .int .i64 n, .slice A l.length c], .agg #[.int .i64 au, .int .i64 n, .slice A' l.length c']] w fun e w' => e = .returned (.bool true) ∧ Below w.heap.size w w' := by
  have H0 : St w (fun _ => False) (fun _ => True) [Asn.rd k33 (fun k => k < w.heap.size) A l.length l, Asn.rd k33 (fun k => k < w.heap.size) A' l.length l] w := ((St.first w _ _).old _ (k33_oldC hr) (fun B hB => by cases hB)).old _ (k33_oldC hr') (fun B hB k hk => by rcases List.mem_singleton.1 hB with rfl; exact hk.elim)
  refine c_enter2 (args := [.agg #[.int .i64 au, .int .i64 n, .slice A l.length c], .agg #[.int .i64 au, .int .i64 n, .slice A' l.length c']]) (S := (fun _ => False)) (R := (fun _ => True)) (M := [Asn.rd k33 (fun k => k < w.heap.size) A l.length l, Asn.rd k33 (fun k => k < w.heap.size) A' l.length l]) Tryd.func23 (by kernel_rfl) 46 Tryd.ntmps23 (Nat.le_of_ble_eq_true rfl) (H0) (fun a W F H => ?_)
  have F := F.less [(0, .agg #[.int .i64 au, .int .i64 n, .slice A l.length c]), (1, .agg #[.int .i64 au, .int .i64 n, .slice A' l.length c'])] (subc rfl (subc rfl sub0))
  refine c_seq (by kernel_rfl) ?_
  refine c_text (id := 0) (by kernel_rfl) [(0, 2), (1, 2), (2, 2)] (by kernel_rfl) ?_
  refine sq_new (o_s 2 (.box 40 (.tmp 0)) 0 (by kernel_rfl)) trivial F (by decide) H [.int .i64 au, .int .i64 n, .slice A l.length c] 40 (x_box (F.slot rfl) rfl) ?_
  intro g1 W a hg1 H F
  refine ⟨(fun _ => trivial), ?_⟩
  refine sq_new (o_s 3 (.box 40 (.tmp 1)) 0 (by kernel_rfl)) trivial F (by decide) H [.int .i64 au, .int .i64 n, .slice A' l.length c'] 40 (x_box (F.slot rfl) rfl) ?_
  intro g2 W a hg2 H F
  refine ⟨(fun _ => trivial), ?_⟩
  refine q2 (o_s 4 (.assign (.const (.bool false))) 4 (by kernel_rfl)) F (by decide) (v := .bool false) (x_assign rfl) (fun a F => ?_)
  unfold wpSeq
  have H : St w (fun _ => False) (fun _ => True) [Asn.rd k33 (fun k => k < w.heap.size) A l.length l, Asn.rd k33 (fun k => k < w.heap.size) A' l.length l, Asn.blk g1 [.int .i64 au, .int .i64 n, .slice A l.length c] 40, Asn.blk g2 [.int .i64 au, .int .i64 n, .slice A' l.length c'] 40] W := H
  refine t_normal ?_
  refine c_seq (by kernel_rfl) ?_
  refine c_seq (by kernel_rfl) ?_
  refine c_text (id := 1) (by kernel_rfl) [(0, 2), (1, 2), (2, 2), (3, 2), (4, 2), (5, 2), (6, 2), (7, 2), (8, 2), (9, 2), (10, 2), (11, 2), (12, 2), (13, 2), (14, 2), (15, 2), (16, 2), (17, 2), (18, 2), (19, 2), (20, 2)] (by kernel_rfl) ?_
  refine q2 (o_s 6 (.fieldAddr 40 (.tmp 2) 0) 0 (by kernel_rfl)) F (by decide) (v := .pointer (some ⟨g1, 0, none⟩)) (x_field0 Tryd.underlying40 rfl rfl (Tryd.sizeOf3 W) (F.slot rfl)) (fun a F => ?_)
  refine q2 (o_s 7 (.load 3 (.tmp 6)) 3 (by kernel_rfl)) F (by decide) (v := .int .i64 au) (x_load1 (Tryd.isAgg3 W) (F.slot rfl) (H.cell 2 rfl rfl)) (fun a F => ?_)
  refine q2 (o_s 8 (.fieldAddr 40 (.tmp 3) 0) 0 (by kernel_rfl)) F (by decide) (v := .pointer (some ⟨g2, 0, none⟩)) (x_field0 Tryd.underlying40 rfl rfl (Tryd.sizeOf3 W) (F.slot rfl)) (fun a F => ?_)
  refine q2 (o_s 9 (.load 3 (.tmp 8)) 3 (by kernel_rfl)) F (by decide) (v := .int .i64 au) (x_load1 (Tryd.isAgg3 W) (F.slot rfl) (H.cell 3 rfl rfl)) (fun a F => ?_)
  refine q2 (o_s 10 (.binOp .neq 3 (.tmp 7) (.tmp 9) 3) 4 (by kernel_rfl)) F (by decide) (v := .bool (au != au)) (x_int (F.slot rfl) (F.slot rfl) rfl) (fun a F => ?_)
  refine q2 (o_s 11 (.move (.tmp 10)) 4 (by kernel_rfl)) F (by decide) (x_move (F.slot rfl)) (fun a F => ?_)
  have hb3 : (au != au) = false := by simp
  have F := F.at 11 rfl (v' := .bool false) (congrArg Value.bool hb3)
  refine sq2 (W' := W) (o_g 12 (.fieldAddr 40 (.tmp 2) 1) 0 5 false (by kernel_rfl)) ⟨11, by kernel_rfl, rfl⟩ F (by decide) (v := .pointer (some ⟨g1, 1, none⟩)) (x_field0 Tryd.underlying40 rfl rfl (Tryd.sizeOf3 W) (F.slot rfl)) (fun _ => trivial) (fun a F => ?_)
  refine sq2 (o_g 13 (.load 3 (.tmp 12)) 3 5 false (by kernel_rfl)) ⟨11, by kernel_rfl, rfl⟩ F (by decide) (v := .int .i64 n) (x_load1 (Tryd.isAgg3 W) (F.slot rfl) (H.cell 2 rfl rfl)) (fun _ => trivial) (fun a F => ?_)
  refine sq2 (W' := W) (o_g 14 (.fieldAddr 40 (.tmp 3) 1) 0 5 false (by kernel_rfl)) ⟨11, by kernel_rfl, rfl⟩ F (by decide) (v := .pointer (some ⟨g2, 1, none⟩)) (x_field0 Tryd.underlying40 rfl rfl (Tryd.sizeOf3 W) (F.slot rfl)) (fun _ => trivial) (fun a F => ?_)
  refine sq2 (o_g 15 (.load 3 (.tmp 14)) 3 5 false (by kernel_rfl)) ⟨11, by kernel_rfl, rfl⟩ F (by decide) (v := .int .i64 n) (x_load1 (Tryd.isAgg3 W) (F.slot rfl) (H.cell 3 rfl rfl)) (fun _ => trivial) (fun a F => ?_)
  refine sq2 (W' := W) (o_g 16 (.binOp .neq 3 (.tmp 13) (.tmp 15) 3) 4 5 false (by kernel_rfl)) ⟨11, by kernel_rfl, rfl⟩ F (by decide) (v := .bool (n != n)) (x_int (F.slot rfl) (F.slot rfl) rfl) (fun _ => trivial) (fun a F => ?_)
  refine q2 (o_s 17 (.pick (.tmp 11) (.const (.bool true)) (.tmp 16)) 4 (by kernel_rfl)) F (by decide) (v := .bool (n != n)) (x_pickF (F.slot rfl) (F.slot rfl)) (fun a F => ?_)
  refine q2 (o_s 18 (.move (.tmp 17)) 4 (by kernel_rfl)) F (by decide) (x_move (F.slot rfl)) (fun a F => ?_)
  have hb4 : (n != n) = false := by simp
  have F := F.at 18 rfl (v' := .bool false) (congrArg Value.bool hb4)
  refine sq2 (W' := W) (o_g 19 (.fieldAddr 40 (.tmp 2) 2) 0 12 false (by kernel_rfl)) ⟨18, by kernel_rfl, rfl⟩ F (by decide) (v := .pointer (some ⟨g1, 2, none⟩)) (x_field0 Tryd.underlying40 rfl rfl (Tryd.sizeOf38 W) (F.slot rfl)) (fun _ => trivial) (fun a F => ?_)
  refine sq2 (o_g 20 (.load 38 (.tmp 19)) 38 12 false (by kernel_rfl)) ⟨18, by kernel_rfl, rfl⟩ F (by decide) (v := .slice A l.length c) (x_load1 (Tryd.isAgg38 W) (F.slot rfl) (H.cell 2 rfl rfl)) (fun _ => trivial) (fun a F => ?_)
  refine sq2 (W' := W) (o_g 21 (.call { callee := (.builtin .len), args := #[(.tmp 20)], argTypes := #[38] }) 3 12 false (by kernel_rfl)) ⟨18, by kernel_rfl, rfl⟩ F (by decide) (v := .int .i64 (l.length : Int)) (x_lenL Tryd.underlying38 (F.slot rfl)) (fun _ => trivial) (fun a F => ?_)
  refine sq2 (W' := W) (o_g 22 (.fieldAddr 40 (.tmp 3) 2) 0 12 false (by kernel_rfl)) ⟨18, by kernel_rfl, rfl⟩ F (by decide) (v := .pointer (some ⟨g2, 2, none⟩)) (x_field0 Tryd.underlying40 rfl rfl (Tryd.sizeOf38 W) (F.slot rfl)) (fun _ => trivial) (fun a F => ?_)
  refine sq2 (o_g 23 (.load 38 (.tmp 22)) 38 12 false (by kernel_rfl)) ⟨18, by kernel_rfl, rfl⟩ F (by decide) (v := .slice A' l.length c') (x_load1 (Tryd.isAgg38 W) (F.slot rfl) (H.cell 3 rfl rfl)) (fun _ => trivial) (fun a F => ?_)
  refine sq2 (W' := W) (o_g 24 (.call { callee := (.builtin .len), args := #[(.tmp 23)], argTypes := #[38] }) 3 12 false (by kernel_rfl)) ⟨18, by kernel_rfl, rfl⟩ F (by decide) (v := .int .i64 (l.length : Int)) (x_lenL Tryd.underlying38 (F.slot rfl)) (fun _ => trivial) (fun a F => ?_)
  refine sq2 (W' := W) (o_g 25 (.binOp .neq 3 (.tmp 21) (.tmp 24) 3) 4 12 false (by kernel_rfl)) ⟨18, by kernel_rfl, rfl⟩ F (by decide) (v := .bool ((l.length : Int) != (l.length : Int))) (x_int (F.slot rfl) (F.slot rfl) rfl) (fun _ => trivial) (fun a F => ?_)
  refine q2 (o_s 26 (.pick (.tmp 18) (.const (.bool true)) (.tmp 25)) 4 (by kernel_rfl)) F (by decide) (v := .bool ((l.length : Int) != (l.length : Int))) (x_pickF (F.slot rfl) (F.slot rfl)) (fun a F => ?_)
  unfold wpSeq
  refine t_normal ?_
  have hb5 : ((l.length : Int) != (l.length : Int)) = false := by simp
  have F := F.at 26 rfl (v' := .bool false) (congrArg Value.bool hb5)
  refine c_no (c := .tmp 26) (by kernel_rfl) (F.slot rfl) ?_
  refine c_skip (by kernel_rfl) ?_
  refine t_normal ?_
  refine c_seq (by kernel_rfl) ?_
  refine c_seq (by kernel_rfl) ?_
  refine c_text (id := 3) (by kernel_rfl) [(0, 2)] (by kernel_rfl) ?_
  refine q2 (o_s 5 (.assign (.const (.int .i64 0))) 3 (by kernel_rfl)) F (by decide) (v := .int .i64 0) (x_assign rfl) (fun a F => ?_)
  unfold wpSeq
  refine t_normal ?_
  refine c_block (id := 0) (by kernel_rfl) ?_
  refine c_loop (by kernel_rfl) (fun k a W => ∃ (i : Nat), Fr 46 [(0, .agg #[.int .i64 au, .int .i64 n, .slice A l.length c]), (1, .agg #[.int .i64 au, .int .i64 n, .slice A' l.length c']), (2, .pointer (some ⟨g1, 0, none⟩)), (3, .pointer (some ⟨g2, 0, none⟩)), (6, .pointer (some ⟨g1, 0, none⟩)), (7, .int .i64 au), (8, .pointer (some ⟨g2, 0, none⟩)), (9, .int .i64 au), (10, .bool (au != au)), (11, .bool false), (12, .pointer (some ⟨g1, 1, none⟩)), (13, .int .i64 n), (14, .pointer (some ⟨g2, 1, none⟩)), (15, .int .i64 n), (16, .bool (n != n)), (17, .bool (n != n)), (18, .bool false), (19, .pointer (some ⟨g1, 2, none⟩)), (20, .slice A l.length c), (21, .int .i64 (l.length : Int)), (22, .pointer (some ⟨g2, 2, none⟩)), (23, .slice A' l.length c'), (24, .int .i64 (l.length : Int)), (25, .bool ((l.length : Int) != (l.length : Int))), (26, .bool false), (5, .int .i64 (i : Int))] a ∧ St w (fun _ => False) (fun _ => True) [Asn.rd k33 (fun k => k < w.heap.size) A l.length l, Asn.rd k33 (fun k => k < w.heap.size) A' l.length l, Asn.blk g1 [.int .i64 au, .int .i64 n, .slice A l.length c] 40, Asn.blk g2 [.int .i64 au, .int .i64 n, .slice A' l.length c'] 40] W ∧ (k + i = l.length) ∧ (i ≤ l.length)) l.length ⟨0, F.less _ (subc rfl (subc rfl (subc rfl (subc rfl (subc rfl (subc rfl (subc rfl (subc rfl (subc rfl (subc rfl (subc rfl (subc rfl (subc rfl (subc rfl (subc rfl (subc rfl (subc rfl (subc rfl (subc rfl (subc rfl (subc rfl (subc rfl (subc rfl (subc rfl (subc rfl (subc rfl sub0)))))))))))))))))))))))))), H, (by omega), (Nat.zero_le _)⟩ ?_
  rintro k a W ⟨i, F, H, hki, hi⟩
  refine c_seq (by kernel_rfl) ?_
  refine c_seq (by kernel_rfl) ?_
  refine c_text (id := 4) (by kernel_rfl) [(0, 2), (1, 2), (2, 2), (3, 2), (4, 2)] (by kernel_rfl) ?_
  refine q2 (o_s 27 (.move (.tmp 5)) 3 (by kernel_rfl)) F (by decide) (x_move (F.slot rfl)) (fun a F => ?_)
  refine q2 (o_s 28 (.fieldAddr 40 (.tmp 2) 2) 0 (by kernel_rfl)) F (by decide) (v := .pointer (some ⟨g1, 2, none⟩)) (x_field0 Tryd.underlying40 rfl rfl (Tryd.sizeOf38 W) (F.slot rfl)) (fun a F => ?_)
  refine q2 (o_s 29 (.load 38 (.tmp 28)) 38 (by kernel_rfl)) F (by decide) (v := .slice A l.length c) (x_load1 (Tryd.isAgg38 W) (F.slot rfl) (H.cell 2 rfl rfl)) (fun a F => ?_)
  refine q2 (o_s 30 (.call { callee := (.builtin .len), args := #[(.tmp 29)], argTypes := #[38] }) 3 (by kernel_rfl)) F (by decide) (v := .int .i64 (l.length : Int)) (x_lenL Tryd.underlying38 (F.slot rfl)) (fun a F => ?_)
  refine q2 (o_s 31 (.binOp .lss 3 (.tmp 27) (.tmp 30) 3) 4 (by kernel_rfl)) F (by decide) (v := .bool (decide ((i : Int) < (l.length : Int)))) (x_int (F.slot rfl) (F.slot rfl) rfl) (fun a F => ?_)
  unfold wpSeq
  refine t_normal ?_
  rcases bool_or (decide ((i : Int) < (l.length : Int))) with hb6 | hb6
  · have hb6d := of_decide_eq_true hb6
    have F := F.at 31 rfl (v' := .bool true) (congrArg Value.bool hb6)
    refine c_yes (c := .tmp 31) (by kernel_rfl) (F.slot rfl) ?_
    refine c_skip (by kernel_rfl) ?_
    refine t_normal ?_
    refine c_seq (by kernel_rfl) ?_
    refine c_block (id := 1) (by kernel_rfl) ?_
    refine c_seq (by kernel_rfl) ?_
    have hil : i < l.length := by omega
    obtain ⟨u, hu⟩ : ∃ u, l[i]? = some u := ⟨_, List.getElem?_eq_getElem hil⟩
    obtain ⟨adu1, csu1, hAu1, hKu1, H⟩ := H.elem 0 rfl (by decide) i u hu
    obtain ⟨Au7, cu7, Au8, cu8, rfl, lu7, gu7, lu8, gu8⟩ := PB.k33_open hKu1
    have H : St w (fun _ => False) (fun _ => True) [Asn.rd k33 (fun k => k < w.heap.size) A l.length l, Asn.rd k33 (fun k => k < w.heap.size) A' l.length l, Asn.blk g1 [.int .i64 au, .int .i64 n, .slice A l.length c] 40, Asn.blk g2 [.int .i64 au, .int .i64 n, .slice A' l.length c'] 40, Asn.fk k33 (fun k => k < w.heap.size) u (txc u Au7 cu7 Au8 cu8), Asn.cl (adu1.add (i * 9)) (txc u Au7 cu7 Au8 cu8) (fun k => k < w.heap.size)] W := H
    obtain ⟨adu2, csu2, hAu2, hKu2, H⟩ := H.elem 1 rfl (by decide) i u hu
    obtain ⟨Av7, cv7, Av8, cv8, rfl, lv7, gv7, lv8, gv8⟩ := PB.k33_open hKu2
    have H : St w (fun _ => False) (fun _ => True) [Asn.rd k33 (fun k => k < w.heap.size) A l.length l, Asn.rd k33 (fun k => k < w.heap.size) A' l.length l, Asn.blk g1 [.int .i64 au, .int .i64 n, .slice A l.length c] 40, Asn.blk g2 [.int .i64 au, .int .i64 n, .slice A' l.length c'] 40, Asn.fk k33 (fun k => k < w.heap.size) u (txc u Au7 cu7 Au8 cu8), Asn.cl (adu1.add (i * 9)) (txc u Au7 cu7 Au8 cu8) (fun k => k < w.heap.size), Asn.fk k33 (fun k => k < w.heap.size) u (txc u Av7 cv7 Av8 cv8), Asn.cl (adu2.add (i * 9)) (txc u Av7 cv7 Av8 cv8) (fun k => k < w.heap.size)] W := H
    refine c_drawn (id := 6) (by kernel_rfl) (by kernel_rfl) (Vs [Asn.blk g1 [.int .i64 au, .int .i64 n, .slice A l.length c] 40, Asn.cl (adu1.add (i * 9)) (txc u Au7 cu7 Au8 cu8) (fun k => k < w.heap.size), Asn.blk g2 [.int .i64 au, .int .i64 n, .slice A' l.length c'] 40, Asn.cl (adu2.add (i * 9)) (txc u Av7 cv7 Av8 cv8) (fun k => k < w.heap.size)]) [0, 1, 0, 7, 15, 0, 32, 0, 224, 480, 1023, 2047] [] [(0, 0), (2, 0), (5, 0), (7, 0), (1, 1), (3, 0), (4, 1), (6, 1), (8, 0), (9, 1), (10, 2), (11, 0)] (by kernel_rfl) (fun _ _ d _ _ h => by cases d <;> exact h) (Vs.drew ⟨H.get 2 rfl, H.get 5 rfl, H.get 3 rfl, H.get 7 rfl, trivial⟩) ?_
    have H := H.drew
    generalize World.drew W = W at H ⊢
    refine q0 (o_s 34 (.fieldAddr 40 (.tmp 2) 2) 0 (by kernel_rfl)) F (by decide) (v := .pointer (some ⟨g1, 2, none⟩)) (fun W_ => x_field0 Tryd.underlying40 rfl rfl (Tryd.sizeOf38 W_) (F.slot rfl)) (fun a F => ?_)
    refine q0 (o_s 36 (.move (.tmp 5)) 3 (by kernel_rfl)) F (by decide) (fun W_ => x_move (F.slot rfl)) (fun a F => ?_)
    refine q0 (o_s 39 (.fieldAddr 40 (.tmp 3) 2) 0 (by kernel_rfl)) F (by decide) (v := .pointer (some ⟨g2, 2, none⟩)) (fun W_ => x_field0 Tryd.underlying40 rfl rfl (Tryd.sizeOf38 W_) (F.slot rfl)) (fun a F => ?_)
    refine q0 (o_s 41 (.move (.tmp 5)) 3 (by kernel_rfl)) F (by decide) (fun W_ => x_move (F.slot rfl)) (fun a F => ?_)
    refine q1 (o_s 35 (.load 38 (.tmp 34)) 38 (by kernel_rfl)) F (by decide) (⟨H.get 2 rfl, H.get 5 rfl, H.get 3 rfl, H.get 7 rfl, trivial⟩) (v := .slice A l.length c) (fun W_ hV => x_load1 (Tryd.isAgg38 W_) (F.slot rfl) (bcell hV.1 rfl)) (fun a F => ?_)
    refine q0 (o_s 37 (.indexAddr 38 (.tmp 35) (.tmp 36)) 0 (by kernel_rfl)) F (by decide) (v := .pointer (some (adu1.add (i * 9)))) (fun W_ => x_indexE Tryd.underlying38 (Tryd.sizeOf33 W_) (F.slot rfl) hAu1 (F.slot rfl) (by omega)) (fun a F => ?_)
    refine q1 (o_s 38 (.load 33 (.tmp 37)) 33 (by kernel_rfl)) F (by decide) (⟨H.get 2 rfl, H.get 5 rfl, H.get 3 rfl, H.get 7 rfl, trivial⟩) (v := .agg (txc u Au7 cu7 Au8 cu8).toArray) (fun W_ hV => x_loadN (Tryd.isAgg33 W_) (txc u Au7 cu7 Au8 cu8) (Tryd.sizeOf33 W_) (F.slot rfl) (clnz hV.2.1 _ rfl)) (fun a F => ?_)
    refine q1 (o_s 40 (.load 38 (.tmp 39)) 38 (by kernel_rfl)) F (by decide) (⟨H.get 2 rfl, H.get 5 rfl, H.get 3 rfl, H.get 7 rfl, trivial⟩) (v := .slice A' l.length c') (fun W_ hV => x_load1 (Tryd.isAgg38 W_) (F.slot rfl) (bcell hV.2.2.1 rfl)) (fun a F => ?_)
    refine q0 (o_s 42 (.indexAddr 38 (.tmp 40) (.tmp 41)) 0 (by kernel_rfl)) F (by decide) (v := .pointer (some (adu2.add (i * 9)))) (fun W_ => x_indexE Tryd.underlying38 (Tryd.sizeOf33 W_) (F.slot rfl) hAu2 (F.slot rfl) (by omega)) (fun a F => ?_)
    refine q1 (o_s 43 (.load 33 (.tmp 42)) 33 (by kernel_rfl)) F (by decide) (⟨H.get 2 rfl, H.get 5 rfl, H.get 3 rfl, H.get 7 rfl, trivial⟩) (v := .agg (txc u Av7 cv7 Av8 cv8).toArray) (fun W_ hV => x_loadN (Tryd.isAgg33 W_) (txc u Av7 cv7 Av8 cv8) (Tryd.sizeOf33 W_) (F.slot rfl) (clnz hV.2.2.2.1 _ rfl)) (fun a F => ?_)
    refine sqc (o_s 44 (.call { callee := (.value (.func 27)), args := #[(.tmp 38), (.tmp 43)], argTypes := #[33, 33] }) 4 (by kernel_rfl)) trivial F (by decide) (x_call Tryd.func27 (by kernel_rfl) rfl (args_2 (F.slot rfl) (F.slot rfl))) (same4_calls u Au7 cu7 Au8 cu8 Av7 cv7 Av8 cv8 W (hL u (List.mem_of_getElem? hu)) (H.rd 4 rfl) (H.rd 6 rfl)) ?_
    rintro e W ⟨rfl, hB⟩
    refine ⟨_, rfl, fun a F => ?_⟩
    have H := H.below hB
    refine ⟨(fun _ => ⟨H.get 2 rfl, H.get 5 rfl, H.get 3 rfl, H.get 7 rfl, trivial⟩), ?_⟩
    refine q0 (o_s 45 (.unOp .not 4 (.tmp 44)) 4 (by kernel_rfl)) F (by decide) (v := .bool false) (fun W_ => x_not (b := true) (F.slot rfl)) (fun a F => ?_)
    unfold wpSeq
    refine t_normal ?_
    refine c_no (c := .tmp 45) (by kernel_rfl) (F.slot rfl) ?_
    refine c_skip (by kernel_rfl) ?_
    refine b_normal ?_
    refine t_normal ?_
    refine c_text (id := 5) (by kernel_rfl) [(0, 2), (1, 2), (2, 2)] (by kernel_rfl) ?_
    refine q2 (o_s 32 (.move (.tmp 5)) 3 (by kernel_rfl)) F (by decide) (x_move (F.slot rfl)) (fun a F => ?_)
    refine q2 (o_s 33 (.binOp .add 3 (.tmp 32) (.const (.int .i64 1)) 3) 3 (by kernel_rfl)) F (by decide) (v := .int .i64 (IntKind.i64.wrap ((i : Int) + 1))) (x_int (F.slot rfl) rfl rfl) (fun a F => ?_)
    have F := F.conv (v' := .int .i64 ((i : Int) + 1)) (congrArg (Value.int .i64) (wrap_i64 _ (by omega) (by omega)))
    refine q2 (o_s 5 (.assign (.tmp 33)) 3 (by kernel_rfl)) F (by decide) (v := .int .i64 ((i : Int) + 1)) (x_assign (F.slot rfl)) (fun a F => ?_)
    unfold wpSeq
    refine t_normal ?_
    have F_ := F
    have H := H.front 4
    have F := F.at 5 rfl (v' := .int .i64 ((i + 1 : Nat) : Int)) (congrArg (Value.int .i64) (by omega))
    exact ⟨k - 1, by omega, i + 1, F.less _ (subc rfl (subc rfl (subc rfl (subc rfl (subc rfl (subc rfl (subc rfl (subc rfl (subc rfl (subc rfl (subc rfl (subc rfl (subc rfl (subc rfl (subc rfl (subc rfl (subc rfl (subc rfl (subc rfl (subc rfl (subc rfl (subc rfl (subc rfl (subc rfl (subc rfl (subc rfl sub0)))))))))))))))))))))))))), H, (by omega), (by omega)⟩
  · have hb6d := of_decide_eq_false hb6
    have F := F.at 31 rfl (v' := .bool false) (congrArg Value.bool hb6)
    refine c_no (c := .tmp 31) (by kernel_rfl) (F.slot rfl) ?_
    refine c_exit (id := 0) (by kernel_rfl) ?_
    refine t_exit ?_
    refine t_exit ?_
    refine b_here ?_
    refine t_normal ?_
    refine c_seq (by kernel_rfl) ?_
    refine c_text (id := 8) (by kernel_rfl) [(0, 2)] (by kernel_rfl) ?_
    refine q2 (o_s 4 (.assign (.const (.bool true))) 4 (by kernel_rfl)) F (by decide) (v := .bool true) (x_assign rfl) (fun a F => ?_)
    unfold wpSeq
    refine t_normal ?_
    refine c_ret (by kernel_rfl) ?_
    refine p_tmp Tryd.results23 F rfl ?_
    exact ⟨rfl, H.ends⟩
end Go.Proofs.YtndicjikjcifaaaDoor

/- What is wrong with a batch, in a plain form. -/
namespace Go.Proofs.YtndicjikjcifaaaDoor
open Go.RowKit Go.Proofs.YtndicjikjcifaaaDoorW.PrintWords Go.Proofs.YtndicjikjcifaaaDoorW.PrintLast
open PB (S33 k33)
set_option linter.unusedVariables false
set_option linter.unusedSimpArgs false
def chT (t : S33) : Int := ch t.f0 t.f1 t.f2 t.f3 t.f4 t.f5 t.f6 t.f7 t.f8
def bchL : List S33 → Int
  | [] => 0
  | t :: r => if chT t = 0 then bchL r else chT t
def bchk (a n : Int) (l : List S33) : Int :=
  if a < 0 ∨ 6 < a ∨ n < 1 ∨ 4611686018427387903 < n then 2 else if l.length = 0 then 12 else if 16 < l.length then 8 else bchL l
def LimT (t : S33) : Prop := Lim t.f1 t.f2 t.f5 t.f7 t.f8
end Go.Proofs.YtndicjikjcifaaaDoor

/- batch.Check. -/
namespace Go.Proofs.YtndicjikjcifaaaDoor
open Go.RowKit Go.Proofs.YtndicjikjcifaaaDoorW.PrintWords Go.Proofs.YtndicjikjcifaaaDoorW.PrintLast
set_option linter.unusedVariables false
set_option linter.unusedSimpArgs false
set_option maxRecDepth 100000
open PB (S33 k33)
set_option maxHeartbeats 1000000 in
theorem bchk_calls (au n : Int) (A : Option Addr) (c : Nat) (l : List S33) (w : World) (hl : l.length < 4611686018427387904) (hr : k33.C w A l.length l) (hc : l.length ≤ c) :
    Calls Tryd.prog 33 #[.agg #[.int .i64 au, .int .i64 n, .slice A l.length c]] w fun e w' => e = .returned (.int .i64 (bchk au n l)) ∧ Below w.heap.size w w' := by
  have H0 : St w (fun _ => False) (fun _ => True) [Asn.rd k33 (fun k => k < w.heap.size) A l.length l] w := (St.first w _ _).old _ (k33_oldC hr) (fun B hB => by cases hB)
  refine c_enter2 (args := [.agg #[.int .i64 au, .int .i64 n, .slice A l.length c]]) (S := (fun _ => False)) (R := (fun _ => True)) (M := [Asn.rd k33 (fun k => k < w.heap.size) A l.length l]) Tryd.func33 (by kernel_rfl) 48 Tryd.ntmps33 (Nat.le_of_ble_eq_true rfl) (H0) (fun a W F H => ?_)
  have F := F.less [(0, .agg #[.int .i64 au, .int .i64 n, .slice A l.length c])] (subc rfl sub0)
  refine c_seq (by kernel_rfl) ?_
  refine c_text (id := 0) (by kernel_rfl) [(0, 2), (1, 2)] (by kernel_rfl) ?_
  refine sq_new (o_s 1 (.box 40 (.tmp 0)) 0 (by kernel_rfl)) trivial F (by decide) H [.int .i64 au, .int .i64 n, .slice A l.length c] 40 (x_box (F.slot rfl) rfl) ?_
  intro g1 W a hg1 H F
  refine ⟨(fun _ => trivial), ?_⟩
  refine q2 (o_s 2 (.assign (.const (.int .i64 0))) 24 (by kernel_rfl)) F (by decide) (v := .int .i64 0) (x_assign rfl) (fun a F => ?_)
  unfold wpSeq
  have H : St w (fun _ => False) (fun _ => True) [Asn.rd k33 (fun k => k < w.heap.size) A l.length l, Asn.blk g1 [.int .i64 au, .int .i64 n, .slice A l.length c] 40] W := H
  refine t_normal ?_
  refine c_seq (by kernel_rfl) ?_
  refine c_seq (by kernel_rfl) ?_
  refine c_text (id := 1) (by kernel_rfl) [(0, 2), (1, 2), (2, 2), (3, 2)] (by kernel_rfl) ?_
  refine q2 (o_s 7 (.fieldAddr 40 (.tmp 1) 2) 0 (by kernel_rfl)) F (by decide) (v := .pointer (some ⟨g1, 2, none⟩)) (x_field0 Tryd.underlying40 rfl rfl (Tryd.sizeOf38 W) (F.slot rfl)) (fun a F => ?_)
  refine q2 (o_s 8 (.load 38 (.tmp 7)) 38 (by kernel_rfl)) F (by decide) (v := .slice A l.length c) (x_load1 (Tryd.isAgg38 W) (F.slot rfl) (H.cell 1 rfl rfl)) (fun a F => ?_)
  refine q2 (o_s 9 (.call { callee := (.builtin .len), args := #[(.tmp 8)], argTypes := #[38] }) 3 (by kernel_rfl)) F (by decide) (v := .int .i64 (l.length : Int)) (x_lenL Tryd.underlying38 (F.slot rfl)) (fun a F => ?_)
  refine q2 (o_s 3 (.assign (.tmp 9)) 3 (by kernel_rfl)) F (by decide) (v := .int .i64 (l.length : Int)) (x_assign (F.slot rfl)) (fun a F => ?_)
  unfold wpSeq
  refine t_normal ?_
  refine c_block (id := 0) (by kernel_rfl) ?_
  refine c_seq (by kernel_rfl) ?_
  refine c_text (id := 2) (by kernel_rfl) [(0, 2), (1, 2), (2, 2), (3, 2), (4, 2), (5, 2), (6, 2), (7, 2), (8, 2), (9, 2), (10, 2), (11, 2), (12, 2), (13, 2), (14, 2), (15, 2), (16, 2), (17, 2), (18, 2)] (by kernel_rfl) ?_
  refine q2 (o_s 11 (.fieldAddr 40 (.tmp 1) 0) 0 (by kernel_rfl)) F (by decide) (v := .pointer (some ⟨g1, 0, none⟩)) (x_field0 Tryd.underlying40 rfl rfl (Tryd.sizeOf3 W) (F.slot rfl)) (fun a F => ?_)
  refine q2 (o_s 12 (.load 3 (.tmp 11)) 3 (by kernel_rfl)) F (by decide) (v := .int .i64 au) (x_load1 (Tryd.isAgg3 W) (F.slot rfl) (H.cell 1 rfl rfl)) (fun a F => ?_)
  refine q2 (o_s 13 (.binOp .lss 3 (.tmp 12) (.const (.int .i64 0)) 3) 4 (by kernel_rfl)) F (by decide) (v := .bool (decide (au < (0 : Int)))) (x_int (F.slot rfl) rfl rfl) (fun a F => ?_)
  refine q2 (o_s 14 (.move (.tmp 13)) 4 (by kernel_rfl)) F (by decide) (x_move (F.slot rfl)) (fun a F => ?_)
  rcases bool_or (decide (au < (0 : Int))) with hb2 | hb2
  · have hb2d := of_decide_eq_true hb2
    have F := F.at 14 rfl (v' := .bool true) (congrArg Value.bool hb2)
    refine sqoff2 (e := 14) (o_g 15 (.fieldAddr 40 (.tmp 1) 0) 0 3 false (by kernel_rfl)) (by kernel_rfl) (.inl rfl) F (by decide) (trivial) (fun a F => ?_)
    refine sqoff2 (e := 14) (o_g 16 (.load 3 (.tmp 15)) 3 3 false (by kernel_rfl)) (by kernel_rfl) (.inl rfl) F (by decide) (trivial) (fun a F => ?_)
    refine sqoff2 (e := 14) (o_g 17 (.binOp .gtr 3 (.tmp 16) (.const (.int .i64 6)) 3) 4 3 false (by kernel_rfl)) (by kernel_rfl) (.inl rfl) F (by decide) (trivial) (fun a F => ?_)
    refine q2 (o_s 18 (.pick (.tmp 14) (.const (.bool true)) (.tmp 17)) 4 (by kernel_rfl)) F (by decide) (v := .bool true) (x_pickT (F.slot rfl) rfl) (fun a F => ?_)
    refine q2 (o_s 19 (.move (.tmp 18)) 4 (by kernel_rfl)) F (by decide) (x_move (F.slot rfl)) (fun a F => ?_)
    refine sqoff2 (e := 19) (o_g 20 (.fieldAddr 40 (.tmp 1) 1) 0 8 false (by kernel_rfl)) (by kernel_rfl) (.inl rfl) F (by decide) (trivial) (fun a F => ?_)
    refine sqoff2 (e := 19) (o_g 21 (.load 3 (.tmp 20)) 3 8 false (by kernel_rfl)) (by kernel_rfl) (.inl rfl) F (by decide) (trivial) (fun a F => ?_)
    refine sqoff2 (e := 19) (o_g 22 (.binOp .lss 3 (.tmp 21) (.const (.int .i64 1)) 3) 4 8 false (by kernel_rfl)) (by kernel_rfl) (.inl rfl) F (by decide) (trivial) (fun a F => ?_)
    refine q2 (o_s 23 (.pick (.tmp 19) (.const (.bool true)) (.tmp 22)) 4 (by kernel_rfl)) F (by decide) (v := .bool true) (x_pickT (F.slot rfl) rfl) (fun a F => ?_)
    refine q2 (o_s 24 (.move (.tmp 23)) 4 (by kernel_rfl)) F (by decide) (x_move (F.slot rfl)) (fun a F => ?_)
    refine sqoff2 (e := 24) (o_g 25 (.fieldAddr 40 (.tmp 1) 1) 0 13 false (by kernel_rfl)) (by kernel_rfl) (.inl rfl) F (by decide) (trivial) (fun a F => ?_)
    refine sqoff2 (e := 24) (o_g 26 (.load 3 (.tmp 25)) 3 13 false (by kernel_rfl)) (by kernel_rfl) (.inl rfl) F (by decide) (trivial) (fun a F => ?_)
    refine sqoff2 (e := 24) (o_g 27 (.binOp .gtr 3 (.tmp 26) (.const (.int .i64 4611686018427387903)) 3) 4 13 false (by kernel_rfl)) (by kernel_rfl) (.inl rfl) F (by decide) (trivial) (fun a F => ?_)
    refine q2 (o_s 28 (.pick (.tmp 24) (.const (.bool true)) (.tmp 27)) 4 (by kernel_rfl)) F (by decide) (v := .bool true) (x_pickT (F.slot rfl) rfl) (fun a F => ?_)
    refine q2 (o_s 10 (.assign (.tmp 28)) 4 (by kernel_rfl)) F (by decide) (v := .bool true) (x_assign (F.slot rfl)) (fun a F => ?_)
    unfold wpSeq
    refine t_normal ?_
    refine c_yes (c := .tmp 10) (by kernel_rfl) (F.slot rfl) ?_
    refine c_seq (by kernel_rfl) ?_
    refine c_text (id := 3) (by kernel_rfl) [(0, 2)] (by kernel_rfl) ?_
    refine q2 (o_s 2 (.assign (.const (.int .i64 2))) 24 (by kernel_rfl)) F (by decide) (v := .int .i64 2) (x_assign rfl) (fun a F => ?_)
    unfold wpSeq
    refine t_normal ?_
    refine c_ret (by kernel_rfl) ?_
    refine b_ret ?_
    refine t_ret ?_
    refine p_tmp Tryd.results33 F rfl ?_
    exact ⟨by unfold bchk; first | rw [if_pos (by omega)] | (rw [if_neg (by omega)]; first | rw [if_pos (by omega)] | rw [if_neg (by omega), if_pos (by omega)]), H.ends⟩
  · have hb2d := of_decide_eq_false hb2
    have F := F.at 14 rfl (v' := .bool false) (congrArg Value.bool hb2)
    refine sq2 (W' := W) (o_g 15 (.fieldAddr 40 (.tmp 1) 0) 0 3 false (by kernel_rfl)) ⟨14, by kernel_rfl, rfl⟩ F (by decide) (v := .pointer (some ⟨g1, 0, none⟩)) (x_field0 Tryd.underlying40 rfl rfl (Tryd.sizeOf3 W) (F.slot rfl)) (fun _ => trivial) (fun a F => ?_)
    refine sq2 (o_g 16 (.load 3 (.tmp 15)) 3 3 false (by kernel_rfl)) ⟨14, by kernel_rfl, rfl⟩ F (by decide) (v := .int .i64 au) (x_load1 (Tryd.isAgg3 W) (F.slot rfl) (H.cell 1 rfl rfl)) (fun _ => trivial) (fun a F => ?_)
    refine sq2 (W' := W) (o_g 17 (.binOp .gtr 3 (.tmp 16) (.const (.int .i64 6)) 3) 4 3 false (by kernel_rfl)) ⟨14, by kernel_rfl, rfl⟩ F (by decide) (v := .bool (decide (au > (6 : Int)))) (x_int (F.slot rfl) rfl rfl) (fun _ => trivial) (fun a F => ?_)
    refine q2 (o_s 18 (.pick (.tmp 14) (.const (.bool true)) (.tmp 17)) 4 (by kernel_rfl)) F (by decide) (v := .bool (decide (au > (6 : Int)))) (x_pickF (F.slot rfl) (F.slot rfl)) (fun a F => ?_)
    refine q2 (o_s 19 (.move (.tmp 18)) 4 (by kernel_rfl)) F (by decide) (x_move (F.slot rfl)) (fun a F => ?_)
    rcases bool_or (decide (au > (6 : Int))) with hb3 | hb3
    · have hb3d := of_decide_eq_true hb3
      have F := F.at 19 rfl (v' := .bool true) (congrArg Value.bool hb3)
      refine sqoff2 (e := 19) (o_g 20 (.fieldAddr 40 (.tmp 1) 1) 0 8 false (by kernel_rfl)) (by kernel_rfl) (.inl rfl) F (by decide) (trivial) (fun a F => ?_)
      refine sqoff2 (e := 19) (o_g 21 (.load 3 (.tmp 20)) 3 8 false (by kernel_rfl)) (by kernel_rfl) (.inl rfl) F (by decide) (trivial) (fun a F => ?_)
      refine sqoff2 (e := 19) (o_g 22 (.binOp .lss 3 (.tmp 21) (.const (.int .i64 1)) 3) 4 8 false (by kernel_rfl)) (by kernel_rfl) (.inl rfl) F (by decide) (trivial) (fun a F => ?_)
      refine q2 (o_s 23 (.pick (.tmp 19) (.const (.bool true)) (.tmp 22)) 4 (by kernel_rfl)) F (by decide) (v := .bool true) (x_pickT (F.slot rfl) rfl) (fun a F => ?_)
      refine q2 (o_s 24 (.move (.tmp 23)) 4 (by kernel_rfl)) F (by decide) (x_move (F.slot rfl)) (fun a F => ?_)
      refine sqoff2 (e := 24) (o_g 25 (.fieldAddr 40 (.tmp 1) 1) 0 13 false (by kernel_rfl)) (by kernel_rfl) (.inl rfl) F (by decide) (trivial) (fun a F => ?_)
      refine sqoff2 (e := 24) (o_g 26 (.load 3 (.tmp 25)) 3 13 false (by kernel_rfl)) (by kernel_rfl) (.inl rfl) F (by decide) (trivial) (fun a F => ?_)
      refine sqoff2 (e := 24) (o_g 27 (.binOp .gtr 3 (.tmp 26) (.const (.int .i64 4611686018427387903)) 3) 4 13 false (by kernel_rfl)) (by kernel_rfl) (.inl rfl) F (by decide) (trivial) (fun a F => ?_)
      refine q2 (o_s 28 (.pick (.tmp 24) (.const (.bool true)) (.tmp 27)) 4 (by kernel_rfl)) F (by decide) (v := .bool true) (x_pickT (F.slot rfl) rfl) (fun a F => ?_)
      refine q2 (o_s 10 (.assign (.tmp 28)) 4 (by kernel_rfl)) F (by decide) (v := .bool true) (x_assign (F.slot rfl)) (fun a F => ?_)
      unfold wpSeq
      refine t_normal ?_
      refine c_yes (c := .tmp 10) (by kernel_rfl) (F.slot rfl) ?_
      refine c_seq (by kernel_rfl) ?_
      refine c_text (id := 3) (by kernel_rfl) [(0, 2)] (by kernel_rfl) ?_
      refine q2 (o_s 2 (.assign (.const (.int .i64 2))) 24 (by kernel_rfl)) F (by decide) (v := .int .i64 2) (x_assign rfl) (fun a F => ?_)
      unfold wpSeq
      refine t_normal ?_
      refine c_ret (by kernel_rfl) ?_
      refine b_ret ?_
      refine t_ret ?_
      refine p_tmp Tryd.results33 F rfl ?_
      exact ⟨by unfold bchk; first | rw [if_pos (by omega)] | (rw [if_neg (by omega)]; first | rw [if_pos (by omega)] | rw [if_neg (by omega), if_pos (by omega)]), H.ends⟩
    · have hb3d := of_decide_eq_false hb3
      have F := F.at 19 rfl (v' := .bool false) (congrArg Value.bool hb3)
      refine sq2 (W' := W) (o_g 20 (.fieldAddr 40 (.tmp 1) 1) 0 8 false (by kernel_rfl)) ⟨19, by kernel_rfl, rfl⟩ F (by decide) (v := .pointer (some ⟨g1, 1, none⟩)) (x_field0 Tryd.underlying40 rfl rfl (Tryd.sizeOf3 W) (F.slot rfl)) (fun _ => trivial) (fun a F => ?_)
      refine sq2 (o_g 21 (.load 3 (.tmp 20)) 3 8 false (by kernel_rfl)) ⟨19, by kernel_rfl, rfl⟩ F (by decide) (v := .int .i64 n) (x_load1 (Tryd.isAgg3 W) (F.slot rfl) (H.cell 1 rfl rfl)) (fun _ => trivial) (fun a F => ?_)
      refine sq2 (W' := W) (o_g 22 (.binOp .lss 3 (.tmp 21) (.const (.int .i64 1)) 3) 4 8 false (by kernel_rfl)) ⟨19, by kernel_rfl, rfl⟩ F (by decide) (v := .bool (decide (n < (1 : Int)))) (x_int (F.slot rfl) rfl rfl) (fun _ => trivial) (fun a F => ?_)
      refine q2 (o_s 23 (.pick (.tmp 19) (.const (.bool true)) (.tmp 22)) 4 (by kernel_rfl)) F (by decide) (v := .bool (decide (n < (1 : Int)))) (x_pickF (F.slot rfl) (F.slot rfl)) (fun a F => ?_)
      refine q2 (o_s 24 (.move (.tmp 23)) 4 (by kernel_rfl)) F (by decide) (x_move (F.slot rfl)) (fun a F => ?_)
      rcases bool_or (decide (n < (1 : Int))) with hb4 | hb4
      · have hb4d := of_decide_eq_true hb4
        have F := F.at 24 rfl (v' := .bool true) (congrArg Value.bool hb4)
        refine sqoff2 (e := 24) (o_g 25 (.fieldAddr 40 (.tmp 1) 1) 0 13 false (by kernel_rfl)) (by kernel_rfl) (.inl rfl) F (by decide) (trivial) (fun a F => ?_)
        refine sqoff2 (e := 24) (o_g 26 (.load 3 (.tmp 25)) 3 13 false (by kernel_rfl)) (by kernel_rfl) (.inl rfl) F (by decide) (trivial) (fun a F => ?_)
        refine sqoff2 (e := 24) (o_g 27 (.binOp .gtr 3 (.tmp 26) (.const (.int .i64 4611686018427387903)) 3) 4 13 false (by kernel_rfl)) (by kernel_rfl) (.inl rfl) F (by decide) (trivial) (fun a F => ?_)
        refine q2 (o_s 28 (.pick (.tmp 24) (.const (.bool true)) (.tmp 27)) 4 (by kernel_rfl)) F (by decide) (v := .bool true) (x_pickT (F.slot rfl) rfl) (fun a F => ?_)
        refine q2 (o_s 10 (.assign (.tmp 28)) 4 (by kernel_rfl)) F (by decide) (v := .bool true) (x_assign (F.slot rfl)) (fun a F => ?_)
        unfold wpSeq
        refine t_normal ?_
        refine c_yes (c := .tmp 10) (by kernel_rfl) (F.slot rfl) ?_
        refine c_seq (by kernel_rfl) ?_
        refine c_text (id := 3) (by kernel_rfl) [(0, 2)] (by kernel_rfl) ?_
        refine q2 (o_s 2 (.assign (.const (.int .i64 2))) 24 (by kernel_rfl)) F (by decide) (v := .int .i64 2) (x_assign rfl) (fun a F => ?_)
        unfold wpSeq
        refine t_normal ?_
        refine c_ret (by kernel_rfl) ?_
        refine b_ret ?_
        refine t_ret ?_
        refine p_tmp Tryd.results33 F rfl ?_
        exact ⟨by unfold bchk; first | rw [if_pos (by omega)] | (rw [if_neg (by omega)]; first | rw [if_pos (by omega)] | rw [if_neg (by omega), if_pos (by omega)]), H.ends⟩
      · have hb4d := of_decide_eq_false hb4
        have F := F.at 24 rfl (v' := .bool false) (congrArg Value.bool hb4)
        refine sq2 (W' := W) (o_g 25 (.fieldAddr 40 (.tmp 1) 1) 0 13 false (by kernel_rfl)) ⟨24, by kernel_rfl, rfl⟩ F (by decide) (v := .pointer (some ⟨g1, 1, none⟩)) (x_field0 Tryd.underlying40 rfl rfl (Tryd.sizeOf3 W) (F.slot rfl)) (fun _ => trivial) (fun a F => ?_)
        refine sq2 (o_g 26 (.load 3 (.tmp 25)) 3 13 false (by kernel_rfl)) ⟨24, by kernel_rfl, rfl⟩ F (by decide) (v := .int .i64 n) (x_load1 (Tryd.isAgg3 W) (F.slot rfl) (H.cell 1 rfl rfl)) (fun _ => trivial) (fun a F => ?_)
        refine sq2 (W' := W) (o_g 27 (.binOp .gtr 3 (.tmp 26) (.const (.int .i64 4611686018427387903)) 3) 4 13 false (by kernel_rfl)) ⟨24, by kernel_rfl, rfl⟩ F (by decide) (v := .bool (decide (n > (4611686018427387903 : Int)))) (x_int (F.slot rfl) rfl rfl) (fun _ => trivial) (fun a F => ?_)
        refine q2 (o_s 28 (.pick (.tmp 24) (.const (.bool true)) (.tmp 27)) 4 (by kernel_rfl)) F (by decide) (v := .bool (decide (n > (4611686018427387903 : Int)))) (x_pickF (F.slot rfl) (F.slot rfl)) (fun a F => ?_)
        refine q2 (o_s 10 (.assign (.tmp 28)) 4 (by kernel_rfl)) F (by decide) (v := .bool (decide (n > (4611686018427387903 : Int)))) (x_assign (F.slot rfl)) (fun a F => ?_)
        unfold wpSeq
        refine t_normal ?_
        rcases bool_or (decide (n > (4611686018427387903 : Int))) with hb5 | hb5
        · have hb5d := of_decide_eq_true hb5
          have F := F.at 10 rfl (v' := .bool true) (congrArg Value.bool hb5)
          refine c_yes (c := .tmp 10) (by kernel_rfl) (F.slot rfl) ?_
          refine c_seq (by kernel_rfl) ?_
          refine c_text (id := 3) (by kernel_rfl) [(0, 2)] (by kernel_rfl) ?_
          refine q2 (o_s 2 (.assign (.const (.int .i64 2))) 24 (by kernel_rfl)) F (by decide) (v := .int .i64 2) (x_assign rfl) (fun a F => ?_)
          unfold wpSeq
          refine t_normal ?_
          refine c_ret (by kernel_rfl) ?_
          refine b_ret ?_
          refine t_ret ?_
          refine p_tmp Tryd.results33 F rfl ?_
          exact ⟨by unfold bchk; first | rw [if_pos (by omega)] | (rw [if_neg (by omega)]; first | rw [if_pos (by omega)] | rw [if_neg (by omega), if_pos (by omega)]), H.ends⟩
        · have hb5d := of_decide_eq_false hb5
          have F := F.at 10 rfl (v' := .bool false) (congrArg Value.bool hb5)
          refine c_no (c := .tmp 10) (by kernel_rfl) (F.slot rfl) ?_
          refine c_seq (by kernel_rfl) ?_
          refine c_text (id := 4) (by kernel_rfl) [(0, 2), (1, 2), (2, 2)] (by kernel_rfl) ?_
          refine q2 (o_s 30 (.move (.tmp 3)) 3 (by kernel_rfl)) F (by decide) (x_move (F.slot rfl)) (fun a F => ?_)
          refine q2 (o_s 31 (.binOp .eql 3 (.tmp 30) (.const (.int .i64 0)) 3) 4 (by kernel_rfl)) F (by decide) (v := .bool ((l.length : Int) == (0 : Int))) (x_int (F.slot rfl) rfl rfl) (fun a F => ?_)
          refine q2 (o_s 29 (.assign (.tmp 31)) 4 (by kernel_rfl)) F (by decide) (v := .bool ((l.length : Int) == (0 : Int))) (x_assign (F.slot rfl)) (fun a F => ?_)
          unfold wpSeq
          refine t_normal ?_
          rcases bool_or ((l.length : Int) == (0 : Int)) with hb6 | hb6
          · have hb6d := eq_of_beq hb6
            have F := F.at 29 rfl (v' := .bool true) (congrArg Value.bool hb6)
            refine c_yes (c := .tmp 29) (by kernel_rfl) (F.slot rfl) ?_
            refine c_seq (by kernel_rfl) ?_
            refine c_text (id := 5) (by kernel_rfl) [(0, 2)] (by kernel_rfl) ?_
            refine q2 (o_s 2 (.assign (.const (.int .i64 12))) 24 (by kernel_rfl)) F (by decide) (v := .int .i64 12) (x_assign rfl) (fun a F => ?_)
            unfold wpSeq
            refine t_normal ?_
            refine c_ret (by kernel_rfl) ?_
            refine b_ret ?_
            refine t_ret ?_
            refine p_tmp Tryd.results33 F rfl ?_
            exact ⟨by unfold bchk; first | rw [if_pos (by omega)] | (rw [if_neg (by omega)]; first | rw [if_pos (by omega)] | rw [if_neg (by omega), if_pos (by omega)]), H.ends⟩
          · have hb6d := ne_of_beq_false hb6
            have F := F.at 29 rfl (v' := .bool false) (congrArg Value.bool hb6)
            refine c_no (c := .tmp 29) (by kernel_rfl) (F.slot rfl) ?_
            refine c_seq (by kernel_rfl) ?_
            refine c_text (id := 6) (by kernel_rfl) [(0, 2), (1, 2), (2, 2)] (by kernel_rfl) ?_
            refine q2 (o_s 33 (.move (.tmp 3)) 3 (by kernel_rfl)) F (by decide) (x_move (F.slot rfl)) (fun a F => ?_)
            refine q2 (o_s 34 (.binOp .gtr 3 (.tmp 33) (.const (.int .i64 16)) 3) 4 (by kernel_rfl)) F (by decide) (v := .bool (decide ((l.length : Int) > (16 : Int)))) (x_int (F.slot rfl) rfl rfl) (fun a F => ?_)
            refine q2 (o_s 32 (.assign (.tmp 34)) 4 (by kernel_rfl)) F (by decide) (v := .bool (decide ((l.length : Int) > (16 : Int)))) (x_assign (F.slot rfl)) (fun a F => ?_)
            unfold wpSeq
            refine t_normal ?_
            rcases bool_or (decide ((l.length : Int) > (16 : Int))) with hb7 | hb7
            · have hb7d := of_decide_eq_true hb7
              have F := F.at 32 rfl (v' := .bool true) (congrArg Value.bool hb7)
              refine c_yes (c := .tmp 32) (by kernel_rfl) (F.slot rfl) ?_
              refine c_seq (by kernel_rfl) ?_
              refine c_text (id := 7) (by kernel_rfl) [(0, 2)] (by kernel_rfl) ?_
              refine q2 (o_s 2 (.assign (.const (.int .i64 8))) 24 (by kernel_rfl)) F (by decide) (v := .int .i64 8) (x_assign rfl) (fun a F => ?_)
              unfold wpSeq
              refine t_normal ?_
              refine c_ret (by kernel_rfl) ?_
              refine b_ret ?_
              refine t_ret ?_
              refine p_tmp Tryd.results33 F rfl ?_
              exact ⟨by unfold bchk; first | rw [if_pos (by omega)] | (rw [if_neg (by omega)]; first | rw [if_pos (by omega)] | rw [if_neg (by omega), if_pos (by omega)]), H.ends⟩
            · have hb7d := of_decide_eq_false hb7
              have F := F.at 32 rfl (v' := .bool false) (congrArg Value.bool hb7)
              refine c_no (c := .tmp 32) (by kernel_rfl) (F.slot rfl) ?_
              refine c_skip (by kernel_rfl) ?_
              refine b_normal ?_
              refine t_normal ?_
              refine c_seq (by kernel_rfl) ?_
              refine c_seq (by kernel_rfl) ?_
              refine c_text (id := 8) (by kernel_rfl) [(0, 2), (1, 2), (2, 2), (3, 2)] (by kernel_rfl) ?_
              refine q2 (o_s 35 (.fieldAddr 40 (.tmp 1) 2) 0 (by kernel_rfl)) F (by decide) (v := .pointer (some ⟨g1, 2, none⟩)) (x_field0 Tryd.underlying40 rfl rfl (Tryd.sizeOf38 W) (F.slot rfl)) (fun a F => ?_)
              refine q2 (o_s 36 (.load 38 (.tmp 35)) 38 (by kernel_rfl)) F (by decide) (v := .slice A l.length c) (x_load1 (Tryd.isAgg38 W) (F.slot rfl) (H.cell 1 rfl rfl)) (fun a F => ?_)
              refine q2 (o_s 37 (.call { callee := (.builtin .len), args := #[(.tmp 36)], argTypes := #[38] }) 3 (by kernel_rfl)) F (by decide) (v := .int .i64 (l.length : Int)) (x_lenL Tryd.underlying38 (F.slot rfl)) (fun a F => ?_)
              refine q2 (o_s 38 (.move (.const (.int .i64 0))) 3 (by kernel_rfl)) F (by decide) (v := .int .i64 0) (x_move rfl) (fun a F => ?_)
              unfold wpSeq
              refine t_normal ?_
              refine c_block (id := 1) (by kernel_rfl) ?_
              refine c_loop (by kernel_rfl) (fun k a W => ∃ (i : Nat), Fr 48 [(0, .agg #[.int .i64 au, .int .i64 n, .slice A l.length c]), (1, .pointer (some ⟨g1, 0, none⟩)), (7, .pointer (some ⟨g1, 2, none⟩)), (8, .slice A l.length c), (9, .int .i64 (l.length : Int)), (3, .int .i64 (l.length : Int)), (11, .pointer (some ⟨g1, 0, none⟩)), (12, .int .i64 au), (13, .bool (decide (au < (0 : Int)))), (14, .bool false), (15, .pointer (some ⟨g1, 0, none⟩)), (16, .int .i64 au), (17, .bool (decide (au > (6 : Int)))), (18, .bool (decide (au > (6 : Int)))), (19, .bool false), (20, .pointer (some ⟨g1, 1, none⟩)), (21, .int .i64 n), (22, .bool (decide (n < (1 : Int)))), (23, .bool (decide (n < (1 : Int)))), (24, .bool false), (25, .pointer (some ⟨g1, 1, none⟩)), (26, .int .i64 n), (27, .bool (decide (n > (4611686018427387903 : Int)))), (28, .bool (decide (n > (4611686018427387903 : Int)))), (10, .bool false), (30, .int .i64 (l.length : Int)), (31, .bool ((l.length : Int) == (0 : Int))), (29, .bool false), (33, .int .i64 (l.length : Int)), (34, .bool (decide ((l.length : Int) > (16 : Int)))), (32, .bool false), (35, .pointer (some ⟨g1, 2, none⟩)), (36, .slice A l.length c), (37, .int .i64 (l.length : Int)), (38, .int .i64 (i : Int))] a ∧ St w (fun _ => False) (fun _ => True) [Asn.rd k33 (fun k => k < w.heap.size) A l.length l, Asn.blk g1 [.int .i64 au, .int .i64 n, .slice A l.length c] 40] W ∧ (k + i = l.length) ∧ (i ≤ l.length) ∧ (bchk au n l = bchL (l.drop i))) l.length ⟨0, F.less _ (subc rfl (subc rfl (subc rfl (subc rfl (subc rfl (subc rfl (subc rfl (subc rfl (subc rfl (subc rfl (subc rfl (subc rfl (subc rfl (subc rfl (subc rfl (subc rfl (subc rfl (subc rfl (subc rfl (subc rfl (subc rfl (subc rfl (subc rfl (subc rfl (subc rfl (subc rfl (subc rfl (subc rfl (subc rfl (subc rfl (subc rfl (subc rfl (subc rfl (subc rfl (subc rfl sub0))))))))))))))))))))))))))))))))))), H, (by omega), (Nat.zero_le _), (by unfold bchk; rw [if_neg (by omega), if_neg (by omega), if_neg (by omega)]; rfl)⟩ ?_
              rintro k a W ⟨i, F, H, hki, hi, hch⟩
              refine c_seq (by kernel_rfl) ?_
              refine c_text (id := 9) (by kernel_rfl) [(0, 2)] (by kernel_rfl) ?_
              refine q2 (o_s 39 (.binOp .lss 3 (.tmp 38) (.tmp 37) 3) 0 (by kernel_rfl)) F (by decide) (v := .bool (decide ((i : Int) < (l.length : Int)))) (x_int (F.slot rfl) (F.slot rfl) rfl) (fun a F => ?_)
              unfold wpSeq
              refine t_normal ?_
              refine c_seq (by kernel_rfl) ?_
              rcases bool_or (decide ((i : Int) < (l.length : Int))) with hb8 | hb8
              · have hb8d := of_decide_eq_true hb8
                have F := F.at 39 rfl (v' := .bool true) (congrArg Value.bool hb8)
                refine c_yes (c := .tmp 39) (by kernel_rfl) (F.slot rfl) ?_
                refine c_skip (by kernel_rfl) ?_
                refine t_normal ?_
                refine c_seq (by kernel_rfl) ?_
                refine c_block (id := 2) (by kernel_rfl) ?_
                refine c_seq (by kernel_rfl) ?_
                have hil : i < l.length := by omega
                obtain ⟨t, htt⟩ : ∃ t_, (l)[i]? = some t_ := ⟨_, List.getElem?_eq_getElem (by omega)⟩
                obtain ⟨adt, cst, hAt, hKt, H⟩ := H.elem 0 rfl (by decide) i t htt
                obtain ⟨A7, c7, A8, c8, rfl, l7, g7, l8, g8⟩ := PB.k33_open hKt
                have H : St w (fun _ => False) (fun _ => True) [Asn.rd k33 (fun k => k < w.heap.size) A l.length l, Asn.blk g1 [.int .i64 au, .int .i64 n, .slice A l.length c] 40, Asn.fk k33 (fun k => k < w.heap.size) t (txc t A7 c7 A8 c8), Asn.cl (adt.add (i * 9)) (txc t A7 c7 A8 c8) (fun k => k < w.heap.size)] W := H
                have hdr : l.drop i = t :: l.drop (i + 1) := by rw [List.drop_eq_getElem_cons hil]; congr 1; exact Option.some.inj ((List.getElem?_eq_getElem hil).symm.trans htt)
                obtain ⟨z, hz⟩ : ∃ z, chT t = z := ⟨_, rfl⟩
                refine c_text (id := 10) (by kernel_rfl) [(0, 2), (1, 2), (2, 2), (3, 2)] (by kernel_rfl) ?_
                refine q2 (o_s 40 (.indexAddr 38 (.tmp 36) (.tmp 38)) 0 (by kernel_rfl)) F (by decide) (v := .pointer (some (adt.add (i * 9)))) (x_indexE Tryd.underlying38 (Tryd.sizeOf33 W) (F.slot rfl) hAt (F.slot rfl) (by omega)) (fun a F => ?_)
                refine q2 (o_s 41 (.load 33 (.tmp 40)) 33 (by kernel_rfl)) F (by decide) (v := .agg (txc t A7 c7 A8 c8).toArray) (x_loadN (Tryd.isAgg33 W) (txc t A7 c7 A8 c8) (Tryd.sizeOf33 W) (F.slot rfl) (clnz (H.get 3 rfl) _ rfl)) (fun a F => ?_)
                refine sq_new (o_s 5 (.alloc 33) 0 (by kernel_rfl)) trivial F (by decide) H [.int .i64 0, .string ⟨#[]⟩, .string ⟨#[]⟩, .int .u64 0, .int .u64 0, .string ⟨#[]⟩, .string ⟨#[]⟩, .slice none 0 0, .slice none 0 0] 33 (x_alloc Tryd.zeroValue33 rfl) ?_
                intro g9 W a hg9 H F
                refine ⟨(fun _ => trivial), ?_⟩
                refine sq_put (M := [Asn.rd k33 (fun k => k < w.heap.size) A l.length l, Asn.blk g1 [.int .i64 au, .int .i64 n, .slice A l.length c] 40, Asn.fk k33 (fun k => k < w.heap.size) t (txc t A7 c7 A8 c8), Asn.cl (adt.add (i * 9)) (txc t A7 c7 A8 c8) (fun k => k < w.heap.size), Asn.blk g9 (txc t A7 c7 A8 c8) 33]) (o_n (.store 33 (.tmp 5) (.tmp 41)) 0 (by kernel_rfl)) trivial F (x_store H (k := 4) (cs' := (txc t A7 c7 A8 c8)) rfl (Tryd.sizeOf33 W) (F.slot rfl) (F.slot rfl) rfl (Nat.le_of_ble_eq_true rfl) rfl rfl) ?_
                intro W H
                refine ⟨(fun _ => trivial), ?_⟩
                unfold wpSeq
                refine t_normal ?_
                refine c_seq (by kernel_rfl) ?_
                refine c_text (id := 11) (by kernel_rfl) [(0, 2), (1, 2), (2, 2)] (by kernel_rfl) ?_
                refine q2 (o_s 42 (.load 33 (.tmp 5)) 33 (by kernel_rfl)) F (by decide) (v := .agg (txc t A7 c7 A8 c8).toArray) (x_loadB (Tryd.isAgg33 W) (txc t A7 c7 A8 c8) (Tryd.sizeOf33 W) (F.slot rfl) (H.blk 4 rfl)) (fun a F => ?_)
                obtain ⟨l7, g7, l8, g8⟩ := k33_parts (H.rd 2 rfl)
                refine sqc (o_s 43 (.call { callee := (.value (.func 41)), args := #[(.tmp 42)], argTypes := #[33] }) 24 (by kernel_rfl)) trivial F (by decide) (x_call Tryd.func41 (by kernel_rfl) rfl (args_1 (F.slot rfl))) (tx_Check.calls t.f0 t.f1 t.f2 t.f3 t.f4 t.f5 t.f6 A7 c7 t.f7 A8 c8 t.f8 z W g7 l7 g8 l8 (congrArg some hz)) ?_
                rintro e W ⟨rfl, hB⟩
                refine ⟨_, rfl, fun a F => ?_⟩
                have H := H.below hB
                refine ⟨(fun _ => trivial), ?_⟩
                refine q2 (o_s 6 (.assign (.tmp 43)) 24 (by kernel_rfl)) F (by decide) (v := .int .i64 z) (x_assign (F.slot rfl)) (fun a F => ?_)
                unfold wpSeq
                refine t_normal ?_
                refine c_seq (by kernel_rfl) ?_
                refine c_text (id := 12) (by kernel_rfl) [(0, 2), (1, 2)] (by kernel_rfl) ?_
                refine q2 (o_s 44 (.move (.tmp 6)) 24 (by kernel_rfl)) F (by decide) (x_move (F.slot rfl)) (fun a F => ?_)
                refine q2 (o_s 45 (.binOp .neq 24 (.tmp 44) (.const (.int .i64 0)) 24) 4 (by kernel_rfl)) F (by decide) (v := .bool (z != (0 : Int))) (x_int (F.slot rfl) rfl rfl) (fun a F => ?_)
                unfold wpSeq
                refine t_normal ?_
                rcases bool_or (z != (0 : Int)) with hb10 | hb10
                · have F := F.at 45 rfl (v' := .bool true) (congrArg Value.bool hb10)
                  refine c_yes (c := .tmp 45) (by kernel_rfl) (F.slot rfl) ?_
                  refine c_seq (by kernel_rfl) ?_
                  refine c_text (id := 13) (by kernel_rfl) [(0, 2), (1, 2)] (by kernel_rfl) ?_
                  refine q2 (o_s 46 (.move (.tmp 6)) 24 (by kernel_rfl)) F (by decide) (x_move (F.slot rfl)) (fun a F => ?_)
                  refine q2 (o_s 2 (.assign (.tmp 46)) 24 (by kernel_rfl)) F (by decide) (v := .int .i64 z) (x_assign (F.slot rfl)) (fun a F => ?_)
                  unfold wpSeq
                  refine t_normal ?_
                  refine c_ret (by kernel_rfl) ?_
                  refine b_ret ?_
                  refine t_ret ?_
                  refine t_ret ?_
                  refine b_ret ?_
                  refine t_ret ?_
                  refine p_tmp Tryd.results33 F rfl ?_
                  exact ⟨by rw [hch, hdr, bchL, if_neg (fun e => by have := hz.symm.trans e; simp [this] at hb10), hz], H.ends⟩
                · have F := F.at 45 rfl (v' := .bool false) (congrArg Value.bool hb10)
                  refine c_no (c := .tmp 45) (by kernel_rfl) (F.slot rfl) ?_
                  refine c_skip (by kernel_rfl) ?_
                  refine b_normal ?_
                  refine t_normal ?_
                  refine c_text (id := 14) (by kernel_rfl) [(0, 2), (1, 2)] (by kernel_rfl) ?_
                  refine q2 (o_s 47 (.binOp .add 3 (.tmp 38) (.const (.int .i64 1)) 3) 3 (by kernel_rfl)) F (by decide) (v := .int .i64 (IntKind.i64.wrap ((i : Int) + 1))) (x_int (F.slot rfl) rfl rfl) (fun a F => ?_)
                  have F := F.conv (v' := .int .i64 ((i : Int) + 1)) (congrArg (Value.int .i64) (wrap_i64 _ (by omega) (by omega)))
                  refine q2 (o_s 38 (.move (.tmp 47)) 3 (by kernel_rfl)) F (by decide) (x_move (F.slot rfl)) (fun a F => ?_)
                  unfold wpSeq
                  refine t_normal ?_
                  have F_ := F
                  have H := H.front 2
                  have F := F.at 38 rfl (v' := .int .i64 ((i + 1 : Nat) : Int)) (congrArg (Value.int .i64) (by omega))
                  exact ⟨k - 1, by omega, i + 1, F.less _ (subc rfl (subc rfl (subc rfl (subc rfl (subc rfl (subc rfl (subc rfl (subc rfl (subc rfl (subc rfl (subc rfl (subc rfl (subc rfl (subc rfl (subc rfl (subc rfl (subc rfl (subc rfl (subc rfl (subc rfl (subc rfl (subc rfl (subc rfl (subc rfl (subc rfl (subc rfl (subc rfl (subc rfl (subc rfl (subc rfl (subc rfl (subc rfl (subc rfl (subc rfl (subc rfl sub0))))))))))))))))))))))))))))))))))), H, (by omega), (by omega), (hch.trans (by rw [hdr, bchL, if_pos (hz.trans (by simpa using hb10))]))⟩
              · have hb8d := of_decide_eq_false hb8
                have F := F.at 39 rfl (v' := .bool false) (congrArg Value.bool hb8)
                refine c_no (c := .tmp 39) (by kernel_rfl) (F.slot rfl) ?_
                refine c_exit (id := 1) (by kernel_rfl) ?_
                refine t_exit ?_
                refine t_exit ?_
                refine b_here ?_
                refine t_normal ?_
                refine c_seq (by kernel_rfl) ?_
                refine c_text (id := 15) (by kernel_rfl) [(0, 2)] (by kernel_rfl) ?_
                refine q2 (o_s 2 (.assign (.const (.int .i64 0))) 24 (by kernel_rfl)) F (by decide) (v := .int .i64 0) (x_assign rfl) (fun a F => ?_)
                unfold wpSeq
                refine t_normal ?_
                refine c_ret (by kernel_rfl) ?_
                refine p_tmp Tryd.results33 F rfl ?_
                exact ⟨by rw [hch, List.drop_eq_nil_of_le (by omega)]; rfl, H.ends⟩
end Go.Proofs.YtndicjikjcifaaaDoor

namespace Go.Proofs.YtndicjikjcifaaaDoor.PB
open Go.RowKit Go.Proofs.YtndicjikjcifaaaDoorW.PrintWords Go.Proofs.YtndicjikjcifaaaDoorW.PrintLast Go.Proofs.YtndicjikjcifaaaDoorW.PrintMore
attribute [local go_sem] max2_int min2_int max_two min_two max_three min_three max_four min_four   -- for this text's walks alone
set_option linter.unusedVariables false
set_option linter.unusedSimpArgs false
/-! ### tuskref05_Same: function 23 -/
mutual
def tuskref05_Same.j0 : Nat → Bool → Int → Int → List (S33) → Int → Int → List (S33) → Option (Bool)
  | 0, _, _, _, _, _, _, _ => none
  | k + 1, x26, x115000, x115001, x115002, x116000, x116001, x116002 => if x26 = true then (some false) else (tuskref05_Same.l0 k 0 x115000 x115001 x115002 x116000 x116001 x116002)
def tuskref05_Same.l0 : Nat → Int → Int → Int → List (S33) → Int → Int → List (S33) → Option (Bool)
  | 0, _, _, _, _, _, _, _ => none
  | k + 1, x5, x115000, x115001, x115002, x116000, x116001, x116002 => if x5 < (x115002.length : Int) then (if 0 ≤ x5 then (if x5 < (x116002.length : Int) then ((tuskref04_Same.f k ((rd_T33 x115002 x5).f0) ((rd_T33 x115002 x5).f1) ((rd_T33 x115002 x5).f2) ((rd_T33 x115002 x5).f3) ((rd_T33 x115002 x5).f4) ((rd_T33 x115002 x5).f5) ((rd_T33 x115002 x5).f6) ((rd_T33 x115002 x5).f7) ((rd_T33 x115002 x5).f8) ((rd_T33 x116002 x5).f0) ((rd_T33 x116002 x5).f1) ((rd_T33 x116002 x5).f2) ((rd_T33 x116002 x5).f3) ((rd_T33 x116002 x5).f4) ((rd_T33 x116002 x5).f5) ((rd_T33 x116002 x5).f6) ((rd_T33 x116002 x5).f7) ((rd_T33 x116002 x5).f8)).bind fun t118 => (if t118 = true then (tuskref05_Same.l0 k (wrap64 (x5 + 1)) x115000 x115001 x115002 x116000 x116001 x116002) else (some false))) else (none)) else (none)) else (some true)
end
def tuskref05_Same.f (k : Nat) (a0_0 : Int) (a0_1 : Int) (l0_2 : List (S33)) (a1_0 : Int) (a1_1 : Int) (l1_2 : List (S33)) : Option (Bool) := if a0_0 = a1_0 then (if a0_1 = a1_1 then (tuskref05_Same.j0 k ((l0_2.length : Int) != (l1_2.length : Int)) a0_0 a0_1 l0_2 a1_0 a1_1 l1_2) else (tuskref05_Same.j0 k true a0_0 a0_1 l0_2 a1_0 a1_1 l1_2)) else (tuskref05_Same.j0 k true a0_0 a0_1 l0_2 a1_0 a1_1 l1_2)
theorem tuskref05_Same.mono_l : ∀ k, (∀ y0 y1 y2 y3 y4 y5 y6, LeO (tuskref05_Same.j0 k y0 y1 y2 y3 y4 y5 y6) (tuskref05_Same.j0 (k + 1) y0 y1 y2 y3 y4 y5 y6)) ∧ (∀ y0 y1 y2 y3 y4 y5 y6, LeO (tuskref05_Same.l0 k y0 y1 y2 y3 y4 y5 y6) (tuskref05_Same.l0 (k + 1) y0 y1 y2 y3 y4 y5 y6))
  | 0 => ⟨fun _ _ _ _ _ _ _ r h => by simp [tuskref05_Same.j0] at h, fun _ _ _ _ _ _ _ r h => by simp [tuskref05_Same.l0] at h⟩
  | k + 1 => by
    obtain ⟨ih0, ih1⟩ := tuskref05_Same.mono_l k
    refine ⟨?_, ?_⟩
    · intro y0 y1 y2 y3 y4 y5 y6
      unfold tuskref05_Same.j0
      repeat' first
      | (with_reducible exact ih0 _ _ _ _ _ _ _)
      | (with_reducible exact ih1 _ _ _ _ _ _ _)
      | (with_reducible exact tuskref04_Same.mono _ _ _ _ _ _ _ _ _ _ _ _ _ _ _ _ _ _ _)
      | (with_reducible exact LeO.refl _)
      | (with_reducible exact LeO.none _)
      | (with_reducible refine LeO.ite ?_ ?_)
      | (with_reducible refine LeO.bind ?_ (fun _ => ?_))
      | exact ih0 _ _ _ _ _ _ _
      | exact ih1 _ _ _ _ _ _ _
      | exact tuskref04_Same.mono _ _ _ _ _ _ _ _ _ _ _ _ _ _ _ _ _ _ _
      | exact LeO.none _
      | refine LeO.ite ?_ ?_
      | refine LeO.bind ?_ (fun _ => ?_)
    · intro y0 y1 y2 y3 y4 y5 y6
      unfold tuskref05_Same.l0
      repeat' first
      | (with_reducible exact ih0 _ _ _ _ _ _ _)
      | (with_reducible exact ih1 _ _ _ _ _ _ _)
      | (with_reducible exact tuskref04_Same.mono _ _ _ _ _ _ _ _ _ _ _ _ _ _ _ _ _ _ _)
      | (with_reducible exact LeO.refl _)
      | (with_reducible exact LeO.none _)
      | (with_reducible refine LeO.ite ?_ ?_)
      | (with_reducible refine LeO.bind ?_ (fun _ => ?_))
      | exact ih0 _ _ _ _ _ _ _
      | exact ih1 _ _ _ _ _ _ _
      | exact tuskref04_Same.mono _ _ _ _ _ _ _ _ _ _ _ _ _ _ _ _ _ _ _
      | exact LeO.none _
      | refine LeO.ite ?_ ?_
      | refine LeO.bind ?_ (fun _ => ?_)
theorem tuskref05_Same.mono : ∀ a0 a1 a2 a3 a4 a5 k, LeO (tuskref05_Same.f k a0 a1 a2 a3 a4 a5) (tuskref05_Same.f (k + 1) a0 a1 a2 a3 a4 a5) := by
  intro a0 a1 a2 a3 a4 a5 k
  obtain ⟨ih0, ih1⟩ := tuskref05_Same.mono_l k
  unfold tuskref05_Same.f
  repeat' first
      | (with_reducible exact ih0 _ _ _ _ _ _ _)
      | (with_reducible exact ih1 _ _ _ _ _ _ _)
      | (with_reducible exact tuskref04_Same.mono _ _ _ _ _ _ _ _ _ _ _ _ _ _ _ _ _ _ _)
      | (with_reducible exact LeO.refl _)
      | (with_reducible exact LeO.none _)
      | (with_reducible refine LeO.ite ?_ ?_)
      | (with_reducible refine LeO.bind ?_ (fun _ => ?_))
      | exact ih0 _ _ _ _ _ _ _
      | exact ih1 _ _ _ _ _ _ _
      | exact tuskref04_Same.mono _ _ _ _ _ _ _ _ _ _ _ _ _ _ _ _ _ _ _
      | exact LeO.none _
      | refine LeO.ite ?_ ?_
      | refine LeO.bind ?_ (fun _ => ?_)
/-! ### tusklaw04_Own: function 19 -/
def tusklaw04_Own.f (a0_0 : Int) (a0_1 : ByteArray) (a0_2 : ByteArray) (a0_3 : Int) (a0_4 : Int) (a0_5 : ByteArray) (a0_6 : ByteArray) (l0_7 : List ByteArray) (l0_8 : List ByteArray) : Option (Int × ByteArray × ByteArray × Int × Int × ByteArray × ByteArray × List ByteArray × List ByteArray) := (some (([] : List ByteArray) : List ByteArray)).bind fun y121 => (if y121.length + l0_7.length < 8796093022208 then ((some (([] : List ByteArray) : List ByteArray)).bind fun y127 => (if y127.length + l0_8.length < 8796093022208 then (some (a0_0, a0_1, a0_2, a0_3, a0_4, a0_5, a0_6, (y121 ++ l0_7), (y127 ++ l0_8))) else (none))) else (none))
set_option maxHeartbeats 8000000 in
set_option maxRecDepth 100000 in
theorem tusklaw04_Own.calls (a0_0 : Int) (a0_1 : ByteArray) (a0_2 : ByteArray) (a0_3 : Int) (a0_4 : Int) (a0_5 : ByteArray) (a0_6 : ByteArray) (A0_7 : Option Addr) (c0_7 : Nat) (l0_7 : List ByteArray) (A0_8 : Option Addr) (c0_8 : Nat) (l0_8 : List ByteArray) (r1 : Int) (r2 : ByteArray) (r3 : ByteArray) (r4 : Int) (r5 : Int) (r6 : ByteArray) (r7 : ByteArray) (r8 : List ByteArray) (r9 : List ByteArray) (w : World) (hr0_7 : Kd.C Kd.string w A0_7 l0_7.length l0_7) (hc0_7 : l0_7.length ≤ c0_7) (hr0_8 : Kd.C Kd.string w A0_8 l0_8.length l0_8) (hc0_8 : l0_8.length ≤ c0_8) (h : tusklaw04_Own.f a0_0 a0_1 a0_2 a0_3 a0_4 a0_5 a0_6 l0_7 l0_8 = some (r1, r2, r3, r4, r5, r6, r7, r8, r9)) :
    Calls Tryd.prog 19 #[.agg #[.int .i64 a0_0, .string a0_1, .string a0_2, .int .u64 a0_3, .int .u64 a0_4, .string a0_5, .string a0_6, .slice A0_7 l0_7.length c0_7, .slice A0_8 l0_8.length c0_8]] w fun e w' => ∃ v7_ v8_ : Value, e = .returned (.agg #[.int .i64 r1, .string r2, .string r3, .int .u64 r4, .int .u64 r5, .string r6, .string r7, v7_, v8_]) ∧ Kd.R Kd.string 9 w' w.heap.size (fun k_ => some k_ ≠ (v8_ : Value).ownBlock) v7_ r8 ∧ Kd.R Kd.string 9 w' w.heap.size (fun k_ => some k_ ≠ (v7_ : Value).ownBlock) v8_ r9 ∧ Below w.heap.size w w' := by
  have hu33 := Tryd.underlying33
  have HR0_7 := Aside0.mk hr0_7
  have HC0_7 := Aside0.mk hc0_7
  clear hr0_7 hc0_7
  have HR0_8 := Aside0.mk hr0_8
  have HC0_8 := Aside0.mk hc0_8
  clear hr0_8 hc0_8
  have HB := Aside0.mk (Below.refl w.heap.size w)
  have H : ((some (([] : List ByteArray) : List ByteArray)).bind fun y121 => (if y121.length + l0_7.length < 8796093022208 then ((some (([] : List ByteArray) : List ByteArray)).bind fun y127 => (if y127.length + l0_8.length < 8796093022208 then (some (a0_0, a0_1, a0_2, a0_3, a0_4, a0_5, a0_6, (y121 ++ l0_7), (y127 ++ l0_8))) else (none))) else (none))) = some (r1, r2, r3, r4, r5, r6, r7, r8, r9) := h
  clear h
  obtain ⟨y121, hy121⟩ : ∃ y_ : List ByteArray, y_ = (([] : List ByteArray)) := ⟨_, rfl⟩
  replace H : (if y121.length + l0_7.length < 8796093022208 then ((some (([] : List ByteArray) : List ByteArray)).bind fun y127 => (if y127.length + l0_8.length < 8796093022208 then (some (a0_0, a0_1, a0_2, a0_3, a0_4, a0_5, a0_6, (y121 ++ l0_7), (y127 ++ l0_8))) else (none))) else (none)) = some (r1, r2, r3, r4, r5, r6, r7, r8, r9) := by first | (rw [hy121]; with_reducible exact H) | (have H2_ := (Option.bind_some _ _).symm.trans H; rw [hy121]; with_reducible exact H2_) | (have H2_ := (Option.bind_some _ _).symm.trans H; with_reducible exact H2_) | with_reducible exact H | (rw [hy121]; exact H) | exact H
  have Ny121 := Aside0.mk hy121
  clear hy121
  by_cases c2 : y121.length + l0_7.length < 8796093022208
  · rw [if_pos c2] at H
    have LMc2 := Aside0.mk c2
    clear c2
    obtain ⟨y124, hy124⟩ : ∃ y_ : List ByteArray, y_ = (y121 ++ l0_7) := ⟨_, rfl⟩
    replace H : ((some (([] : List ByteArray) : List ByteArray)).bind fun y127 => (if y127.length + l0_8.length < 8796093022208 then (some (a0_0, a0_1, a0_2, a0_3, a0_4, a0_5, a0_6, y124, (y127 ++ l0_8))) else (none))) = some (r1, r2, r3, r4, r5, r6, r7, r8, r9) := by first | (rw [hy124]; with_reducible exact H) | (have H2_ := (Option.bind_some _ _).symm.trans H; rw [hy124]; with_reducible exact H2_) | (have H2_ := (Option.bind_some _ _).symm.trans H; with_reducible exact H2_) | with_reducible exact H | (rw [hy124]; exact H) | exact H
    have Ny124 := Aside0.mk hy124
    clear hy124
    obtain ⟨y127, hy127⟩ : ∃ y_ : List ByteArray, y_ = (([] : List ByteArray)) := ⟨_, rfl⟩
    replace H : (if y127.length + l0_8.length < 8796093022208 then (some (a0_0, a0_1, a0_2, a0_3, a0_4, a0_5, a0_6, y124, (y127 ++ l0_8))) else (none)) = some (r1, r2, r3, r4, r5, r6, r7, r8, r9) := by first | (rw [hy127]; with_reducible exact H) | (have H2_ := (Option.bind_some _ _).symm.trans H; rw [hy127]; with_reducible exact H2_) | (have H2_ := (Option.bind_some _ _).symm.trans H; with_reducible exact H2_) | with_reducible exact H | (rw [hy127]; exact H) | exact H
    have Ny127 := Aside0.mk hy127
    clear hy127
    by_cases c3 : y127.length + l0_8.length < 8796093022208
    · rw [if_pos c3] at H
      have LMc3 := Aside0.mk c3
      clear c3
      obtain ⟨y130, hy130⟩ : ∃ y_ : List ByteArray, y_ = (y127 ++ l0_8) := ⟨_, rfl⟩
      replace H : (some (a0_0, a0_1, a0_2, a0_3, a0_4, a0_5, a0_6, y124, y130)) = some (r1, r2, r3, r4, r5, r6, r7, r8, r9) := by first | (rw [hy130]; with_reducible exact H) | (have H2_ := (Option.bind_some _ _).symm.trans H; rw [hy130]; with_reducible exact H2_) | (have H2_ := (Option.bind_some _ _).symm.trans H; with_reducible exact H2_) | with_reducible exact H | (rw [hy130]; exact H) | exact H
      have Ny130 := Aside0.mk hy130
      clear hy130
      simp only [Option.some.injEq, Prod.mk.injEq] at H
      obtain ⟨rfl, rfl, rfl, rfl, rfl, rfl, rfl, rfl, rfl⟩ := H
      go_enter Tryd.func19, Tryd.ntmps19
      go_wp2_with (first | ((with_reducible refine gate_dst (N := 1) rfl ?_); refine box_event ?hg (N := 1) ?hd (cs := #[.int .i64 a0_0, .string a0_1, .string a0_2, .int .u64 a0_3, .int .u64 a0_4, .string a0_5, .string a0_6, .slice A0_7 l0_7.length c0_7, .slice A0_8 l0_8.length c0_8]) (t := 33) ?hr ?_; (case hd => rfl); (case hg => rfl); (case hr => first | (go_simp; done) | (go_simp; rfl)); intro gb119 hg w4 hbox hb; have n0_ := Aside0.mk (below_step (by repeat (first | (with_reducible first | exact HB.out | apply below_alloc | apply pw_below_drewN | apply below_drew1) | exact HB.out)) hb); have n1_ := Aside0.mk (hbox); have n2_ := Aside0.mk ((by rw [hg]; exact (below_size (by repeat (first | (with_reducible first | exact HB.out | apply below_alloc | apply pw_below_drewN | apply below_drew1) | exact HB.out))) : w.heap.size ≤ gb119)); have n3_ := Aside0.mk ((by rw [hg]; exact (below_size (by repeat (first | (with_reducible first | exact HB.out | apply below_alloc | apply pw_below_drewN | apply below_drew1) | exact HB.out))) : w.heap.size ≤ gb119)); clear HB; have HB := n0_; have BK119 := n1_; have GW119 := n2_; have GE119 := n3_; clear n0_ n1_ n2_ n3_; clear hb hbox hg) | ((with_reducible refine gate_dst (N := 2) rfl ?_); refine box_event ?hg (N := 2) ?hd (cs := #[.int .i64 0, .string (⟨#[]⟩ : ByteArray), .string (⟨#[]⟩ : ByteArray), .int .u64 0, .int .u64 0, .string (⟨#[]⟩ : ByteArray), .string (⟨#[]⟩ : ByteArray), .slice none 0 0, .slice none 0 0]) (t := 33) ?hr ?_; (case hd => rfl); (case hg => rfl); (case hr => first | (go_simp; done) | (go_simp; rfl)); intro gb120 hg w5 hbox hb; have n0_ := Aside0.mk (blk_below (g := gb119) (o := .cells #[.int .i64 a0_0, .string a0_1, .string a0_2, .int .u64 a0_3, .int .u64 a0_4, .string a0_5, .string a0_6, .slice A0_7 l0_7.length c0_7, .slice A0_8 l0_8.length c0_8] 33 (0, 0)) (by (with_reducible repeat (first | refine blk_drewN ?_ _ | refine blk_drew ?_ | refine blk_alloc ?_ _)); exact BK119.out) hb); have n1_ := Aside0.mk (below_step (by repeat (first | (with_reducible first | exact HB.out | apply below_alloc | apply pw_below_drewN | apply below_drew1 | refine below_set ?_ GE119.out) | exact HB.out)) hb); have n2_ := Aside0.mk (hbox); have n3_ := Aside0.mk ((by rw [hg]; exact (below_size (by repeat (first | (with_reducible first | exact HB.out | apply below_alloc | apply pw_below_drewN | apply below_drew1 | refine below_set ?_ GE119.out) | exact HB.out))) : w.heap.size ≤ gb120)); have n4_ := Aside0.mk ((by rw [hg]; exact (below_size (by repeat (first | (with_reducible first | exact HB.out | apply below_alloc | apply pw_below_drewN | apply below_drew1 | refine below_set ?_ GE119.out) | exact HB.out))) : w.heap.size ≤ gb120)); have n5_ := Aside0.mk ((by rw [hg]; exact Nat.ne_of_lt (blk_lt (g := gb119) (o := .cells #[.int .i64 a0_0, .string a0_1, .string a0_2, .int .u64 a0_3, .int .u64 a0_4, .string a0_5, .string a0_6, .slice A0_7 l0_7.length c0_7, .slice A0_8 l0_8.length c0_8] 33 (0, 0)) (by (with_reducible repeat (first | refine blk_drewN ?_ _ | refine blk_drew ?_ | refine blk_alloc ?_ _)); exact BK119.out)) : gb119 ≠ gb120)); have n6_ := Aside0.mk ((by rw [hg]; exact Nat.ne_of_gt (blk_lt (g := gb119) (o := .cells #[.int .i64 a0_0, .string a0_1, .string a0_2, .int .u64 a0_3, .int .u64 a0_4, .string a0_5, .string a0_6, .slice A0_7 l0_7.length c0_7, .slice A0_8 l0_8.length c0_8] 33 (0, 0)) (by (with_reducible repeat (first | refine blk_drewN ?_ _ | refine blk_drew ?_ | refine blk_alloc ?_ _)); exact BK119.out)) : gb120 ≠ gb119)); clear BK119; clear HB; have BK119 := n0_; have HB := n1_; have BK120 := n2_; have GW120 := n3_; have GE120 := n4_; have NB119_120 := n5_; have NB120_119 := n6_; clear n0_ n1_ n2_ n3_ n4_ n5_ n6_; clear hb hbox hg) | ((with_reducible refine gate_dst (N := 3) rfl ?_); refine Kd.R_lit Kd.string _ 9 ?hg (N := 3) ?hd (xs := ([] : List ByteArray)) (inner := []) (ok := fun _ => True) (okp := fun _ => True) ?hr ?hp (fun _ hk => hk) trivial (Below.refl _ _) (Nat.le_refl _) (by simp) ?_; (case hd => rfl); (case hg => rfl); (case hr => first | (go_simp; done) | (go_simp; rfl)); (case hp => exact (Reps.none _ _)); intro v122 w6 ho7 hb hg_ hnew_; clear hg_ hnew_; (first | rw [← Ny121.out] at ho7 | (simp only [Int.reduceToNat] at ho7; rw [← Ny121.out] at ho7)); have n0_ := Aside0.mk (Kd.R_lower ho7 (below_size (by repeat (first | (with_reducible first | exact HB.out | apply below_alloc | apply pw_below_drewN | apply below_drew1 | refine below_set ?_ GE119.out | refine below_set ?_ GE120.out) | exact HB.out)))); have n1_ := Aside0.mk (blk_below (g := gb119) (o := .cells #[.int .i64 a0_0, .string a0_1, .string a0_2, .int .u64 a0_3, .int .u64 a0_4, .string a0_5, .string a0_6, .slice A0_7 l0_7.length c0_7, .slice A0_8 l0_8.length c0_8] 33 (0, 0)) (by (with_reducible repeat (first | refine blk_drewN ?_ _ | refine blk_drew ?_ | refine blk_alloc ?_ _)); exact BK119.out) hb); have n2_ := Aside0.mk (blk_below (g := gb120) (o := .cells #[.int .i64 0, .string (⟨#[]⟩ : ByteArray), .string (⟨#[]⟩ : ByteArray), .int .u64 0, .int .u64 0, .string (⟨#[]⟩ : ByteArray), .string (⟨#[]⟩ : ByteArray), .slice none 0 0, .slice none 0 0] 33 (0, 0)) (by (with_reducible repeat (first | refine blk_drewN ?_ _ | refine blk_drew ?_ | refine blk_alloc ?_ _)); exact BK120.out) hb); have n3_ := Aside0.mk (below_step (by repeat (first | (with_reducible first | exact HB.out | apply below_alloc | apply pw_below_drewN | apply below_drew1 | refine below_set ?_ GE119.out | refine below_set ?_ GE120.out) | exact HB.out)) hb); clear BK119; clear BK120; clear HB; have HO123 := n0_; have BK119 := n1_; have BK120 := n2_; have HB := n3_; clear n0_ n1_ n2_ n3_; clear hb ho7; have hnb8 := NB119_120.out; have hnc8 := NB120_119.out; have hcz9_0 : w6.cell? ⟨gb119, 0, none⟩ = some (.int .i64 a0_0) := (blk_cell BK119.out 0).trans rfl; have hcz9_1 : w6.cell? ⟨gb119, 1, none⟩ = some (.string a0_1) := (blk_cell BK119.out 1).trans rfl; have hcz9_2 : w6.cell? ⟨gb119, 2, none⟩ = some (.string a0_2) := (blk_cell BK119.out 2).trans rfl; have hcz9_3 : w6.cell? ⟨gb119, 3, none⟩ = some (.int .u64 a0_3) := (blk_cell BK119.out 3).trans rfl; have hcz9_4 : w6.cell? ⟨gb119, 4, none⟩ = some (.int .u64 a0_4) := (blk_cell BK119.out 4).trans rfl; have hcz9_5 : w6.cell? ⟨gb119, 5, none⟩ = some (.string a0_5) := (blk_cell BK119.out 5).trans rfl; have hcz9_6 : w6.cell? ⟨gb119, 6, none⟩ = some (.string a0_6) := (blk_cell BK119.out 6).trans rfl; have hcz9_7 : w6.cell? ⟨gb119, 7, none⟩ = some (.slice A0_7 l0_7.length c0_7) := (blk_cell BK119.out 7).trans rfl; have hcz9_8 : w6.cell? ⟨gb119, 8, none⟩ = some (.slice A0_8 l0_8.length c0_8) := (blk_cell BK119.out 8).trans rfl; have hfz9_0 := blk_frozen BK119.out 0; have hfz9_1 := blk_frozen BK119.out 1; have hfz9_2 := blk_frozen BK119.out 2; have hfz9_3 := blk_frozen BK119.out 3; have hfz9_4 := blk_frozen BK119.out 4; have hfz9_5 := blk_frozen BK119.out 5; have hfz9_6 := blk_frozen BK119.out 6; have hfz9_7 := blk_frozen BK119.out 7; have hfz9_8 := blk_frozen BK119.out 8) | ((with_reducible refine gate_builtin (b := .append) (xs := #[.tmp 3, .tmp 5]) rfl ?_); at_builtin; refine Kd.R_append_rows Kd.string (w0 := w) w.heap.size rfl (.tmp 3) (.tmp 5) 31 9 (.string ⟨#[]⟩) 16 rfl Tryd.underlying31 info9 rfl (by decide) (by omega) v122 y121 l0_7 _ _ _ (fun _ => True) (fun _ => False) rfl rfl ?aO ?aR (fun _ _ h => h) (fun _ h => h.elim) ?aF ?aB ?aS ?aL ?_; (case aR => repeat (first | exact (Kd.C_below HR0_7.out HB.out) | (with_reducible refine Kd.C_alloc ?_ _) | (with_reducible refine Kd.C_drewN ?_ _) | (with_reducible refine Kd.C_drew ?_))); (case aB => exact (by repeat (first | (with_reducible first | exact HB.out | apply below_alloc | apply pw_below_drewN | apply below_drew1 | refine below_set ?_ GE119.out | refine below_set ?_ GE120.out) | exact HB.out))); (case aF => exact (fun _ _ => trivial)); (case aO => exact (by (with_reducible repeat (first | apply Kd.R_alloc | apply Kd.R_drewN | apply Kd.R_drew)); exact HO123.out)); (case aS => exact (below_size (by repeat (first | (with_reducible first | exact HB.out | apply below_alloc | apply pw_below_drewN | apply below_drew1 | refine below_set ?_ GE119.out | refine below_set ?_ GE120.out) | exact HB.out)))); (case aL => have := LMc2.out; omega); intro v125 w10 ho hb hg hat; rw [← Ny124.out] at ho; have n0_ := Aside0.mk (blk_grown (g := gb119) (o := .cells #[.int .i64 a0_0, .string a0_1, .string a0_2, .int .u64 a0_3, .int .u64 a0_4, .string a0_5, .string a0_6, .slice A0_7 l0_7.length c0_7, .slice A0_8 l0_8.length c0_8] 33 (0, 0)) (by (with_reducible repeat (first | refine blk_drewN ?_ _ | refine blk_drew ?_ | refine blk_alloc ?_ _)); exact BK119.out) hg (Kd.R_ne HO123.out BK119.out (by decide))); have n1_ := Aside0.mk (blk_grown (g := gb120) (o := .cells #[.int .i64 0, .string (⟨#[]⟩ : ByteArray), .string (⟨#[]⟩ : ByteArray), .int .u64 0, .int .u64 0, .string (⟨#[]⟩ : ByteArray), .string (⟨#[]⟩ : ByteArray), .slice none 0 0, .slice none 0 0] 33 (0, 0)) (by (with_reducible repeat (first | refine blk_drewN ?_ _ | refine blk_drew ?_ | refine blk_alloc ?_ _)); exact BK120.out) hg (Kd.R_ne HO123.out BK120.out (by decide))); have n2_ := Aside0.mk (hb); have n3_ := Aside0.mk (ho); clear BK119; clear BK120; clear HB; clear HO123; have BK119 := n0_; have BK120 := n1_; have HB := n2_; have HO126 := n3_; clear n0_ n1_ n2_ n3_; clear ho hb hg hat; obtain ⟨Ao11, co11, eo11⟩ := Kd.R_slice HO126.out; subst eo11; have hcz12_0 : w10.cell? ⟨gb119, 0, none⟩ = some (.int .i64 a0_0) := (blk_cell BK119.out 0).trans rfl; have hcz12_1 : w10.cell? ⟨gb119, 1, none⟩ = some (.string a0_1) := (blk_cell BK119.out 1).trans rfl; have hcz12_2 : w10.cell? ⟨gb119, 2, none⟩ = some (.string a0_2) := (blk_cell BK119.out 2).trans rfl; have hcz12_3 : w10.cell? ⟨gb119, 3, none⟩ = some (.int .u64 a0_3) := (blk_cell BK119.out 3).trans rfl; have hcz12_4 : w10.cell? ⟨gb119, 4, none⟩ = some (.int .u64 a0_4) := (blk_cell BK119.out 4).trans rfl; have hcz12_5 : w10.cell? ⟨gb119, 5, none⟩ = some (.string a0_5) := (blk_cell BK119.out 5).trans rfl; have hcz12_6 : w10.cell? ⟨gb119, 6, none⟩ = some (.string a0_6) := (blk_cell BK119.out 6).trans rfl; have hcz12_7 : w10.cell? ⟨gb119, 7, none⟩ = some (.slice A0_7 l0_7.length c0_7) := (blk_cell BK119.out 7).trans rfl; have hcz12_8 : w10.cell? ⟨gb119, 8, none⟩ = some (.slice A0_8 l0_8.length c0_8) := (blk_cell BK119.out 8).trans rfl; have hfz12_0 := blk_frozen BK119.out 0; have hfz12_1 := blk_frozen BK119.out 1; have hfz12_2 := blk_frozen BK119.out 2; have hfz12_3 := blk_frozen BK119.out 3; have hfz12_4 := blk_frozen BK119.out 4; have hfz12_5 := blk_frozen BK119.out 5; have hfz12_6 := blk_frozen BK119.out 6; have hfz12_7 := blk_frozen BK119.out 7; have hfz12_8 := blk_frozen BK119.out 8) | ((with_reducible refine gate_dst (N := 8) rfl ?_); refine Kd.R_lit Kd.string _ 9 ?hg (N := 8) ?hd (xs := ([] : List ByteArray)) (inner := []) (ok := fun _ => True) (okp := fun _ => True) ?hr ?hp (fun _ hk => hk) trivial (Below.refl _ _) (Nat.le_refl _) (by simp) ?_; (case hd => rfl); (case hg => rfl); (case hr => first | (go_simp; done) | (go_simp; rfl)); (case hp => exact (Reps.none _ _)); intro v128 w13 ho14 hb hg_ hnew_; clear hg_ hnew_; (first | rw [← Ny127.out] at ho14 | (simp only [Int.reduceToNat] at ho14; rw [← Ny127.out] at ho14)); have n0_ := Aside0.mk (Kd.R_elder' (by (with_reducible repeat (first | apply Kd.R_alloc | apply Kd.R_drewN | apply Kd.R_drew)); exact (Kd.R_mono (Kd.R_far (p := ⟨gb119, 7, none⟩) (Kd.R_types HO126.out BK119.out (by decide)) (fun _ hk => hk.2) (.slice Ao11 y124.length co11)) (fun _ h_ => h_.1))) (Kd.R_base ho14) hb); have n1_ := Aside0.mk (Kd.R_lower (Kd.R_new' ho14 (Kd.R_lt (by (with_reducible repeat (first | apply Kd.R_alloc | apply Kd.R_drewN | apply Kd.R_drew)); exact (Kd.R_mono (Kd.R_far (p := ⟨gb119, 7, none⟩) (Kd.R_types HO126.out BK119.out (by decide)) (fun _ hk => hk.2) (.slice Ao11 y124.length co11)) (fun _ h_ => h_.1))))) (below_size (by repeat (first | (with_reducible first | exact HB.out | apply below_alloc | apply pw_below_drewN | apply below_drew1 | refine below_set ?_ GE119.out | refine below_set ?_ GE120.out) | exact HB.out)))); have n2_ := Aside0.mk (blk_below (g := gb119) (o := .cells #[.int .i64 a0_0, .string a0_1, .string a0_2, .int .u64 a0_3, .int .u64 a0_4, .string a0_5, .string a0_6, .slice Ao11 y124.length co11, .slice A0_8 l0_8.length c0_8] 33 (0, 0)) (by (with_reducible repeat (first | refine blk_drewN ?_ _ | refine blk_drew ?_ | refine blk_alloc ?_ _)); refine blk_put (cs := #[.int .i64 a0_0, .string a0_1, .string a0_2, .int .u64 a0_3, .int .u64 a0_4, .string a0_5, .string a0_6, .slice A0_7 l0_7.length c0_7, .slice A0_8 l0_8.length c0_8]) ?_ 7 _ rfl; (with_reducible repeat (first | refine blk_drewN ?_ _ | refine blk_drew ?_ | refine blk_alloc ?_ _)); exact BK119.out) hb); have n3_ := Aside0.mk (blk_below (g := gb120) (o := .cells #[.int .i64 0, .string (⟨#[]⟩ : ByteArray), .string (⟨#[]⟩ : ByteArray), .int .u64 0, .int .u64 0, .string (⟨#[]⟩ : ByteArray), .string (⟨#[]⟩ : ByteArray), .slice none 0 0, .slice none 0 0] 33 (0, 0)) (by (with_reducible repeat (first | refine blk_drewN ?_ _ | refine blk_drew ?_ | refine blk_alloc ?_ _)); refine blk_far ?_ NB120_119.out _; (with_reducible repeat (first | refine blk_drewN ?_ _ | refine blk_drew ?_ | refine blk_alloc ?_ _)); exact BK120.out) hb); have n4_ := Aside0.mk (below_step (by repeat (first | (with_reducible first | exact HB.out | apply below_alloc | apply pw_below_drewN | apply below_drew1 | refine below_set ?_ GE119.out | refine below_set ?_ GE120.out) | exact HB.out)) hb); clear HO126; clear BK119; clear BK120; clear HB; have HO126 := n0_; have HO129 := n1_; have BK119 := n2_; have BK120 := n3_; have HB := n4_; clear n0_ n1_ n2_ n3_ n4_; clear hb ho14; have hcz15_0 : w13.cell? ⟨gb119, 0, none⟩ = some (.int .i64 a0_0) := (blk_cell BK119.out 0).trans rfl; have hcz15_1 : w13.cell? ⟨gb119, 1, none⟩ = some (.string a0_1) := (blk_cell BK119.out 1).trans rfl; have hcz15_2 : w13.cell? ⟨gb119, 2, none⟩ = some (.string a0_2) := (blk_cell BK119.out 2).trans rfl; have hcz15_3 : w13.cell? ⟨gb119, 3, none⟩ = some (.int .u64 a0_3) := (blk_cell BK119.out 3).trans rfl; have hcz15_4 : w13.cell? ⟨gb119, 4, none⟩ = some (.int .u64 a0_4) := (blk_cell BK119.out 4).trans rfl; have hcz15_5 : w13.cell? ⟨gb119, 5, none⟩ = some (.string a0_5) := (blk_cell BK119.out 5).trans rfl; have hcz15_6 : w13.cell? ⟨gb119, 6, none⟩ = some (.string a0_6) := (blk_cell BK119.out 6).trans rfl; have hcz15_7 : w13.cell? ⟨gb119, 7, none⟩ = some (.slice Ao11 y124.length co11) := (blk_cell BK119.out 7).trans rfl; have hcz15_8 : w13.cell? ⟨gb119, 8, none⟩ = some (.slice A0_8 l0_8.length c0_8) := (blk_cell BK119.out 8).trans rfl; have hfz15_0 := blk_frozen BK119.out 0; have hfz15_1 := blk_frozen BK119.out 1; have hfz15_2 := blk_frozen BK119.out 2; have hfz15_3 := blk_frozen BK119.out 3; have hfz15_4 := blk_frozen BK119.out 4; have hfz15_5 := blk_frozen BK119.out 5; have hfz15_6 := blk_frozen BK119.out 6; have hfz15_7 := blk_frozen BK119.out 7; have hfz15_8 := blk_frozen BK119.out 8) | ((with_reducible refine gate_builtin (b := .append) (xs := #[.tmp 8, .tmp 10]) rfl ?_); at_builtin; refine Kd.R_append_rows Kd.string (w0 := w) w.heap.size rfl (.tmp 8) (.tmp 10) 31 9 (.string ⟨#[]⟩) 16 rfl Tryd.underlying31 info9 rfl (by decide) (by omega) v128 y127 l0_8 _ _ _ (fun k_ => some k_ ≠ (.slice Ao11 y124.length co11 : Value).ownBlock) (fun _ => False) rfl rfl ?aO ?aR (fun _ _ h => h) (fun _ h => h.elim) ?aF ?aB ?aS ?aL ?_; (case aR => repeat (first | exact (Kd.C_below HR0_8.out HB.out) | (with_reducible refine Kd.C_alloc ?_ _) | (with_reducible refine Kd.C_drewN ?_ _) | (with_reducible refine Kd.C_drew ?_))); (case aB => exact (by repeat (first | (with_reducible first | exact HB.out | apply below_alloc | apply pw_below_drewN | apply below_drew1 | refine below_set ?_ GE119.out | refine below_set ?_ GE120.out) | exact HB.out))); (case aF => exact (fun k_ hk => Kd.fresh' (Kd.R_lt (by (with_reducible repeat (first | apply Kd.R_alloc | apply Kd.R_drewN | apply Kd.R_drew)); exact HO126.out)) k_ hk)); (case aO => exact (by (with_reducible repeat (first | apply Kd.R_alloc | apply Kd.R_drewN | apply Kd.R_drew)); exact Kd.R_mono HO129.out (fun _ hk => hk.2))); (case aS => exact (below_size (by repeat (first | (with_reducible first | exact HB.out | apply below_alloc | apply pw_below_drewN | apply below_drew1 | refine below_set ?_ GE119.out | refine below_set ?_ GE120.out) | exact HB.out)))); (case aL => have := LMc3.out; omega); intro v131 w16 ho hb hg hat; rw [← Ny130.out] at ho; have n0_ := Aside0.mk (blk_grown (g := gb119) (o := .cells #[.int .i64 a0_0, .string a0_1, .string a0_2, .int .u64 a0_3, .int .u64 a0_4, .string a0_5, .string a0_6, .slice Ao11 y124.length co11, .slice A0_8 l0_8.length c0_8] 33 (0, 0)) (by (with_reducible repeat (first | refine blk_drewN ?_ _ | refine blk_drew ?_ | refine blk_alloc ?_ _)); exact BK119.out) hg (Kd.R_ne HO129.out BK119.out (by decide))); have n1_ := Aside0.mk (blk_grown (g := gb120) (o := .cells #[.int .i64 0, .string (⟨#[]⟩ : ByteArray), .string (⟨#[]⟩ : ByteArray), .int .u64 0, .int .u64 0, .string (⟨#[]⟩ : ByteArray), .string (⟨#[]⟩ : ByteArray), .slice none 0 0, .slice none 0 0] 33 (0, 0)) (by (with_reducible repeat (first | refine blk_drewN ?_ _ | refine blk_drew ?_ | refine blk_alloc ?_ _)); exact BK120.out) hg (Kd.R_ne HO129.out BK120.out (by decide))); have n2_ := Aside0.mk (Kd.R_after (ok := (fun _ => True)) (by (with_reducible repeat (first | apply Kd.R_alloc | apply Kd.R_drewN | apply Kd.R_drew)); exact HO126.out) hg hat); have n3_ := Aside0.mk (hb); have n4_ := Aside0.mk (ho); clear BK119; clear BK120; clear HO126; clear HB; clear HO129; have BK119 := n0_; have BK120 := n1_; have HO126 := n2_; have HB := n3_; have HO132 := n4_; clear n0_ n1_ n2_ n3_ n4_; clear ho hb hg hat; obtain ⟨Ao17, co17, eo17⟩ := Kd.R_slice HO132.out; subst eo17; have hcz18_0 : w16.cell? ⟨gb119, 0, none⟩ = some (.int .i64 a0_0) := (blk_cell BK119.out 0).trans rfl; have hcz18_1 : w16.cell? ⟨gb119, 1, none⟩ = some (.string a0_1) := (blk_cell BK119.out 1).trans rfl; have hcz18_2 : w16.cell? ⟨gb119, 2, none⟩ = some (.string a0_2) := (blk_cell BK119.out 2).trans rfl; have hcz18_3 : w16.cell? ⟨gb119, 3, none⟩ = some (.int .u64 a0_3) := (blk_cell BK119.out 3).trans rfl; have hcz18_4 : w16.cell? ⟨gb119, 4, none⟩ = some (.int .u64 a0_4) := (blk_cell BK119.out 4).trans rfl; have hcz18_5 : w16.cell? ⟨gb119, 5, none⟩ = some (.string a0_5) := (blk_cell BK119.out 5).trans rfl; have hcz18_6 : w16.cell? ⟨gb119, 6, none⟩ = some (.string a0_6) := (blk_cell BK119.out 6).trans rfl; have hcz18_7 : w16.cell? ⟨gb119, 7, none⟩ = some (.slice Ao11 y124.length co11) := (blk_cell BK119.out 7).trans rfl; have hcz18_8 : w16.cell? ⟨gb119, 8, none⟩ = some (.slice A0_8 l0_8.length c0_8) := (blk_cell BK119.out 8).trans rfl; have hfz18_0 := blk_frozen BK119.out 0; have hfz18_1 := blk_frozen BK119.out 1; have hfz18_2 := blk_frozen BK119.out 2; have hfz18_3 := blk_frozen BK119.out 3; have hfz18_4 := blk_frozen BK119.out 4; have hfz18_5 := blk_frozen BK119.out 5; have hfz18_6 := blk_frozen BK119.out 6; have hfz18_7 := blk_frozen BK119.out 7; have hfz18_8 := blk_frozen BK119.out 8; have hcz19_0 : w16.cell? ⟨gb120, 0, none⟩ = some (.int .i64 0) := (blk_cell BK120.out 0).trans rfl; have hcz19_1 : w16.cell? ⟨gb120, 1, none⟩ = some (.string (⟨#[]⟩ : ByteArray)) := (blk_cell BK120.out 1).trans rfl; have hcz19_2 : w16.cell? ⟨gb120, 2, none⟩ = some (.string (⟨#[]⟩ : ByteArray)) := (blk_cell BK120.out 2).trans rfl; have hcz19_3 : w16.cell? ⟨gb120, 3, none⟩ = some (.int .u64 0) := (blk_cell BK120.out 3).trans rfl; have hcz19_4 : w16.cell? ⟨gb120, 4, none⟩ = some (.int .u64 0) := (blk_cell BK120.out 4).trans rfl; have hcz19_5 : w16.cell? ⟨gb120, 5, none⟩ = some (.string (⟨#[]⟩ : ByteArray)) := (blk_cell BK120.out 5).trans rfl; have hcz19_6 : w16.cell? ⟨gb120, 6, none⟩ = some (.string (⟨#[]⟩ : ByteArray)) := (blk_cell BK120.out 6).trans rfl; have hcz19_7 : w16.cell? ⟨gb120, 7, none⟩ = some (.slice none 0 0) := (blk_cell BK120.out 7).trans rfl; have hcz19_8 : w16.cell? ⟨gb120, 8, none⟩ = some (.slice none 0 0) := (blk_cell BK120.out 8).trans rfl; have hfz19_0 := blk_frozen BK120.out 0; have hfz19_1 := blk_frozen BK120.out 1; have hfz19_2 := blk_frozen BK120.out 2; have hfz19_3 := blk_frozen BK120.out 3; have hfz19_4 := blk_frozen BK120.out 4; have hfz19_5 := blk_frozen BK120.out 5; have hfz19_6 := blk_frozen BK120.out 6; have hfz19_7 := blk_frozen BK120.out 7; have hfz19_8 := blk_frozen BK120.out 8))
      refine bodyPost_ret (results_cell_row rfl _ _ gb120 33 #[.int .i64 a0_0, .string a0_1, .string a0_2, .int .u64 a0_3, .int .u64 a0_4, .string a0_5, .string a0_6, .slice Ao11 y124.length co11, .slice Ao17 y130.length co17] (0, 0) _ rfl (by (with_reducible repeat (first | refine blk_drewN ?_ _ | refine blk_drew ?_ | refine blk_alloc ?_ _)); refine blk_put (cs := #[.int .i64 a0_0, .string a0_1, .string a0_2, .int .u64 a0_3, .int .u64 a0_4, .string a0_5, .string a0_6, .slice Ao11 y124.length co11, .slice none 0 0]) ?_ 8 _ rfl; (with_reducible repeat (first | refine blk_drewN ?_ _ | refine blk_drew ?_ | refine blk_alloc ?_ _)); refine blk_put (cs := #[.int .i64 a0_0, .string a0_1, .string a0_2, .int .u64 a0_3, .int .u64 a0_4, .string a0_5, .string a0_6, .slice none 0 0, .slice none 0 0]) ?_ 7 _ rfl; (with_reducible repeat (first | refine blk_drewN ?_ _ | refine blk_drew ?_ | refine blk_alloc ?_ _)); refine blk_put (cs := #[.int .i64 a0_0, .string a0_1, .string a0_2, .int .u64 a0_3, .int .u64 a0_4, .string a0_5, .string (⟨#[]⟩ : ByteArray), .slice none 0 0, .slice none 0 0]) ?_ 6 _ rfl; (with_reducible repeat (first | refine blk_drewN ?_ _ | refine blk_drew ?_ | refine blk_alloc ?_ _)); refine blk_put (cs := #[.int .i64 a0_0, .string a0_1, .string a0_2, .int .u64 a0_3, .int .u64 a0_4, .string (⟨#[]⟩ : ByteArray), .string (⟨#[]⟩ : ByteArray), .slice none 0 0, .slice none 0 0]) ?_ 5 _ rfl; (with_reducible repeat (first | refine blk_drewN ?_ _ | refine blk_drew ?_ | refine blk_alloc ?_ _)); refine blk_put (cs := #[.int .i64 a0_0, .string a0_1, .string a0_2, .int .u64 a0_3, .int .u64 0, .string (⟨#[]⟩ : ByteArray), .string (⟨#[]⟩ : ByteArray), .slice none 0 0, .slice none 0 0]) ?_ 4 _ rfl; (with_reducible repeat (first | refine blk_drewN ?_ _ | refine blk_drew ?_ | refine blk_alloc ?_ _)); refine blk_put (cs := #[.int .i64 a0_0, .string a0_1, .string a0_2, .int .u64 0, .int .u64 0, .string (⟨#[]⟩ : ByteArray), .string (⟨#[]⟩ : ByteArray), .slice none 0 0, .slice none 0 0]) ?_ 3 _ rfl; (with_reducible repeat (first | refine blk_drewN ?_ _ | refine blk_drew ?_ | refine blk_alloc ?_ _)); refine blk_put (cs := #[.int .i64 a0_0, .string a0_1, .string (⟨#[]⟩ : ByteArray), .int .u64 0, .int .u64 0, .string (⟨#[]⟩ : ByteArray), .string (⟨#[]⟩ : ByteArray), .slice none 0 0, .slice none 0 0]) ?_ 2 _ rfl; (with_reducible repeat (first | refine blk_drewN ?_ _ | refine blk_drew ?_ | refine blk_alloc ?_ _)); refine blk_put (cs := #[.int .i64 a0_0, .string (⟨#[]⟩ : ByteArray), .string (⟨#[]⟩ : ByteArray), .int .u64 0, .int .u64 0, .string (⟨#[]⟩ : ByteArray), .string (⟨#[]⟩ : ByteArray), .slice none 0 0, .slice none 0 0]) ?_ 1 _ rfl; (with_reducible repeat (first | refine blk_drewN ?_ _ | refine blk_drew ?_ | refine blk_alloc ?_ _)); refine blk_put (cs := #[.int .i64 0, .string (⟨#[]⟩ : ByteArray), .string (⟨#[]⟩ : ByteArray), .int .u64 0, .int .u64 0, .string (⟨#[]⟩ : ByteArray), .string (⟨#[]⟩ : ByteArray), .slice none 0 0, .slice none 0 0]) ?_ 0 _ rfl; (with_reducible repeat (first | refine blk_drewN ?_ _ | refine blk_drew ?_ | refine blk_alloc ?_ _)); refine blk_far ?_ NB120_119.out _; (with_reducible repeat (first | refine blk_drewN ?_ _ | refine blk_drew ?_ | refine blk_alloc ?_ _)); exact BK120.out) Tryd.underlying33 rfl (by kernel_rfl)) rfl ?_
      exact ⟨_, _, by first | rfl | (simp [errW_none, errW_some] <;> rfl) | (simp [*, errW_none, errW_some] <;> rfl), by (with_reducible repeat (first | apply Kd.R_alloc | apply Kd.R_drewN | apply Kd.R_drew)); exact Kd.R_mono (Kd.R_far (p := ⟨gb120, 8, none⟩) (Kd.R_far (p := ⟨gb120, 7, none⟩) (Kd.R_far (p := ⟨gb120, 6, none⟩) (Kd.R_far (p := ⟨gb120, 5, none⟩) (Kd.R_far (p := ⟨gb120, 4, none⟩) (Kd.R_far (p := ⟨gb120, 3, none⟩) (Kd.R_far (p := ⟨gb120, 2, none⟩) (Kd.R_far (p := ⟨gb120, 1, none⟩) (Kd.R_far (p := ⟨gb120, 0, none⟩) (Kd.R_far (p := ⟨gb119, 8, none⟩) (Kd.R_types (Kd.R_types HO126.out BK119.out (by decide)) BK120.out (by decide)) (fun _ hk => hk.1.2) (.slice Ao17 y130.length co17)) (fun _ hk => hk.2) (.int .i64 a0_0)) (fun _ hk => hk.2) (.string a0_1)) (fun _ hk => hk.2) (.string a0_2)) (fun _ hk => hk.2) (.int .u64 a0_3)) (fun _ hk => hk.2) (.int .u64 a0_4)) (fun _ hk => hk.2) (.string a0_5)) (fun _ hk => hk.2) (.string a0_6)) (fun _ hk => hk.2) (.slice Ao11 y124.length co11)) (fun _ hk => hk.2) (.slice Ao17 y130.length co17)) (fun _ hk => hk.1.1.2), by (with_reducible repeat (first | apply Kd.R_alloc | apply Kd.R_drewN | apply Kd.R_drew)); exact Kd.R_mono (Kd.R_far (p := ⟨gb120, 8, none⟩) (Kd.R_far (p := ⟨gb120, 7, none⟩) (Kd.R_far (p := ⟨gb120, 6, none⟩) (Kd.R_far (p := ⟨gb120, 5, none⟩) (Kd.R_far (p := ⟨gb120, 4, none⟩) (Kd.R_far (p := ⟨gb120, 3, none⟩) (Kd.R_far (p := ⟨gb120, 2, none⟩) (Kd.R_far (p := ⟨gb120, 1, none⟩) (Kd.R_far (p := ⟨gb120, 0, none⟩) (Kd.R_far (p := ⟨gb119, 8, none⟩) (Kd.R_types (Kd.R_types HO132.out BK119.out (by decide)) BK120.out (by decide)) (fun _ hk => hk.1.2) (.slice Ao17 y130.length co17)) (fun _ hk => hk.2) (.int .i64 a0_0)) (fun _ hk => hk.2) (.string a0_1)) (fun _ hk => hk.2) (.string a0_2)) (fun _ hk => hk.2) (.int .u64 a0_3)) (fun _ hk => hk.2) (.int .u64 a0_4)) (fun _ hk => hk.2) (.string a0_5)) (fun _ hk => hk.2) (.string a0_6)) (fun _ hk => hk.2) (.slice Ao11 y124.length co11)) (fun _ hk => hk.2) (.slice Ao17 y130.length co17)) (fun _ hk => hk.1.1), by repeat (first | (with_reducible first | exact HB.out | apply below_alloc | apply pw_below_drewN | apply below_drew1 | refine below_set ?_ GE119.out | refine below_set ?_ GE120.out) | exact HB.out)⟩
    · rw [if_neg c3] at H
      exact absurd H (by simp)
  · rw [if_neg c2] at H
    exact absurd H (by simp)
end Go.Proofs.YtndicjikjcifaaaDoor.PB

namespace Go.Proofs.YtndicjikjcifaaaDoor.PB
open Go.RowKit Go.Proofs.YtndicjikjcifaaaDoorW.PrintWords Go.Proofs.YtndicjikjcifaaaDoorW.PrintLast Go.Proofs.YtndicjikjcifaaaDoorW.PrintMore
attribute [local go_sem] max2_int min2_int max_two min_two max_three min_three max_four min_four   -- for this text's walks alone
set_option linter.unusedVariables false
set_option linter.unusedSimpArgs false
/-! ### tusklaw05_Own: function 30 -/
def tusklaw05_Own.l0 : Nat → List (S33) → Int → Int → Int → List (S33) → Option (Int × Int × (List (S33)))
  | 0, _, _, _, _, _ => none
  | k + 1, x3, x4, x134000, x134001, x134002 => if x4 < (x134002.length : Int) then (if 0 ≤ x4 then ((tusklaw04_Own.f ((rd_T33 x134002 x4).f0) ((rd_T33 x134002 x4).f1) ((rd_T33 x134002 x4).f2) ((rd_T33 x134002 x4).f3) ((rd_T33 x134002 x4).f4) ((rd_T33 x134002 x4).f5) ((rd_T33 x134002 x4).f6) ((rd_T33 x134002 x4).f7) ((rd_T33 x134002 x4).f8)).bind fun bt136 => (if x3.length < 1034834473200 then (tusklaw05_Own.l0 k (x3 ++ [(⟨bt136.1, bt136.2.1, bt136.2.2.1, bt136.2.2.2.1, bt136.2.2.2.2.1, bt136.2.2.2.2.2.1, bt136.2.2.2.2.2.2.1, bt136.2.2.2.2.2.2.2.1, bt136.2.2.2.2.2.2.2.2⟩ : S33)]) (wrap64 (x4 + 1)) x134000 x134001 x134002) else (none))) else (none)) else (some (x134000, x134001, x3))
def tusklaw05_Own.f (k : Nat) (a0_0 : Int) (a0_1 : Int) (l0_2 : List (S33)) : Option (Int × Int × (List (S33))) := tusklaw05_Own.l0 k ([] : List (S33)) 0 a0_0 a0_1 l0_2
theorem tusklaw05_Own.mono_l : ∀ k, (∀ y0 y1 y2 y3 y4, LeO (tusklaw05_Own.l0 k y0 y1 y2 y3 y4) (tusklaw05_Own.l0 (k + 1) y0 y1 y2 y3 y4))
  | 0 => fun _ _ _ _ _ r h => by simp [tusklaw05_Own.l0] at h
  | k + 1 => by
    have ih0 := tusklaw05_Own.mono_l k
    · intro y0 y1 y2 y3 y4
      unfold tusklaw05_Own.l0
      repeat' first
      | (with_reducible exact ih0 _ _ _ _ _)
      | (with_reducible exact LeO.refl _)
      | (with_reducible exact LeO.none _)
      | (with_reducible refine LeO.ite ?_ ?_)
      | (with_reducible refine LeO.bind ?_ (fun _ => ?_))
      | exact ih0 _ _ _ _ _
      | exact LeO.none _
      | refine LeO.ite ?_ ?_
      | refine LeO.bind ?_ (fun _ => ?_)
theorem tusklaw05_Own.mono : ∀ a0 a1 a2 k, LeO (tusklaw05_Own.f k a0 a1 a2) (tusklaw05_Own.f (k + 1) a0 a1 a2) := by
  intro a0 a1 a2 k
  have ih0 := tusklaw05_Own.mono_l k
  unfold tusklaw05_Own.f
  repeat' first
      | (with_reducible exact ih0 _ _ _ _ _)
      | (with_reducible exact LeO.refl _)
      | (with_reducible exact LeO.none _)
      | (with_reducible refine LeO.ite ?_ ?_)
      | (with_reducible refine LeO.bind ?_ (fun _ => ?_))
      | exact ih0 _ _ _ _ _
      | exact LeO.none _
      | refine LeO.ite ?_ ?_
      | refine LeO.bind ?_ (fun _ => ?_)
end Go.Proofs.YtndicjikjcifaaaDoor.PB

/- What is wrong with a batch: both answers in one plain form. -/
namespace Go.Proofs.YtndicjikjcifaaaDoor
open Go.RowKit Go.Proofs.YtndicjikjcifaaaDoorW.PrintWords Go.Proofs.YtndicjikjcifaaaDoorW.PrintLast
open PB (S33 k33)
set_option linter.unusedVariables false
set_option linter.unusedSimpArgs false
theorem drop_rd (l : List S33) (j : Nat) (hj : j < l.length) : l.drop j = PB.rd_T33 l (j : Int) :: l.drop (j + 1) := by
  rw [List.drop_eq_getElem_cons hj]
  congr 1
  simp [PB.rd_T33, hj]
end Go.Proofs.YtndicjikjcifaaaDoor

/- The document's sealer: Add. -/
namespace Go.Proofs.YtndicjikjcifaaaDoor
open Go.RowKit Go.Proofs.YtndicjikjcifaaaDoorW.PrintWords Go.Proofs.YtndicjikjcifaaaDoorW.PrintLast
set_option linter.unusedVariables false
set_option linter.unusedSimpArgs false
set_option maxRecDepth 100000
open PB (S33 k33)
end Go.Proofs.YtndicjikjcifaaaDoor

/- wire.List: texts as bytes, through a strings.Builder. -/
namespace Go.Proofs
open Go.Shelf
def Tryd.lays166_ren : Go.Shelf.Ren := ⟨fun | 166 => 84 | 240 => 96 | 276 => 122 | n => n, fun | 0 => 0 | 3 => 3 | 4 => 4 | 5 => 5 | 9 => 9 | 20 => 20 | 37 => 104 | 70 => 106 | 72 => 108 | 75 => 110 | 80 => 79 | 164 => 151 | n => n, fun n => n⟩
theorem Tryd.lays166 : Lays.n166 Tryd.prog Tryd.lays166_ren := {
  mixed := by kernel_rfl
  f166 := Tryd.func84.trans (congrArg some (by kernel_rfl))
  f240 := Tryd.func96.trans (congrArg some (by kernel_rfl))
  f276 := Tryd.func122.trans (congrArg some (by kernel_rfl))
  t0 := Tryd.underlying0
  a0 := Tryd.isAgg0
  z0 := Tryd.sizeOf0
  v0 := Tryd.zeroValue0
  t3 := Tryd.underlying3
  a3 := Tryd.isAgg3
  z3 := Tryd.sizeOf3
  v3 := Tryd.zeroValue3
  t4 := Tryd.underlying4
  a4 := Tryd.isAgg4
  z4 := Tryd.sizeOf4
  v4 := Tryd.zeroValue4
  t9 := Tryd.underlying9
  a9 := Tryd.isAgg9
  z9 := Tryd.sizeOf9
  v9 := Tryd.zeroValue9
  t20 := Tryd.underlying20
  a20 := Tryd.isAgg20
  z20 := Tryd.sizeOf20
  v20 := Tryd.zeroValue20
  t37 := Tryd.underlying104
  a37 := Tryd.isAgg104
  z37 := Tryd.sizeOf104
  v37 := Tryd.zeroValue104
  t70 := Tryd.underlying106
  a70 := Tryd.isAgg106
  z70 := Tryd.sizeOf106
  v70 := Tryd.zeroValue106
  t72 := Tryd.underlying108
  a72 := Tryd.isAgg108
  z72 := Tryd.sizeOf108
  v72 := Tryd.zeroValue108
  t75 := Tryd.underlying110
  a75 := Tryd.isAgg110
  z75 := Tryd.sizeOf110
  v75 := Tryd.zeroValue110
  t164 := Tryd.underlying151
  a164 := Tryd.isAgg151
  z164 := Tryd.sizeOf151
  v164 := Tryd.zeroValue151 }
theorem Tryd.Builder_Extra_166 : Builder.Extra Tryd.prog Tryd.lays166_ren := {
  sizeBuilder := by kernel_rfl
  liesBuilder := by kernel_rfl
  t5 := Tryd.underlying5
  a5 := Tryd.isAgg5
  z5 := Tryd.sizeOf5
  v5 := Tryd.zeroValue5
  infoByte := by kernel_rfl
  cellsByte := by kernel_rfl
  sizeByte := by kernel_rfl
  neB5 := by decide }
theorem Tryd.Builder_Extra_169 : Builder.Extra Tryd.prog Tryd.lays169_ren := {
  sizeBuilder := by kernel_rfl
  liesBuilder := by kernel_rfl
  t5 := Tryd.underlying5
  a5 := Tryd.isAgg5
  z5 := Tryd.sizeOf5
  v5 := Tryd.zeroValue5
  infoByte := by kernel_rfl
  cellsByte := by kernel_rfl
  sizeByte := by kernel_rfl
  neB5 := by decide }
end Go.Proofs
namespace Go.Proofs.YtndicjikjcifaaaDoor
open Go.RowKit Go.Shelf Go.Lib Go.Proofs.YtndicjikjcifaaaDoorW.PrintWords Go.Proofs.YtndicjikjcifaaaDoorW.PrintLast
set_option linter.unusedVariables false
set_option linter.unusedSimpArgs false
def ib (n : Int) : ByteArray := if n < 0 ∨ n > 4611686018427387903 then ⟨#[]⟩ else strOfNums (vints n.toNat)
def tb (s : ByteArray) : ByteArray := ib s.size ++ s
def tbs : List ByteArray → List UInt8
  | [] => []
  | x :: r => (tb x).data.toList ++ tbs r
def lbL (xs : List ByteArray) : List UInt8 := (ib xs.length).data.toList ++ tbs xs
def lb (xs : List ByteArray) : ByteArray := ⟨(lbL xs).toArray⟩
theorem tbs_append (a b : List ByteArray) : tbs (a ++ b) = tbs a ++ tbs b := by
  induction a with
  | nil => rfl
  | cons x r ih => simp [tbs, ih]
theorem text_calls (x : ByteArray) (w : World) (h : (tb x).size ≤ 9223372036854775807) :
    Calls Tryd.prog 68 #[.string x] w fun e w' => e = .returned (.string (tb x)) ∧ Below w.heap.size w w' := by
  refine PWi.wire_Text.calls x (tb x) w ?_
  rw [PWi.wire_Text.f, show wire_Int.f (x.size : Int) = some (ib x.size) from rfl, Option.bind_some, if_pos]
  · rfl
  · have : (tb x).size = (ib x.size).size + x.size := ByteArray.size_append
    omega
theorem int_calls (n : Int) (w : World) : Calls Tryd.prog 62 #[.int .i64 n] w fun e w' => e = .returned (.string (ib n)) ∧ Below w.heap.size w w' :=
  wire_Int.calls n (ib n) w rfl
theorem write_calls (B b : Nat) (l : List UInt8) (s : ByteArray) (w : World) (h : Lib.IsBuilder 108 5 B b (Lib.byteCells l) w) (hlen : l.length + s.size ≤ 140737488355328) (hBw : B ≤ w.heap.size) :
    Calls Tryd.prog 84 #[.pointer (some ⟨b, 0, none⟩), .string s] w fun e w' => e = .returned (.tuple #[.int .i64 s.size, .nilIface]) ∧ Lib.IsBuilder 108 5 B b (Lib.byteCells (l ++ s.data.toList)) w' ∧ Below B w w' := by
  have := Any.Builder_WriteString Tryd.lays166 Tryd.Builder_Extra_166 B b (Lib.byteCells l) s w h (by rw [Lib.byteCells_length]; exact hlen) hBw
  refine this.mono fun e w' h => ⟨h.1, .inr ?_, h.2.2⟩
  have e1 : Lib.byteCells l ++ Lib.strCells s = Lib.byteCells (l ++ s.data.toList) := by simp [Lib.byteCells, Lib.strCells]
  rw [← e1]
  exact h.2.1
theorem string_calls (B b : Nat) (l : List UInt8) (w : World) (h : Lib.IsBuilder 108 5 B b (Lib.byteCells l) w) (hBw : B ≤ w.heap.size) :
    Calls Tryd.prog 85 #[.pointer (some ⟨b, 0, none⟩)] w fun e w' => e = .returned (.string ⟨l.toArray⟩) ∧ Below B w w' :=
  Any.Builder_String_any Tryd.lays169 Tryd.Builder_Extra_169 B b l w h hBw
theorem builder_below {B b : Nat} {l : List UInt8} {w w' : World} (h : Lib.IsBuilder 108 5 B b (Lib.byteCells l) w) (hb : Below w.heap.size w w') : Lib.IsBuilder 108 5 B b (Lib.byteCells l) w' := by
  have go : ∀ p, Lib.BuilderAt 108 5 B b p (Lib.byteCells l) w → Lib.BuilderAt 108 5 B b p (Lib.byteCells l) w' := by
    rintro p ⟨hB, v, hv, hown, hne⟩
    refine ⟨hB, v, (hb.block b (blk_lt hv)).trans hv, ?_, hne⟩
    refine own_move hown fun k hk => ?_
    obtain ⟨cells, hc⟩ := own_typed hown k hk
    exact hb.block k (blk_lt hc)
  exact h.elim (fun h => .inl (go _ h)) (fun h => .inr (go _ h))
theorem builder_new (w : World) : Lib.IsBuilder 108 5 w.heap.size w.heap.size (Lib.byteCells []) (w.alloc (.cells #[.pointer none, .slice none 0 0] 108)) :=
  .inl ⟨Nat.le_refl _, _, blk_new _ _, ⟨rfl, .inl ⟨rfl, rfl⟩⟩, by simp [Value.ownBlock]⟩
theorem tbs_len (xs : List ByteArray) (j : Nat) (hj : j < xs.length) : (tbs (xs.take j)).length + (tb (rdOf ByteArray.empty xs (j : Int))).size ≤ (tbs xs).length := by
  have e : xs = xs.take j ++ (rdOf ByteArray.empty xs (j : Int) :: xs.drop (j + 1)) := by
    have hd : xs.drop j = rdOf ByteArray.empty xs (j : Int) :: xs.drop (j + 1) := by
      rw [List.drop_eq_getElem_cons hj]
      congr 1
      simp [rdOf, hj]
    rw [← hd, List.take_append_drop]
  conv => rhs; rw [e]
  rw [tbs_append, tbs, List.length_append, List.length_append]
  have : (tb (rdOf ByteArray.empty xs (j : Int))).data.toList.length = (tb (rdOf ByteArray.empty xs (j : Int))).size := by rw [Array.length_toList]; rfl
  omega
theorem tbs_take (xs : List ByteArray) (j : Nat) (hj : j < xs.length) : tbs (xs.take (j + 1)) = tbs (xs.take j) ++ (tb (rdOf ByteArray.empty xs (j : Int))).data.toList := by
  have : xs.take (j + 1) = xs.take j ++ [rdOf ByteArray.empty xs (j : Int)] := by
    rw [List.take_succ_eq_append_getElem hj]
    congr 2
    simp [rdOf, hj]
  rw [this, tbs_append]
  simp [tbs]
set_option maxHeartbeats 8000000 in
set_option maxRecDepth 100000 in
theorem list_calls (A : Option Addr) (c : Nat) (xs : List ByteArray) (w : World) (hr : Kd.C Kd.string w A xs.length xs) (hc : xs.length ≤ c) (hb : (lbL xs).length ≤ 140737488355328) :
    Calls Tryd.prog 63 #[.slice A xs.length c] w fun e w' => e = .returned (.string (lb xs)) ∧ Below w.heap.size w w' := by
  have HR := Lib.hid hr
  have HL := Lib.hid (show (ib xs.length).size + (tbs xs).length ≤ 140737488355328 by
    have : (lbL xs).length = (ib xs.length).size + (tbs xs).length := by rw [lbL, List.length_append]; rfl
    omega)
  have HF := Lib.hid (show lb xs = ⟨((ib xs.length).data.toList ++ tbs xs).toArray⟩ from rfl)
  clear hr hb
  go_enter Tryd.func63, Tryd.ntmps63
  have HN := Lib.hid (builder_new w)
  have HB := Lib.hid ((Below.refl w.heap.size w).alloc (Nat.le_refl _) (.cells #[.pointer none, .slice none 0 0] 108))
  go_wp2_with (first
    | (go_at_call 62
       go_must (refine (int_calls _ _).mono ?_)
       rintro e w2 ⟨rfl, hB⟩
       have HN := Lib.hid (builder_below HN.out hB)
       have HB := Lib.hid (below_then HB.out HB.out.size hB)
       clear hB)
    | (go_at_call 84
       go_must (refine (write_calls w.heap.size w.heap.size [] (ib xs.length) _ HN.out (by have := HL.out; simp only [List.length_nil]; omega) HB.out.size).mono ?_)
       rintro e w2 ⟨rfl, hI, hB⟩
       have HN := Lib.hid hI
       have HB := Lib.hid (HB.out.trans hB)
       clear hB hI))
  have HN := Lib.hid (show Lib.IsBuilder 108 5 w.heap.size w.heap.size (Lib.byteCells ((ib xs.length).data.toList ++ tbs (xs.take 0))) w2 by simpa [tbs] using HN.out)
  have hl : xs.length < 9223372036854775808 := by have := Kd.C_max HR.out; omega
  go_loopg [5, 12, 13, 14, 15, 16, 17, 18, 19] xs.length (fun q v5 v12 v13 v14 v15 v16 v17 v18 v19 wr => ∃ j : Nat, v12 = .int .i64 j ∧ j ≤ xs.length ∧ q + j = xs.length ∧ Hid (Below w.heap.size w wr) ∧ Hid (Lib.IsBuilder 108 5 w.heap.size w.heap.size (Lib.byteCells ((ib xs.length).data.toList ++ tbs (xs.take j))) wr))
  case atStart => exact ⟨0, rfl, by omega, by omega, HB, HN⟩
  case round =>
    clear HN HB
    obtain ⟨j, rfl, hj, hq, HB, HN⟩ := hrel
    rcases Nat.eq_or_lt_of_le hj with hj | hj
    · have e2 : decide ((j : Int) < (xs.length : Int)) = false := by simp; omega
      subst hj
      go_wp2_with (first
        | (go_at_call 85
           go_must (refine (string_calls w.heap.size w.heap.size _ _ HN.out HB.out.size).mono ?_)
           rintro e w2 ⟨rfl, hB⟩
           have HB := Lib.hid (HB.out.trans hB)
           clear hB))
      go_ret
      exact ⟨by rw [HF.out]; rfl, HB.out⟩
    · have e2 : decide ((j : Int) < (xs.length : Int)) = true := by simp; omega
      have p1 := eq_true (show 0 ≤ (j : Int) by omega)
      have q1 := eq_true (show (j : Int) < (xs.length : Int) by omega)
      obtain ⟨ad, rfl, hx⟩ := Kd.at_string HR.out j (by omega) (by omega)
      have hx : wr.cell? (ad.add j) = some (.string (rdOf ByteArray.empty xs (j : Int))) := (HB.out.cell (World.block_lt_of_cell? w _ hx)).trans hx
      have hw : IntKind.i64.wrap ((j : Int) + 1) = ((j + 1 : Nat) : Int) := by rw [IntKind.wrap_i64]; omega
      have HT := Lib.hid (tbs_take xs j hj)
      have HS := Lib.hid (tbs_len xs j hj)
      go_wp2_with (first
        | (go_at_call 68
           go_must (refine (text_calls _ _ (by have := HS.out; have := HL.out; omega)).mono ?_)
           rintro e w2 ⟨rfl, hB⟩
           have HN := Lib.hid (builder_below HN.out hB)
           have HB := Lib.hid (below_then HB.out HB.out.size hB)
           clear hB)
        | (go_at_call 84
           go_must (refine (write_calls w.heap.size w.heap.size _ _ _ HN.out (by have := HS.out; have := HL.out; rw [List.length_append, Array.length_toList]; have e : (ib xs.length).data.size = (ib xs.length).size := rfl; omega) HB.out.size).mono ?_)
           rintro e w2 ⟨rfl, hI, hB⟩
           have HN := Lib.hid hI
           have HB := Lib.hid (HB.out.trans hB)
           clear hB hI))
      go_roundg (xs.length - (j + 1))
      case measure => omega
      case rel => exact ⟨j + 1, by simp, by omega, by omega, HB, by rw [HT.out, ← List.append_assoc]; exact HN⟩
def wire_List.f (l0 : List ByteArray) : Option ByteArray := if (lbL l0).length ≤ 140737488355328 then some (lb l0) else none
theorem wire_List.calls (A0 : Option Addr) (c0 : Nat) (l0 : List ByteArray) (r : ByteArray) (w : World) (hr0 : Kd.C Kd.string w A0 l0.length l0) (hc0 : l0.length ≤ c0) (h : wire_List.f l0 = some r) :
    Calls Tryd.prog 63 #[.slice A0 l0.length c0] w fun e w' => e = .returned (.string r) ∧ Below w.heap.size w w' := by
  unfold wire_List.f at h
  split at h
  · obtain rfl := Option.some.inj h
    exact list_calls A0 c0 l0 w hr0 hc0 (by assumption)
  · cases h
end Go.Proofs.YtndicjikjcifaaaDoor

/- tx.Encode: a transaction's bytes. -/
namespace Go.Proofs
open Go.Shelf
theorem Tryd.Builder_Extra_156 : Builder.Extra Tryd.prog Tryd.lays156_ren := {
  sizeBuilder := by kernel_rfl
  liesBuilder := by kernel_rfl
  t5 := Tryd.underlying5
  a5 := Tryd.isAgg5
  z5 := Tryd.sizeOf5
  v5 := Tryd.zeroValue5
  infoByte := by kernel_rfl
  cellsByte := by kernel_rfl
  sizeByte := by kernel_rfl
  neB5 := by decide }
end Go.Proofs
namespace Go.Proofs.YtndicjikjcifaaaDoor
open Go.RowKit Go.Shelf Go.Lib Go.Proofs.YtndicjikjcifaaaDoorW.PrintWords Go.Proofs.YtndicjikjcifaaaDoorW.PrintLast
set_option linter.unusedVariables false
set_option linter.unusedSimpArgs false
theorem join_calls (bk c : Nat) (xs : List ByteArray) (w : World) (hcells : ∀ (j : Nat) x, xs[j]? = some x → w.cell? ⟨bk, 0 + j, none⟩ = some (.string x))
    (hbk : bk < w.heap.size) (hN : xs.length ≤ 140737488355328) (hcap : xs.length ≤ c) (hlen : (Lib.join (xs.map (·.data.toList)) []).length ≤ 140737488355328) :
    Calls Tryd.prog 69 #[.slice (some ⟨bk, 0, none⟩) xs.length c, .string ⟨#[]⟩] w fun e w' => e = .returned (.string ⟨(Lib.join (xs.map (·.data.toList)) []).toArray⟩) ∧ Below w.heap.size w w' :=
  Any.strings_Join Tryd.lays156 Tryd.Builder_Extra_156 bk 0 c xs ⟨#[]⟩ w hcells hbk hN hcap hlen
theorem vints_len : ∀ k n, n < 128 ^ (k + 1) → (vints n).length ≤ k + 1
  | 0, n, h => by
    rw [vints, dif_pos (by omega)]
    simp
  | k + 1, n, h => by
    rw [vints]
    split
    · simp
    · have := vints_len k (n / 128) (by rw [Nat.pow_succ] at h; omega)
      simp only [List.length_cons]
      omega
theorem ib_size (n : Int) : (ib n).size ≤ 9 := by
  unfold ib
  split
  · exact Nat.zero_le _
  · have h1 := vints_len 8 n.toNat (by omega)
    have h2 : (strOfNums (vints n.toNat)).size = (vints n.toNat).length := by simp [strOfNums, ByteArray.size]
    omega
theorem tb_size (x : ByteArray) : (tb x).size ≤ 9 + x.size := by
  have := ib_size x.size
  have e : (tb x).size = (ib x.size).size + x.size := ByteArray.size_append
  omega
theorem tbs_size (M : Nat) : ∀ xs : List ByteArray, (∀ x ∈ xs, x.size ≤ M) → (tbs xs).length ≤ xs.length * (9 + M)
  | [], _ => Nat.zero_le _
  | x :: r, h => by
    have h1 := tbs_size M r (fun y hy => h y (by simp [hy]))
    have h2 := tb_size x
    have h3 := h x (by simp)
    have e : (tb x).data.toList.length = (tb x).size := by rw [Array.length_toList]; rfl
    rw [tbs, List.length_append, List.length_cons, Nat.succ_mul]
    omega
theorem lb_size (M : Nat) (xs : List ByteArray) (h : ∀ x ∈ xs, x.size ≤ M) : (lbL xs).length ≤ 9 + xs.length * (9 + M) := by
  have h1 := tbs_size M xs h
  have h2 := ib_size xs.length
  have e : (ib xs.length).data.toList.length = (ib xs.length).size := by rw [Array.length_toList]; rfl
  rw [lbL, List.length_append]
  omega
theorem nm_size {s : ByteArray} (h : nm s = true) : s.size ≤ 32 := by
  have := of_decide_eq_true h
  exact this.2.1
theorem ky_size {s : ByteArray} (h : ky s = true) : s.size ≤ 34 := by
  unfold ky at h
  rw [Bool.and_eq_true, Bool.and_eq_true] at h
  have h1 := nm_size h.2
  rw [ByteArray.size_extract] at h1
  omega
theorem join_nil : ∀ l : List (List UInt8), Lib.join l [] = l.flatten
  | [] => rfl
  | [a] => by simp [Lib.join, List.intercalate]
  | a :: b :: r => by
    have := join_nil (b :: r)
    simp [Lib.join, List.intercalate, List.intersperse] at this ⊢
    exact this
theorem keL_size : ∀ p xs, keL p xs = 0 → ∀ x ∈ xs, x.size ≤ 34
  | _, [], _, x, hx => by simp at hx
  | p, s :: r, h, x, hx => by
    unfold keL at h
    cases hk : ky s with
    | false => rw [if_pos hk] at h; cases h
    | true =>
      rw [if_neg (by simp [hk])] at h
      have h2 : keL (some s) r = 0 := by
        cases p with
        | none => simpa using h
        | some q =>
          cases hl : lts q s with
          | false => simp [hl] at h
          | true => simpa [hl] using h
      rcases List.mem_cons.1 hx with rfl | hx
      · exact ky_size hk
      · exact keL_size _ _ h2 x hx
theorem ke_zero {xs : List ByteArray} (h : ke xs = 0) : xs.length ≤ 8 ∧ ∀ x ∈ xs, x.size ≤ 34 := by
  unfold ke at h
  split at h
  · exact ⟨by assumption, keL_size _ _ h⟩
  · cases h
theorem empty_size {s : ByteArray} (h : s.toList.isEmpty = true) : s.size = 0 := by
  rw [Lib.toList_data, List.isEmpty_iff] at h
  have : s.data.toList.length = 0 := by rw [h]; rfl
  rw [Array.length_toList] at this
  exact this
structure Fine (k : Int) (f t : ByteArray) (am nc : Int) (ky' vl : ByteArray) (rs ws : List ByteArray) : Prop where
  k : k = 1 ∨ k = 2
  f : f.size ≤ 32
  t : t.size ≤ 32
  am : am ≤ 4611686018427387903
  nc : nc ≤ 4611686018427387903
  ky : ky'.size ≤ 32
  vl : vl.size ≤ 64
  rs : ke rs = 0
  ws : ke ws = 0
theorem ch_fine {k : Int} {f t : ByteArray} {am nc : Int} {ky' vl : ByteArray} {rs ws : List ByteArray} (h : ch k f t am nc ky' vl rs ws = 0) : Fine k f t am nc ky' vl rs ws := by
  have hF : chF k f t ky' vl am = 0 := by
    unfold ch at h
    split at h
    · assumption
    · exact absurd h (by assumption)
  have hR : chR am nc rs ws = 0 := by rw [ch, if_pos hF] at h; exact h
  have hk : (am ≤ 4611686018427387903 ∧ nc ≤ 4611686018427387903) ∧ ke rs = 0 ∧ ke ws = 0 := by
    unfold chR at hR
    split at hR
    · split at hR
      · exact ⟨by assumption, by assumption, hR⟩
      · exact absurd hR (by assumption)
    · cases hR
  unfold chF at hF
  split at hF
  · split at hF
    · rename_i h1 h2
      simp only [Bool.and_eq_true] at h2
      have e1 := empty_size h2.1.2
      have e2 := empty_size h2.2
      exact ⟨.inl h1, nm_size h2.1.1.1, nm_size h2.1.1.2, hk.1.1, hk.1.2, by omega, by omega, hk.2.1, hk.2.2⟩
    · cases hF
  · split at hF
    · split at hF
      · rename_i h1 h2 h3
        simp only [Bool.and_eq_true, decide_eq_true_eq] at h3
        have e1 := empty_size h3.1.2
        exact ⟨.inr h2, nm_size h3.1.1.1.1, by omega, hk.1.1, hk.1.2, nm_size h3.1.1.1.2, h3.1.1.2, hk.2.1, hk.2.2⟩
      · cases hF
    · cases hF
def encL (k : Int) (f t : ByteArray) (am nc : Int) (ky' vl : ByteArray) (rs ws : List ByteArray) : List ByteArray := [ib k, tb f, tb t, ib am, ib nc, tb ky', tb vl, lb rs, lb ws]
def encB (k : Int) (f t : ByteArray) (am nc : Int) (ky' vl : ByteArray) (rs ws : List ByteArray) : ByteArray := ⟨(Lib.join ((encL k f t am nc ky' vl rs ws).map (·.data.toList)) []).toArray⟩
def enc (k : Int) (f t : ByteArray) (am nc : Int) (ky' vl : ByteArray) (rs ws : List ByteArray) : ByteArray × Int :=
  if ch k f t am nc ky' vl rs ws = 0 then (encB k f t am nc ky' vl rs ws, 0) else (⟨#[]⟩, ch k f t am nc ky' vl rs ws)
def EP (r : ByteArray × Int) (w : World) (e : Ending) (w' : World) : Prop := e = .returned (.tuple #[.string r.1, .int .i64 r.2]) ∧ Below w.heap.size w w'
set_option maxHeartbeats 8000000 in
set_option maxRecDepth 100000 in
theorem enc_no (k : Int) (f t : ByteArray) (am nc : Int) (ky' vl : ByteArray) (A B : Option Addr) (c d : Nat) (rs ws : List ByteArray) (w : World) (x : Int) (hx : ch k f t am nc ky' vl rs ws = x) (h0 : x ≠ 0)
    (hr : Kd.C Kd.string w A rs.length rs) (hc : rs.length ≤ c) (hs : Kd.C Kd.string w B ws.length ws) (hd : ws.length ≤ d) :
    Calls Tryd.prog 39 #[.agg #[.int .i64 k, .string f, .string t, .int .u64 am, .int .u64 nc, .string ky', .string vl, .slice A rs.length c, .slice B ws.length d]] w
      fun e w' => EP (⟨#[]⟩, x) w e w' := by
  have HR := Lib.hid hr
  have HC := Lib.hid hc
  have HS := Lib.hid hs
  have HD := Lib.hid hd
  clear hr hc hs hd
  have hx2 : (x != 0) = true := by simpa using h0
  have hch := Lib.hid (fun W hw => chk_calls k f t am nc ky' vl A B c d rs ws W (Kd.C_below HR.out hw) HC.out (Kd.C_below HS.out hw) HD.out)
  rw [hx] at hch
  go_enter Tryd.func39, Tryd.ntmps39
  have HX := Lib.hid (Bq.first w #[.int .i64 k, .string f, .string t, .int .u64 am, .int .u64 nc, .string ky', .string vl, .slice A rs.length c, .slice B ws.length d])
  go_wp2_with (first
    | (go_at_call 41
       go_must (refine (hch.out _ HX.out.low).mono ?_)
       rintro e w2 ⟨rfl, hB⟩
       have HX := Lib.hid (HX.out.step hB)
       clear hB))
  go_ret2
  exact ⟨rfl, HX.out.low⟩
set_option maxHeartbeats 8000000 in
set_option maxRecDepth 100000 in
theorem enc_ok (k : Int) (f t : ByteArray) (am nc : Int) (ky' vl : ByteArray) (A B : Option Addr) (c d : Nat) (rs ws : List ByteArray) (w : World) (hx : ch k f t am nc ky' vl rs ws = 0)
    (hr : Kd.C Kd.string w A rs.length rs) (hc : rs.length ≤ c) (hs : Kd.C Kd.string w B ws.length ws) (hd : ws.length ≤ d) (ha : 0 ≤ am) (hn : 0 ≤ nc) :
    Calls Tryd.prog 39 #[.agg #[.int .i64 k, .string f, .string t, .int .u64 am, .int .u64 nc, .string ky', .string vl, .slice A rs.length c, .slice B ws.length d]] w
      fun e w' => EP (encB k f t am nc ky' vl rs ws, 0) w e w' := by
  have hf := ch_fine hx
  have HR := Lib.hid hr
  have HC := Lib.hid hc
  have HS := Lib.hid hs
  have HD := Lib.hid hd
  have hr1 := ke_zero hf.rs
  have hs1 := ke_zero hf.ws
  have L1 := lb_size 34 rs hr1.2
  have L2 := lb_size 34 ws hs1.2
  have S1 : (lb rs).size = (lbL rs).length := by simp [lb, ByteArray.size]
  have S2 : (lb ws).size = (lbL ws).length := by simp [lb, ByteArray.size]
  have L1 : (lbL rs).length ≤ 353 := by have := hr1.1; omega
  have L2 : (lbL ws).length ≤ 353 := by have := hs1.1; omega
  have T1 := tb_size f
  have T2 := tb_size t
  have T3 := tb_size ky'
  have T4 := tb_size vl
  have Q1 := hf.f
  have Q2 := hf.t
  have Q3 := hf.ky
  have Q4 := hf.vl
  have HT := Lib.hid (show (tb f).size ≤ 9223372036854775807 ∧ (tb t).size ≤ 9223372036854775807 ∧ (tb ky').size ≤ 9223372036854775807 ∧ (tb vl).size ≤ 9223372036854775807 from ⟨by omega, by omega, by omega, by omega⟩)
  have HL := Lib.hid (show (lbL rs).length ≤ 140737488355328 ∧ (lbL ws).length ≤ 140737488355328 from ⟨by omega, by omega⟩)
  have HJ := Lib.hid (show (Lib.join ((encL k f t am nc ky' vl rs ws).map (·.data.toList)) []).length ≤ 140737488355328 by
    have I1 := ib_size k
    have I2 := ib_size am
    have I3 := ib_size nc
    have e : ∀ s : ByteArray, s.data.toList.length = s.size := fun s => by rw [Array.length_toList]; rfl
    rw [join_nil]
    simp only [encL, List.map_cons, List.map_nil, List.flatten_cons, List.flatten_nil, List.length_append, e, List.length_nil]
    omega)
  have wa : IntKind.i64.wrap am = am := by have := hf.am; rw [IntKind.wrap_i64]; omega
  have wn : IntKind.i64.wrap nc = nc := by have := hf.nc; rw [IntKind.wrap_i64]; omega
  have hch := Lib.hid (fun W hw => chk_calls k f t am nc ky' vl A B c d rs ws W (Kd.C_below HR.out hw) HC.out (Kd.C_below HS.out hw) HD.out)
  rw [hx] at hch
  clear hr hc hs hd hx ha hn hf hr1 hs1 L1 L2 T1 T2 T3 T4 Q1 Q2 Q3 Q4 S1 S2
  go_enter Tryd.func39, Tryd.ntmps39
  have HX := Lib.hid (Bq.first w #[.int .i64 k, .string f, .string t, .int .u64 am, .int .u64 nc, .string ky', .string vl, .slice A rs.length c, .slice B ws.length d])
  go_wp2_with (first
    | (go_at_call 41
       go_must (refine (hch.out _ HX.out.low).mono ?_)
       rintro e w2 ⟨rfl, hB⟩
       have HX := Lib.hid (HX.out.step hB)
       clear hB))
  have hq : ∀ W, Bq w #[.int .i64 k, .string f, .string t, .int .u64 am, .int .u64 nc, .string ky', .string vl, .slice A rs.length c, .slice B ws.length d] W →
      Bq w #[.int .i64 k, .string f, .string t, .int .u64 am, .int .u64 nc, .string ky', .string vl, .slice A rs.length c, .slice B ws.length d] W ∧
      W.cell? ⟨w.heap.size, 0, none⟩ = some (.int .i64 k) ∧ W.cell? ⟨w.heap.size, 1, none⟩ = some (.string f) ∧ W.cell? ⟨w.heap.size, 2, none⟩ = some (.string t) ∧ W.cell? ⟨w.heap.size, 3, none⟩ = some (.int .u64 am) ∧ W.cell? ⟨w.heap.size, 4, none⟩ = some (.int .u64 nc) ∧ W.cell? ⟨w.heap.size, 5, none⟩ = some (.string ky') ∧ W.cell? ⟨w.heap.size, 6, none⟩ = some (.string vl) ∧ W.cell? ⟨w.heap.size, 7, none⟩ = some (.slice A rs.length c) ∧ W.cell? ⟨w.heap.size, 8, none⟩ = some (.slice B ws.length d) :=
    fun W h => ⟨h, blk_cell h.box 0, blk_cell h.box 1, blk_cell h.box 2, blk_cell h.box 3, blk_cell h.box 4, blk_cell h.box 5, blk_cell h.box 6, blk_cell h.box 7, blk_cell h.box 8⟩
  have hq0 := hq _ HX.out
  have hq := Lib.hid hq
  obtain ⟨B0, q0, q1, q2, q3, q4, q5, q6, q7, q8⟩ := hq0
  go_region_held3 (fun W => Bq w #[.int .i64 k, .string f, .string t, .int .u64 am, .int .u64 nc, .string ky', .string vl, .slice A rs.length c, .slice B ws.length d] W ∧
      W.cell? ⟨w.heap.size, 0, none⟩ = some (.int .i64 k) ∧ W.cell? ⟨w.heap.size, 1, none⟩ = some (.string f) ∧ W.cell? ⟨w.heap.size, 2, none⟩ = some (.string t) ∧ W.cell? ⟨w.heap.size, 3, none⟩ = some (.int .u64 am) ∧ W.cell? ⟨w.heap.size, 4, none⟩ = some (.int .u64 nc) ∧ W.cell? ⟨w.heap.size, 5, none⟩ = some (.string ky') ∧ W.cell? ⟨w.heap.size, 6, none⟩ = some (.string vl) ∧ W.cell? ⟨w.heap.size, 7, none⟩ = some (.slice A rs.length c) ∧ W.cell? ⟨w.heap.size, 8, none⟩ = some (.slice B ws.length d))
    (first
      | exact hq.out _ HX.out
      | exact hq.out _ (HX.out.step ((Below.refl _ _).drew))
      | exact hq.out _ (HX.out.step ((Below.refl _ _).alloc (Nat.le_refl _) _)))
    (first
      | (go_at_call 62; refine (int_calls _ _).mono ?_; rintro e w2 ⟨rfl, hB⟩; first | have HX := Lib.hid (HX.out.step hB) | have HX := Lib.hid ((HX.out.step ((Below.refl _ _).drew)).step hB))
      | (go_at_call 68; first | with_reducible refine (text_calls f _ HT.out.1).mono ?_ | with_reducible refine (text_calls t _ HT.out.2.1).mono ?_ | with_reducible refine (text_calls ky' _ HT.out.2.2.1).mono ?_ | with_reducible refine (text_calls vl _ HT.out.2.2.2).mono ?_
         rintro e w2 ⟨rfl, hB⟩; first | have HX := Lib.hid (HX.out.step hB) | have HX := Lib.hid ((HX.out.step ((Below.refl _ _).drew)).step hB))
      | (go_at_call 63; first | with_reducible refine Calls.mono (list_calls A c rs _ ?_ HC.out HL.out.1) ?_ | with_reducible refine Calls.mono (list_calls B d ws _ ?_ HD.out HL.out.2) ?_
         · first | exact Kd.C_below HR.out (Bq.low (And.left (by assumption))) | exact Kd.C_below HS.out (Bq.low (And.left (by assumption)))
         rintro e w2 ⟨rfl, hB⟩; first | have HX := Lib.hid (HX.out.step hB) | have HX := Lib.hid ((HX.out.step ((Below.refl _ _).drew)).step hB)))
  have hbl := blk_new w2 (.cells #[.string (ib k), .string (tb f), .string (tb t), .string (ib am), .string (ib nc), .string (tb ky'), .string (tb vl), .string (lb rs), .string (lb ws)] 9)
  have HA := Lib.hid ((Below.refl w2.heap.size w2).alloc (Nat.le_refl _) (.cells #[.string (ib k), .string (tb f), .string (tb t), .string (ib am), .string (ib nc), .string (tb ky'), .string (tb vl), .string (lb rs), .string (lb ws)] 9))
  have HX := Lib.hid (HX.out.step HA.out)
  generalize w2.alloc (.cells #[.string (ib k), .string (tb f), .string (tb t), .string (ib am), .string (ib nc), .string (tb ky'), .string (tb vl), .string (lb rs), .string (lb ws)] 9) = W at hbl HX ⊢
  have hcell := Lib.hid (show ∀ (j : Nat) x, (encL k f t am nc ky' vl rs ws)[j]? = some x → W.cell? ⟨w2.heap.size, 0 + j, none⟩ = some (.string x) by
    intro j x hx
    rw [Nat.zero_add]
    refine (blk_cell hbl j).trans ?_
    have e : (#[.string (ib k), .string (tb f), .string (tb t), .string (ib am), .string (ib nc), .string (tb ky'), .string (tb vl), .string (lb rs), .string (lb ws)] : Array Value) = ((encL k f t am nc ky' vl rs ws).map Value.string).toArray := rfl
    rw [e, List.getElem?_toArray, List.getElem?_map, hx]
    rfl)
  have hlt := Lib.hid (blk_lt hbl)
  clear hbl
  go_wp2_with (first
    | (go_at_call 69
       go_must (refine (join_calls w2.heap.size 9 (encL k f t am nc ky' vl rs ws) W hcell.out hlt.out (by simp [encL]) (by simp [encL]) HJ.out).mono ?_)
       rintro e w3 ⟨rfl, hB⟩
       have HX := Lib.hid (HX.out.step hB)
       clear hB))
  go_ret2
  exact ⟨rfl, HX.out.low⟩
theorem enc_calls (k : Int) (f t : ByteArray) (am nc : Int) (ky' vl : ByteArray) (A B : Option Addr) (c d : Nat) (rs ws : List ByteArray) (w : World)
    (hr : Kd.C Kd.string w A rs.length rs) (hc : rs.length ≤ c) (hs : Kd.C Kd.string w B ws.length ws) (hd : ws.length ≤ d) (ha : 0 ≤ am) (hn : 0 ≤ nc) :
    Calls Tryd.prog 39 #[.agg #[.int .i64 k, .string f, .string t, .int .u64 am, .int .u64 nc, .string ky', .string vl, .slice A rs.length c, .slice B ws.length d]] w
      fun e w' => EP (enc k f t am nc ky' vl rs ws) w e w' := by
  unfold enc
  split
  · exact enc_ok k f t am nc ky' vl A B c d rs ws w (by assumption) hr hc hs hd ha hn
  · exact enc_no k f t am nc ky' vl A B c d rs ws w _ rfl (by assumption) hr hc hs hd
end Go.Proofs.YtndicjikjcifaaaDoor

/- batch.Encode. -/
namespace Go.Proofs.YtndicjikjcifaaaDoor
open Go.RowKit Go.Proofs.YtndicjikjcifaaaDoorW.PrintWords Go.Proofs.YtndicjikjcifaaaDoorW.PrintLast
set_option linter.unusedVariables false
set_option linter.unusedSimpArgs false
set_option maxRecDepth 100000
open PB (S33 k33)
theorem k33_old {w : World} {A : Option Addr} {n : Nat} {l : List S33} (h : k33.C w A n l) : Foot (fun W => k33.C W A n l) w (fun k => k < w.heap.size) := fun W' hW => k33_heap.C (fun k hk => hW k hk hk) h
theorem St.addStr {w W : World} {S R : Nat → Prop} {M : List Asn} (H : St w S R M W) (b : ByteArray) : St w S R (M ++ [Asn.fk Kd.string (fun _ => False) b [.string b]]) W :=
  H.add _ (fun W' _ => rfl) (fun k hk => by rcases hk with hk | hk <;> exact hk.elim) (fun k hk => hk.elim) (fun k hk => hk.elim)
theorem St.oldAt {w W : World} {M : List Asn} (H : St w (fun _ => False) (fun _ => True) M W) (p : World → Prop) (hp : Foot p W (fun k => k < w.heap.size)) : St w (fun _ => False) (fun _ => True) (M ++ [Asn.ft p (fun k => k < w.heap.size)]) W :=
  H.old p (Foot.step hp (fun k hk _ => (H.low.block k hk (fun h => h)).symm)) (fun B hB k hk => ((H.has B hB).2.2.1 k hk).elim (fun q => q.elim) id)
theorem k33_parts2 {w : World} {t : S33} {A7 A8 : Option Addr} {c7 c8 : Nat} (h : k33.K w t (txc t A7 c7 A8 c8)) : t.f7.length ≤ c7 ∧ Kd.string.C w A7 t.f7.length t.f7 ∧ t.f8.length ≤ c8 ∧ Kd.string.C w A8 t.f8.length t.f8 := by
  obtain ⟨B7, d7, B8, d8, e, l7, g7, l8, g8⟩ := PB.k33_open h
  simp only [List.cons.injEq, Value.slice.injEq, true_and, and_true] at e
  obtain ⟨⟨rfl, rfl⟩, rfl, rfl⟩ := e
  exact ⟨l7, g7, l8, g8⟩
theorem add_add (q : Addr) (x y : Nat) : (q.add x).add y = q.add (x + y) := by
  rcases q with ⟨_, _, _ | _⟩ <;> by_cases hx : x = 0 <;> by_cases hy : y = 0 <;> simp [Addr.add, hx, hy, Nat.add_assoc]
theorem x_cat {P : Program} {a : Act} {W : World} {x y : Operand} {t yt ty : TypeId} {p q : ByteArray} (hx : a.eval x = .string p) (hy : a.eval y = .string q) (h : (p.size : Int) + q.size ≤ 9223372036854775807) : (ex a (.binOp .add t x y yt) ty).run P W = .ok (.value (.string (p ++ q))) W := by
  simp [ex, execOp, hx, hy, eqGuard, binOp, Op.stringOp, h]
def encT (t : S33) : ByteArray := (enc t.f0 t.f1 t.f2 t.f3 t.f4 t.f5 t.f6 t.f7 t.f8).1
def wI (a : Int) : ByteArray := (wire_Int.f a).getD ⟨#[]⟩
def bencB (a n : Int) (l : List S33) : ByteArray := wI a ++ wI n ++ lb (l.map encT)
def benc (a n : Int) (l : List S33) : ByteArray × Int := if bchk a n l = 0 then (bencB a n l, 0) else (⟨#[]⟩, bchk a n l)
set_option maxHeartbeats 1000000 in
theorem benc_calls (au n : Int) (A : Option Addr) (c : Nat) (l : List S33) (w : World) (hr : k33.C w A l.length l) (hc : l.length ≤ c) (hl : l.length < 4611686018427387904) (hp : ∀ t ∈ l, 0 ≤ t.f3 ∧ 0 ≤ t.f4) (hsz : bchk au n l = 0 → (lbL (l.map encT)).length ≤ 140737488355328) (h16 : bchk au n l = 0 → l.length ≤ 16) (hw : (wI au).size ≤ 100 ∧ (wI n).size ≤ 100) :
    Calls Tryd.prog 31 #[.agg #[.int .i64 au, .int .i64 n, .slice A l.length c]] w fun e w' => e = .returned (.tuple #[.string (benc au n l).1, .int .i64 (benc au n l).2]) ∧ Below w.heap.size w w' := by
  have H0 : St w (fun _ => False) (fun _ => True) [Asn.ft (fun W => k33.C W A l.length l) (fun k => k < w.heap.size)] w := (St.first w _ _).old _ (k33_old hr) (fun B hB => by cases hB)
  refine c_enter2 (args := [.agg #[.int .i64 au, .int .i64 n, .slice A l.length c]]) (S := (fun _ => False)) (R := (fun _ => True)) (M := [Asn.ft (fun W => k33.C W A l.length l) (fun k => k < w.heap.size)]) Tryd.func31 (by kernel_rfl) 42 Tryd.ntmps31 (Nat.le_of_ble_eq_true rfl) (H0) (fun a W F H => ?_)
  have F := F.less [(0, .agg #[.int .i64 au, .int .i64 n, .slice A l.length c])] (subc rfl sub0)
  refine c_seq (by kernel_rfl) ?_
  refine c_text (id := 0) (by kernel_rfl) [(0, 2), (1, 2), (2, 2)] (by kernel_rfl) ?_
  refine sq_new (o_s 1 (.box 40 (.tmp 0)) 0 (by kernel_rfl)) trivial F (by decide) H [.int .i64 au, .int .i64 n, .slice A l.length c] 40 (x_box (F.slot rfl) rfl) ?_
  intro g1 W a hg1 H F
  refine ⟨(fun _ => trivial), ?_⟩
  refine q2 (o_s 2 (.assign (.const (.string { data := #[] }))) 9 (by kernel_rfl)) F (by decide) (v := .string ⟨#[]⟩) (x_assign rfl) (fun a F => ?_)
  refine q2 (o_s 3 (.assign (.const (.int .i64 0))) 24 (by kernel_rfl)) F (by decide) (v := .int .i64 0) (x_assign rfl) (fun a F => ?_)
  unfold wpSeq
  have H : St w (fun _ => False) (fun _ => True) [Asn.ft (fun W => k33.C W A l.length l) (fun k => k < w.heap.size), Asn.blk g1 [.int .i64 au, .int .i64 n, .slice A l.length c] 40] W := H
  refine t_normal ?_
  refine c_seq (by kernel_rfl) ?_
  refine c_seq (by kernel_rfl) ?_
  refine c_text (id := 1) (by kernel_rfl) [(0, 2), (1, 2), (2, 2)] (by kernel_rfl) ?_
  refine q2 (o_s 10 (.load 40 (.tmp 1)) 40 (by kernel_rfl)) F (by decide) (v := .agg #[.int .i64 au, .int .i64 n, .slice A l.length c]) (x_loadB (Tryd.isAgg40 W) [.int .i64 au, .int .i64 n, .slice A l.length c] (Tryd.sizeOf40 W) (F.slot rfl) (H.blk 1 rfl)) (fun a F => ?_)
  obtain ⟨z, hz⟩ : ∃ z, bchk au n l = z := ⟨_, rfl⟩
  have HK := bchk_calls au n A c l W hl (H.rd 0 rfl) hc
  rw [hz] at HK
  refine sqc (o_s 11 (.call { callee := (.value (.func 33)), args := #[(.tmp 10)], argTypes := #[40] }) 24 (by kernel_rfl)) trivial F (by decide) (x_call Tryd.func33 (by kernel_rfl) rfl (args_1 (F.slot rfl))) (HK) ?_
  rintro e W ⟨rfl, hB⟩
  refine ⟨_, rfl, fun a F => ?_⟩
  have H := H.below hB
  refine ⟨(fun _ => trivial), ?_⟩
  refine q2 (o_s 4 (.assign (.tmp 11)) 24 (by kernel_rfl)) F (by decide) (v := .int .i64 z) (x_assign (F.slot rfl)) (fun a F => ?_)
  unfold wpSeq
  refine t_normal ?_
  refine c_seq (by kernel_rfl) ?_
  refine c_text (id := 2) (by kernel_rfl) [(0, 2), (1, 2)] (by kernel_rfl) ?_
  refine q2 (o_s 12 (.move (.tmp 4)) 24 (by kernel_rfl)) F (by decide) (x_move (F.slot rfl)) (fun a F => ?_)
  refine q2 (o_s 13 (.binOp .neq 24 (.tmp 12) (.const (.int .i64 0)) 24) 4 (by kernel_rfl)) F (by decide) (v := .bool (z != (0 : Int))) (x_int (F.slot rfl) rfl rfl) (fun a F => ?_)
  unfold wpSeq
  refine t_normal ?_
  rcases bool_or (z != (0 : Int)) with hb2 | hb2
  · have F := F.at 13 rfl (v' := .bool true) (congrArg Value.bool hb2)
    refine c_yes (c := .tmp 13) (by kernel_rfl) (F.slot rfl) ?_
    refine c_seq (by kernel_rfl) ?_
    refine c_text (id := 3) (by kernel_rfl) [(0, 2), (1, 2), (2, 2)] (by kernel_rfl) ?_
    refine q2 (o_s 14 (.move (.tmp 4)) 24 (by kernel_rfl)) F (by decide) (x_move (F.slot rfl)) (fun a F => ?_)
    refine q2 (o_s 2 (.assign (.const (.string { data := #[] }))) 9 (by kernel_rfl)) F (by decide) (v := .string ⟨#[]⟩) (x_assign rfl) (fun a F => ?_)
    refine q2 (o_s 3 (.assign (.tmp 14)) 24 (by kernel_rfl)) F (by decide) (v := .int .i64 z) (x_assign (F.slot rfl)) (fun a F => ?_)
    unfold wpSeq
    refine t_normal ?_
    refine c_ret (by kernel_rfl) ?_
    refine t_ret ?_
    refine p_list (rs := [.tmp 2, .tmp 3]) (vs := [.string ⟨#[]⟩, .int .i64 z]) Tryd.results31 (by simp) F (Vals.tmp' F rfl (Vals.tmp' F rfl .nil)) ?_
    have hx : z ≠ 0 := by simpa using hb2
    rw [show benc au n l = (⟨#[]⟩, z) from (if_neg (by rw [hz]; exact hx)).trans (by rw [hz])]
    exact ⟨rfl, H.ends⟩
  · have F := F.at 13 rfl (v' := .bool false) (congrArg Value.bool hb2)
    refine c_no (c := .tmp 13) (by kernel_rfl) (F.slot rfl) ?_
    refine c_skip (by kernel_rfl) ?_
    refine t_normal ?_
    refine c_seq (by kernel_rfl) ?_
    refine c_text (id := 4) (by kernel_rfl) [(0, 2)] (by kernel_rfl) ?_
    refine q2 (o_s 5 (.assign (.const (.slice none 0 0))) 31 (by kernel_rfl)) F (by decide) (v := .slice none 0 0) (x_assign rfl) (fun a F => ?_)
    unfold wpSeq
    refine t_normal ?_
    refine c_seq (by kernel_rfl) ?_
    refine c_seq (by kernel_rfl) ?_
    obtain rfl : z = 0 := by simpa using hb2
    have hsz := hsz hz
    have h16 := h16 hz
    have H := H.quNil Kd.string 9
    have H : St w (fun _ => False) (fun _ => True) [Asn.ft (fun W => k33.C W A l.length l) (fun k => k < w.heap.size), Asn.blk g1 [.int .i64 au, .int .i64 n, .slice A l.length c] 40, Asn.qu Kd.string 9 (.slice none 0 0) ([] : List ByteArray) (fun _ => False)] W := H
    refine c_text (id := 5) (by kernel_rfl) [(0, 2), (1, 2), (2, 2), (3, 2)] (by kernel_rfl) ?_
    refine q2 (o_s 15 (.fieldAddr 40 (.tmp 1) 2) 0 (by kernel_rfl)) F (by decide) (v := .pointer (some ⟨g1, 2, none⟩)) (x_field0 Tryd.underlying40 rfl rfl (Tryd.sizeOf38 W) (F.slot rfl)) (fun a F => ?_)
    refine q2 (o_s 16 (.load 38 (.tmp 15)) 38 (by kernel_rfl)) F (by decide) (v := .slice A l.length c) (x_load1 (Tryd.isAgg38 W) (F.slot rfl) (H.cell 1 rfl rfl)) (fun a F => ?_)
    refine q2 (o_s 17 (.call { callee := (.builtin .len), args := #[(.tmp 16)], argTypes := #[38] }) 3 (by kernel_rfl)) F (by decide) (v := .int .i64 (l.length : Int)) (x_lenL Tryd.underlying38 (F.slot rfl)) (fun a F => ?_)
    refine q2 (o_s 18 (.move (.const (.int .i64 0))) 3 (by kernel_rfl)) F (by decide) (v := .int .i64 0) (x_move rfl) (fun a F => ?_)
    unfold wpSeq
    refine t_normal ?_
    refine c_block (id := 0) (by kernel_rfl) ?_
    refine c_loop (by kernel_rfl) (fun k a W => ∃ (j : Nat) (B1 : Option Addr) (d1 : Nat) (ok2 : Nat → Prop), Fr 42 [(0, .agg #[.int .i64 au, .int .i64 n, .slice A l.length c]), (1, .pointer (some ⟨g1, 0, none⟩)), (2, .string ⟨#[]⟩), (3, .int .i64 0), (10, .agg #[.int .i64 au, .int .i64 n, .slice A l.length c]), (11, .int .i64 0), (4, .int .i64 0), (12, .int .i64 0), (13, .bool false), (15, .pointer (some ⟨g1, 2, none⟩)), (16, .slice A l.length c), (17, .int .i64 (l.length : Int)), (18, .int .i64 (j : Int)), (5, .slice B1 (((l.take j).map encT).length) d1)] a ∧ St w (fun _ => False) (fun _ => True) [Asn.ft (fun W => k33.C W A l.length l) (fun k => k < w.heap.size), Asn.blk g1 [.int .i64 au, .int .i64 n, .slice A l.length c] 40, Asn.qu Kd.string 9 (.slice B1 ((l.take j).map encT).length d1) ((l.take j).map encT) ok2] W ∧ (j ≤ l.length) ∧ (k + j = l.length)) l.length ⟨0, none, 0, (fun _ => False), F.less _ (subc rfl (subc rfl (subc rfl (subc rfl (subc rfl (subc rfl (subc rfl (subc rfl (subc rfl (subc rfl (subc rfl (subc rfl (subc rfl (subc rfl sub0)))))))))))))), H, (Nat.zero_le _), rfl⟩ ?_
    rintro k a W ⟨j, B1, d1, ok2, F, H, hj, hkj⟩
    refine c_seq (by kernel_rfl) ?_
    refine c_text (id := 6) (by kernel_rfl) [(0, 2)] (by kernel_rfl) ?_
    refine q2 (o_s 19 (.binOp .lss 3 (.tmp 18) (.tmp 17) 3) 0 (by kernel_rfl)) F (by decide) (v := .bool (decide ((j : Int) < (l.length : Int)))) (x_int (F.slot rfl) (F.slot rfl) rfl) (fun a F => ?_)
    unfold wpSeq
    have H : St w (fun _ => False) (fun _ => True) [Asn.ft (fun W => k33.C W A l.length l) (fun k => k < w.heap.size), Asn.blk g1 [.int .i64 au, .int .i64 n, .slice A l.length c] 40, Asn.qu Kd.string 9 (.slice B1 ((l.take j).map encT).length d1) ((l.take j).map encT) ok2] W := H
    refine t_normal ?_
    refine c_seq (by kernel_rfl) ?_
    rcases bool_or (decide ((j : Int) < (l.length : Int))) with hb3 | hb3
    · have hb3d := of_decide_eq_true hb3
      have F := F.at 19 rfl (v' := .bool true) (congrArg Value.bool hb3)
      refine c_yes (c := .tmp 19) (by kernel_rfl) (F.slot rfl) ?_
      refine c_skip (by kernel_rfl) ?_
      refine t_normal ?_
      refine c_seq (by kernel_rfl) ?_
      refine c_block (id := 1) (by kernel_rfl) ?_
      refine c_seq (by kernel_rfl) ?_
      refine c_text (id := 7) (by kernel_rfl) [(0, 2), (1, 2), (2, 2), (3, 2)] (by kernel_rfl) ?_
      obtain ⟨ad, cs, hA, hcl, hFK, hcc, -⟩ := Kd.F_get (H.get 0 rfl) PB.z33 (j : Int) (by omega) (by omega)
      have hd := drop_rd l j (by omega)
      have htm : PB.rd_T33 l (j : Int) ∈ l := List.mem_of_mem_drop (i := j) (by rw [hd]; exact List.mem_cons_self)
      have htk : l.take (j + 1) = l.take j ++ [PB.rd_T33 l (j : Int)] := by
        have := List.take_append_drop j l
        rw [List.take_add_one]
        congr 1
        have h2 : l[j]? = (l.drop j)[0]? := by rw [List.getElem?_drop]; simp
        rw [h2, hd]; rfl
      obtain ⟨t, ht⟩ : ∃ t, PB.rd_T33 l (j : Int) = t := ⟨_, rfl⟩
      rw [show l.getD (j : Int).toNat PB.z33 = t from ht] at hFK
      rw [ht] at htm htk
      obtain ⟨A7, c7, A8, c8, rfl, l7, g7, l8, g8⟩ := PB.k33_open (Foot.now hFK)
      have H := H.oldAt _ hFK
      have H : St w (fun _ => False) (fun _ => True) [Asn.ft (fun W => k33.C W A l.length l) (fun k => k < w.heap.size), Asn.blk g1 [.int .i64 au, .int .i64 n, .slice A l.length c] 40, Asn.qu Kd.string 9 (.slice B1 ((l.take j).map encT).length d1) ((l.take j).map encT) ok2, Asn.ft (fun W => k33.K W t (txc t A7 c7 A8 c8)) (fun k => k < w.heap.size)] W := H
      have hnx : (l.take (j + 1)).map encT = (l.take j).map encT ++ [encT t] := by rw [htk, List.map_append]; rfl
      have F := F.at 16 rfl (v' := .slice (some ad) l.length c) (by rw [hA])
      have hcs : ∀ i v, (txc t A7 c7 A8 c8)[i]? = some v → W.cell? ((ad.add (j * 9)).add i) = some v := by
        intro i v hi
        rw [add_add]
        exact hcc i v hi
      refine q2 (o_s 20 (.indexAddr 38 (.tmp 16) (.tmp 18)) 0 (by kernel_rfl)) F (by decide) (v := .pointer (some (ad.add (j * 9)))) (x_indexSl (n := l.length) (c := c) (ad := ad) (i := (j : Int)) Tryd.underlying38 (Tryd.sizeOf33 W) (F.slot rfl) (F.slot rfl) (by omega) (by omega)) (fun a F => ?_)
      refine q2 (o_s 21 (.load 33 (.tmp 20)) 33 (by kernel_rfl)) F (by decide) (v := .agg (txc t A7 c7 A8 c8).toArray) (x_loadN (Tryd.isAgg33 W) (txc t A7 c7 A8 c8) (Tryd.sizeOf33 W) (F.slot rfl) hcs) (fun a F => ?_)
      refine sq_new (o_s 7 (.alloc 33) 0 (by kernel_rfl)) trivial F (by decide) H [.int .i64 0, .string ⟨#[]⟩, .string ⟨#[]⟩, .int .u64 0, .int .u64 0, .string ⟨#[]⟩, .string ⟨#[]⟩, .slice none 0 0, .slice none 0 0] 33 (x_alloc Tryd.zeroValue33 rfl) ?_
      intro g4 W a hg4 H F
      refine ⟨(fun _ => trivial), ?_⟩
      refine sq_put (M := [Asn.ft (fun W => k33.C W A l.length l) (fun k => k < w.heap.size), Asn.blk g1 [.int .i64 au, .int .i64 n, .slice A l.length c] 40, Asn.qu Kd.string 9 (.slice B1 ((l.take j).map encT).length d1) ((l.take j).map encT) ok2, Asn.ft (fun W => k33.K W t (txc t A7 c7 A8 c8)) (fun k => k < w.heap.size), Asn.blk g4 (txc t A7 c7 A8 c8) 33]) (o_n (.store 33 (.tmp 7) (.tmp 21)) 0 (by kernel_rfl)) trivial F (x_store H (k := 4) (cs' := (txc t A7 c7 A8 c8)) rfl (Tryd.sizeOf33 W) (F.slot rfl) (F.slot rfl) rfl (Nat.le_of_ble_eq_true rfl) rfl rfl) ?_
      intro W H
      refine ⟨(fun _ => trivial), ?_⟩
      unfold wpSeq
      refine t_normal ?_
      refine c_seq (by kernel_rfl) ?_
      refine c_text (id := 8) (by kernel_rfl) [(0, 2), (1, 2), (2, 2), (3, 2), (4, 2), (5, 2), (6, 2)] (by kernel_rfl) ?_
      refine q2 (o_s 23 (.load 33 (.tmp 7)) 33 (by kernel_rfl)) F (by decide) (v := .agg (txc t A7 c7 A8 c8).toArray) (x_loadB (Tryd.isAgg33 W) (txc t A7 c7 A8 c8) (Tryd.sizeOf33 W) (F.slot rfl) (H.blk 4 rfl)) (fun a F => ?_)
      obtain ⟨l7, g7, l8, g8⟩ := k33_parts2 (H.rd 3 rfl)
      obtain ⟨b, x, he⟩ : ∃ b x, enc t.f0 t.f1 t.f2 t.f3 t.f4 t.f5 t.f6 t.f7 t.f8 = (b, x) := ⟨_, _, rfl⟩
      have hb : encT t = b := by unfold encT; rw [he]
      have HK := enc_calls t.f0 t.f1 t.f2 t.f3 t.f4 t.f5 t.f6 A7 A8 c7 c8 t.f7 t.f8 W g7 l7 g8 l8 (hp t htm).1 (hp t htm).2
      rw [he] at HK
      rw [hb] at hnx
      refine sqc (o_s 24 (.call { callee := (.value (.func 39)), args := #[(.tmp 23)], argTypes := #[33] }) 55 (by kernel_rfl)) trivial F (by decide) (x_call Tryd.func39 (by kernel_rfl) rfl (args_1 (F.slot rfl))) (HK) ?_
      rintro e W ⟨rfl, hB⟩
      refine ⟨_, rfl, fun a F => ?_⟩
      have H := H.below hB
      refine ⟨(fun _ => trivial), ?_⟩
      refine q2 (o_s 22 (.move (.tmp 24)) 55 (by kernel_rfl)) F (by decide) (x_move (F.slot rfl)) (fun a F => ?_)
      refine q2 (o_s 25 (.extract (.tmp 22) 0) 9 (by kernel_rfl)) F (by decide) (v := .string b) (x_extract (F.slot rfl) rfl) (fun a F => ?_)
      refine q2 (o_s 26 (.extract (.tmp 22) 1) 24 (by kernel_rfl)) F (by decide) (v := .int .i64 x) (x_extract (F.slot rfl) rfl) (fun a F => ?_)
      refine q2 (o_s 8 (.assign (.tmp 25)) 9 (by kernel_rfl)) F (by decide) (v := .string b) (x_assign (F.slot rfl)) (fun a F => ?_)
      refine q2 (o_s 9 (.assign (.tmp 26)) 24 (by kernel_rfl)) F (by decide) (v := .int .i64 x) (x_assign (F.slot rfl)) (fun a F => ?_)
      unfold wpSeq
      refine t_normal ?_
      have H := H.addStr b
      have H : St w (fun _ => False) (fun _ => True) [Asn.ft (fun W => k33.C W A l.length l) (fun k => k < w.heap.size), Asn.blk g1 [.int .i64 au, .int .i64 n, .slice A l.length c] 40, Asn.qu Kd.string 9 (.slice B1 ((l.take j).map encT).length d1) ((l.take j).map encT) ok2, Asn.ft (fun W => k33.K W t (txc t A7 c7 A8 c8)) (fun k => k < w.heap.size), Asn.blk g4 (txc t A7 c7 A8 c8) 33, Asn.fk Kd.string (fun _ => False) b [.string b]] W := H
      refine c_text (id := 9) (by kernel_rfl) [(0, 2), (1, 2), (2, 2), (3, 2), (4, 2)] (by kernel_rfl) ?_
      refine q2 (o_s 27 (.move (.tmp 5)) 31 (by kernel_rfl)) F (by decide) (x_move (F.slot rfl)) (fun a F => ?_)
      refine q2 (o_s 28 (.move (.tmp 8)) 9 (by kernel_rfl)) F (by decide) (x_move (F.slot rfl)) (fun a F => ?_)
      refine sq_bapp Kd.string 2 5 (by decide) (o_s 29 (.buildSlice 31 1 #[(0, (.tmp 28))]) 31 (by kernel_rfl)) trivial (o_s 30 (.call { callee := (.builtin .append), args := #[(.tmp 27), (.tmp 29)], argTypes := #[31, 31] }) 31 (by kernel_rfl)) (fun _ => trivial) F (by decide) (by decide) rfl (fun a F => F.slot rfl) (F.slot rfl) rfl Tryd.underlying31 PB.info9 rfl (by decide) (by decide) (by decide) H rfl rfl (by rw [List.length_map, List.length_take]; omega) (fun W H => (fun _ => trivial)) ?_
      intro v_ W a H F
      obtain ⟨A2, c2, rfl, hc2⟩ := (H.qu 2 rfl).form
      have H : St w (fun _ => False) (fun _ => True) [Asn.ft (fun W => k33.C W A l.length l) (fun k => k < w.heap.size), Asn.blk g1 [.int .i64 au, .int .i64 n, .slice A l.length c] 40, Asn.qu Kd.string 9 (.slice A2 (((l.take j).map encT ++ [b]).length) c2) ((l.take j).map encT ++ [b]) _, Asn.ft (fun W => k33.K W t (txc t A7 c7 A8 c8)) (fun k => k < w.heap.size), Asn.blk g4 (txc t A7 c7 A8 c8) 33, Asn.fk Kd.string (fun _ => False) b [.string b]] W := H
      refine ⟨(fun _ => trivial), ?_⟩
      refine q2 (o_s 5 (.assign (.tmp 30)) 31 (by kernel_rfl)) F (by decide) (v := .slice A2 (((l.take j).map encT ++ [b]).length) c2) (x_assign (F.slot rfl)) (fun a F => ?_)
      unfold wpSeq
      refine b_normal ?_
      refine t_normal ?_
      refine c_text (id := 10) (by kernel_rfl) [(0, 2), (1, 2)] (by kernel_rfl) ?_
      refine q2 (o_s 31 (.binOp .add 3 (.tmp 18) (.const (.int .i64 1)) 3) 3 (by kernel_rfl)) F (by decide) (v := .int .i64 (IntKind.i64.wrap ((j : Int) + 1))) (x_int (F.slot rfl) rfl rfl) (fun a F => ?_)
      refine q2 (o_s 18 (.move (.tmp 31)) 3 (by kernel_rfl)) F (by decide) (x_move (F.slot rfl)) (fun a F => ?_)
      unfold wpSeq
      refine t_normal ?_
      have F_ := F
      have H := H.front 3
      have F := F.at 18 rfl (v' := .int .i64 ((j + 1 : Nat) : Int)) (congrArg (Value.int .i64) ((wrap_i64 _ (by omega) (by omega)).trans (by omega)))
      have F := F.at 16 rfl (v' := .slice A l.length c) (by rw [hA])
      rw [← hnx] at H
      have F := F.at 5 rfl (v' := .slice A2 ((l.take (j + 1)).map encT).length c2) (by rw [hnx])
      exact ⟨k - 1, by omega, j + 1, _, _, _, F.less _ (subc rfl (subc rfl (subc rfl (subc rfl (subc rfl (subc rfl (subc rfl (subc rfl (subc rfl (subc rfl (subc rfl (subc rfl (subc rfl (subc rfl sub0)))))))))))))), H, (by omega), (by omega)⟩
    · have hb3d := of_decide_eq_false hb3
      have F := F.at 19 rfl (v' := .bool false) (congrArg Value.bool hb3)
      refine c_no (c := .tmp 19) (by kernel_rfl) (F.slot rfl) ?_
      refine c_exit (id := 0) (by kernel_rfl) ?_
      refine t_exit ?_
      refine t_exit ?_
      refine b_here ?_
      refine t_normal ?_
      refine c_seq (by kernel_rfl) ?_
      obtain rfl : j = l.length := by omega
      rw [List.take_length] at H F
      have H : St w (fun _ => False) (fun _ => True) [Asn.ft (fun W => k33.C W A l.length l) (fun k => k < w.heap.size), Asn.blk g1 [.int .i64 au, .int .i64 n, .slice A l.length c] 40, Asn.qu Kd.string 9 (.slice B1 (l.map encT).length d1) (l.map encT) ok2] W := H
      refine c_drawn (id := 11) (by kernel_rfl) (by kernel_rfl) (Vs [Asn.blk g1 [.int .i64 au, .int .i64 n, .slice A l.length c] 40]) [0, 1, 3, 0, 8, 31, 63, 0, 191, 511, 1023, 2047] [] [(0, 0), (3, 0), (7, 0), (1, 1), (4, 1), (2, 2), (5, 2), (6, 0), (8, 2), (9, 0), (10, 0), (11, 0)] (by kernel_rfl) (fun _ _ d _ _ h => by cases d <;> exact h) (Vs.drew ⟨H.get 1 rfl, trivial⟩) ?_
      have H := H.drew
      generalize World.drew W = W at H ⊢
      refine q0 (o_s 32 (.fieldAddr 40 (.tmp 1) 0) 0 (by kernel_rfl)) F (by decide) (v := .pointer (some ⟨g1, 0, none⟩)) (fun W_ => x_field0 Tryd.underlying40 rfl rfl (Tryd.sizeOf3 W_) (F.slot rfl)) (fun a F => ?_)
      refine q0 (o_s 35 (.fieldAddr 40 (.tmp 1) 1) 0 (by kernel_rfl)) F (by decide) (v := .pointer (some ⟨g1, 1, none⟩)) (fun W_ => x_field0 Tryd.underlying40 rfl rfl (Tryd.sizeOf3 W_) (F.slot rfl)) (fun a F => ?_)
      refine q0 (o_s 39 (.move (.tmp 5)) 31 (by kernel_rfl)) F (by decide) (fun W_ => x_move (F.slot rfl)) (fun a F => ?_)
      refine q1 (o_s 33 (.load 3 (.tmp 32)) 3 (by kernel_rfl)) F (by decide) (⟨H.get 1 rfl, trivial⟩) (v := .int .i64 au) (fun W_ hV => x_load1 (Tryd.isAgg3 W_) (F.slot rfl) (bcell hV.1 rfl)) (fun a F => ?_)
      refine q1 (o_s 36 (.load 3 (.tmp 35)) 3 (by kernel_rfl)) F (by decide) (⟨H.get 1 rfl, trivial⟩) (v := .int .i64 n) (fun W_ hV => x_load1 (Tryd.isAgg3 W_) (F.slot rfl) (bcell hV.1 rfl)) (fun a F => ?_)
      refine sqc (o_s 34 (.call { callee := (.value (.func 62)), args := #[(.tmp 33)], argTypes := #[2] }) 9 (by kernel_rfl)) trivial F (by decide) (x_call Tryd.func62 (by kernel_rfl) rfl (args_1 (F.slot rfl))) (wire_Int.calls au (wI au) W rfl) ?_
      rintro e W ⟨rfl, hB⟩
      refine ⟨_, rfl, fun a F => ?_⟩
      have H := H.below hB
      refine ⟨(fun _ => ⟨H.get 1 rfl, trivial⟩), ?_⟩
      refine sqc (o_s 37 (.call { callee := (.value (.func 62)), args := #[(.tmp 36)], argTypes := #[2] }) 9 (by kernel_rfl)) trivial F (by decide) (x_call Tryd.func62 (by kernel_rfl) rfl (args_1 (F.slot rfl))) (wire_Int.calls n (wI n) W rfl) ?_
      rintro e W ⟨rfl, hB⟩
      refine ⟨_, rfl, fun a F => ?_⟩
      have H := H.below hB
      refine ⟨(fun _ => ⟨H.get 1 rfl, trivial⟩), ?_⟩
      refine q0 (o_s 38 (.binOp .add 9 (.tmp 34) (.tmp 37) 9) 9 (by kernel_rfl)) F (by decide) (v := .string ((wI au) ++ (wI n))) (fun W_ => x_cat (F.slot rfl) (F.slot rfl) (by have := hw; have : (lb (l.map encT)).size = (lbL (l.map encT)).length := rfl; (try simp only [ByteArray.size_append]); omega)) (fun a F => ?_)
      refine sqc (o_s 40 (.call { callee := (.value (.func 63)), args := #[(.tmp 39)], argTypes := #[31] }) 9 (by kernel_rfl)) trivial F (by decide) (x_call Tryd.func63 (by kernel_rfl) rfl (args_1 (F.slot rfl))) (wire_List.calls B1 d1 (l.map encT) (lb (l.map encT)) W (H.qu 2 rfl).read.2.2 (H.qu 2 rfl).read.2.1 (if_pos hsz)) ?_
      rintro e W ⟨rfl, hB⟩
      refine ⟨_, rfl, fun a F => ?_⟩
      have H := H.below hB
      refine ⟨(fun _ => ⟨H.get 1 rfl, trivial⟩), ?_⟩
      refine q0 (o_s 41 (.binOp .add 9 (.tmp 38) (.tmp 40) 9) 9 (by kernel_rfl)) F (by decide) (v := .string (((wI au) ++ (wI n)) ++ (lb (l.map encT)))) (fun W_ => x_cat (F.slot rfl) (F.slot rfl) (by have := hw; have : (lb (l.map encT)).size = (lbL (l.map encT)).length := rfl; (try simp only [ByteArray.size_append]); omega)) (fun a F => ?_)
      refine q0 (o_s 2 (.assign (.tmp 41)) 9 (by kernel_rfl)) F (by decide) (v := .string (((wI au) ++ (wI n)) ++ (lb (l.map encT)))) (fun W_ => x_assign (F.slot rfl)) (fun a F => ?_)
      refine q0 (o_s 3 (.assign (.const (.int .i64 0))) 24 (by kernel_rfl)) F (by decide) (v := .int .i64 0) (fun W_ => x_assign rfl) (fun a F => ?_)
      unfold wpSeq
      refine t_normal ?_
      refine c_ret (by kernel_rfl) ?_
      refine p_list (rs := [.tmp 2, .tmp 3]) (vs := [.string (((wI au) ++ (wI n)) ++ (lb (l.map encT))), .int .i64 0]) Tryd.results31 (by simp) F (Vals.tmp' F rfl (Vals.tmp' F rfl .nil)) ?_
      rw [show benc au n l = (bencB au n l, 0) from if_pos hz]
      exact ⟨rfl, H.ends⟩
end Go.Proofs.YtndicjikjcifaaaDoor

/- A batch that the check lets pass: what follows for its parts. Plain lemmas. -/
namespace Go.Proofs.YtndicjikjcifaaaDoor
open Go.RowKit Go.Shelf Go.Lib Go.Proofs.YtndicjikjcifaaaDoorW.PrintWords Go.Proofs.YtndicjikjcifaaaDoorW.PrintLast
open PB (S33 k33)
set_option linter.unusedVariables false
set_option linter.unusedSimpArgs false
theorem bchL_ok : ∀ l : List S33, bchL l = 0 → ∀ t ∈ l, chT t = 0
  | [], _, t, ht => by cases ht
  | x :: r, h, t, ht => by
    rw [bchL] at h
    by_cases hx : chT x = 0
    · rw [if_pos hx] at h
      rcases List.mem_cons.1 ht with rfl | ht
      · exact hx
      · exact bchL_ok r h t ht
    · rw [if_neg hx] at h
      exact absurd h hx
theorem bchk_ok {a n : Int} {l : List S33} (h : bchk a n l = 0) : 0 ≤ a ∧ a ≤ 6 ∧ 1 ≤ n ∧ n ≤ 4611686018427387903 ∧ l.length ≠ 0 ∧ l.length ≤ 16 ∧ ∀ t ∈ l, chT t = 0 := by
  unfold bchk at h
  by_cases h1 : a < 0 ∨ 6 < a ∨ n < 1 ∨ 4611686018427387903 < n
  · rw [if_pos h1] at h; exact absurd h (by decide)
  rw [if_neg h1] at h
  by_cases h2 : l.length = 0
  · rw [if_pos h2] at h; exact absurd h (by decide)
  rw [if_neg h2] at h
  by_cases h3 : 16 < l.length
  · rw [if_pos h3] at h; exact absurd h (by decide)
  rw [if_neg h3] at h
  exact ⟨by omega, by omega, by omega, by omega, h2, by omega, bchL_ok l h⟩
theorem wI_size (a : Int) : (wI a).size ≤ 100 := by
  unfold wI wire_Int.f
  rw [Option.getD_some]
  split
  · exact Nat.zero_le _
  · rename_i h
    have e9 : (128 : Nat) ^ (8 + 1) = 9223372036854775808 := by decide
    have h1 := vints_len 8 a.toNat (by rw [e9]; omega)
    have e : (strOfNums (vints a.toNat)).size = (vints a.toNat).length := by simp [strOfNums, ByteArray.size]
    omega
theorem encB_size {k : Int} {f t : ByteArray} {am nc : Int} {ky' vl : ByteArray} {rs ws : List ByteArray} (h : Fine k f t am nc ky' vl rs ws) : (encB k f t am nc ky' vl rs ws).size ≤ 1000 := by
  have h1 := ib_size k
  have h2 := tb_size f
  have h3 := tb_size t
  have h4 := ib_size am
  have h5 := ib_size nc
  have h6 := tb_size ky'
  have h7 := tb_size vl
  obtain ⟨r1, r2⟩ := ke_zero h.rs
  obtain ⟨w1, w2⟩ := ke_zero h.ws
  have h8 := lb_size 34 rs r2
  have h9 := lb_size 34 ws w2
  have a2 := h.f
  have a3 := h.t
  have a6 := h.ky
  have a7 := h.vl
  have e8 : (lb rs).data.toList.length = (lbL rs).length := by simp [lb]
  have e9 : (lb ws).data.toList.length = (lbL ws).length := by simp [lb]
  have e0 : ∀ x : ByteArray, x.data.toList.length = x.size := fun x => by rw [Array.length_toList]; rfl
  unfold encB
  show (Lib.join _ _).toArray.size ≤ 1000
  rw [e0] at e8 e9
  simp only [encL, List.map_cons, List.map_nil, Lib.join, List.size_toArray, List.intercalate, List.intersperse, List.flatten_cons, List.flatten_nil, List.length_append, List.append_assoc, List.nil_append, List.length_nil, List.append_nil, e0]
  omega
theorem batch_size {a n : Int} {l : List S33} (h : bchk a n l = 0) : (lbL (l.map encT)).length ≤ 20000 := by
  obtain ⟨_, _, _, _, _, h16, hc⟩ := bchk_ok h
  have hx : ∀ x ∈ l.map encT, x.size ≤ 1000 := by
    intro x hx
    obtain ⟨t, ht, rfl⟩ := List.mem_map.1 hx
    have h0 : ch t.f0 t.f1 t.f2 t.f3 t.f4 t.f5 t.f6 t.f7 t.f8 = 0 := hc t ht
    unfold encT enc
    rw [if_pos h0]
    exact encB_size (ch_fine h0)
  have := lb_size 1000 _ hx
  rw [List.length_map] at this
  have h2 : l.length * (9 + 1000) ≤ 16 * (9 + 1000) := Nat.mul_le_mul_right _ h16
  omega
theorem benc_calls' (au n : Int) (A : Option Addr) (c : Nat) (l : List S33) (w : World) (hr : k33.C w A l.length l) (hc : l.length ≤ c) (hl : l.length < 4611686018427387904) (hp : ∀ t ∈ l, 0 ≤ t.f3 ∧ 0 ≤ t.f4) :
    Calls Tryd.prog 31 #[.agg #[.int .i64 au, .int .i64 n, .slice A l.length c]] w fun e w' => e = .returned (.tuple #[.string (benc au n l).1, .int .i64 (benc au n l).2]) ∧ Below w.heap.size w w' :=
  benc_calls au n A c l w hr hc hl hp (fun h => Nat.le_trans (batch_size h) (by decide)) (fun h => (bchk_ok h).2.2.2.2.2.1) ⟨wI_size au, wI_size n⟩
theorem benc_size (a n : Int) (l : List S33) : (benc a n l).1.size ≤ 30000 := by
  unfold benc
  by_cases h : bchk a n l = 0
  · rw [if_pos h]
    have h1 := wI_size a
    have h2 := wI_size n
    have h3 := batch_size h
    have h4 : (lb (l.map encT)).size = (lbL (l.map encT)).length := rfl
    show (wI a ++ wI n ++ lb (l.map encT)).size ≤ 30000
    simp only [ByteArray.size_append]
    omega
  · rw [if_neg h]; exact Nat.zero_le _
end Go.Proofs.YtndicjikjcifaaaDoor

/- The program's sealer: Add. -/
namespace Go.Proofs.YtndicjikjcifaaaDoor
open Go.RowKit Go.Proofs.YtndicjikjcifaaaDoorW.PrintWords Go.Proofs.YtndicjikjcifaaaDoorW.PrintLast
set_option linter.unusedVariables false
set_option linter.unusedSimpArgs false
set_option maxRecDepth 100000
open PB (S33 k33)
def AddP (T : TypeId) (z : Int) (g : Nat) (a0 s0 t0 k0 n0 : Int) (A : Option Addr) (c : Nat) (xs : List S33) (ok : Nat → Prop) (t : S33) (w : World) (Sf Rf : Nat → Prop) (M : List Asn) (e : Ending) (W : World) : Prop :=
  (z ≠ 0 ∧ e = .returned (.int .i64 z) ∧ St w Sf Rf (Asn.blk g [.int .i64 a0, .int .i64 s0, .int .i64 t0, .slice A xs.length c, .int .i64 k0, .int .i64 n0] T :: Asn.qu k33 33 (.slice A xs.length c) xs ok :: M) W) ∨
  (z = 0 ∧ (xs.length : Int) ≥ 4 * s0 ∧ e = .returned (.int .i64 4) ∧ St w Sf Rf (Asn.blk g [.int .i64 a0, .int .i64 s0, .int .i64 t0, .slice A xs.length c, .int .i64 k0, .int .i64 n0] T :: Asn.qu k33 33 (.slice A xs.length c) xs ok :: M) W) ∨
  (z = 0 ∧ ¬ (xs.length : Int) ≥ 4 * s0 ∧ e = .returned (.int .i64 0) ∧ ∃ A' c' ok', St w Sf Rf (Asn.blk g [.int .i64 a0, .int .i64 s0, .int .i64 t0, .slice A' (xs ++ [t]).length c', .int .i64 k0, .int .i64 n0] T :: Asn.qu k33 33 (.slice A' (xs ++ [t]).length c') (xs ++ [t]) ok' :: M) W)
set_option maxHeartbeats 1000000 in
theorem add_calls (g : Nat) (a0 s0 t0 k0 n0 : Int) (A : Option Addr) (c : Nat) (xs : List S33) (ok ok2 : Nat → Prop) (t : S33) (A7 A8 : Option Addr) (c7 c8 : Nat) (w : World) {Sf Rf : Nat → Prop} (hs0 : 1 ≤ s0) (hs1 : s0 ≤ 16)
    (H : St w Sf Rf [Asn.blk g [.int .i64 a0, .int .i64 s0, .int .i64 t0, .slice A xs.length c, .int .i64 k0, .int .i64 n0] 72, Asn.qu k33 33 (.slice A xs.length c) xs ok, Asn.fk k33 ok2 t (txc t A7 c7 A8 c8)] w) : Calls Tryd.prog 18 #[.pointer (some ⟨g, 0, none⟩), .agg (txc t A7 c7 A8 c8).toArray] w (AddP 72 (chT t) g a0 s0 t0 k0 n0 A c xs ok t w Sf Rf [Asn.fk k33 ok2 t (txc t A7 c7 A8 c8)]) := by
  refine c_enter2 (args := [.pointer (some ⟨g, 0, none⟩), .agg (txc t A7 c7 A8 c8).toArray]) (S := Sf) (R := Rf) (M := [Asn.blk g [.int .i64 a0, .int .i64 s0, .int .i64 t0, .slice A xs.length c, .int .i64 k0, .int .i64 n0] 72, Asn.qu k33 33 (.slice A xs.length c) xs ok, Asn.fk k33 ok2 t (txc t A7 c7 A8 c8)]) Tryd.func18 (by kernel_rfl) 42 Tryd.ntmps18 (Nat.le_of_ble_eq_true rfl) (H) (fun a W F H => ?_)
  have F := F.less [(0, .pointer (some ⟨g, 0, none⟩)), (1, .agg (txc t A7 c7 A8 c8).toArray)] (subc rfl (subc rfl sub0))
  refine c_seq (by kernel_rfl) ?_
  refine c_text (id := 0) (by kernel_rfl) [(0, 2), (1, 2)] (by kernel_rfl) ?_
  refine sq_new (o_s 3 (.box 33 (.tmp 1)) 0 (by kernel_rfl)) trivial F (by decide) H (txc t A7 c7 A8 c8) 33 (x_box (F.slot rfl) rfl) ?_
  intro g1 W a hg1 H F
  refine ⟨(fun _ => trivial), ?_⟩
  refine q2 (o_s 4 (.assign (.const (.int .i64 0))) 24 (by kernel_rfl)) F (by decide) (v := .int .i64 0) (x_assign rfl) (fun a F => ?_)
  unfold wpSeq
  have H : St w Sf Rf [Asn.blk g [.int .i64 a0, .int .i64 s0, .int .i64 t0, .slice A xs.length c, .int .i64 k0, .int .i64 n0] 72, Asn.qu k33 33 (.slice A xs.length c) xs ok, Asn.fk k33 ok2 t (txc t A7 c7 A8 c8), Asn.blk g1 (txc t A7 c7 A8 c8) 33] W := H
  refine t_normal ?_
  refine c_seq (by kernel_rfl) ?_
  refine c_seq (by kernel_rfl) ?_
  refine c_text (id := 1) (by kernel_rfl) [(0, 2), (1, 2), (2, 2)] (by kernel_rfl) ?_
  refine q2 (o_s 6 (.load 33 (.tmp 3)) 33 (by kernel_rfl)) F (by decide) (v := .agg (txc t A7 c7 A8 c8).toArray) (x_loadB (Tryd.isAgg33 W) (txc t A7 c7 A8 c8) (Tryd.sizeOf33 W) (F.slot rfl) (H.blk 3 rfl)) (fun a F => ?_)
  obtain ⟨l7, g7, l8, g8⟩ := k33_parts (H.rd 2 rfl)
  obtain ⟨z, hz⟩ : ∃ z, chT t = z := ⟨_, rfl⟩
  refine sqc (o_s 7 (.call { callee := (.value (.func 41)), args := #[(.tmp 6)], argTypes := #[33] }) 24 (by kernel_rfl)) trivial F (by decide) (x_call Tryd.func41 (by kernel_rfl) rfl (args_1 (F.slot rfl))) (tx_Check.calls t.f0 t.f1 t.f2 t.f3 t.f4 t.f5 t.f6 A7 c7 t.f7 A8 c8 t.f8 z W g7 l7 g8 l8 (congrArg some hz)) ?_
  rintro e W ⟨rfl, hB⟩
  refine ⟨_, rfl, fun a F => ?_⟩
  have H := H.below hB
  refine ⟨(fun _ => trivial), ?_⟩
  refine q2 (o_s 5 (.assign (.tmp 7)) 24 (by kernel_rfl)) F (by decide) (v := .int .i64 z) (x_assign (F.slot rfl)) (fun a F => ?_)
  unfold wpSeq
  refine t_normal ?_
  refine c_seq (by kernel_rfl) ?_
  refine c_text (id := 2) (by kernel_rfl) [(0, 2), (1, 2)] (by kernel_rfl) ?_
  refine q2 (o_s 8 (.move (.tmp 5)) 24 (by kernel_rfl)) F (by decide) (x_move (F.slot rfl)) (fun a F => ?_)
  refine q2 (o_s 9 (.binOp .neq 24 (.tmp 8) (.const (.int .i64 0)) 24) 4 (by kernel_rfl)) F (by decide) (v := .bool (z != (0 : Int))) (x_int (F.slot rfl) rfl rfl) (fun a F => ?_)
  unfold wpSeq
  refine t_normal ?_
  rcases bool_or (z != (0 : Int)) with hb2 | hb2
  · have F := F.at 9 rfl (v' := .bool true) (congrArg Value.bool hb2)
    refine c_yes (c := .tmp 9) (by kernel_rfl) (F.slot rfl) ?_
    refine c_seq (by kernel_rfl) ?_
    refine c_text (id := 3) (by kernel_rfl) [(0, 2), (1, 2)] (by kernel_rfl) ?_
    refine q2 (o_s 10 (.move (.tmp 5)) 24 (by kernel_rfl)) F (by decide) (x_move (F.slot rfl)) (fun a F => ?_)
    refine q2 (o_s 4 (.assign (.tmp 10)) 24 (by kernel_rfl)) F (by decide) (v := .int .i64 z) (x_assign (F.slot rfl)) (fun a F => ?_)
    unfold wpSeq
    refine t_normal ?_
    refine c_ret (by kernel_rfl) ?_
    refine t_ret ?_
    refine p_tmp Tryd.results18 F rfl ?_
    exact .inl ⟨by rw [hz]; simpa using hb2, by rw [hz], H.front 3⟩
  · have F := F.at 9 rfl (v' := .bool false) (congrArg Value.bool hb2)
    refine c_no (c := .tmp 9) (by kernel_rfl) (F.slot rfl) ?_
    refine c_skip (by kernel_rfl) ?_
    refine t_normal ?_
    refine c_seq (by kernel_rfl) ?_
    refine c_seq (by kernel_rfl) ?_
    refine c_drawn (id := 4) (by kernel_rfl) (by kernel_rfl) (Vs [Asn.blk g [.int .i64 a0, .int .i64 s0, .int .i64 t0, .slice A xs.length c, .int .i64 k0, .int .i64 n0] 72]) [0, 1, 3, 7, 15, 0, 32, 96, 224, 480, 1023] [] [(0, 0), (1, 0), (2, 0), (5, 0), (6, 0), (7, 0), (3, 1), (4, 0), (8, 1), (9, 0), (10, 0)] (by kernel_rfl) (fun _ _ d _ _ h => by cases d <;> exact h) (Vs.drew ⟨H.get 0 rfl, trivial⟩) ?_
    have H := H.drew
    generalize World.drew W = W at H ⊢
    refine q0 (o_s 11 (.move (.tmp 0)) 23 (by kernel_rfl)) F (by decide) (fun W_ => x_move (F.slot rfl)) (fun a F => ?_)
    refine q0 (o_s 12 (.nilCheck (.tmp 11)) 0 (by kernel_rfl)) F (by decide) (v := .pointer (some ⟨g, 0, none⟩)) (fun W_ => x_nil (F.slot rfl)) (fun a F => ?_)
    refine q0 (o_s 13 (.fieldAddr 72 (.tmp 12) 3) 0 (by kernel_rfl)) F (by decide) (v := .pointer (some ⟨g, 3, none⟩)) (fun W_ => x_field0 Tryd.underlying72 rfl rfl (Tryd.sizeOf38 W_) (F.slot rfl)) (fun a F => ?_)
    refine q0 (o_s 16 (.move (.tmp 0)) 23 (by kernel_rfl)) F (by decide) (fun W_ => x_move (F.slot rfl)) (fun a F => ?_)
    refine q0 (o_s 17 (.nilCheck (.tmp 16)) 0 (by kernel_rfl)) F (by decide) (v := .pointer (some ⟨g, 0, none⟩)) (fun W_ => x_nil (F.slot rfl)) (fun a F => ?_)
    refine q0 (o_s 18 (.fieldAddr 72 (.tmp 17) 1) 0 (by kernel_rfl)) F (by decide) (v := .pointer (some ⟨g, 1, none⟩)) (fun W_ => x_field0 Tryd.underlying72 rfl rfl (Tryd.sizeOf3 W_) (F.slot rfl)) (fun a F => ?_)
    refine q1 (o_s 14 (.load 38 (.tmp 13)) 38 (by kernel_rfl)) F (by decide) (⟨H.get 0 rfl, trivial⟩) (v := .slice A xs.length c) (fun W_ hV => x_load1 (Tryd.isAgg38 W_) (F.slot rfl) (bcell hV.1 rfl)) (fun a F => ?_)
    refine q0 (o_s 15 (.call { callee := (.builtin .len), args := #[(.tmp 14)], argTypes := #[38] }) 3 (by kernel_rfl)) F (by decide) (v := .int .i64 (xs.length : Int)) (fun W_ => x_lenL Tryd.underlying38 (F.slot rfl)) (fun a F => ?_)
    refine q1 (o_s 19 (.load 3 (.tmp 18)) 3 (by kernel_rfl)) F (by decide) (⟨H.get 0 rfl, trivial⟩) (v := .int .i64 s0) (fun W_ hV => x_load1 (Tryd.isAgg3 W_) (F.slot rfl) (bcell hV.1 rfl)) (fun a F => ?_)
    refine q0 (o_s 20 (.binOp .mul 3 (.const (.int .i64 4)) (.tmp 19) 3) 3 (by kernel_rfl)) F (by decide) (v := .int .i64 (IntKind.i64.wrap (4 * s0))) (fun W_ => x_int rfl (F.slot rfl) rfl) (fun a F => ?_)
    have F := F.conv (v' := .int .i64 (4 * s0)) (congrArg (Value.int .i64) (wrap_i64 _ (by omega) (by omega)))
    refine q0 (o_s 21 (.binOp .geq 3 (.tmp 15) (.tmp 20) 3) 4 (by kernel_rfl)) F (by decide) (v := .bool (decide ((xs.length : Int) ≥ (4 * s0)))) (fun W_ => x_int (F.slot rfl) (F.slot rfl) rfl) (fun a F => ?_)
    unfold wpSeq
    refine t_normal ?_
    rcases bool_or (decide ((xs.length : Int) ≥ (4 * s0))) with hb4 | hb4
    · have hb4d := of_decide_eq_true hb4
      have F := F.at 21 rfl (v' := .bool true) (congrArg Value.bool hb4)
      refine c_yes (c := .tmp 21) (by kernel_rfl) (F.slot rfl) ?_
      refine c_seq (by kernel_rfl) ?_
      refine c_text (id := 5) (by kernel_rfl) [(0, 2)] (by kernel_rfl) ?_
      refine q2 (o_s 4 (.assign (.const (.int .i64 4))) 24 (by kernel_rfl)) F (by decide) (v := .int .i64 4) (x_assign rfl) (fun a F => ?_)
      unfold wpSeq
      refine t_normal ?_
      refine c_ret (by kernel_rfl) ?_
      refine t_ret ?_
      refine p_tmp Tryd.results18 F rfl ?_
      exact .inr (.inl ⟨by rw [hz]; simpa using hb2, by omega, rfl, H.front 3⟩)
    · have hb4d := of_decide_eq_false hb4
      have F := F.at 21 rfl (v' := .bool false) (congrArg Value.bool hb4)
      refine c_no (c := .tmp 21) (by kernel_rfl) (F.slot rfl) ?_
      refine c_skip (by kernel_rfl) ?_
      refine t_normal ?_
      refine c_cut (by kernel_rfl) (fun a W => ∃ (A6_3 : Option Addr) (c6_3 : Nat) (A6_7 : Option Addr) (c6_7 : Nat), Fr 42 [(0, .pointer (some ⟨g, 0, none⟩)), (1, .agg (txc t A7 c7 A8 c8).toArray), (3, .pointer (some ⟨g1, 0, none⟩)), (4, .int .i64 0), (6, .agg (txc t A7 c7 A8 c8).toArray), (7, .int .i64 z), (5, .int .i64 z), (8, .int .i64 z), (9, .bool false), (11, .pointer (some ⟨g, 0, none⟩)), (12, .pointer (some ⟨g, 0, none⟩)), (13, .pointer (some ⟨g, 3, none⟩)), (16, .pointer (some ⟨g, 0, none⟩)), (17, .pointer (some ⟨g, 0, none⟩)), (18, .pointer (some ⟨g, 1, none⟩)), (14, .slice A xs.length c), (15, .int .i64 (xs.length : Int)), (19, .int .i64 s0), (20, .int .i64 (4 * s0)), (21, .bool false)] a ∧ St w Sf Rf [Asn.blk g [.int .i64 a0, .int .i64 s0, .int .i64 t0, .slice A xs.length c, .int .i64 k0, .int .i64 n0] 72, Asn.qu k33 33 (.slice A xs.length c) xs ok, Asn.fk k33 ok2 t (txc t A7 c7 A8 c8), Asn.blk g1 [.int .i64 t.f0, .string t.f1, .string t.f2, .int .u64 t.f3, .int .u64 t.f4, .string t.f5, .string t.f6, .slice A6_3 ((t.f7).length) c6_3, .slice A6_7 ((t.f8).length) c6_7] 33, Asn.rd Kd.string ok2 A7 t.f7.length t.f7, Asn.rd Kd.string ok2 A8 t.f8.length t.f8, Asn.qu Kd.string 9 (.slice A6_3 ((t.f7).length) c6_3) t.f7 (fun _ => False), Asn.qu Kd.string 9 (.slice A6_7 ((t.f8).length) c6_7) t.f8 (fun _ => False)] W ∧ ((t.f7).length ≤ c6_3) ∧ ((t.f8).length ≤ c6_7)) ?_ ?_
      · have hF := ch_fine (show chT t = 0 from hz.trans (by simpa using hb2))
        have hr7 := (ke_zero hF.rs).1
        have hr8 := (ke_zero hF.ws).1
        have H := H.addF1 2 rfl (fun _ h => h) (fun W => Kd.string.C W A7 t.f7.length t.f7) ok2 (fun _ h => h) (Foot.imp (H.get 2 rfl) (fun W' h => (k33_parts h).2.1))
        have H := H.addF1 2 rfl (fun _ h => h) (fun W => Kd.string.C W A8 t.f8.length t.f8) ok2 (fun _ h => h) (Foot.imp (H.get 2 rfl) (fun W' h => (k33_parts h).2.2.2))
        have H : St w Sf Rf [Asn.blk g [.int .i64 a0, .int .i64 s0, .int .i64 t0, .slice A xs.length c, .int .i64 k0, .int .i64 n0] 72, Asn.qu k33 33 (.slice A xs.length c) xs ok, Asn.fk k33 ok2 t (txc t A7 c7 A8 c8), Asn.blk g1 (txc t A7 c7 A8 c8) 33, Asn.rd Kd.string ok2 A7 t.f7.length t.f7, Asn.rd Kd.string ok2 A8 t.f8.length t.f8] W := H
        refine c_drawnT (id := 6) (by kernel_rfl) (by kernel_rfl) (Vs [Asn.blk g1 (txc t A7 c7 A8 c8) 33]) [0, 0, 2, 7, 0, 0, 32, 127, 111, 511, 1023, 2047] [9, 11] (.two [(1, 0), (5, 0), (2, 1), (6, 1)] 0 (.two [] 3 (.line [(8, 0), (4, 2), (7, 2), (9, 2), (10, 0), (11, 2)]) 4 (.line [(3, 2), (8, 0), (7, 2), (9, 2), (10, 0), (11, 2)])) 4 (.line [(0, 2), (3, 2), (8, 0), (7, 2), (9, 2), (10, 0), (11, 2)])) (by kernel_rfl) (fun _ _ d _ _ h => by cases d <;> exact h) (Vs.drew ⟨H.get 3 rfl, trivial⟩) ?_
        have H := H.drew
        generalize World.drew W = W at H ⊢
        refine t_two ?_
        refine q0 (o_s 23 (.fieldAddr 33 (.tmp 3) 7) 0 (by kernel_rfl)) F (by decide) (v := .pointer (some ⟨g1, 7, none⟩)) (fun W_ => x_field0 Tryd.underlying33 rfl rfl (Tryd.sizeOf31 W_) (F.slot rfl)) (fun a F => ?_)
        refine q0 (o_s 27 (.fieldAddr 33 (.tmp 3) 8) 0 (by kernel_rfl)) F (by decide) (v := .pointer (some ⟨g1, 8, none⟩)) (fun W_ => x_field0 Tryd.underlying33 rfl rfl (Tryd.sizeOf31 W_) (F.slot rfl)) (fun a F => ?_)
        refine q1 (o_s 24 (.load 31 (.tmp 23)) 31 (by kernel_rfl)) F (by decide) (⟨H.get 3 rfl, trivial⟩) (v := .slice A7 t.f7.length c7) (fun W_ hV => x_load1 (Tryd.isAgg31 W_) (F.slot rfl) (bcell hV.1 rfl)) (fun a F => ?_)
        refine q1 (o_s 28 (.load 31 (.tmp 27)) 31 (by kernel_rfl)) F (by decide) (⟨H.get 3 rfl, trivial⟩) (v := .slice A8 t.f8.length c8) (fun W_ hV => x_load1 (Tryd.isAgg31 W_) (F.slot rfl) (bcell hV.1 rfl)) (fun a F => ?_)
        refine sq_nil ?_
        refine f_two ?_ ?_
        · refine sq_lit0 Kd.string (o_s 22 (.buildSlice 31 0 #[]) 31 (by kernel_rfl)) trivial F (by decide) Tryd.underlying31 (show (Tryd.prog.info? 9).map (fun i => (i.zero, i.size, i.bytes)) = some (some (.string ⟨#[]⟩), 1, 16) by kernel_rfl) H ?_
          intro A6_0 W a H F
          refine ⟨(fun _ => ⟨H.get 3 rfl, trivial⟩), ?_⟩
          refine sq_nil ?_
          refine t_normal ?_
          refine t_two ?_
          refine sq_nil ?_
          refine f_two ?_ ?_
          · refine sq_rapp Kd.string 6 4 (by decide) (o_s 25 (.call { callee := (.builtin .append), args := #[(.tmp 22), (.tmp 24)], argTypes := #[31, 31] }) 31 (by kernel_rfl)) trivial F (by decide) (F.slot rfl) (F.slot rfl) (rfl) Tryd.underlying31 (show (Tryd.prog.info? 9).map (fun i => (i.zero, i.size, i.bytes)) = some (some (.string ⟨#[]⟩), 1, 16) by kernel_rfl) rfl (by decide) (by decide) H rfl rfl (by simp only [List.length_nil]; omega) ?_
            intro v_ W a H F
            rw [List.nil_append] at H
            have H := H.quFlat 6 string_flat rfl
            obtain ⟨A6_3, c6_3, rfl, hc6_3⟩ := (H.qu 6 rfl).form
            have H : St w Sf Rf [Asn.blk g [.int .i64 a0, .int .i64 s0, .int .i64 t0, .slice A xs.length c, .int .i64 k0, .int .i64 n0] 72, Asn.qu k33 33 (.slice A xs.length c) xs ok, Asn.fk k33 ok2 t (txc t A7 c7 A8 c8), Asn.blk g1 (txc t A7 c7 A8 c8) 33, Asn.rd Kd.string ok2 A7 t.f7.length t.f7, Asn.rd Kd.string ok2 A8 t.f8.length t.f8, Asn.qu Kd.string 9 (.slice A6_3 ((t.f7).length) c6_3) t.f7 (fun _ => False)] W := H
            refine ⟨(fun _ => ⟨H.get 3 rfl, trivial⟩), ?_⟩
            refine sq_nil ?_
            refine t_normal ?_
            refine t_line ?_
            refine q0 (o_s 30 (.fieldAddr 33 (.tmp 3) 7) 0 (by kernel_rfl)) F (by decide) (v := .pointer (some ⟨g1, 7, none⟩)) (fun W_ => x_field0 Tryd.underlying33 rfl rfl (Tryd.sizeOf31 W_) (F.slot rfl)) (fun a F => ?_)
            refine sq_lit0 Kd.string (o_s 26 (.buildSlice 31 0 #[]) 31 (by kernel_rfl)) trivial F (by decide) Tryd.underlying31 (show (Tryd.prog.info? 9).map (fun i => (i.zero, i.size, i.bytes)) = some (some (.string ⟨#[]⟩), 1, 16) by kernel_rfl) H ?_
            intro A6_4 W a H F
            refine ⟨(fun _ => ⟨H.get 3 rfl, trivial⟩), ?_⟩
            refine sq_rapp Kd.string 7 5 (by decide) (o_s 29 (.call { callee := (.builtin .append), args := #[(.tmp 26), (.tmp 28)], argTypes := #[31, 31] }) 31 (by kernel_rfl)) trivial F (by decide) (F.slot rfl) (F.slot rfl) (rfl) Tryd.underlying31 (show (Tryd.prog.info? 9).map (fun i => (i.zero, i.size, i.bytes)) = some (some (.string ⟨#[]⟩), 1, 16) by kernel_rfl) rfl (by decide) (by decide) H rfl rfl (by simp only [List.length_nil]; omega) ?_
            intro v_ W a H F
            rw [List.nil_append] at H
            have H := H.quFlat 7 string_flat rfl
            obtain ⟨A6_7, c6_7, rfl, hc6_7⟩ := (H.qu 7 rfl).form
            have H : St w Sf Rf [Asn.blk g [.int .i64 a0, .int .i64 s0, .int .i64 t0, .slice A xs.length c, .int .i64 k0, .int .i64 n0] 72, Asn.qu k33 33 (.slice A xs.length c) xs ok, Asn.fk k33 ok2 t (txc t A7 c7 A8 c8), Asn.blk g1 (txc t A7 c7 A8 c8) 33, Asn.rd Kd.string ok2 A7 t.f7.length t.f7, Asn.rd Kd.string ok2 A8 t.f8.length t.f8, Asn.qu Kd.string 9 (.slice A6_3 ((t.f7).length) c6_3) t.f7 (fun _ => False), Asn.qu Kd.string 9 (.slice A6_7 ((t.f8).length) c6_7) t.f8 (fun _ => False)] W := H
            refine ⟨(fun _ => ⟨H.get 3 rfl, trivial⟩), ?_⟩
            refine sq_put (M := [Asn.blk g [.int .i64 a0, .int .i64 s0, .int .i64 t0, .slice A xs.length c, .int .i64 k0, .int .i64 n0] 72, Asn.qu k33 33 (.slice A xs.length c) xs ok, Asn.fk k33 ok2 t (txc t A7 c7 A8 c8), Asn.blk g1 [.int .i64 t.f0, .string t.f1, .string t.f2, .int .u64 t.f3, .int .u64 t.f4, .string t.f5, .string t.f6, .slice A6_3 ((t.f7).length) c6_3, .slice A8 t.f8.length c8] 33, Asn.rd Kd.string ok2 A7 t.f7.length t.f7, Asn.rd Kd.string ok2 A8 t.f8.length t.f8, Asn.qu Kd.string 9 (.slice A6_3 ((t.f7).length) c6_3) t.f7 (fun _ => False), Asn.qu Kd.string 9 (.slice A6_7 ((t.f8).length) c6_7) t.f8 (fun _ => False)]) (o_n (.store 31 (.tmp 30) (.tmp 25)) 0 (by kernel_rfl)) trivial F (x_store H (k := 3) (cs' := [.int .i64 t.f0, .string t.f1, .string t.f2, .int .u64 t.f3, .int .u64 t.f4, .string t.f5, .string t.f6, .slice A6_3 ((t.f7).length) c6_3, .slice A8 t.f8.length c8]) rfl (Tryd.sizeOf31 W) (F.slot rfl) (F.slot rfl) rfl (Nat.le_of_ble_eq_true rfl) rfl rfl) ?_
            intro W H
            refine ⟨(fun h => absurd (by decide) h), ?_⟩
            refine q0 (o_s 31 (.fieldAddr 33 (.tmp 3) 8) 0 (by kernel_rfl)) F (by decide) (v := .pointer (some ⟨g1, 8, none⟩)) (fun W_ => x_field0 Tryd.underlying33 rfl rfl (Tryd.sizeOf31 W_) (F.slot rfl)) (fun a F => ?_)
            refine sq_put (M := [Asn.blk g [.int .i64 a0, .int .i64 s0, .int .i64 t0, .slice A xs.length c, .int .i64 k0, .int .i64 n0] 72, Asn.qu k33 33 (.slice A xs.length c) xs ok, Asn.fk k33 ok2 t (txc t A7 c7 A8 c8), Asn.blk g1 [.int .i64 t.f0, .string t.f1, .string t.f2, .int .u64 t.f3, .int .u64 t.f4, .string t.f5, .string t.f6, .slice A6_3 ((t.f7).length) c6_3, .slice A6_7 ((t.f8).length) c6_7] 33, Asn.rd Kd.string ok2 A7 t.f7.length t.f7, Asn.rd Kd.string ok2 A8 t.f8.length t.f8, Asn.qu Kd.string 9 (.slice A6_3 ((t.f7).length) c6_3) t.f7 (fun _ => False), Asn.qu Kd.string 9 (.slice A6_7 ((t.f8).length) c6_7) t.f8 (fun _ => False)]) (o_n (.store 31 (.tmp 31) (.tmp 29)) 0 (by kernel_rfl)) trivial F (x_store H (k := 3) (cs' := [.int .i64 t.f0, .string t.f1, .string t.f2, .int .u64 t.f3, .int .u64 t.f4, .string t.f5, .string t.f6, .slice A6_3 ((t.f7).length) c6_3, .slice A6_7 ((t.f8).length) c6_7]) rfl (Tryd.sizeOf31 W) (F.slot rfl) (F.slot rfl) rfl (Nat.le_of_ble_eq_true rfl) rfl rfl) ?_
            intro W H
            refine ⟨(fun h => absurd (by decide) h), ?_⟩
            refine sq_nil ?_
            refine t_normal ?_
            exact ⟨A6_3, c6_3, A6_7, c6_7, F.less _ (subc rfl (subc rfl (subc rfl (subc rfl (subc rfl (subc rfl (subc rfl (subc rfl (subc rfl (subc rfl (subc rfl (subc rfl (subc rfl (subc rfl (subc rfl (subc rfl (subc rfl (subc rfl (subc rfl (subc rfl sub0)))))))))))))))))))), H, hc6_3, hc6_7⟩
          · refine sq_lit0 Kd.string (o_s 26 (.buildSlice 31 0 #[]) 31 (by kernel_rfl)) trivial F (by decide) Tryd.underlying31 (show (Tryd.prog.info? 9).map (fun i => (i.zero, i.size, i.bytes)) = some (some (.string ⟨#[]⟩), 1, 16) by kernel_rfl) H ?_
            intro A6_4 W a H F
            refine ⟨(fun _ => ⟨H.get 3 rfl, trivial⟩), ?_⟩
            refine sq_nil ?_
            refine t_normal ?_
            refine t_line ?_
            refine sq_rapp Kd.string 6 4 (by decide) (o_s 25 (.call { callee := (.builtin .append), args := #[(.tmp 22), (.tmp 24)], argTypes := #[31, 31] }) 31 (by kernel_rfl)) trivial F (by decide) (F.slot rfl) (F.slot rfl) (rfl) Tryd.underlying31 (show (Tryd.prog.info? 9).map (fun i => (i.zero, i.size, i.bytes)) = some (some (.string ⟨#[]⟩), 1, 16) by kernel_rfl) rfl (by decide) (by decide) H rfl rfl (by simp only [List.length_nil]; omega) ?_
            intro v_ W a H F
            rw [List.nil_append] at H
            have H := H.quFlat 6 string_flat rfl
            obtain ⟨A6_3, c6_3, rfl, hc6_3⟩ := (H.qu 6 rfl).form
            have H : St w Sf Rf [Asn.blk g [.int .i64 a0, .int .i64 s0, .int .i64 t0, .slice A xs.length c, .int .i64 k0, .int .i64 n0] 72, Asn.qu k33 33 (.slice A xs.length c) xs ok, Asn.fk k33 ok2 t (txc t A7 c7 A8 c8), Asn.blk g1 (txc t A7 c7 A8 c8) 33, Asn.rd Kd.string ok2 A7 t.f7.length t.f7, Asn.rd Kd.string ok2 A8 t.f8.length t.f8, Asn.qu Kd.string 9 (.slice A6_3 ((t.f7).length) c6_3) t.f7 (fun _ => False), Asn.qu Kd.string 9 (.slice A6_4 0 0) [] (fun _ => False)] W := H
            refine ⟨(fun _ => ⟨H.get 3 rfl, trivial⟩), ?_⟩
            refine q0 (o_s 30 (.fieldAddr 33 (.tmp 3) 7) 0 (by kernel_rfl)) F (by decide) (v := .pointer (some ⟨g1, 7, none⟩)) (fun W_ => x_field0 Tryd.underlying33 rfl rfl (Tryd.sizeOf31 W_) (F.slot rfl)) (fun a F => ?_)
            refine sq_rapp Kd.string 7 5 (by decide) (o_s 29 (.call { callee := (.builtin .append), args := #[(.tmp 26), (.tmp 28)], argTypes := #[31, 31] }) 31 (by kernel_rfl)) trivial F (by decide) (F.slot rfl) (F.slot rfl) (rfl) Tryd.underlying31 (show (Tryd.prog.info? 9).map (fun i => (i.zero, i.size, i.bytes)) = some (some (.string ⟨#[]⟩), 1, 16) by kernel_rfl) rfl (by decide) (by decide) H rfl rfl (by simp only [List.length_nil]; omega) ?_
            intro v_ W a H F
            rw [List.nil_append] at H
            have H := H.quFlat 7 string_flat rfl
            obtain ⟨A6_7, c6_7, rfl, hc6_7⟩ := (H.qu 7 rfl).form
            have H : St w Sf Rf [Asn.blk g [.int .i64 a0, .int .i64 s0, .int .i64 t0, .slice A xs.length c, .int .i64 k0, .int .i64 n0] 72, Asn.qu k33 33 (.slice A xs.length c) xs ok, Asn.fk k33 ok2 t (txc t A7 c7 A8 c8), Asn.blk g1 (txc t A7 c7 A8 c8) 33, Asn.rd Kd.string ok2 A7 t.f7.length t.f7, Asn.rd Kd.string ok2 A8 t.f8.length t.f8, Asn.qu Kd.string 9 (.slice A6_3 ((t.f7).length) c6_3) t.f7 (fun _ => False), Asn.qu Kd.string 9 (.slice A6_7 ((t.f8).length) c6_7) t.f8 (fun _ => False)] W := H
            refine ⟨(fun _ => ⟨H.get 3 rfl, trivial⟩), ?_⟩
            refine sq_put (M := [Asn.blk g [.int .i64 a0, .int .i64 s0, .int .i64 t0, .slice A xs.length c, .int .i64 k0, .int .i64 n0] 72, Asn.qu k33 33 (.slice A xs.length c) xs ok, Asn.fk k33 ok2 t (txc t A7 c7 A8 c8), Asn.blk g1 [.int .i64 t.f0, .string t.f1, .string t.f2, .int .u64 t.f3, .int .u64 t.f4, .string t.f5, .string t.f6, .slice A6_3 ((t.f7).length) c6_3, .slice A8 t.f8.length c8] 33, Asn.rd Kd.string ok2 A7 t.f7.length t.f7, Asn.rd Kd.string ok2 A8 t.f8.length t.f8, Asn.qu Kd.string 9 (.slice A6_3 ((t.f7).length) c6_3) t.f7 (fun _ => False), Asn.qu Kd.string 9 (.slice A6_7 ((t.f8).length) c6_7) t.f8 (fun _ => False)]) (o_n (.store 31 (.tmp 30) (.tmp 25)) 0 (by kernel_rfl)) trivial F (x_store H (k := 3) (cs' := [.int .i64 t.f0, .string t.f1, .string t.f2, .int .u64 t.f3, .int .u64 t.f4, .string t.f5, .string t.f6, .slice A6_3 ((t.f7).length) c6_3, .slice A8 t.f8.length c8]) rfl (Tryd.sizeOf31 W) (F.slot rfl) (F.slot rfl) rfl (Nat.le_of_ble_eq_true rfl) rfl rfl) ?_
            intro W H
            refine ⟨(fun h => absurd (by decide) h), ?_⟩
            refine q0 (o_s 31 (.fieldAddr 33 (.tmp 3) 8) 0 (by kernel_rfl)) F (by decide) (v := .pointer (some ⟨g1, 8, none⟩)) (fun W_ => x_field0 Tryd.underlying33 rfl rfl (Tryd.sizeOf31 W_) (F.slot rfl)) (fun a F => ?_)
            refine sq_put (M := [Asn.blk g [.int .i64 a0, .int .i64 s0, .int .i64 t0, .slice A xs.length c, .int .i64 k0, .int .i64 n0] 72, Asn.qu k33 33 (.slice A xs.length c) xs ok, Asn.fk k33 ok2 t (txc t A7 c7 A8 c8), Asn.blk g1 [.int .i64 t.f0, .string t.f1, .string t.f2, .int .u64 t.f3, .int .u64 t.f4, .string t.f5, .string t.f6, .slice A6_3 ((t.f7).length) c6_3, .slice A6_7 ((t.f8).length) c6_7] 33, Asn.rd Kd.string ok2 A7 t.f7.length t.f7, Asn.rd Kd.string ok2 A8 t.f8.length t.f8, Asn.qu Kd.string 9 (.slice A6_3 ((t.f7).length) c6_3) t.f7 (fun _ => False), Asn.qu Kd.string 9 (.slice A6_7 ((t.f8).length) c6_7) t.f8 (fun _ => False)]) (o_n (.store 31 (.tmp 31) (.tmp 29)) 0 (by kernel_rfl)) trivial F (x_store H (k := 3) (cs' := [.int .i64 t.f0, .string t.f1, .string t.f2, .int .u64 t.f3, .int .u64 t.f4, .string t.f5, .string t.f6, .slice A6_3 ((t.f7).length) c6_3, .slice A6_7 ((t.f8).length) c6_7]) rfl (Tryd.sizeOf31 W) (F.slot rfl) (F.slot rfl) rfl (Nat.le_of_ble_eq_true rfl) rfl rfl) ?_
            intro W H
            refine ⟨(fun h => absurd (by decide) h), ?_⟩
            refine sq_nil ?_
            refine t_normal ?_
            exact ⟨A6_3, c6_3, A6_7, c6_7, F.less _ (subc rfl (subc rfl (subc rfl (subc rfl (subc rfl (subc rfl (subc rfl (subc rfl (subc rfl (subc rfl (subc rfl (subc rfl (subc rfl (subc rfl (subc rfl (subc rfl (subc rfl (subc rfl (subc rfl (subc rfl sub0)))))))))))))))))))), H, hc6_3, hc6_7⟩
        · refine sq_lit0 Kd.string (o_s 26 (.buildSlice 31 0 #[]) 31 (by kernel_rfl)) trivial F (by decide) Tryd.underlying31 (show (Tryd.prog.info? 9).map (fun i => (i.zero, i.size, i.bytes)) = some (some (.string ⟨#[]⟩), 1, 16) by kernel_rfl) H ?_
          intro A6_4 W a H F
          refine ⟨(fun _ => ⟨H.get 3 rfl, trivial⟩), ?_⟩
          refine sq_nil ?_
          refine t_normal ?_
          refine t_line ?_
          refine sq_lit0 Kd.string (o_s 22 (.buildSlice 31 0 #[]) 31 (by kernel_rfl)) trivial F (by decide) Tryd.underlying31 (show (Tryd.prog.info? 9).map (fun i => (i.zero, i.size, i.bytes)) = some (some (.string ⟨#[]⟩), 1, 16) by kernel_rfl) H ?_
          intro A6_0 W a H F
          refine ⟨(fun _ => ⟨H.get 3 rfl, trivial⟩), ?_⟩
          refine sq_rapp Kd.string 7 4 (by decide) (o_s 25 (.call { callee := (.builtin .append), args := #[(.tmp 22), (.tmp 24)], argTypes := #[31, 31] }) 31 (by kernel_rfl)) trivial F (by decide) (F.slot rfl) (F.slot rfl) (rfl) Tryd.underlying31 (show (Tryd.prog.info? 9).map (fun i => (i.zero, i.size, i.bytes)) = some (some (.string ⟨#[]⟩), 1, 16) by kernel_rfl) rfl (by decide) (by decide) H rfl rfl (by simp only [List.length_nil]; omega) ?_
          intro v_ W a H F
          rw [List.nil_append] at H
          have H := H.quFlat 7 string_flat rfl
          obtain ⟨A6_3, c6_3, rfl, hc6_3⟩ := (H.qu 7 rfl).form
          have H : St w Sf Rf [Asn.blk g [.int .i64 a0, .int .i64 s0, .int .i64 t0, .slice A xs.length c, .int .i64 k0, .int .i64 n0] 72, Asn.qu k33 33 (.slice A xs.length c) xs ok, Asn.fk k33 ok2 t (txc t A7 c7 A8 c8), Asn.blk g1 (txc t A7 c7 A8 c8) 33, Asn.rd Kd.string ok2 A7 t.f7.length t.f7, Asn.rd Kd.string ok2 A8 t.f8.length t.f8, Asn.qu Kd.string 9 (.slice A6_4 0 0) [] (fun _ => False), Asn.qu Kd.string 9 (.slice A6_3 ((t.f7).length) c6_3) t.f7 (fun _ => False)] W := H
          refine ⟨(fun _ => ⟨H.get 3 rfl, trivial⟩), ?_⟩
          refine q0 (o_s 30 (.fieldAddr 33 (.tmp 3) 7) 0 (by kernel_rfl)) F (by decide) (v := .pointer (some ⟨g1, 7, none⟩)) (fun W_ => x_field0 Tryd.underlying33 rfl rfl (Tryd.sizeOf31 W_) (F.slot rfl)) (fun a F => ?_)
          refine sq_rapp Kd.string 6 5 (by decide) (o_s 29 (.call { callee := (.builtin .append), args := #[(.tmp 26), (.tmp 28)], argTypes := #[31, 31] }) 31 (by kernel_rfl)) trivial F (by decide) (F.slot rfl) (F.slot rfl) (rfl) Tryd.underlying31 (show (Tryd.prog.info? 9).map (fun i => (i.zero, i.size, i.bytes)) = some (some (.string ⟨#[]⟩), 1, 16) by kernel_rfl) rfl (by decide) (by decide) H rfl rfl (by simp only [List.length_nil]; omega) ?_
          intro v_ W a H F
          rw [List.nil_append] at H
          have H := H.quFlat 6 string_flat rfl
          obtain ⟨A6_7, c6_7, rfl, hc6_7⟩ := (H.qu 6 rfl).form
          have H : St w Sf Rf [Asn.blk g [.int .i64 a0, .int .i64 s0, .int .i64 t0, .slice A xs.length c, .int .i64 k0, .int .i64 n0] 72, Asn.qu k33 33 (.slice A xs.length c) xs ok, Asn.fk k33 ok2 t (txc t A7 c7 A8 c8), Asn.blk g1 (txc t A7 c7 A8 c8) 33, Asn.rd Kd.string ok2 A7 t.f7.length t.f7, Asn.rd Kd.string ok2 A8 t.f8.length t.f8, Asn.qu Kd.string 9 (.slice A6_7 ((t.f8).length) c6_7) t.f8 (fun _ => False), Asn.qu Kd.string 9 (.slice A6_3 ((t.f7).length) c6_3) t.f7 (fun _ => False)] W := H
          refine ⟨(fun _ => ⟨H.get 3 rfl, trivial⟩), ?_⟩
          refine sq_put (M := [Asn.blk g [.int .i64 a0, .int .i64 s0, .int .i64 t0, .slice A xs.length c, .int .i64 k0, .int .i64 n0] 72, Asn.qu k33 33 (.slice A xs.length c) xs ok, Asn.fk k33 ok2 t (txc t A7 c7 A8 c8), Asn.blk g1 [.int .i64 t.f0, .string t.f1, .string t.f2, .int .u64 t.f3, .int .u64 t.f4, .string t.f5, .string t.f6, .slice A6_3 ((t.f7).length) c6_3, .slice A8 t.f8.length c8] 33, Asn.rd Kd.string ok2 A7 t.f7.length t.f7, Asn.rd Kd.string ok2 A8 t.f8.length t.f8, Asn.qu Kd.string 9 (.slice A6_7 ((t.f8).length) c6_7) t.f8 (fun _ => False), Asn.qu Kd.string 9 (.slice A6_3 ((t.f7).length) c6_3) t.f7 (fun _ => False)]) (o_n (.store 31 (.tmp 30) (.tmp 25)) 0 (by kernel_rfl)) trivial F (x_store H (k := 3) (cs' := [.int .i64 t.f0, .string t.f1, .string t.f2, .int .u64 t.f3, .int .u64 t.f4, .string t.f5, .string t.f6, .slice A6_3 ((t.f7).length) c6_3, .slice A8 t.f8.length c8]) rfl (Tryd.sizeOf31 W) (F.slot rfl) (F.slot rfl) rfl (Nat.le_of_ble_eq_true rfl) rfl rfl) ?_
          intro W H
          refine ⟨(fun h => absurd (by decide) h), ?_⟩
          refine q0 (o_s 31 (.fieldAddr 33 (.tmp 3) 8) 0 (by kernel_rfl)) F (by decide) (v := .pointer (some ⟨g1, 8, none⟩)) (fun W_ => x_field0 Tryd.underlying33 rfl rfl (Tryd.sizeOf31 W_) (F.slot rfl)) (fun a F => ?_)
          refine sq_put (M := [Asn.blk g [.int .i64 a0, .int .i64 s0, .int .i64 t0, .slice A xs.length c, .int .i64 k0, .int .i64 n0] 72, Asn.qu k33 33 (.slice A xs.length c) xs ok, Asn.fk k33 ok2 t (txc t A7 c7 A8 c8), Asn.blk g1 [.int .i64 t.f0, .string t.f1, .string t.f2, .int .u64 t.f3, .int .u64 t.f4, .string t.f5, .string t.f6, .slice A6_3 ((t.f7).length) c6_3, .slice A6_7 ((t.f8).length) c6_7] 33, Asn.rd Kd.string ok2 A7 t.f7.length t.f7, Asn.rd Kd.string ok2 A8 t.f8.length t.f8, Asn.qu Kd.string 9 (.slice A6_7 ((t.f8).length) c6_7) t.f8 (fun _ => False), Asn.qu Kd.string 9 (.slice A6_3 ((t.f7).length) c6_3) t.f7 (fun _ => False)]) (o_n (.store 31 (.tmp 31) (.tmp 29)) 0 (by kernel_rfl)) trivial F (x_store H (k := 3) (cs' := [.int .i64 t.f0, .string t.f1, .string t.f2, .int .u64 t.f3, .int .u64 t.f4, .string t.f5, .string t.f6, .slice A6_3 ((t.f7).length) c6_3, .slice A6_7 ((t.f8).length) c6_7]) rfl (Tryd.sizeOf31 W) (F.slot rfl) (F.slot rfl) rfl (Nat.le_of_ble_eq_true rfl) rfl rfl) ?_
          intro W H
          refine ⟨(fun h => absurd (by decide) h), ?_⟩
          refine sq_nil ?_
          refine t_normal ?_
          exact ⟨A6_3, c6_3, A6_7, c6_7, F.less _ (subc rfl (subc rfl (subc rfl (subc rfl (subc rfl (subc rfl (subc rfl (subc rfl (subc rfl (subc rfl (subc rfl (subc rfl (subc rfl (subc rfl (subc rfl (subc rfl (subc rfl (subc rfl (subc rfl (subc rfl sub0)))))))))))))))))))), H.perm [0, 1, 2, 3, 4, 5, 7, 6] rfl (by decide), hc6_3, hc6_7⟩
      · rintro a W ⟨A6_3, c6_3, A6_7, c6_7, F, H, hc6_3, hc6_7⟩
        refine c_seq (by kernel_rfl) ?_
        have H := (H.quRd 6 rfl).quRd 7 rfl
        have H := H.addF 6 7 rfl rfl (fun _ h => h) (fun _ h => h) _ (fk_tx t hc6_3 (Foot.mono (H.get 6 rfl) (fun j h => .inl h)) hc6_7 (Foot.mono (H.get 7 rfl) (fun j h => .inr h)))
        have H : St w Sf Rf [Asn.blk g [.int .i64 a0, .int .i64 s0, .int .i64 t0, .slice A xs.length c, .int .i64 k0, .int .i64 n0] 72, Asn.qu k33 33 (.slice A xs.length c) xs ok, Asn.fk k33 ok2 t (txc t A7 c7 A8 c8), Asn.blk g1 [.int .i64 t.f0, .string t.f1, .string t.f2, .int .u64 t.f3, .int .u64 t.f4, .string t.f5, .string t.f6, .slice A6_3 ((t.f7).length) c6_3, .slice A6_7 ((t.f8).length) c6_7] 33, Asn.rd Kd.string ok2 A7 t.f7.length t.f7, Asn.rd Kd.string ok2 A8 t.f8.length t.f8, Asn.rd Kd.string _ A6_3 ((t.f7).length) t.f7, Asn.rd Kd.string _ A6_7 ((t.f8).length) t.f8, Asn.fk k33 _ t (txc t A6_3 c6_3 A6_7 c6_7)] W := H
        refine c_drawn (id := 7) (by kernel_rfl) (by kernel_rfl) (Vs [Asn.blk g [.int .i64 a0, .int .i64 s0, .int .i64 t0, .slice A xs.length c, .int .i64 k0, .int .i64 n0] 72, Asn.blk g1 [.int .i64 t.f0, .string t.f1, .string t.f2, .int .u64 t.f3, .int .u64 t.f4, .string t.f5, .string t.f6, .slice A6_3 ((t.f7).length) c6_3, .slice A6_7 ((t.f8).length) c6_7] 33]) [0, 0, 2, 6, 14, 0, 32, 126, 255, 511, 1023] [10] [(0, 0), (1, 0), (2, 0), (3, 0), (4, 1), (5, 1), (6, 2), (7, 2), (8, 0), (9, 0), (10, 2)] (by kernel_rfl) (fun _ _ d _ _ h => by cases d <;> exact h) (Vs.drew ⟨H.get 0 rfl, H.get 3 rfl, trivial⟩) ?_
        have H := H.drew
        generalize World.drew W = W at H ⊢
        refine q0 (o_s 32 (.move (.tmp 0)) 23 (by kernel_rfl)) F (by decide) (fun W_ => x_move (F.slot rfl)) (fun a F => ?_)
        refine q0 (o_s 33 (.move (.tmp 0)) 23 (by kernel_rfl)) F (by decide) (fun W_ => x_move (F.slot rfl)) (fun a F => ?_)
        refine q0 (o_s 34 (.nilCheck (.tmp 33)) 0 (by kernel_rfl)) F (by decide) (v := .pointer (some ⟨g, 0, none⟩)) (fun W_ => x_nil (F.slot rfl)) (fun a F => ?_)
        refine q0 (o_s 35 (.fieldAddr 72 (.tmp 34) 3) 0 (by kernel_rfl)) F (by decide) (v := .pointer (some ⟨g, 3, none⟩)) (fun W_ => x_field0 Tryd.underlying72 rfl rfl (Tryd.sizeOf38 W_) (F.slot rfl)) (fun a F => ?_)
        refine q1 (o_s 36 (.load 38 (.tmp 35)) 38 (by kernel_rfl)) F (by decide) (⟨H.get 0 rfl, H.get 3 rfl, trivial⟩) (v := .slice A xs.length c) (fun W_ hV => x_load1 (Tryd.isAgg38 W_) (F.slot rfl) (bcell hV.1 rfl)) (fun a F => ?_)
        refine q1 (o_s 37 (.load 33 (.tmp 3)) 33 (by kernel_rfl)) F (by decide) (⟨H.get 0 rfl, H.get 3 rfl, trivial⟩) (v := .agg #[.int .i64 t.f0, .string t.f1, .string t.f2, .int .u64 t.f3, .int .u64 t.f4, .string t.f5, .string t.f6, .slice A6_3 ((t.f7).length) c6_3, .slice A6_7 ((t.f8).length) c6_7]) (fun W_ hV => x_loadB (Tryd.isAgg33 W_) [.int .i64 t.f0, .string t.f1, .string t.f2, .int .u64 t.f3, .int .u64 t.f4, .string t.f5, .string t.f6, .slice A6_3 ((t.f7).length) c6_3, .slice A6_7 ((t.f8).length) c6_7] (Tryd.sizeOf33 W_) (F.slot rfl) (hV.2.1)) (fun a F => ?_)
        refine sq_bapp k33 1 8 (by decide) (o_s 38 (.buildSlice 38 1 #[(0, (.tmp 37))]) 38 (by kernel_rfl)) trivial (o_s 39 (.call { callee := (.builtin .append), args := #[(.tmp 36), (.tmp 38)], argTypes := #[38, 38] }) 38 (by kernel_rfl)) (fun _ => trivial) F (by decide) (by decide) rfl (fun a F => F.slot rfl) (F.slot rfl) rfl Tryd.underlying38 PB.info33 rfl (by decide) (by decide) (by decide) H rfl rfl (by omega) (fun W H => (fun _ => ⟨H.get 0 rfl, H.get 3 rfl, trivial⟩)) ?_
        intro v_ W a H F
        obtain ⟨AQ, cQ, rfl, hcQ⟩ := (H.qu 1 rfl).form
        have H : St w Sf Rf [Asn.blk g [.int .i64 a0, .int .i64 s0, .int .i64 t0, .slice A xs.length c, .int .i64 k0, .int .i64 n0] 72, Asn.qu k33 33 (.slice AQ ((xs ++ [t]).length) cQ) (xs ++ [t]) _, Asn.fk k33 ok2 t (txc t A7 c7 A8 c8), Asn.blk g1 [.int .i64 t.f0, .string t.f1, .string t.f2, .int .u64 t.f3, .int .u64 t.f4, .string t.f5, .string t.f6, .slice A6_3 ((t.f7).length) c6_3, .slice A6_7 ((t.f8).length) c6_7] 33, Asn.rd Kd.string ok2 A7 t.f7.length t.f7, Asn.rd Kd.string ok2 A8 t.f8.length t.f8, Asn.rd Kd.string _ A6_3 ((t.f7).length) t.f7, Asn.rd Kd.string _ A6_7 ((t.f8).length) t.f8, Asn.fk k33 _ t (txc t A6_3 c6_3 A6_7 c6_7)] W := H
        refine ⟨(fun _ => ⟨H.get 0 rfl, H.get 3 rfl, trivial⟩), ?_⟩
        refine q0 (o_s 40 (.nilCheck (.tmp 32)) 0 (by kernel_rfl)) F (by decide) (v := .pointer (some ⟨g, 0, none⟩)) (fun W_ => x_nil (F.slot rfl)) (fun a F => ?_)
        refine q0 (o_s 41 (.fieldAddr 72 (.tmp 40) 3) 0 (by kernel_rfl)) F (by decide) (v := .pointer (some ⟨g, 3, none⟩)) (fun W_ => x_field0 Tryd.underlying72 rfl rfl (Tryd.sizeOf38 W_) (F.slot rfl)) (fun a F => ?_)
        refine sq_put (M := [Asn.blk g [.int .i64 a0, .int .i64 s0, .int .i64 t0, .slice AQ ((xs ++ [t]).length) cQ, .int .i64 k0, .int .i64 n0] 72, Asn.qu k33 33 (.slice AQ ((xs ++ [t]).length) cQ) (xs ++ [t]) _, Asn.fk k33 ok2 t (txc t A7 c7 A8 c8), Asn.blk g1 [.int .i64 t.f0, .string t.f1, .string t.f2, .int .u64 t.f3, .int .u64 t.f4, .string t.f5, .string t.f6, .slice A6_3 ((t.f7).length) c6_3, .slice A6_7 ((t.f8).length) c6_7] 33, Asn.rd Kd.string ok2 A7 t.f7.length t.f7, Asn.rd Kd.string ok2 A8 t.f8.length t.f8, Asn.rd Kd.string _ A6_3 ((t.f7).length) t.f7, Asn.rd Kd.string _ A6_7 ((t.f8).length) t.f8, Asn.fk k33 _ t (txc t A6_3 c6_3 A6_7 c6_7)]) (o_n (.store 38 (.tmp 41) (.tmp 39)) 0 (by kernel_rfl)) trivial F (x_store H (k := 0) (cs' := [.int .i64 a0, .int .i64 s0, .int .i64 t0, .slice AQ ((xs ++ [t]).length) cQ, .int .i64 k0, .int .i64 n0]) rfl (Tryd.sizeOf38 W) (F.slot rfl) (F.slot rfl) rfl (Nat.le_of_ble_eq_true rfl) rfl rfl) ?_
        intro W H
        refine ⟨(fun h => absurd (by decide) h), ?_⟩
        unfold wpSeq
        refine t_normal ?_
        refine c_seq (by kernel_rfl) ?_
        refine c_text (id := 8) (by kernel_rfl) [(0, 2)] (by kernel_rfl) ?_
        refine q2 (o_s 4 (.assign (.const (.int .i64 0))) 24 (by kernel_rfl)) F (by decide) (v := .int .i64 0) (x_assign rfl) (fun a F => ?_)
        unfold wpSeq
        refine t_normal ?_
        refine c_ret (by kernel_rfl) ?_
        refine p_tmp Tryd.results18 F rfl ?_
        exact .inr (.inr ⟨by rw [hz]; simpa using hb2, by omega, rfl, _, _, _, H.front 3⟩)
end Go.Proofs.YtndicjikjcifaaaDoor

/- The program's sealer: Tick. -/
namespace Go.Proofs.YtndicjikjcifaaaDoor
open Go.RowKit Go.Proofs.YtndicjikjcifaaaDoorW.PrintWords Go.Proofs.YtndicjikjcifaaaDoorW.PrintLast
set_option linter.unusedVariables false
set_option linter.unusedSimpArgs false
set_option maxRecDepth 100000
open PB (S33 k33)
def Ticked (g : Nat) (a0 s0 t0 k0 n0 : Int) (A : Option Addr) (c : Nat) (xs : List S33) (ok : Nat → Prop) (w : World) (Sf Rf : Nat → Prop) (e : Ending) (W : World) : Prop :=
  (xs.length = 0 ∧ e = .returned (.tuple #[.agg #[.int .i64 0, .int .i64 0, .slice none 0 0], .bool false]) ∧ St w Sf Rf [Asn.blk g [.int .i64 a0, .int .i64 s0, .int .i64 t0, .slice A xs.length c, .int .i64 k0, .int .i64 n0] 72, Asn.qu k33 33 (.slice A xs.length c) xs ok] W) ∨
  (xs.length ≠ 0 ∧ (xs.length : Int) < s0 ∧ k0 + 1 < t0 ∧ e = .returned (.tuple #[.agg #[.int .i64 0, .int .i64 0, .slice none 0 0], .bool false]) ∧ St w Sf Rf [Asn.blk g [.int .i64 a0, .int .i64 s0, .int .i64 t0, .slice A xs.length c, .int .i64 (k0 + 1), .int .i64 n0] 72, Asn.qu k33 33 (.slice A xs.length c) xs ok] W) ∨
  (xs.length ≠ 0 ∧ ¬ ((xs.length : Int) < s0 ∧ k0 + 1 < t0) ∧ ∃ m : Nat, (m : Int) = min s0 (xs.length : Int) ∧ e = .returned (.tuple #[.agg #[.int .i64 a0, .int .i64 (n0 + 1), .slice A m m], .bool true]) ∧ St w Sf Rf [Asn.blk g [.int .i64 a0, .int .i64 s0, .int .i64 t0, .slice (if c = m then A else A.map (·.add (m * 9))) (xs.length - m) (c - m), .int .i64 0, .int .i64 (n0 + 1)] 72, Asn.qf k33 33 (.slice (if c = m then A else A.map (·.add (m * 9))) (xs.length - m) (c - m)) (xs.drop m) ok A m (xs.take m)] W)
theorem x_min {P : Program} {a : Act} {W : World} {x y : Operand} {ty s : TypeId} {p q : Int} (hx : a.eval x = .int .i64 p) (hy : a.eval y = .int .i64 q) : (ex a (.call { callee := .builtin .min, args := #[x, y], argTypes := #[s, s] }) ty).run P W = .ok (.value (.int .i64 (min p q))) W := by
  have : (Builtin.min2 (.int .i64 p) (.int .i64 q)).run P W = .ok (.int .i64 (min p q)) W := by
    simp only [Builtin.min2]
    have e : (if q < p then q else p) = min p q := by split <;> omega
    rw [e]; rfl
  simp [ex, execOp, resolve, invoke, builtin, hx, hy, Builtin.min_, this]
set_option maxHeartbeats 1000000 in
theorem tick_calls (g : Nat) (a0 s0 t0 k0 n0 : Int) (A : Option Addr) (c : Nat) (xs : List S33) (ok : Nat → Prop) (w : World) {Sf Rf : Nat → Prop} (hs0 : 1 ≤ s0) (hs1 : s0 ≤ 16) (hk0 : 0 ≤ k0) (hk1 : k0 < 4611686018427387904) (hn0 : 0 ≤ n0) (hn1 : n0 < 4611686018427387904) (hxl : xs.length < 4611686018427387904)
    (H : St w Sf Rf [Asn.blk g [.int .i64 a0, .int .i64 s0, .int .i64 t0, .slice A xs.length c, .int .i64 k0, .int .i64 n0] 72, Asn.qu k33 33 (.slice A xs.length c) xs ok] w) : Calls Tryd.prog 21 #[.pointer (some ⟨g, 0, none⟩)] w (Ticked g a0 s0 t0 k0 n0 A c xs ok w Sf Rf) := by
  refine c_enter2 (args := [.pointer (some ⟨g, 0, none⟩)]) (S := Sf) (R := Rf) (M := [Asn.blk g [.int .i64 a0, .int .i64 s0, .int .i64 t0, .slice A xs.length c, .int .i64 k0, .int .i64 n0] 72, Asn.qu k33 33 (.slice A xs.length c) xs ok]) Tryd.func21 (by kernel_rfl) 88 Tryd.ntmps21 (Nat.le_of_ble_eq_true rfl) (H) (fun a W F H => ?_)
  have F := F.less [(0, .pointer (some ⟨g, 0, none⟩))] (subc rfl sub0)
  refine c_seq (by kernel_rfl) ?_
  refine c_text (id := 0) (by kernel_rfl) [(0, 2), (1, 2)] (by kernel_rfl) ?_
  refine sq_new (o_s 2 (.alloc 40) 0 (by kernel_rfl)) trivial F (by decide) H [.int .i64 0, .int .i64 0, .slice none 0 0] 40 (x_alloc Tryd.zeroValue40 rfl) ?_
  intro g1 W a hg1 H F
  refine ⟨(fun _ => trivial), ?_⟩
  refine q2 (o_s 3 (.assign (.const (.bool false))) 4 (by kernel_rfl)) F (by decide) (v := .bool false) (x_assign rfl) (fun a F => ?_)
  unfold wpSeq
  have H : St w Sf Rf [Asn.blk g [.int .i64 a0, .int .i64 s0, .int .i64 t0, .slice A xs.length c, .int .i64 k0, .int .i64 n0] 72, Asn.qu k33 33 (.slice A xs.length c) xs ok, Asn.blk g1 [.int .i64 0, .int .i64 0, .slice none 0 0] 40] W := H
  refine t_normal ?_
  refine c_seq (by kernel_rfl) ?_
  refine c_seq (by kernel_rfl) ?_
  refine c_text (id := 1) (by kernel_rfl) [(0, 2), (1, 2), (2, 2), (3, 2), (4, 2), (5, 2)] (by kernel_rfl) ?_
  refine q2 (o_s 6 (.move (.tmp 0)) 23 (by kernel_rfl)) F (by decide) (x_move (F.slot rfl)) (fun a F => ?_)
  refine q2 (o_s 7 (.nilCheck (.tmp 6)) 0 (by kernel_rfl)) F (by decide) (v := .pointer (some ⟨g, 0, none⟩)) (x_nil (F.slot rfl)) (fun a F => ?_)
  refine q2 (o_s 8 (.fieldAddr 72 (.tmp 7) 3) 0 (by kernel_rfl)) F (by decide) (v := .pointer (some ⟨g, 3, none⟩)) (x_field0 Tryd.underlying72 rfl rfl (Tryd.sizeOf38 W) (F.slot rfl)) (fun a F => ?_)
  refine q2 (o_s 9 (.load 38 (.tmp 8)) 38 (by kernel_rfl)) F (by decide) (v := .slice A xs.length c) (x_load1 (Tryd.isAgg38 W) (F.slot rfl) (H.cell 0 rfl rfl)) (fun a F => ?_)
  refine q2 (o_s 10 (.call { callee := (.builtin .len), args := #[(.tmp 9)], argTypes := #[38] }) 3 (by kernel_rfl)) F (by decide) (v := .int .i64 (xs.length : Int)) (x_lenL Tryd.underlying38 (F.slot rfl)) (fun a F => ?_)
  refine q2 (o_s 11 (.binOp .eql 3 (.tmp 10) (.const (.int .i64 0)) 3) 4 (by kernel_rfl)) F (by decide) (v := .bool ((xs.length : Int) == (0 : Int))) (x_int (F.slot rfl) rfl rfl) (fun a F => ?_)
  unfold wpSeq
  refine t_normal ?_
  rcases bool_or ((xs.length : Int) == (0 : Int)) with hb2 | hb2
  · have hb2d := eq_of_beq hb2
    have F := F.at 11 rfl (v' := .bool true) (congrArg Value.bool hb2)
    refine c_yes (c := .tmp 11) (by kernel_rfl) (F.slot rfl) ?_
    refine c_seq (by kernel_rfl) ?_
    refine c_text (id := 2) (by kernel_rfl) [(0, 2), (1, 2), (2, 2)] (by kernel_rfl) ?_
    refine q2 (o_s 12 (.build 40 #[]) 40 (by kernel_rfl)) F (by decide) (v := .agg #[.int .i64 0, .int .i64 0, .slice none 0 0]) (by simp [ex, execOp, Instr.build, Tryd.zeroValue40, run_underlying Tryd.underlying40, Instr.fill, Value.cells, Tryd.sizeOf3, Tryd.sizeOf38]) (fun a F => ?_)
    refine sq_put (M := [Asn.blk g [.int .i64 a0, .int .i64 s0, .int .i64 t0, .slice A xs.length c, .int .i64 k0, .int .i64 n0] 72, Asn.qu k33 33 (.slice A xs.length c) xs ok, Asn.blk g1 [.int .i64 0, .int .i64 0, .slice none 0 0] 40]) (o_n (.store 40 (.tmp 2) (.tmp 12)) 0 (by kernel_rfl)) trivial F (x_store H (k := 2) (cs' := [.int .i64 0, .int .i64 0, .slice none 0 0]) rfl (Tryd.sizeOf40 W) (F.slot rfl) (F.slot rfl) rfl (Nat.le_of_ble_eq_true rfl) rfl rfl) ?_
    intro W H
    refine ⟨(fun _ => trivial), ?_⟩
    refine q2 (o_s 3 (.assign (.const (.bool false))) 4 (by kernel_rfl)) F (by decide) (v := .bool false) (x_assign rfl) (fun a F => ?_)
    unfold wpSeq
    refine t_normal ?_
    refine c_ret (by kernel_rfl) ?_
    refine t_ret ?_
    refine p_list (rs := [.cell 2 40, .tmp 3]) (vs := [.agg #[.int .i64 0, .int .i64 0, .slice none 0 0], .bool false]) Tryd.results21 (by simp) F (Vals.cell' F rfl (H.blk 2 rfl) Tryd.underlying40 rfl (by kernel_rfl) (Vals.tmp' F rfl .nil)) ?_
    exact .inl ⟨by omega, rfl, H.front 2⟩
  · have hb2d := ne_of_beq_false hb2
    have F := F.at 11 rfl (v' := .bool false) (congrArg Value.bool hb2)
    refine c_no (c := .tmp 11) (by kernel_rfl) (F.slot rfl) ?_
    refine c_skip (by kernel_rfl) ?_
    refine t_normal ?_
    refine c_seq (by kernel_rfl) ?_
    refine c_text (id := 3) (by kernel_rfl) [(0, 2), (1, 2), (2, 2), (3, 2), (4, 2), (5, 2), (6, 2), (7, 2)] (by kernel_rfl) ?_
    refine q2 (o_s 13 (.move (.tmp 0)) 23 (by kernel_rfl)) F (by decide) (x_move (F.slot rfl)) (fun a F => ?_)
    refine q2 (o_s 14 (.nilCheck (.tmp 13)) 0 (by kernel_rfl)) F (by decide) (v := .pointer (some ⟨g, 0, none⟩)) (x_nil (F.slot rfl)) (fun a F => ?_)
    refine q2 (o_s 15 (.fieldAddr 72 (.tmp 14) 4) 0 (by kernel_rfl)) F (by decide) (v := .pointer (some ⟨g, 4, none⟩)) (x_field0 Tryd.underlying72 rfl rfl (Tryd.sizeOf3 W) (F.slot rfl)) (fun a F => ?_)
    refine q2 (o_s 16 (.load 3 (.tmp 15)) 3 (by kernel_rfl)) F (by decide) (v := .int .i64 k0) (x_load1 (Tryd.isAgg3 W) (F.slot rfl) (H.cell 0 rfl rfl)) (fun a F => ?_)
    refine q2 (o_s 17 (.binOp .add 3 (.tmp 16) (.const (.int .i64 1)) 3) 3 (by kernel_rfl)) F (by decide) (v := .int .i64 (IntKind.i64.wrap (k0 + 1))) (x_int (F.slot rfl) rfl rfl) (fun a F => ?_)
    have F := F.conv (v' := .int .i64 (k0 + 1)) (congrArg (Value.int .i64) (wrap_i64 _ (by omega) (by omega)))
    refine q2 (o_s 18 (.nilCheck (.tmp 13)) 0 (by kernel_rfl)) F (by decide) (v := .pointer (some ⟨g, 0, none⟩)) (x_nil (F.slot rfl)) (fun a F => ?_)
    refine q2 (o_s 19 (.fieldAddr 72 (.tmp 18) 4) 0 (by kernel_rfl)) F (by decide) (v := .pointer (some ⟨g, 4, none⟩)) (x_field0 Tryd.underlying72 rfl rfl (Tryd.sizeOf3 W) (F.slot rfl)) (fun a F => ?_)
    refine sq_put (M := [Asn.blk g [.int .i64 a0, .int .i64 s0, .int .i64 t0, .slice A xs.length c, .int .i64 (k0 + 1), .int .i64 n0] 72, Asn.qu k33 33 (.slice A xs.length c) xs ok, Asn.blk g1 [.int .i64 0, .int .i64 0, .slice none 0 0] 40]) (o_n (.store 3 (.tmp 19) (.tmp 17)) 0 (by kernel_rfl)) trivial F (x_store H (k := 0) (cs' := [.int .i64 a0, .int .i64 s0, .int .i64 t0, .slice A xs.length c, .int .i64 (k0 + 1), .int .i64 n0]) rfl (Tryd.sizeOf3 W) (F.slot rfl) (F.slot rfl) rfl (Nat.le_of_ble_eq_true rfl) rfl rfl) ?_
    intro W H
    refine ⟨(fun _ => trivial), ?_⟩
    unfold wpSeq
    refine t_normal ?_
    refine c_seq (by kernel_rfl) ?_
    refine c_seq (by kernel_rfl) ?_
    refine c_drawn (id := 4) (by kernel_rfl) (by kernel_rfl) (Vs [Asn.blk g [.int .i64 a0, .int .i64 s0, .int .i64 t0, .slice A xs.length c, .int .i64 (k0 + 1), .int .i64 n0] 72]) [0, 1, 3, 7, 15, 0, 32, 96, 224, 511, 1023, 2047, 4095, 8191, 16383, 2047, 34815, 100351, 231423, 524287, 1048575] [] [(0, 0), (1, 0), (2, 0), (5, 0), (6, 0), (7, 0), (3, 1), (4, 0), (8, 1), (9, 0), (10, 0), (11, 0), (12, 0), (13, 0), (15, 0), (16, 0), (17, 0), (14, 1), (18, 1), (19, 0), (20, 0)] (by kernel_rfl) (fun _ _ d _ _ h => by cases d <;> exact h) (Vs.drew ⟨H.get 0 rfl, trivial⟩) ?_
    have H := H.drew
    generalize World.drew W = W at H ⊢
    refine q0 (o_s 20 (.move (.tmp 0)) 23 (by kernel_rfl)) F (by decide) (fun W_ => x_move (F.slot rfl)) (fun a F => ?_)
    refine q0 (o_s 21 (.nilCheck (.tmp 20)) 0 (by kernel_rfl)) F (by decide) (v := .pointer (some ⟨g, 0, none⟩)) (fun W_ => x_nil (F.slot rfl)) (fun a F => ?_)
    refine q0 (o_s 22 (.fieldAddr 72 (.tmp 21) 3) 0 (by kernel_rfl)) F (by decide) (v := .pointer (some ⟨g, 3, none⟩)) (fun W_ => x_field0 Tryd.underlying72 rfl rfl (Tryd.sizeOf38 W_) (F.slot rfl)) (fun a F => ?_)
    refine q0 (o_s 25 (.move (.tmp 0)) 23 (by kernel_rfl)) F (by decide) (fun W_ => x_move (F.slot rfl)) (fun a F => ?_)
    refine q0 (o_s 26 (.nilCheck (.tmp 25)) 0 (by kernel_rfl)) F (by decide) (v := .pointer (some ⟨g, 0, none⟩)) (fun W_ => x_nil (F.slot rfl)) (fun a F => ?_)
    refine q0 (o_s 27 (.fieldAddr 72 (.tmp 26) 1) 0 (by kernel_rfl)) F (by decide) (v := .pointer (some ⟨g, 1, none⟩)) (fun W_ => x_field0 Tryd.underlying72 rfl rfl (Tryd.sizeOf3 W_) (F.slot rfl)) (fun a F => ?_)
    refine q1 (o_s 23 (.load 38 (.tmp 22)) 38 (by kernel_rfl)) F (by decide) (⟨H.get 0 rfl, trivial⟩) (v := .slice A xs.length c) (fun W_ hV => x_load1 (Tryd.isAgg38 W_) (F.slot rfl) (bcell hV.1 rfl)) (fun a F => ?_)
    refine q0 (o_s 24 (.call { callee := (.builtin .len), args := #[(.tmp 23)], argTypes := #[38] }) 3 (by kernel_rfl)) F (by decide) (v := .int .i64 (xs.length : Int)) (fun W_ => x_lenL Tryd.underlying38 (F.slot rfl)) (fun a F => ?_)
    refine q1 (o_s 28 (.load 3 (.tmp 27)) 3 (by kernel_rfl)) F (by decide) (⟨H.get 0 rfl, trivial⟩) (v := .int .i64 s0) (fun W_ hV => x_load1 (Tryd.isAgg3 W_) (F.slot rfl) (bcell hV.1 rfl)) (fun a F => ?_)
    refine q0 (o_s 29 (.binOp .lss 3 (.tmp 24) (.tmp 28) 3) 4 (by kernel_rfl)) F (by decide) (v := .bool (decide ((xs.length : Int) < s0))) (fun W_ => x_int (F.slot rfl) (F.slot rfl) rfl) (fun a F => ?_)
    refine q0 (o_s 30 (.move (.tmp 29)) 4 (by kernel_rfl)) F (by decide) (fun W_ => x_move (F.slot rfl)) (fun a F => ?_)
    rcases bool_or (decide ((xs.length : Int) < s0)) with hb4 | hb4
    · have hb4d := of_decide_eq_true hb4
      have F := F.at 30 rfl (v' := .bool true) (congrArg Value.bool hb4)
      refine sq0 (o_g 31 (.move (.tmp 0)) 23 10 true (by kernel_rfl)) ⟨30, by kernel_rfl, rfl⟩ F (by decide) (v := .pointer (some ⟨g, 0, none⟩)) (fun W_ => x_move (F.slot rfl)) (fun a F => ?_)
      refine sq0 (o_g 32 (.nilCheck (.tmp 31)) 0 10 true (by kernel_rfl)) ⟨30, by kernel_rfl, rfl⟩ F (by decide) (v := .pointer (some ⟨g, 0, none⟩)) (fun W_ => x_nil (F.slot rfl)) (fun a F => ?_)
      refine sq0 (o_g 33 (.fieldAddr 72 (.tmp 32) 4) 0 10 true (by kernel_rfl)) ⟨30, by kernel_rfl, rfl⟩ F (by decide) (v := .pointer (some ⟨g, 4, none⟩)) (fun W_ => x_field0 Tryd.underlying72 rfl rfl (Tryd.sizeOf3 W_) (F.slot rfl)) (fun a F => ?_)
      refine sq0 (o_g 35 (.move (.tmp 0)) 23 10 true (by kernel_rfl)) ⟨30, by kernel_rfl, rfl⟩ F (by decide) (v := .pointer (some ⟨g, 0, none⟩)) (fun W_ => x_move (F.slot rfl)) (fun a F => ?_)
      refine sq0 (o_g 36 (.nilCheck (.tmp 35)) 0 10 true (by kernel_rfl)) ⟨30, by kernel_rfl, rfl⟩ F (by decide) (v := .pointer (some ⟨g, 0, none⟩)) (fun W_ => x_nil (F.slot rfl)) (fun a F => ?_)
      refine sq0 (o_g 37 (.fieldAddr 72 (.tmp 36) 2) 0 10 true (by kernel_rfl)) ⟨30, by kernel_rfl, rfl⟩ F (by decide) (v := .pointer (some ⟨g, 2, none⟩)) (fun W_ => x_field0 Tryd.underlying72 rfl rfl (Tryd.sizeOf3 W_) (F.slot rfl)) (fun a F => ?_)
      refine sq1 (o_g 34 (.load 3 (.tmp 33)) 3 10 true (by kernel_rfl)) ⟨30, by kernel_rfl, rfl⟩ F (by decide) (⟨H.get 0 rfl, trivial⟩) (v := .int .i64 (k0 + 1)) (fun W_ hV => x_load1 (Tryd.isAgg3 W_) (F.slot rfl) (bcell hV.1 rfl)) (fun a F => ?_)
      refine sq1 (o_g 38 (.load 3 (.tmp 37)) 3 10 true (by kernel_rfl)) ⟨30, by kernel_rfl, rfl⟩ F (by decide) (⟨H.get 0 rfl, trivial⟩) (v := .int .i64 t0) (fun W_ hV => x_load1 (Tryd.isAgg3 W_) (F.slot rfl) (bcell hV.1 rfl)) (fun a F => ?_)
      refine sq0 (o_g 39 (.binOp .lss 3 (.tmp 34) (.tmp 38) 3) 4 10 true (by kernel_rfl)) ⟨30, by kernel_rfl, rfl⟩ F (by decide) (v := .bool (decide ((k0 + 1) < t0))) (fun W_ => x_int (F.slot rfl) (F.slot rfl) rfl) (fun a F => ?_)
      refine q0 (o_s 40 (.pick (.tmp 30) (.tmp 39) (.const (.bool false))) 4 (by kernel_rfl)) F (by decide) (v := .bool (decide ((k0 + 1) < t0))) (fun W_ => x_pickT (F.slot rfl) (F.slot rfl)) (fun a F => ?_)
      unfold wpSeq
      refine t_normal ?_
      rcases bool_or (decide ((k0 + 1) < t0)) with hb5 | hb5
      · have hb5d := of_decide_eq_true hb5
        have F := F.at 40 rfl (v' := .bool true) (congrArg Value.bool hb5)
        refine c_yes (c := .tmp 40) (by kernel_rfl) (F.slot rfl) ?_
        refine c_seq (by kernel_rfl) ?_
        refine c_text (id := 5) (by kernel_rfl) [(0, 2), (1, 2), (2, 2)] (by kernel_rfl) ?_
        refine q2 (o_s 41 (.build 40 #[]) 40 (by kernel_rfl)) F (by decide) (v := .agg #[.int .i64 0, .int .i64 0, .slice none 0 0]) (by simp [ex, execOp, Instr.build, Tryd.zeroValue40, run_underlying Tryd.underlying40, Instr.fill, Value.cells, Tryd.sizeOf3, Tryd.sizeOf38]) (fun a F => ?_)
        refine sq_put (M := [Asn.blk g [.int .i64 a0, .int .i64 s0, .int .i64 t0, .slice A xs.length c, .int .i64 (k0 + 1), .int .i64 n0] 72, Asn.qu k33 33 (.slice A xs.length c) xs ok, Asn.blk g1 [.int .i64 0, .int .i64 0, .slice none 0 0] 40]) (o_n (.store 40 (.tmp 2) (.tmp 41)) 0 (by kernel_rfl)) trivial F (x_store H (k := 2) (cs' := [.int .i64 0, .int .i64 0, .slice none 0 0]) rfl (Tryd.sizeOf40 W) (F.slot rfl) (F.slot rfl) rfl (Nat.le_of_ble_eq_true rfl) rfl rfl) ?_
        intro W H
        refine ⟨(fun _ => trivial), ?_⟩
        refine q2 (o_s 3 (.assign (.const (.bool false))) 4 (by kernel_rfl)) F (by decide) (v := .bool false) (x_assign rfl) (fun a F => ?_)
        unfold wpSeq
        refine t_normal ?_
        refine c_ret (by kernel_rfl) ?_
        refine t_ret ?_
        refine p_list (rs := [.cell 2 40, .tmp 3]) (vs := [.agg #[.int .i64 0, .int .i64 0, .slice none 0 0], .bool false]) Tryd.results21 (by simp) F (Vals.cell' F rfl (H.blk 2 rfl) Tryd.underlying40 rfl (by kernel_rfl) (Vals.tmp' F rfl .nil)) ?_
        exact .inr (.inl ⟨by omega, by omega, by omega, rfl, H.front 2⟩)
      · have hb5d := of_decide_eq_false hb5
        have F := F.at 40 rfl (v' := .bool false) (congrArg Value.bool hb5)
        refine c_no (c := .tmp 40) (by kernel_rfl) (F.slot rfl) ?_
        refine c_skip (by kernel_rfl) ?_
        refine t_normal ?_
        refine c_seq (by kernel_rfl) ?_
        refine c_drawn (id := 6) (by kernel_rfl) (by kernel_rfl) (Vs [Asn.blk g [.int .i64 a0, .int .i64 s0, .int .i64 t0, .slice A xs.length c, .int .i64 (k0 + 1), .int .i64 n0] 72]) [0, 1, 3, 7, 0, 16, 48, 112, 240, 511, 1023] [] [(0, 0), (1, 0), (2, 0), (4, 0), (5, 0), (6, 0), (3, 1), (7, 1), (8, 0), (9, 0), (10, 0)] (by kernel_rfl) (fun _ _ d _ _ h => by cases d <;> exact h) (Vs.drew ⟨H.get 0 rfl, trivial⟩) ?_
        have H := H.drew
        generalize World.drew W = W at H ⊢
        refine q0 (o_s 42 (.move (.tmp 0)) 23 (by kernel_rfl)) F (by decide) (fun W_ => x_move (F.slot rfl)) (fun a F => ?_)
        refine q0 (o_s 43 (.nilCheck (.tmp 42)) 0 (by kernel_rfl)) F (by decide) (v := .pointer (some ⟨g, 0, none⟩)) (fun W_ => x_nil (F.slot rfl)) (fun a F => ?_)
        refine q0 (o_s 44 (.fieldAddr 72 (.tmp 43) 1) 0 (by kernel_rfl)) F (by decide) (v := .pointer (some ⟨g, 1, none⟩)) (fun W_ => x_field0 Tryd.underlying72 rfl rfl (Tryd.sizeOf3 W_) (F.slot rfl)) (fun a F => ?_)
        refine q0 (o_s 46 (.move (.tmp 0)) 23 (by kernel_rfl)) F (by decide) (fun W_ => x_move (F.slot rfl)) (fun a F => ?_)
        refine q0 (o_s 47 (.nilCheck (.tmp 46)) 0 (by kernel_rfl)) F (by decide) (v := .pointer (some ⟨g, 0, none⟩)) (fun W_ => x_nil (F.slot rfl)) (fun a F => ?_)
        refine q0 (o_s 48 (.fieldAddr 72 (.tmp 47) 3) 0 (by kernel_rfl)) F (by decide) (v := .pointer (some ⟨g, 3, none⟩)) (fun W_ => x_field0 Tryd.underlying72 rfl rfl (Tryd.sizeOf38 W_) (F.slot rfl)) (fun a F => ?_)
        refine q1 (o_s 45 (.load 3 (.tmp 44)) 3 (by kernel_rfl)) F (by decide) (⟨H.get 0 rfl, trivial⟩) (v := .int .i64 s0) (fun W_ hV => x_load1 (Tryd.isAgg3 W_) (F.slot rfl) (bcell hV.1 rfl)) (fun a F => ?_)
        refine q1 (o_s 49 (.load 38 (.tmp 48)) 38 (by kernel_rfl)) F (by decide) (⟨H.get 0 rfl, trivial⟩) (v := .slice A xs.length c) (fun W_ hV => x_load1 (Tryd.isAgg38 W_) (F.slot rfl) (bcell hV.1 rfl)) (fun a F => ?_)
        refine q0 (o_s 50 (.call { callee := (.builtin .len), args := #[(.tmp 49)], argTypes := #[38] }) 3 (by kernel_rfl)) F (by decide) (v := .int .i64 (xs.length : Int)) (fun W_ => x_lenL Tryd.underlying38 (F.slot rfl)) (fun a F => ?_)
        refine q0 (o_s 51 (.call { callee := (.builtin .min), args := #[(.tmp 45), (.tmp 50)], argTypes := #[3, 3] }) 3 (by kernel_rfl)) F (by decide) (v := .int .i64 (min s0 (xs.length : Int))) (fun W_ => x_min (F.slot rfl) (F.slot rfl)) (fun a F => ?_)
        refine q0 (o_s 4 (.assign (.tmp 51)) 3 (by kernel_rfl)) F (by decide) (v := .int .i64 (min s0 (xs.length : Int))) (fun W_ => x_assign (F.slot rfl)) (fun a F => ?_)
        unfold wpSeq
        refine t_normal ?_
        refine c_seq (by kernel_rfl) ?_
        obtain ⟨m, hm⟩ : ∃ m : Nat, (m : Int) = min s0 (xs.length : Int) := ⟨(min s0 (xs.length : Int)).toNat, by omega⟩
        have F := F.at 51 rfl (v' := .int .i64 (m : Int)) (congrArg (Value.int .i64) hm.symm)
        have F := F.at 4 rfl (v' := .int .i64 (m : Int)) (congrArg (Value.int .i64) hm.symm)
        have hcl := (H.qu 1 rfl).read.2.1
        refine c_text (id := 7) (by kernel_rfl) [(0, 2), (1, 2), (2, 2), (3, 2), (4, 2), (5, 2), (6, 2), (7, 2)] (by kernel_rfl) ?_
        refine q2 (o_s 52 (.move (.tmp 0)) 23 (by kernel_rfl)) F (by decide) (x_move (F.slot rfl)) (fun a F => ?_)
        refine q2 (o_s 53 (.nilCheck (.tmp 52)) 0 (by kernel_rfl)) F (by decide) (v := .pointer (some ⟨g, 0, none⟩)) (x_nil (F.slot rfl)) (fun a F => ?_)
        refine q2 (o_s 54 (.fieldAddr 72 (.tmp 53) 5) 0 (by kernel_rfl)) F (by decide) (v := .pointer (some ⟨g, 5, none⟩)) (x_field0 Tryd.underlying72 rfl rfl (Tryd.sizeOf3 W) (F.slot rfl)) (fun a F => ?_)
        refine q2 (o_s 55 (.load 3 (.tmp 54)) 3 (by kernel_rfl)) F (by decide) (v := .int .i64 n0) (x_load1 (Tryd.isAgg3 W) (F.slot rfl) (H.cell 0 rfl rfl)) (fun a F => ?_)
        refine q2 (o_s 56 (.binOp .add 3 (.tmp 55) (.const (.int .i64 1)) 3) 3 (by kernel_rfl)) F (by decide) (v := .int .i64 (IntKind.i64.wrap (n0 + 1))) (x_int (F.slot rfl) rfl rfl) (fun a F => ?_)
        have F := F.conv (v' := .int .i64 (n0 + 1)) (congrArg (Value.int .i64) (wrap_i64 _ (by omega) (by omega)))
        refine q2 (o_s 57 (.nilCheck (.tmp 52)) 0 (by kernel_rfl)) F (by decide) (v := .pointer (some ⟨g, 0, none⟩)) (x_nil (F.slot rfl)) (fun a F => ?_)
        refine q2 (o_s 58 (.fieldAddr 72 (.tmp 57) 5) 0 (by kernel_rfl)) F (by decide) (v := .pointer (some ⟨g, 5, none⟩)) (x_field0 Tryd.underlying72 rfl rfl (Tryd.sizeOf3 W) (F.slot rfl)) (fun a F => ?_)
        refine sq_put (M := [Asn.blk g [.int .i64 a0, .int .i64 s0, .int .i64 t0, .slice A xs.length c, .int .i64 (k0 + 1), .int .i64 (n0 + 1)] 72, Asn.qu k33 33 (.slice A xs.length c) xs ok, Asn.blk g1 [.int .i64 0, .int .i64 0, .slice none 0 0] 40]) (o_n (.store 3 (.tmp 58) (.tmp 56)) 0 (by kernel_rfl)) trivial F (x_store H (k := 0) (cs' := [.int .i64 a0, .int .i64 s0, .int .i64 t0, .slice A xs.length c, .int .i64 (k0 + 1), .int .i64 (n0 + 1)]) rfl (Tryd.sizeOf3 W) (F.slot rfl) (F.slot rfl) rfl (Nat.le_of_ble_eq_true rfl) rfl rfl) ?_
        intro W H
        refine ⟨(fun _ => trivial), ?_⟩
        unfold wpSeq
        refine t_normal ?_
        refine c_seq (by kernel_rfl) ?_
        refine c_drawn (id := 8) (by kernel_rfl) (by kernel_rfl) (Vs [Asn.blk g [.int .i64 a0, .int .i64 s0, .int .i64 t0, .slice A xs.length c, .int .i64 (k0 + 1), .int .i64 (n0 + 1)] 72]) [0, 1, 3, 7, 0, 16, 48, 112, 0, 256, 768, 1792, 0, 0, 16128, 32767, 0, 131071] [17] [(0, 0), (1, 0), (2, 0), (4, 0), (5, 0), (6, 0), (8, 0), (9, 0), (10, 0), (12, 0), (13, 0), (3, 1), (7, 1), (11, 1), (14, 0), (15, 0), (16, 2), (17, 2)] (by kernel_rfl) (fun _ _ d _ _ h => by cases d <;> exact h) (Vs.drew ⟨H.get 0 rfl, trivial⟩) ?_
        have H := H.drew
        generalize World.drew W = W at H ⊢
        refine q0 (o_s 59 (.move (.tmp 0)) 23 (by kernel_rfl)) F (by decide) (fun W_ => x_move (F.slot rfl)) (fun a F => ?_)
        refine q0 (o_s 60 (.nilCheck (.tmp 59)) 0 (by kernel_rfl)) F (by decide) (v := .pointer (some ⟨g, 0, none⟩)) (fun W_ => x_nil (F.slot rfl)) (fun a F => ?_)
        refine q0 (o_s 61 (.fieldAddr 72 (.tmp 60) 0) 0 (by kernel_rfl)) F (by decide) (v := .pointer (some ⟨g, 0, none⟩)) (fun W_ => x_field0 Tryd.underlying72 rfl rfl (Tryd.sizeOf3 W_) (F.slot rfl)) (fun a F => ?_)
        refine q0 (o_s 63 (.move (.tmp 0)) 23 (by kernel_rfl)) F (by decide) (fun W_ => x_move (F.slot rfl)) (fun a F => ?_)
        refine q0 (o_s 64 (.nilCheck (.tmp 63)) 0 (by kernel_rfl)) F (by decide) (v := .pointer (some ⟨g, 0, none⟩)) (fun W_ => x_nil (F.slot rfl)) (fun a F => ?_)
        refine q0 (o_s 65 (.fieldAddr 72 (.tmp 64) 5) 0 (by kernel_rfl)) F (by decide) (v := .pointer (some ⟨g, 5, none⟩)) (fun W_ => x_field0 Tryd.underlying72 rfl rfl (Tryd.sizeOf3 W_) (F.slot rfl)) (fun a F => ?_)
        refine q0 (o_s 67 (.move (.tmp 0)) 23 (by kernel_rfl)) F (by decide) (fun W_ => x_move (F.slot rfl)) (fun a F => ?_)
        refine q0 (o_s 68 (.nilCheck (.tmp 67)) 0 (by kernel_rfl)) F (by decide) (v := .pointer (some ⟨g, 0, none⟩)) (fun W_ => x_nil (F.slot rfl)) (fun a F => ?_)
        refine q0 (o_s 69 (.fieldAddr 72 (.tmp 68) 3) 0 (by kernel_rfl)) F (by decide) (v := .pointer (some ⟨g, 3, none⟩)) (fun W_ => x_field0 Tryd.underlying72 rfl rfl (Tryd.sizeOf38 W_) (F.slot rfl)) (fun a F => ?_)
        refine q0 (o_s 71 (.move (.tmp 4)) 3 (by kernel_rfl)) F (by decide) (fun W_ => x_move (F.slot rfl)) (fun a F => ?_)
        refine q0 (o_s 72 (.move (.tmp 4)) 3 (by kernel_rfl)) F (by decide) (fun W_ => x_move (F.slot rfl)) (fun a F => ?_)
        refine q1 (o_s 62 (.load 3 (.tmp 61)) 3 (by kernel_rfl)) F (by decide) (⟨H.get 0 rfl, trivial⟩) (v := .int .i64 a0) (fun W_ hV => x_load1 (Tryd.isAgg3 W_) (F.slot rfl) (bcell hV.1 rfl)) (fun a F => ?_)
        refine q1 (o_s 66 (.load 3 (.tmp 65)) 3 (by kernel_rfl)) F (by decide) (⟨H.get 0 rfl, trivial⟩) (v := .int .i64 (n0 + 1)) (fun W_ hV => x_load1 (Tryd.isAgg3 W_) (F.slot rfl) (bcell hV.1 rfl)) (fun a F => ?_)
        refine q1 (o_s 70 (.load 38 (.tmp 69)) 38 (by kernel_rfl)) F (by decide) (⟨H.get 0 rfl, trivial⟩) (v := .slice A xs.length c) (fun W_ hV => x_load1 (Tryd.isAgg38 W_) (F.slot rfl) (bcell hV.1 rfl)) (fun a F => ?_)
        refine q0 (o_s 73 (.slice 38 (.tmp 70) none (some (.tmp 71)) (some (.tmp 72))) 38 (by kernel_rfl)) F (by decide) (v := .slice A m m) (fun W_ => x_sliceLm Tryd.underlying38 (Tryd.sizeOf33 W_) (F.slot rfl) (F.slot rfl) (F.slot rfl) (by omega)) (fun a F => ?_)
        refine q0 (o_s 74 (.build 40 #[(0, (.tmp 62)), (1, (.tmp 66)), (2, (.tmp 73))]) 40 (by kernel_rfl)) F (by decide) (v := .agg #[.int .i64 a0, .int .i64 (n0 + 1), .slice A m m]) (fun W_ => by simp [ex, execOp, Instr.build, Tryd.zeroValue40, run_underlying Tryd.underlying40, Instr.fill, Value.cells, F.slot (i := 62) rfl, F.slot (i := 66) rfl, F.slot (i := 73) rfl, Tryd.sizeOf3, Tryd.sizeOf38]) (fun a F => ?_)
        refine sq_new (o_s 5 (.alloc 40) 0 (by kernel_rfl)) trivial F (by decide) H [.int .i64 0, .int .i64 0, .slice none 0 0] 40 (x_alloc Tryd.zeroValue40 rfl) ?_
        intro g8 W a hg8 H F
        refine ⟨(fun _ => ⟨H.get 0 rfl, trivial⟩), ?_⟩
        refine sq_put (M := [Asn.blk g [.int .i64 a0, .int .i64 s0, .int .i64 t0, .slice A xs.length c, .int .i64 (k0 + 1), .int .i64 (n0 + 1)] 72, Asn.qu k33 33 (.slice A xs.length c) xs ok, Asn.blk g1 [.int .i64 0, .int .i64 0, .slice none 0 0] 40, Asn.blk g8 [.int .i64 a0, .int .i64 (n0 + 1), .slice A m m] 40]) (o_n (.store 40 (.tmp 5) (.tmp 74)) 0 (by kernel_rfl)) trivial F (x_store H (k := 3) (cs' := [.int .i64 a0, .int .i64 (n0 + 1), .slice A m m]) rfl (Tryd.sizeOf40 W) (F.slot rfl) (F.slot rfl) rfl (Nat.le_of_ble_eq_true rfl) rfl rfl) ?_
        intro W H
        refine ⟨(fun h => absurd (by decide) h), ?_⟩
        unfold wpSeq
        refine t_normal ?_
        refine c_seq (by kernel_rfl) ?_
        refine c_text (id := 9) (by kernel_rfl) [(0, 2), (1, 2), (2, 2), (3, 2), (4, 2), (5, 2), (6, 2), (7, 2), (8, 2), (9, 2), (10, 2), (11, 2), (12, 2), (13, 2)] (by kernel_rfl) ?_
        refine q2 (o_s 75 (.move (.tmp 0)) 23 (by kernel_rfl)) F (by decide) (x_move (F.slot rfl)) (fun a F => ?_)
        refine q2 (o_s 76 (.move (.tmp 0)) 23 (by kernel_rfl)) F (by decide) (x_move (F.slot rfl)) (fun a F => ?_)
        refine q2 (o_s 77 (.move (.tmp 0)) 23 (by kernel_rfl)) F (by decide) (x_move (F.slot rfl)) (fun a F => ?_)
        refine q2 (o_s 78 (.nilCheck (.tmp 77)) 0 (by kernel_rfl)) F (by decide) (v := .pointer (some ⟨g, 0, none⟩)) (x_nil (F.slot rfl)) (fun a F => ?_)
        refine q2 (o_s 79 (.fieldAddr 72 (.tmp 78) 3) 0 (by kernel_rfl)) F (by decide) (v := .pointer (some ⟨g, 3, none⟩)) (x_field0 Tryd.underlying72 rfl rfl (Tryd.sizeOf38 W) (F.slot rfl)) (fun a F => ?_)
        refine q2 (o_s 80 (.load 38 (.tmp 79)) 38 (by kernel_rfl)) F (by decide) (v := .slice A xs.length c) (x_load1 (Tryd.isAgg38 W) (F.slot rfl) (H.cell 0 rfl rfl)) (fun a F => ?_)
        refine q2 (o_s 81 (.move (.tmp 4)) 3 (by kernel_rfl)) F (by decide) (x_move (F.slot rfl)) (fun a F => ?_)
        refine q2 (o_s 82 (.slice 38 (.tmp 80) (some (.tmp 81)) none none) 38 (by kernel_rfl)) F (by decide) (v := .slice (if c = m then A else A.map (·.add (m * 9))) (xs.length - m) (c - m)) (x_sliceLl (z := 9) Tryd.underlying38 (Tryd.sizeOf33 W) (F.slot rfl) (F.slot rfl) (by omega)) (fun a F => ?_)
        refine q2 (o_s 83 (.nilCheck (.tmp 75)) 0 (by kernel_rfl)) F (by decide) (v := .pointer (some ⟨g, 0, none⟩)) (x_nil (F.slot rfl)) (fun a F => ?_)
        refine q2 (o_s 84 (.fieldAddr 72 (.tmp 83) 3) 0 (by kernel_rfl)) F (by decide) (v := .pointer (some ⟨g, 3, none⟩)) (x_field0 Tryd.underlying72 rfl rfl (Tryd.sizeOf38 W) (F.slot rfl)) (fun a F => ?_)
        refine sq_put (M := [Asn.blk g [.int .i64 a0, .int .i64 s0, .int .i64 t0, .slice (if c = m then A else A.map (·.add (m * 9))) (xs.length - m) (c - m), .int .i64 (k0 + 1), .int .i64 (n0 + 1)] 72, Asn.qu k33 33 (.slice A xs.length c) xs ok, Asn.blk g1 [.int .i64 0, .int .i64 0, .slice none 0 0] 40, Asn.blk g8 [.int .i64 a0, .int .i64 (n0 + 1), .slice A m m] 40]) (o_n (.store 38 (.tmp 84) (.tmp 82)) 0 (by kernel_rfl)) trivial F (x_store H (k := 0) (cs' := [.int .i64 a0, .int .i64 s0, .int .i64 t0, .slice (if c = m then A else A.map (·.add (m * 9))) (xs.length - m) (c - m), .int .i64 (k0 + 1), .int .i64 (n0 + 1)]) rfl (Tryd.sizeOf38 W) (F.slot rfl) (F.slot rfl) rfl (Nat.le_of_ble_eq_true rfl) rfl rfl) ?_
        intro W H
        refine ⟨(fun _ => trivial), ?_⟩
        refine q2 (o_s 85 (.nilCheck (.tmp 76)) 0 (by kernel_rfl)) F (by decide) (v := .pointer (some ⟨g, 0, none⟩)) (x_nil (F.slot rfl)) (fun a F => ?_)
        refine q2 (o_s 86 (.fieldAddr 72 (.tmp 85) 4) 0 (by kernel_rfl)) F (by decide) (v := .pointer (some ⟨g, 4, none⟩)) (x_field0 Tryd.underlying72 rfl rfl (Tryd.sizeOf3 W) (F.slot rfl)) (fun a F => ?_)
        refine sq_put (M := [Asn.blk g [.int .i64 a0, .int .i64 s0, .int .i64 t0, .slice (if c = m then A else A.map (·.add (m * 9))) (xs.length - m) (c - m), .int .i64 0, .int .i64 (n0 + 1)] 72, Asn.qu k33 33 (.slice A xs.length c) xs ok, Asn.blk g1 [.int .i64 0, .int .i64 0, .slice none 0 0] 40, Asn.blk g8 [.int .i64 a0, .int .i64 (n0 + 1), .slice A m m] 40]) (o_n (.store 3 (.tmp 86) (.const (.int .i64 0))) 0 (by kernel_rfl)) trivial F (x_store H (k := 0) (cs' := [.int .i64 a0, .int .i64 s0, .int .i64 t0, .slice (if c = m then A else A.map (·.add (m * 9))) (xs.length - m) (c - m), .int .i64 0, .int .i64 (n0 + 1)]) rfl (Tryd.sizeOf3 W) (F.slot rfl) rfl rfl (Nat.le_of_ble_eq_true rfl) rfl rfl) ?_
        intro W H
        refine ⟨(fun _ => trivial), ?_⟩
        unfold wpSeq
        refine t_normal ?_
        refine c_seq (by kernel_rfl) ?_
        refine c_text (id := 10) (by kernel_rfl) [(0, 2), (1, 2), (2, 2)] (by kernel_rfl) ?_
        refine q2 (o_s 87 (.load 40 (.tmp 5)) 40 (by kernel_rfl)) F (by decide) (v := .agg #[.int .i64 a0, .int .i64 (n0 + 1), .slice A m m]) (x_loadB (Tryd.isAgg40 W) [.int .i64 a0, .int .i64 (n0 + 1), .slice A m m] (Tryd.sizeOf40 W) (F.slot rfl) (H.blk 3 rfl)) (fun a F => ?_)
        refine sq_put (M := [Asn.blk g [.int .i64 a0, .int .i64 s0, .int .i64 t0, .slice (if c = m then A else A.map (·.add (m * 9))) (xs.length - m) (c - m), .int .i64 0, .int .i64 (n0 + 1)] 72, Asn.qu k33 33 (.slice A xs.length c) xs ok, Asn.blk g1 [.int .i64 a0, .int .i64 (n0 + 1), .slice A m m] 40, Asn.blk g8 [.int .i64 a0, .int .i64 (n0 + 1), .slice A m m] 40]) (o_n (.store 40 (.tmp 2) (.tmp 87)) 0 (by kernel_rfl)) trivial F (x_store H (k := 2) (cs' := [.int .i64 a0, .int .i64 (n0 + 1), .slice A m m]) rfl (Tryd.sizeOf40 W) (F.slot rfl) (F.slot rfl) rfl (Nat.le_of_ble_eq_true rfl) rfl rfl) ?_
        intro W H
        refine ⟨(fun _ => trivial), ?_⟩
        refine q2 (o_s 3 (.assign (.const (.bool true))) 4 (by kernel_rfl)) F (by decide) (v := .bool true) (x_assign rfl) (fun a F => ?_)
        unfold wpSeq
        refine t_normal ?_
        refine c_ret (by kernel_rfl) ?_
        refine p_list (rs := [.cell 2 40, .tmp 3]) (vs := [.agg #[.int .i64 a0, .int .i64 (n0 + 1), .slice A m m], .bool true]) Tryd.results21 (by simp) F (Vals.cell' F rfl (H.blk 2 rfl) Tryd.underlying40 rfl (by kernel_rfl) (Vals.tmp' F rfl .nil)) ?_
        have H := H.quCut (by decide) 1 rfl m (by omega)
        exact .inr (.inr ⟨by omega, by omega, m, hm, rfl, H.front 2⟩)
    · have hb4d := of_decide_eq_false hb4
      have F := F.at 30 rfl (v' := .bool false) (congrArg Value.bool hb4)
      refine sqoff (e := 30) (o_g 31 (.move (.tmp 0)) 23 10 true (by kernel_rfl)) (by kernel_rfl) (.inl rfl) F (by decide) (fun a F => ?_)
      refine sqoff (e := 30) (o_g 32 (.nilCheck (.tmp 31)) 0 10 true (by kernel_rfl)) (by kernel_rfl) (.inl rfl) F (by decide) (fun a F => ?_)
      refine sqoff (e := 30) (o_g 33 (.fieldAddr 72 (.tmp 32) 4) 0 10 true (by kernel_rfl)) (by kernel_rfl) (.inl rfl) F (by decide) (fun a F => ?_)
      refine sqoff (e := 30) (o_g 35 (.move (.tmp 0)) 23 10 true (by kernel_rfl)) (by kernel_rfl) (.inl rfl) F (by decide) (fun a F => ?_)
      refine sqoff (e := 30) (o_g 36 (.nilCheck (.tmp 35)) 0 10 true (by kernel_rfl)) (by kernel_rfl) (.inl rfl) F (by decide) (fun a F => ?_)
      refine sqoff (e := 30) (o_g 37 (.fieldAddr 72 (.tmp 36) 2) 0 10 true (by kernel_rfl)) (by kernel_rfl) (.inl rfl) F (by decide) (fun a F => ?_)
      refine sqoff1 (e := 30) (o_g 34 (.load 3 (.tmp 33)) 3 10 true (by kernel_rfl)) (by kernel_rfl) (.inl rfl) F (by decide) (⟨H.get 0 rfl, trivial⟩) (fun a F => ?_)
      refine sqoff1 (e := 30) (o_g 38 (.load 3 (.tmp 37)) 3 10 true (by kernel_rfl)) (by kernel_rfl) (.inl rfl) F (by decide) (⟨H.get 0 rfl, trivial⟩) (fun a F => ?_)
      refine sqoff (e := 30) (o_g 39 (.binOp .lss 3 (.tmp 34) (.tmp 38) 3) 4 10 true (by kernel_rfl)) (by kernel_rfl) (.inl rfl) F (by decide) (fun a F => ?_)
      refine q0 (o_s 40 (.pick (.tmp 30) (.tmp 39) (.const (.bool false))) 4 (by kernel_rfl)) F (by decide) (v := .bool false) (fun W_ => x_pickF (F.slot rfl) rfl) (fun a F => ?_)
      unfold wpSeq
      refine t_normal ?_
      refine c_no (c := .tmp 40) (by kernel_rfl) (F.slot rfl) ?_
      refine c_skip (by kernel_rfl) ?_
      refine t_normal ?_
      refine c_seq (by kernel_rfl) ?_
      refine c_drawn (id := 6) (by kernel_rfl) (by kernel_rfl) (Vs [Asn.blk g [.int .i64 a0, .int .i64 s0, .int .i64 t0, .slice A xs.length c, .int .i64 (k0 + 1), .int .i64 n0] 72]) [0, 1, 3, 7, 0, 16, 48, 112, 240, 511, 1023] [] [(0, 0), (1, 0), (2, 0), (4, 0), (5, 0), (6, 0), (3, 1), (7, 1), (8, 0), (9, 0), (10, 0)] (by kernel_rfl) (fun _ _ d _ _ h => by cases d <;> exact h) (Vs.drew ⟨H.get 0 rfl, trivial⟩) ?_
      have H := H.drew
      generalize World.drew W = W at H ⊢
      refine q0 (o_s 42 (.move (.tmp 0)) 23 (by kernel_rfl)) F (by decide) (fun W_ => x_move (F.slot rfl)) (fun a F => ?_)
      refine q0 (o_s 43 (.nilCheck (.tmp 42)) 0 (by kernel_rfl)) F (by decide) (v := .pointer (some ⟨g, 0, none⟩)) (fun W_ => x_nil (F.slot rfl)) (fun a F => ?_)
      refine q0 (o_s 44 (.fieldAddr 72 (.tmp 43) 1) 0 (by kernel_rfl)) F (by decide) (v := .pointer (some ⟨g, 1, none⟩)) (fun W_ => x_field0 Tryd.underlying72 rfl rfl (Tryd.sizeOf3 W_) (F.slot rfl)) (fun a F => ?_)
      refine q0 (o_s 46 (.move (.tmp 0)) 23 (by kernel_rfl)) F (by decide) (fun W_ => x_move (F.slot rfl)) (fun a F => ?_)
      refine q0 (o_s 47 (.nilCheck (.tmp 46)) 0 (by kernel_rfl)) F (by decide) (v := .pointer (some ⟨g, 0, none⟩)) (fun W_ => x_nil (F.slot rfl)) (fun a F => ?_)
      refine q0 (o_s 48 (.fieldAddr 72 (.tmp 47) 3) 0 (by kernel_rfl)) F (by decide) (v := .pointer (some ⟨g, 3, none⟩)) (fun W_ => x_field0 Tryd.underlying72 rfl rfl (Tryd.sizeOf38 W_) (F.slot rfl)) (fun a F => ?_)
      refine q1 (o_s 45 (.load 3 (.tmp 44)) 3 (by kernel_rfl)) F (by decide) (⟨H.get 0 rfl, trivial⟩) (v := .int .i64 s0) (fun W_ hV => x_load1 (Tryd.isAgg3 W_) (F.slot rfl) (bcell hV.1 rfl)) (fun a F => ?_)
      refine q1 (o_s 49 (.load 38 (.tmp 48)) 38 (by kernel_rfl)) F (by decide) (⟨H.get 0 rfl, trivial⟩) (v := .slice A xs.length c) (fun W_ hV => x_load1 (Tryd.isAgg38 W_) (F.slot rfl) (bcell hV.1 rfl)) (fun a F => ?_)
      refine q0 (o_s 50 (.call { callee := (.builtin .len), args := #[(.tmp 49)], argTypes := #[38] }) 3 (by kernel_rfl)) F (by decide) (v := .int .i64 (xs.length : Int)) (fun W_ => x_lenL Tryd.underlying38 (F.slot rfl)) (fun a F => ?_)
      refine q0 (o_s 51 (.call { callee := (.builtin .min), args := #[(.tmp 45), (.tmp 50)], argTypes := #[3, 3] }) 3 (by kernel_rfl)) F (by decide) (v := .int .i64 (min s0 (xs.length : Int))) (fun W_ => x_min (F.slot rfl) (F.slot rfl)) (fun a F => ?_)
      refine q0 (o_s 4 (.assign (.tmp 51)) 3 (by kernel_rfl)) F (by decide) (v := .int .i64 (min s0 (xs.length : Int))) (fun W_ => x_assign (F.slot rfl)) (fun a F => ?_)
      unfold wpSeq
      refine t_normal ?_
      refine c_seq (by kernel_rfl) ?_
      obtain ⟨m, hm⟩ : ∃ m : Nat, (m : Int) = min s0 (xs.length : Int) := ⟨(min s0 (xs.length : Int)).toNat, by omega⟩
      have F := F.at 51 rfl (v' := .int .i64 (m : Int)) (congrArg (Value.int .i64) hm.symm)
      have F := F.at 4 rfl (v' := .int .i64 (m : Int)) (congrArg (Value.int .i64) hm.symm)
      have hcl := (H.qu 1 rfl).read.2.1
      refine c_text (id := 7) (by kernel_rfl) [(0, 2), (1, 2), (2, 2), (3, 2), (4, 2), (5, 2), (6, 2), (7, 2)] (by kernel_rfl) ?_
      refine q2 (o_s 52 (.move (.tmp 0)) 23 (by kernel_rfl)) F (by decide) (x_move (F.slot rfl)) (fun a F => ?_)
      refine q2 (o_s 53 (.nilCheck (.tmp 52)) 0 (by kernel_rfl)) F (by decide) (v := .pointer (some ⟨g, 0, none⟩)) (x_nil (F.slot rfl)) (fun a F => ?_)
      refine q2 (o_s 54 (.fieldAddr 72 (.tmp 53) 5) 0 (by kernel_rfl)) F (by decide) (v := .pointer (some ⟨g, 5, none⟩)) (x_field0 Tryd.underlying72 rfl rfl (Tryd.sizeOf3 W) (F.slot rfl)) (fun a F => ?_)
      refine q2 (o_s 55 (.load 3 (.tmp 54)) 3 (by kernel_rfl)) F (by decide) (v := .int .i64 n0) (x_load1 (Tryd.isAgg3 W) (F.slot rfl) (H.cell 0 rfl rfl)) (fun a F => ?_)
      refine q2 (o_s 56 (.binOp .add 3 (.tmp 55) (.const (.int .i64 1)) 3) 3 (by kernel_rfl)) F (by decide) (v := .int .i64 (IntKind.i64.wrap (n0 + 1))) (x_int (F.slot rfl) rfl rfl) (fun a F => ?_)
      have F := F.conv (v' := .int .i64 (n0 + 1)) (congrArg (Value.int .i64) (wrap_i64 _ (by omega) (by omega)))
      refine q2 (o_s 57 (.nilCheck (.tmp 52)) 0 (by kernel_rfl)) F (by decide) (v := .pointer (some ⟨g, 0, none⟩)) (x_nil (F.slot rfl)) (fun a F => ?_)
      refine q2 (o_s 58 (.fieldAddr 72 (.tmp 57) 5) 0 (by kernel_rfl)) F (by decide) (v := .pointer (some ⟨g, 5, none⟩)) (x_field0 Tryd.underlying72 rfl rfl (Tryd.sizeOf3 W) (F.slot rfl)) (fun a F => ?_)
      refine sq_put (M := [Asn.blk g [.int .i64 a0, .int .i64 s0, .int .i64 t0, .slice A xs.length c, .int .i64 (k0 + 1), .int .i64 (n0 + 1)] 72, Asn.qu k33 33 (.slice A xs.length c) xs ok, Asn.blk g1 [.int .i64 0, .int .i64 0, .slice none 0 0] 40]) (o_n (.store 3 (.tmp 58) (.tmp 56)) 0 (by kernel_rfl)) trivial F (x_store H (k := 0) (cs' := [.int .i64 a0, .int .i64 s0, .int .i64 t0, .slice A xs.length c, .int .i64 (k0 + 1), .int .i64 (n0 + 1)]) rfl (Tryd.sizeOf3 W) (F.slot rfl) (F.slot rfl) rfl (Nat.le_of_ble_eq_true rfl) rfl rfl) ?_
      intro W H
      refine ⟨(fun _ => trivial), ?_⟩
      unfold wpSeq
      refine t_normal ?_
      refine c_seq (by kernel_rfl) ?_
      refine c_drawn (id := 8) (by kernel_rfl) (by kernel_rfl) (Vs [Asn.blk g [.int .i64 a0, .int .i64 s0, .int .i64 t0, .slice A xs.length c, .int .i64 (k0 + 1), .int .i64 (n0 + 1)] 72]) [0, 1, 3, 7, 0, 16, 48, 112, 0, 256, 768, 1792, 0, 0, 16128, 32767, 0, 131071] [17] [(0, 0), (1, 0), (2, 0), (4, 0), (5, 0), (6, 0), (8, 0), (9, 0), (10, 0), (12, 0), (13, 0), (3, 1), (7, 1), (11, 1), (14, 0), (15, 0), (16, 2), (17, 2)] (by kernel_rfl) (fun _ _ d _ _ h => by cases d <;> exact h) (Vs.drew ⟨H.get 0 rfl, trivial⟩) ?_
      have H := H.drew
      generalize World.drew W = W at H ⊢
      refine q0 (o_s 59 (.move (.tmp 0)) 23 (by kernel_rfl)) F (by decide) (fun W_ => x_move (F.slot rfl)) (fun a F => ?_)
      refine q0 (o_s 60 (.nilCheck (.tmp 59)) 0 (by kernel_rfl)) F (by decide) (v := .pointer (some ⟨g, 0, none⟩)) (fun W_ => x_nil (F.slot rfl)) (fun a F => ?_)
      refine q0 (o_s 61 (.fieldAddr 72 (.tmp 60) 0) 0 (by kernel_rfl)) F (by decide) (v := .pointer (some ⟨g, 0, none⟩)) (fun W_ => x_field0 Tryd.underlying72 rfl rfl (Tryd.sizeOf3 W_) (F.slot rfl)) (fun a F => ?_)
      refine q0 (o_s 63 (.move (.tmp 0)) 23 (by kernel_rfl)) F (by decide) (fun W_ => x_move (F.slot rfl)) (fun a F => ?_)
      refine q0 (o_s 64 (.nilCheck (.tmp 63)) 0 (by kernel_rfl)) F (by decide) (v := .pointer (some ⟨g, 0, none⟩)) (fun W_ => x_nil (F.slot rfl)) (fun a F => ?_)
      refine q0 (o_s 65 (.fieldAddr 72 (.tmp 64) 5) 0 (by kernel_rfl)) F (by decide) (v := .pointer (some ⟨g, 5, none⟩)) (fun W_ => x_field0 Tryd.underlying72 rfl rfl (Tryd.sizeOf3 W_) (F.slot rfl)) (fun a F => ?_)
      refine q0 (o_s 67 (.move (.tmp 0)) 23 (by kernel_rfl)) F (by decide) (fun W_ => x_move (F.slot rfl)) (fun a F => ?_)
      refine q0 (o_s 68 (.nilCheck (.tmp 67)) 0 (by kernel_rfl)) F (by decide) (v := .pointer (some ⟨g, 0, none⟩)) (fun W_ => x_nil (F.slot rfl)) (fun a F => ?_)
      refine q0 (o_s 69 (.fieldAddr 72 (.tmp 68) 3) 0 (by kernel_rfl)) F (by decide) (v := .pointer (some ⟨g, 3, none⟩)) (fun W_ => x_field0 Tryd.underlying72 rfl rfl (Tryd.sizeOf38 W_) (F.slot rfl)) (fun a F => ?_)
      refine q0 (o_s 71 (.move (.tmp 4)) 3 (by kernel_rfl)) F (by decide) (fun W_ => x_move (F.slot rfl)) (fun a F => ?_)
      refine q0 (o_s 72 (.move (.tmp 4)) 3 (by kernel_rfl)) F (by decide) (fun W_ => x_move (F.slot rfl)) (fun a F => ?_)
      refine q1 (o_s 62 (.load 3 (.tmp 61)) 3 (by kernel_rfl)) F (by decide) (⟨H.get 0 rfl, trivial⟩) (v := .int .i64 a0) (fun W_ hV => x_load1 (Tryd.isAgg3 W_) (F.slot rfl) (bcell hV.1 rfl)) (fun a F => ?_)
      refine q1 (o_s 66 (.load 3 (.tmp 65)) 3 (by kernel_rfl)) F (by decide) (⟨H.get 0 rfl, trivial⟩) (v := .int .i64 (n0 + 1)) (fun W_ hV => x_load1 (Tryd.isAgg3 W_) (F.slot rfl) (bcell hV.1 rfl)) (fun a F => ?_)
      refine q1 (o_s 70 (.load 38 (.tmp 69)) 38 (by kernel_rfl)) F (by decide) (⟨H.get 0 rfl, trivial⟩) (v := .slice A xs.length c) (fun W_ hV => x_load1 (Tryd.isAgg38 W_) (F.slot rfl) (bcell hV.1 rfl)) (fun a F => ?_)
      refine q0 (o_s 73 (.slice 38 (.tmp 70) none (some (.tmp 71)) (some (.tmp 72))) 38 (by kernel_rfl)) F (by decide) (v := .slice A m m) (fun W_ => x_sliceLm Tryd.underlying38 (Tryd.sizeOf33 W_) (F.slot rfl) (F.slot rfl) (F.slot rfl) (by omega)) (fun a F => ?_)
      refine q0 (o_s 74 (.build 40 #[(0, (.tmp 62)), (1, (.tmp 66)), (2, (.tmp 73))]) 40 (by kernel_rfl)) F (by decide) (v := .agg #[.int .i64 a0, .int .i64 (n0 + 1), .slice A m m]) (fun W_ => by simp [ex, execOp, Instr.build, Tryd.zeroValue40, run_underlying Tryd.underlying40, Instr.fill, Value.cells, F.slot (i := 62) rfl, F.slot (i := 66) rfl, F.slot (i := 73) rfl, Tryd.sizeOf3, Tryd.sizeOf38]) (fun a F => ?_)
      refine sq_new (o_s 5 (.alloc 40) 0 (by kernel_rfl)) trivial F (by decide) H [.int .i64 0, .int .i64 0, .slice none 0 0] 40 (x_alloc Tryd.zeroValue40 rfl) ?_
      intro g11 W a hg11 H F
      refine ⟨(fun _ => ⟨H.get 0 rfl, trivial⟩), ?_⟩
      refine sq_put (M := [Asn.blk g [.int .i64 a0, .int .i64 s0, .int .i64 t0, .slice A xs.length c, .int .i64 (k0 + 1), .int .i64 (n0 + 1)] 72, Asn.qu k33 33 (.slice A xs.length c) xs ok, Asn.blk g1 [.int .i64 0, .int .i64 0, .slice none 0 0] 40, Asn.blk g11 [.int .i64 a0, .int .i64 (n0 + 1), .slice A m m] 40]) (o_n (.store 40 (.tmp 5) (.tmp 74)) 0 (by kernel_rfl)) trivial F (x_store H (k := 3) (cs' := [.int .i64 a0, .int .i64 (n0 + 1), .slice A m m]) rfl (Tryd.sizeOf40 W) (F.slot rfl) (F.slot rfl) rfl (Nat.le_of_ble_eq_true rfl) rfl rfl) ?_
      intro W H
      refine ⟨(fun h => absurd (by decide) h), ?_⟩
      unfold wpSeq
      refine t_normal ?_
      refine c_seq (by kernel_rfl) ?_
      refine c_text (id := 9) (by kernel_rfl) [(0, 2), (1, 2), (2, 2), (3, 2), (4, 2), (5, 2), (6, 2), (7, 2), (8, 2), (9, 2), (10, 2), (11, 2), (12, 2), (13, 2)] (by kernel_rfl) ?_
      refine q2 (o_s 75 (.move (.tmp 0)) 23 (by kernel_rfl)) F (by decide) (x_move (F.slot rfl)) (fun a F => ?_)
      refine q2 (o_s 76 (.move (.tmp 0)) 23 (by kernel_rfl)) F (by decide) (x_move (F.slot rfl)) (fun a F => ?_)
      refine q2 (o_s 77 (.move (.tmp 0)) 23 (by kernel_rfl)) F (by decide) (x_move (F.slot rfl)) (fun a F => ?_)
      refine q2 (o_s 78 (.nilCheck (.tmp 77)) 0 (by kernel_rfl)) F (by decide) (v := .pointer (some ⟨g, 0, none⟩)) (x_nil (F.slot rfl)) (fun a F => ?_)
      refine q2 (o_s 79 (.fieldAddr 72 (.tmp 78) 3) 0 (by kernel_rfl)) F (by decide) (v := .pointer (some ⟨g, 3, none⟩)) (x_field0 Tryd.underlying72 rfl rfl (Tryd.sizeOf38 W) (F.slot rfl)) (fun a F => ?_)
      refine q2 (o_s 80 (.load 38 (.tmp 79)) 38 (by kernel_rfl)) F (by decide) (v := .slice A xs.length c) (x_load1 (Tryd.isAgg38 W) (F.slot rfl) (H.cell 0 rfl rfl)) (fun a F => ?_)
      refine q2 (o_s 81 (.move (.tmp 4)) 3 (by kernel_rfl)) F (by decide) (x_move (F.slot rfl)) (fun a F => ?_)
      refine q2 (o_s 82 (.slice 38 (.tmp 80) (some (.tmp 81)) none none) 38 (by kernel_rfl)) F (by decide) (v := .slice (if c = m then A else A.map (·.add (m * 9))) (xs.length - m) (c - m)) (x_sliceLl (z := 9) Tryd.underlying38 (Tryd.sizeOf33 W) (F.slot rfl) (F.slot rfl) (by omega)) (fun a F => ?_)
      refine q2 (o_s 83 (.nilCheck (.tmp 75)) 0 (by kernel_rfl)) F (by decide) (v := .pointer (some ⟨g, 0, none⟩)) (x_nil (F.slot rfl)) (fun a F => ?_)
      refine q2 (o_s 84 (.fieldAddr 72 (.tmp 83) 3) 0 (by kernel_rfl)) F (by decide) (v := .pointer (some ⟨g, 3, none⟩)) (x_field0 Tryd.underlying72 rfl rfl (Tryd.sizeOf38 W) (F.slot rfl)) (fun a F => ?_)
      refine sq_put (M := [Asn.blk g [.int .i64 a0, .int .i64 s0, .int .i64 t0, .slice (if c = m then A else A.map (·.add (m * 9))) (xs.length - m) (c - m), .int .i64 (k0 + 1), .int .i64 (n0 + 1)] 72, Asn.qu k33 33 (.slice A xs.length c) xs ok, Asn.blk g1 [.int .i64 0, .int .i64 0, .slice none 0 0] 40, Asn.blk g11 [.int .i64 a0, .int .i64 (n0 + 1), .slice A m m] 40]) (o_n (.store 38 (.tmp 84) (.tmp 82)) 0 (by kernel_rfl)) trivial F (x_store H (k := 0) (cs' := [.int .i64 a0, .int .i64 s0, .int .i64 t0, .slice (if c = m then A else A.map (·.add (m * 9))) (xs.length - m) (c - m), .int .i64 (k0 + 1), .int .i64 (n0 + 1)]) rfl (Tryd.sizeOf38 W) (F.slot rfl) (F.slot rfl) rfl (Nat.le_of_ble_eq_true rfl) rfl rfl) ?_
      intro W H
      refine ⟨(fun _ => trivial), ?_⟩
      refine q2 (o_s 85 (.nilCheck (.tmp 76)) 0 (by kernel_rfl)) F (by decide) (v := .pointer (some ⟨g, 0, none⟩)) (x_nil (F.slot rfl)) (fun a F => ?_)
      refine q2 (o_s 86 (.fieldAddr 72 (.tmp 85) 4) 0 (by kernel_rfl)) F (by decide) (v := .pointer (some ⟨g, 4, none⟩)) (x_field0 Tryd.underlying72 rfl rfl (Tryd.sizeOf3 W) (F.slot rfl)) (fun a F => ?_)
      refine sq_put (M := [Asn.blk g [.int .i64 a0, .int .i64 s0, .int .i64 t0, .slice (if c = m then A else A.map (·.add (m * 9))) (xs.length - m) (c - m), .int .i64 0, .int .i64 (n0 + 1)] 72, Asn.qu k33 33 (.slice A xs.length c) xs ok, Asn.blk g1 [.int .i64 0, .int .i64 0, .slice none 0 0] 40, Asn.blk g11 [.int .i64 a0, .int .i64 (n0 + 1), .slice A m m] 40]) (o_n (.store 3 (.tmp 86) (.const (.int .i64 0))) 0 (by kernel_rfl)) trivial F (x_store H (k := 0) (cs' := [.int .i64 a0, .int .i64 s0, .int .i64 t0, .slice (if c = m then A else A.map (·.add (m * 9))) (xs.length - m) (c - m), .int .i64 0, .int .i64 (n0 + 1)]) rfl (Tryd.sizeOf3 W) (F.slot rfl) rfl rfl (Nat.le_of_ble_eq_true rfl) rfl rfl) ?_
      intro W H
      refine ⟨(fun _ => trivial), ?_⟩
      unfold wpSeq
      refine t_normal ?_
      refine c_seq (by kernel_rfl) ?_
      refine c_text (id := 10) (by kernel_rfl) [(0, 2), (1, 2), (2, 2)] (by kernel_rfl) ?_
      refine q2 (o_s 87 (.load 40 (.tmp 5)) 40 (by kernel_rfl)) F (by decide) (v := .agg #[.int .i64 a0, .int .i64 (n0 + 1), .slice A m m]) (x_loadB (Tryd.isAgg40 W) [.int .i64 a0, .int .i64 (n0 + 1), .slice A m m] (Tryd.sizeOf40 W) (F.slot rfl) (H.blk 3 rfl)) (fun a F => ?_)
      refine sq_put (M := [Asn.blk g [.int .i64 a0, .int .i64 s0, .int .i64 t0, .slice (if c = m then A else A.map (·.add (m * 9))) (xs.length - m) (c - m), .int .i64 0, .int .i64 (n0 + 1)] 72, Asn.qu k33 33 (.slice A xs.length c) xs ok, Asn.blk g1 [.int .i64 a0, .int .i64 (n0 + 1), .slice A m m] 40, Asn.blk g11 [.int .i64 a0, .int .i64 (n0 + 1), .slice A m m] 40]) (o_n (.store 40 (.tmp 2) (.tmp 87)) 0 (by kernel_rfl)) trivial F (x_store H (k := 2) (cs' := [.int .i64 a0, .int .i64 (n0 + 1), .slice A m m]) rfl (Tryd.sizeOf40 W) (F.slot rfl) (F.slot rfl) rfl (Nat.le_of_ble_eq_true rfl) rfl rfl) ?_
      intro W H
      refine ⟨(fun _ => trivial), ?_⟩
      refine q2 (o_s 3 (.assign (.const (.bool true))) 4 (by kernel_rfl)) F (by decide) (v := .bool true) (x_assign rfl) (fun a F => ?_)
      unfold wpSeq
      refine t_normal ?_
      refine c_ret (by kernel_rfl) ?_
      refine p_list (rs := [.cell 2 40, .tmp 3]) (vs := [.agg #[.int .i64 a0, .int .i64 (n0 + 1), .slice A m m], .bool true]) Tryd.results21 (by simp) F (Vals.cell' F rfl (H.blk 2 rfl) Tryd.underlying40 rfl (by kernel_rfl) (Vals.tmp' F rfl .nil)) ?_
      have H := H.quCut (by decide) 1 rfl m (by omega)
      exact .inr (.inr ⟨by omega, by omega, m, hm, rfl, H.front 2⟩)
end Go.Proofs.YtndicjikjcifaaaDoor

/- The document's sealer: Tick. -/
namespace Go.Proofs.YtndicjikjcifaaaDoor
open Go.RowKit Go.Proofs.YtndicjikjcifaaaDoorW.PrintWords Go.Proofs.YtndicjikjcifaaaDoorW.PrintLast
set_option linter.unusedVariables false
set_option linter.unusedSimpArgs false
set_option maxRecDepth 100000
open PB (S33 k33)
def RTicked (g : Nat) (a0 s0 t0 k0 n0 : Int) (A : Option Addr) (c : Nat) (xs : List S33) (ok : Nat → Prop) (w : World) (Sf Rf : Nat → Prop) (e : Ending) (W : World) : Prop :=
  (xs.length = 0 ∧ e = .returned (.tuple #[.agg #[.int .i64 0, .int .i64 0, .slice none 0 0], .bool false]) ∧ St w Sf Rf [Asn.blk g [.int .i64 a0, .int .i64 s0, .int .i64 t0, .slice A xs.length c, .int .i64 k0, .int .i64 n0] 46, Asn.qu k33 33 (.slice A xs.length c) xs ok] W) ∨
  (xs.length ≠ 0 ∧ (xs.length : Int) < s0 ∧ k0 + 1 < t0 ∧ e = .returned (.tuple #[.agg #[.int .i64 0, .int .i64 0, .slice none 0 0], .bool false]) ∧ St w Sf Rf [Asn.blk g [.int .i64 a0, .int .i64 s0, .int .i64 t0, .slice A xs.length c, .int .i64 (k0 + 1), .int .i64 n0] 46, Asn.qu k33 33 (.slice A xs.length c) xs ok] W) ∨
  (xs.length ≠ 0 ∧ ¬ ((xs.length : Int) < s0 ∧ k0 + 1 < t0) ∧ ∃ (m : Nat) (A' : Option Addr) (c' : Nat) (ok' : Nat → Prop), (m : Int) = min s0 (xs.length : Int) ∧ (xs.take m).length ≤ c' ∧ e = .returned (.tuple #[.agg #[.int .i64 a0, .int .i64 (n0 + 1), .slice A' (xs.take m).length c'], .bool true]) ∧
    St w Sf Rf [Asn.blk g [.int .i64 a0, .int .i64 s0, .int .i64 t0, .slice (if c = m then A else A.map (·.add (m * 9))) (xs.length - m) (c - m), .int .i64 0, .int .i64 (n0 + 1)] 46, Asn.qu k33 33 (.slice (if c = m then A else A.map (·.add (m * 9))) (xs.length - m) (c - m)) (xs.drop m) ok, Asn.rd k33 ok' A' (xs.take m).length (xs.take m)] W)
end Go.Proofs.YtndicjikjcifaaaDoor

/- The program's sealer: Waits. -/
namespace Go.Proofs.YtndicjikjcifaaaDoor
open Go.RowKit Go.Proofs.YtndicjikjcifaaaDoorW.PrintWords Go.Proofs.YtndicjikjcifaaaDoorW.PrintLast
set_option linter.unusedVariables false
set_option linter.unusedSimpArgs false
set_option maxRecDepth 100000
theorem waits_calls (g : Nat) (a0 s0 t0 k0 n0 : Int) (A : Option Addr) (n c : Nat) (w : World) {Sf Rf : Nat → Prop} (H : St w Sf Rf [Asn.blk g [.int .i64 a0, .int .i64 s0, .int .i64 t0, .slice A n c, .int .i64 k0, .int .i64 n0] 72] w) : Calls Tryd.prog 24 #[.pointer (some ⟨g, 0, none⟩)] w fun e W => e = .returned (.int .i64 (n : Int)) ∧ St w Sf Rf [Asn.blk g [.int .i64 a0, .int .i64 s0, .int .i64 t0, .slice A n c, .int .i64 k0, .int .i64 n0] 72] W := by
  refine c_enter2 (args := [.pointer (some ⟨g, 0, none⟩)]) (S := Sf) (R := Rf) (M := [Asn.blk g [.int .i64 a0, .int .i64 s0, .int .i64 t0, .slice A n c, .int .i64 k0, .int .i64 n0] 72]) Tryd.func24 (by kernel_rfl) 8 Tryd.ntmps24 (Nat.le_of_ble_eq_true rfl) (H) (fun a W F H => ?_)
  have F := F.less [(0, .pointer (some ⟨g, 0, none⟩))] (subc rfl sub0)
  refine c_seq (by kernel_rfl) ?_
  refine c_text (id := 0) (by kernel_rfl) [(0, 2)] (by kernel_rfl) ?_
  refine q2 (o_s 2 (.assign (.const (.int .i64 0))) 3 (by kernel_rfl)) F (by decide) (v := .int .i64 0) (x_assign rfl) (fun a F => ?_)
  unfold wpSeq
  have H : St w Sf Rf [Asn.blk g [.int .i64 a0, .int .i64 s0, .int .i64 t0, .slice A n c, .int .i64 k0, .int .i64 n0] 72] W := H
  refine t_normal ?_
  refine c_seq (by kernel_rfl) ?_
  refine c_text (id := 1) (by kernel_rfl) [(0, 2), (1, 2), (2, 2), (3, 2), (4, 2), (5, 2)] (by kernel_rfl) ?_
  refine q2 (o_s 3 (.move (.tmp 0)) 23 (by kernel_rfl)) F (by decide) (x_move (F.slot rfl)) (fun a F => ?_)
  refine q2 (o_s 4 (.nilCheck (.tmp 3)) 0 (by kernel_rfl)) F (by decide) (v := .pointer (some ⟨g, 0, none⟩)) (x_nil (F.slot rfl)) (fun a F => ?_)
  refine q2 (o_s 5 (.fieldAddr 72 (.tmp 4) 3) 0 (by kernel_rfl)) F (by decide) (v := .pointer (some ⟨g, 3, none⟩)) (x_field0 Tryd.underlying72 rfl rfl (Tryd.sizeOf38 W) (F.slot rfl)) (fun a F => ?_)
  refine q2 (o_s 6 (.load 38 (.tmp 5)) 38 (by kernel_rfl)) F (by decide) (v := .slice A n c) (x_load1 (Tryd.isAgg38 W) (F.slot rfl) (H.cell 0 rfl rfl)) (fun a F => ?_)
  refine q2 (o_s 7 (.call { callee := (.builtin .len), args := #[(.tmp 6)], argTypes := #[38] }) 3 (by kernel_rfl)) F (by decide) (v := .int .i64 (n : Int)) (x_lenL Tryd.underlying38 (F.slot rfl)) (fun a F => ?_)
  refine q2 (o_s 2 (.assign (.tmp 7)) 3 (by kernel_rfl)) F (by decide) (v := .int .i64 (n : Int)) (x_assign (F.slot rfl)) (fun a F => ?_)
  unfold wpSeq
  refine t_normal ?_
  refine c_ret (by kernel_rfl) ?_
  refine p_tmp Tryd.results24 F rfl ?_
  exact ⟨rfl, H⟩
end Go.Proofs.YtndicjikjcifaaaDoor
