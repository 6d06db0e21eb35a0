/- Texts joined by wip/tools/slim2.py: POwx1, Opens, Txown, Sealp, Seals, Opsl. -/
import Derived.Test.YtndicjikjcifaaaDoorJ4
import Derived.Test.YtndicjikjcifaaaDoorJ1
import Derived.ChangeArms
import Derived.Deep.Slices
import Derived.SizedLaws
import Derived.ChangeShapes
import Derived.DataShut
namespace Go.Proofs.YtndicjikjcifaaaDoor.POw
open Go.RowKit Go.Proofs.YtndicjikjcifaaaDoorW.PrintWords Go.Proofs.YtndicjikjcifaaaDoorW.PrintLast Go.Proofs.YtndicjikjcifaaaDoorW.PrintMore
attribute [local go_sem] max2_int min2_int max_two min_two max_three min_three max_four min_four   -- for this text's walks alone
set_option linter.unusedVariables false
set_option linter.unusedSimpArgs false

/-! ### tusklaw04_Own: function 19 -/
def tusklaw04_Own.f (a0_0 : Int) (a0_1 : ByteArray) (a0_2 : ByteArray) (a0_3 : Int) (a0_4 : Int) (a0_5 : ByteArray) (a0_6 : ByteArray) (l0_7 : List ByteArray) (l0_8 : List ByteArray) : Option (Int × ByteArray × ByteArray × Int × Int × ByteArray × ByteArray × List ByteArray × List ByteArray) := (some (([] : List ByteArray) : List ByteArray)).bind fun y103 => (if y103.length + l0_7.length < 8796093022208 then ((some (([] : List ByteArray) : List ByteArray)).bind fun y109 => (if y109.length + l0_8.length < 8796093022208 then (some (a0_0, a0_1, a0_2, a0_3, a0_4, a0_5, a0_6, (y103 ++ l0_7), (y109 ++ l0_8))) else (none))) else (none))
set_option maxHeartbeats 8000000 in
set_option maxRecDepth 100000 in
theorem tusklaw04_Own.calls (a0_0 : Int) (a0_1 : ByteArray) (a0_2 : ByteArray) (a0_3 : Int) (a0_4 : Int) (a0_5 : ByteArray) (a0_6 : ByteArray) (A0_7 : Option Addr) (c0_7 : Nat) (l0_7 : List ByteArray) (A0_8 : Option Addr) (c0_8 : Nat) (l0_8 : List ByteArray) (r1 : Int) (r2 : ByteArray) (r3 : ByteArray) (r4 : Int) (r5 : Int) (r6 : ByteArray) (r7 : ByteArray) (r8 : List ByteArray) (r9 : List ByteArray) (w : World) (hr0_7 : Kd.C Kd.string w A0_7 l0_7.length l0_7) (hc0_7 : l0_7.length ≤ c0_7) (hr0_8 : Kd.C Kd.string w A0_8 l0_8.length l0_8) (hc0_8 : l0_8.length ≤ c0_8) (h : tusklaw04_Own.f a0_0 a0_1 a0_2 a0_3 a0_4 a0_5 a0_6 l0_7 l0_8 = some (r1, r2, r3, r4, r5, r6, r7, r8, r9)) :
    Calls Tryd.prog 19 #[.agg #[.int .i64 a0_0, .string a0_1, .string a0_2, .int .u64 a0_3, .int .u64 a0_4, .string a0_5, .string a0_6, .slice A0_7 l0_7.length c0_7, .slice A0_8 l0_8.length c0_8]] w fun e w' => ∃ v7_ v8_ : Value, e = .returned (.agg #[.int .i64 r1, .string r2, .string r3, .int .u64 r4, .int .u64 r5, .string r6, .string r7, v7_, v8_]) ∧ Kd.R Kd.string 9 w' w.heap.size (fun k_ => some k_ ≠ (v8_ : Value).ownBlock) v7_ r8 ∧ Kd.R Kd.string 9 w' w.heap.size (fun k_ => some k_ ≠ (v7_ : Value).ownBlock) v8_ r9 ∧ Below w.heap.size w w' := by
  have hu33 := Tryd.underlying33
  have HR0_7 := Aside0.mk hr0_7
  have HC0_7 := Aside0.mk hc0_7
  clear hr0_7 hc0_7
  have HR0_8 := Aside0.mk hr0_8
  have HC0_8 := Aside0.mk hc0_8
  clear hr0_8 hc0_8
  have HB := Aside0.mk (Below.refl w.heap.size w)
  have H : ((some (([] : List ByteArray) : List ByteArray)).bind fun y103 => (if y103.length + l0_7.length < 8796093022208 then ((some (([] : List ByteArray) : List ByteArray)).bind fun y109 => (if y109.length + l0_8.length < 8796093022208 then (some (a0_0, a0_1, a0_2, a0_3, a0_4, a0_5, a0_6, (y103 ++ l0_7), (y109 ++ l0_8))) else (none))) else (none))) = some (r1, r2, r3, r4, r5, r6, r7, r8, r9) := h
  clear h
  obtain ⟨y103, hy103⟩ : ∃ y_ : List ByteArray, y_ = (([] : List ByteArray)) := ⟨_, rfl⟩
  replace H : (if y103.length + l0_7.length < 8796093022208 then ((some (([] : List ByteArray) : List ByteArray)).bind fun y109 => (if y109.length + l0_8.length < 8796093022208 then (some (a0_0, a0_1, a0_2, a0_3, a0_4, a0_5, a0_6, (y103 ++ l0_7), (y109 ++ l0_8))) else (none))) else (none)) = some (r1, r2, r3, r4, r5, r6, r7, r8, r9) := by first | (rw [hy103]; with_reducible exact H) | (have H2_ := (Option.bind_some _ _).symm.trans H; rw [hy103]; with_reducible exact H2_) | (have H2_ := (Option.bind_some _ _).symm.trans H; with_reducible exact H2_) | with_reducible exact H | (rw [hy103]; exact H) | exact H
  have Ny103 := Aside0.mk hy103
  clear hy103
  by_cases c2 : y103.length + l0_7.length < 8796093022208
  · rw [if_pos c2] at H
    have LMc2 := Aside0.mk c2
    clear c2
    obtain ⟨y106, hy106⟩ : ∃ y_ : List ByteArray, y_ = (y103 ++ l0_7) := ⟨_, rfl⟩
    replace H : ((some (([] : List ByteArray) : List ByteArray)).bind fun y109 => (if y109.length + l0_8.length < 8796093022208 then (some (a0_0, a0_1, a0_2, a0_3, a0_4, a0_5, a0_6, y106, (y109 ++ l0_8))) else (none))) = some (r1, r2, r3, r4, r5, r6, r7, r8, r9) := by first | (rw [hy106]; with_reducible exact H) | (have H2_ := (Option.bind_some _ _).symm.trans H; rw [hy106]; with_reducible exact H2_) | (have H2_ := (Option.bind_some _ _).symm.trans H; with_reducible exact H2_) | with_reducible exact H | (rw [hy106]; exact H) | exact H
    have Ny106 := Aside0.mk hy106
    clear hy106
    obtain ⟨y109, hy109⟩ : ∃ y_ : List ByteArray, y_ = (([] : List ByteArray)) := ⟨_, rfl⟩
    replace H : (if y109.length + l0_8.length < 8796093022208 then (some (a0_0, a0_1, a0_2, a0_3, a0_4, a0_5, a0_6, y106, (y109 ++ l0_8))) else (none)) = some (r1, r2, r3, r4, r5, r6, r7, r8, r9) := by first | (rw [hy109]; with_reducible exact H) | (have H2_ := (Option.bind_some _ _).symm.trans H; rw [hy109]; with_reducible exact H2_) | (have H2_ := (Option.bind_some _ _).symm.trans H; with_reducible exact H2_) | with_reducible exact H | (rw [hy109]; exact H) | exact H
    have Ny109 := Aside0.mk hy109
    clear hy109
    by_cases c3 : y109.length + l0_8.length < 8796093022208
    · rw [if_pos c3] at H
      have LMc3 := Aside0.mk c3
      clear c3
      obtain ⟨y112, hy112⟩ : ∃ y_ : List ByteArray, y_ = (y109 ++ l0_8) := ⟨_, rfl⟩
      replace H : (some (a0_0, a0_1, a0_2, a0_3, a0_4, a0_5, a0_6, y106, y112)) = some (r1, r2, r3, r4, r5, r6, r7, r8, r9) := by first | (rw [hy112]; with_reducible exact H) | (have H2_ := (Option.bind_some _ _).symm.trans H; rw [hy112]; with_reducible exact H2_) | (have H2_ := (Option.bind_some _ _).symm.trans H; with_reducible exact H2_) | with_reducible exact H | (rw [hy112]; exact H) | exact H
      have Ny112 := Aside0.mk hy112
      clear hy112
      simp only [Option.some.injEq, Prod.mk.injEq] at H
      obtain ⟨rfl, rfl, rfl, rfl, rfl, rfl, rfl, rfl, rfl⟩ := H
      go_enter Tryd.func19, Tryd.ntmps19
      go_wp2_with (first | ((with_reducible refine gate_dst (N := 1) rfl ?_); refine box_event ?hg (N := 1) ?hd (cs := #[.int .i64 a0_0, .string a0_1, .string a0_2, .int .u64 a0_3, .int .u64 a0_4, .string a0_5, .string a0_6, .slice A0_7 l0_7.length c0_7, .slice A0_8 l0_8.length c0_8]) (t := 33) ?hr ?_; (case hd => rfl); (case hg => rfl); (case hr => first | (go_simp; done) | (go_simp; rfl)); intro gb101 hg w4 hbox hb; have n0_ := Aside0.mk (below_step (by repeat (first | (with_reducible first | exact HB.out | apply below_alloc | apply pw_below_drewN | apply below_drew1) | exact HB.out)) hb); have n1_ := Aside0.mk (hbox); have n2_ := Aside0.mk ((by rw [hg]; exact (below_size (by repeat (first | (with_reducible first | exact HB.out | apply below_alloc | apply pw_below_drewN | apply below_drew1) | exact HB.out))) : w.heap.size ≤ gb101)); have n3_ := Aside0.mk ((by rw [hg]; exact (below_size (by repeat (first | (with_reducible first | exact HB.out | apply below_alloc | apply pw_below_drewN | apply below_drew1) | exact HB.out))) : w.heap.size ≤ gb101)); clear HB; have HB := n0_; have BK101 := n1_; have GW101 := n2_; have GE101 := n3_; clear n0_ n1_ n2_ n3_; clear hb hbox hg) | ((with_reducible refine gate_dst (N := 2) rfl ?_); refine box_event ?hg (N := 2) ?hd (cs := #[.int .i64 0, .string (⟨#[]⟩ : ByteArray), .string (⟨#[]⟩ : ByteArray), .int .u64 0, .int .u64 0, .string (⟨#[]⟩ : ByteArray), .string (⟨#[]⟩ : ByteArray), .slice none 0 0, .slice none 0 0]) (t := 33) ?hr ?_; (case hd => rfl); (case hg => rfl); (case hr => first | (go_simp; done) | (go_simp; rfl)); intro gb102 hg w5 hbox hb; have n0_ := Aside0.mk (blk_below (g := gb101) (o := .cells #[.int .i64 a0_0, .string a0_1, .string a0_2, .int .u64 a0_3, .int .u64 a0_4, .string a0_5, .string a0_6, .slice A0_7 l0_7.length c0_7, .slice A0_8 l0_8.length c0_8] 33 (0, 0)) (by (with_reducible repeat (first | refine blk_drewN ?_ _ | refine blk_drew ?_ | refine blk_alloc ?_ _)); exact BK101.out) hb); have n1_ := Aside0.mk (below_step (by repeat (first | (with_reducible first | exact HB.out | apply below_alloc | apply pw_below_drewN | apply below_drew1 | refine below_set ?_ GE101.out) | exact HB.out)) hb); have n2_ := Aside0.mk (hbox); have n3_ := Aside0.mk ((by rw [hg]; exact (below_size (by repeat (first | (with_reducible first | exact HB.out | apply below_alloc | apply pw_below_drewN | apply below_drew1 | refine below_set ?_ GE101.out) | exact HB.out))) : w.heap.size ≤ gb102)); have n4_ := Aside0.mk ((by rw [hg]; exact (below_size (by repeat (first | (with_reducible first | exact HB.out | apply below_alloc | apply pw_below_drewN | apply below_drew1 | refine below_set ?_ GE101.out) | exact HB.out))) : w.heap.size ≤ gb102)); have n5_ := Aside0.mk ((by rw [hg]; exact Nat.ne_of_lt (blk_lt (g := gb101) (o := .cells #[.int .i64 a0_0, .string a0_1, .string a0_2, .int .u64 a0_3, .int .u64 a0_4, .string a0_5, .string a0_6, .slice A0_7 l0_7.length c0_7, .slice A0_8 l0_8.length c0_8] 33 (0, 0)) (by (with_reducible repeat (first | refine blk_drewN ?_ _ | refine blk_drew ?_ | refine blk_alloc ?_ _)); exact BK101.out)) : gb101 ≠ gb102)); have n6_ := Aside0.mk ((by rw [hg]; exact Nat.ne_of_gt (blk_lt (g := gb101) (o := .cells #[.int .i64 a0_0, .string a0_1, .string a0_2, .int .u64 a0_3, .int .u64 a0_4, .string a0_5, .string a0_6, .slice A0_7 l0_7.length c0_7, .slice A0_8 l0_8.length c0_8] 33 (0, 0)) (by (with_reducible repeat (first | refine blk_drewN ?_ _ | refine blk_drew ?_ | refine blk_alloc ?_ _)); exact BK101.out)) : gb102 ≠ gb101)); clear BK101; clear HB; have BK101 := n0_; have HB := n1_; have BK102 := n2_; have GW102 := n3_; have GE102 := n4_; have NB101_102 := n5_; have NB102_101 := n6_; clear n0_ n1_ n2_ n3_ n4_ n5_ n6_; clear hb hbox hg) | ((with_reducible refine gate_dst (N := 3) rfl ?_); refine Kd.R_lit Kd.string _ 9 ?hg (N := 3) ?hd (xs := ([] : List ByteArray)) (inner := []) (ok := fun _ => True) (okp := fun _ => True) ?hr ?hp (fun _ hk => hk) trivial (Below.refl _ _) (Nat.le_refl _) (by simp) ?_; (case hd => rfl); (case hg => rfl); (case hr => first | (go_simp; done) | (go_simp; rfl)); (case hp => exact (Reps.none _ _)); intro v104 w6 ho7 hb hg_ hnew_; clear hg_ hnew_; (first | rw [← Ny103.out] at ho7 | (simp only [Int.reduceToNat] at ho7; rw [← Ny103.out] at ho7)); have n0_ := Aside0.mk (Kd.R_lower ho7 (below_size (by repeat (first | (with_reducible first | exact HB.out | apply below_alloc | apply pw_below_drewN | apply below_drew1 | refine below_set ?_ GE101.out | refine below_set ?_ GE102.out) | exact HB.out)))); have n1_ := Aside0.mk (blk_below (g := gb101) (o := .cells #[.int .i64 a0_0, .string a0_1, .string a0_2, .int .u64 a0_3, .int .u64 a0_4, .string a0_5, .string a0_6, .slice A0_7 l0_7.length c0_7, .slice A0_8 l0_8.length c0_8] 33 (0, 0)) (by (with_reducible repeat (first | refine blk_drewN ?_ _ | refine blk_drew ?_ | refine blk_alloc ?_ _)); exact BK101.out) hb); have n2_ := Aside0.mk (blk_below (g := gb102) (o := .cells #[.int .i64 0, .string (⟨#[]⟩ : ByteArray), .string (⟨#[]⟩ : ByteArray), .int .u64 0, .int .u64 0, .string (⟨#[]⟩ : ByteArray), .string (⟨#[]⟩ : ByteArray), .slice none 0 0, .slice none 0 0] 33 (0, 0)) (by (with_reducible repeat (first | refine blk_drewN ?_ _ | refine blk_drew ?_ | refine blk_alloc ?_ _)); exact BK102.out) hb); have n3_ := Aside0.mk (below_step (by repeat (first | (with_reducible first | exact HB.out | apply below_alloc | apply pw_below_drewN | apply below_drew1 | refine below_set ?_ GE101.out | refine below_set ?_ GE102.out) | exact HB.out)) hb); clear BK101; clear BK102; clear HB; have HO105 := n0_; have BK101 := n1_; have BK102 := n2_; have HB := n3_; clear n0_ n1_ n2_ n3_; clear hb ho7; have hnb8 := NB101_102.out; have hnc8 := NB102_101.out; have hcz9_0 : w6.cell? ⟨gb101, 0, none⟩ = some (.int .i64 a0_0) := (blk_cell BK101.out 0).trans rfl; have hcz9_1 : w6.cell? ⟨gb101, 1, none⟩ = some (.string a0_1) := (blk_cell BK101.out 1).trans rfl; have hcz9_2 : w6.cell? ⟨gb101, 2, none⟩ = some (.string a0_2) := (blk_cell BK101.out 2).trans rfl; have hcz9_3 : w6.cell? ⟨gb101, 3, none⟩ = some (.int .u64 a0_3) := (blk_cell BK101.out 3).trans rfl; have hcz9_4 : w6.cell? ⟨gb101, 4, none⟩ = some (.int .u64 a0_4) := (blk_cell BK101.out 4).trans rfl; have hcz9_5 : w6.cell? ⟨gb101, 5, none⟩ = some (.string a0_5) := (blk_cell BK101.out 5).trans rfl; have hcz9_6 : w6.cell? ⟨gb101, 6, none⟩ = some (.string a0_6) := (blk_cell BK101.out 6).trans rfl; have hcz9_7 : w6.cell? ⟨gb101, 7, none⟩ = some (.slice A0_7 l0_7.length c0_7) := (blk_cell BK101.out 7).trans rfl; have hcz9_8 : w6.cell? ⟨gb101, 8, none⟩ = some (.slice A0_8 l0_8.length c0_8) := (blk_cell BK101.out 8).trans rfl; have hfz9_0 := blk_frozen BK101.out 0; have hfz9_1 := blk_frozen BK101.out 1; have hfz9_2 := blk_frozen BK101.out 2; have hfz9_3 := blk_frozen BK101.out 3; have hfz9_4 := blk_frozen BK101.out 4; have hfz9_5 := blk_frozen BK101.out 5; have hfz9_6 := blk_frozen BK101.out 6; have hfz9_7 := blk_frozen BK101.out 7; have hfz9_8 := blk_frozen BK101.out 8) | ((with_reducible refine gate_builtin (b := .append) (xs := #[.tmp 3, .tmp 5]) rfl ?_); at_builtin; refine Kd.R_append_rows Kd.string (w0 := w) w.heap.size rfl (.tmp 3) (.tmp 5) 31 9 (.string ⟨#[]⟩) 16 rfl Tryd.underlying31 info9 rfl (by decide) (by omega) v104 y103 l0_7 _ _ _ (fun _ => True) (fun _ => False) rfl rfl ?aO ?aR (fun _ _ h => h) (fun _ h => h.elim) ?aF ?aB ?aS ?aL ?_; (case aR => repeat (first | exact (Kd.C_below HR0_7.out HB.out) | (with_reducible refine Kd.C_alloc ?_ _) | (with_reducible refine Kd.C_drewN ?_ _) | (with_reducible refine Kd.C_drew ?_))); (case aB => exact (by repeat (first | (with_reducible first | exact HB.out | apply below_alloc | apply pw_below_drewN | apply below_drew1 | refine below_set ?_ GE101.out | refine below_set ?_ GE102.out) | exact HB.out))); (case aF => exact (fun _ _ => trivial)); (case aO => exact (by (with_reducible repeat (first | apply Kd.R_alloc | apply Kd.R_drewN | apply Kd.R_drew)); exact HO105.out)); (case aS => exact (below_size (by repeat (first | (with_reducible first | exact HB.out | apply below_alloc | apply pw_below_drewN | apply below_drew1 | refine below_set ?_ GE101.out | refine below_set ?_ GE102.out) | exact HB.out)))); (case aL => have := LMc2.out; omega); intro v107 w10 ho hb hg hat; rw [← Ny106.out] at ho; have n0_ := Aside0.mk (blk_grown (g := gb101) (o := .cells #[.int .i64 a0_0, .string a0_1, .string a0_2, .int .u64 a0_3, .int .u64 a0_4, .string a0_5, .string a0_6, .slice A0_7 l0_7.length c0_7, .slice A0_8 l0_8.length c0_8] 33 (0, 0)) (by (with_reducible repeat (first | refine blk_drewN ?_ _ | refine blk_drew ?_ | refine blk_alloc ?_ _)); exact BK101.out) hg (Kd.R_ne HO105.out BK101.out (by decide))); have n1_ := Aside0.mk (blk_grown (g := gb102) (o := .cells #[.int .i64 0, .string (⟨#[]⟩ : ByteArray), .string (⟨#[]⟩ : ByteArray), .int .u64 0, .int .u64 0, .string (⟨#[]⟩ : ByteArray), .string (⟨#[]⟩ : ByteArray), .slice none 0 0, .slice none 0 0] 33 (0, 0)) (by (with_reducible repeat (first | refine blk_drewN ?_ _ | refine blk_drew ?_ | refine blk_alloc ?_ _)); exact BK102.out) hg (Kd.R_ne HO105.out BK102.out (by decide))); have n2_ := Aside0.mk (hb); have n3_ := Aside0.mk (ho); clear BK101; clear BK102; clear HB; clear HO105; have BK101 := n0_; have BK102 := n1_; have HB := n2_; have HO108 := n3_; clear n0_ n1_ n2_ n3_; clear ho hb hg hat; obtain ⟨Ao11, co11, eo11⟩ := Kd.R_slice HO108.out; subst eo11; have hcz12_0 : w10.cell? ⟨gb101, 0, none⟩ = some (.int .i64 a0_0) := (blk_cell BK101.out 0).trans rfl; have hcz12_1 : w10.cell? ⟨gb101, 1, none⟩ = some (.string a0_1) := (blk_cell BK101.out 1).trans rfl; have hcz12_2 : w10.cell? ⟨gb101, 2, none⟩ = some (.string a0_2) := (blk_cell BK101.out 2).trans rfl; have hcz12_3 : w10.cell? ⟨gb101, 3, none⟩ = some (.int .u64 a0_3) := (blk_cell BK101.out 3).trans rfl; have hcz12_4 : w10.cell? ⟨gb101, 4, none⟩ = some (.int .u64 a0_4) := (blk_cell BK101.out 4).trans rfl; have hcz12_5 : w10.cell? ⟨gb101, 5, none⟩ = some (.string a0_5) := (blk_cell BK101.out 5).trans rfl; have hcz12_6 : w10.cell? ⟨gb101, 6, none⟩ = some (.string a0_6) := (blk_cell BK101.out 6).trans rfl; have hcz12_7 : w10.cell? ⟨gb101, 7, none⟩ = some (.slice A0_7 l0_7.length c0_7) := (blk_cell BK101.out 7).trans rfl; have hcz12_8 : w10.cell? ⟨gb101, 8, none⟩ = some (.slice A0_8 l0_8.length c0_8) := (blk_cell BK101.out 8).trans rfl; have hfz12_0 := blk_frozen BK101.out 0; have hfz12_1 := blk_frozen BK101.out 1; have hfz12_2 := blk_frozen BK101.out 2; have hfz12_3 := blk_frozen BK101.out 3; have hfz12_4 := blk_frozen BK101.out 4; have hfz12_5 := blk_frozen BK101.out 5; have hfz12_6 := blk_frozen BK101.out 6; have hfz12_7 := blk_frozen BK101.out 7; have hfz12_8 := blk_frozen BK101.out 8) | ((with_reducible refine gate_dst (N := 8) rfl ?_); refine Kd.R_lit Kd.string _ 9 ?hg (N := 8) ?hd (xs := ([] : List ByteArray)) (inner := []) (ok := fun _ => True) (okp := fun _ => True) ?hr ?hp (fun _ hk => hk) trivial (Below.refl _ _) (Nat.le_refl _) (by simp) ?_; (case hd => rfl); (case hg => rfl); (case hr => first | (go_simp; done) | (go_simp; rfl)); (case hp => exact (Reps.none _ _)); intro v110 w13 ho14 hb hg_ hnew_; clear hg_ hnew_; (first | rw [← Ny109.out] at ho14 | (simp only [Int.reduceToNat] at ho14; rw [← Ny109.out] at ho14)); have n0_ := Aside0.mk (Kd.R_elder' (by (with_reducible repeat (first | apply Kd.R_alloc | apply Kd.R_drewN | apply Kd.R_drew)); exact (Kd.R_mono (Kd.R_far (p := ⟨gb101, 7, none⟩) (Kd.R_types HO108.out BK101.out (by decide)) (fun _ hk => hk.2) (.slice Ao11 y106.length co11)) (fun _ h_ => h_.1))) (Kd.R_base ho14) hb); have n1_ := Aside0.mk (Kd.R_lower (Kd.R_new' ho14 (Kd.R_lt (by (with_reducible repeat (first | apply Kd.R_alloc | apply Kd.R_drewN | apply Kd.R_drew)); exact (Kd.R_mono (Kd.R_far (p := ⟨gb101, 7, none⟩) (Kd.R_types HO108.out BK101.out (by decide)) (fun _ hk => hk.2) (.slice Ao11 y106.length co11)) (fun _ h_ => h_.1))))) (below_size (by repeat (first | (with_reducible first | exact HB.out | apply below_alloc | apply pw_below_drewN | apply below_drew1 | refine below_set ?_ GE101.out | refine below_set ?_ GE102.out) | exact HB.out)))); have n2_ := Aside0.mk (blk_below (g := gb101) (o := .cells #[.int .i64 a0_0, .string a0_1, .string a0_2, .int .u64 a0_3, .int .u64 a0_4, .string a0_5, .string a0_6, .slice Ao11 y106.length co11, .slice A0_8 l0_8.length c0_8] 33 (0, 0)) (by (with_reducible repeat (first | refine blk_drewN ?_ _ | refine blk_drew ?_ | refine blk_alloc ?_ _)); refine blk_put (cs := #[.int .i64 a0_0, .string a0_1, .string a0_2, .int .u64 a0_3, .int .u64 a0_4, .string a0_5, .string a0_6, .slice A0_7 l0_7.length c0_7, .slice A0_8 l0_8.length c0_8]) ?_ 7 _ rfl; (with_reducible repeat (first | refine blk_drewN ?_ _ | refine blk_drew ?_ | refine blk_alloc ?_ _)); exact BK101.out) hb); have n3_ := Aside0.mk (blk_below (g := gb102) (o := .cells #[.int .i64 0, .string (⟨#[]⟩ : ByteArray), .string (⟨#[]⟩ : ByteArray), .int .u64 0, .int .u64 0, .string (⟨#[]⟩ : ByteArray), .string (⟨#[]⟩ : ByteArray), .slice none 0 0, .slice none 0 0] 33 (0, 0)) (by (with_reducible repeat (first | refine blk_drewN ?_ _ | refine blk_drew ?_ | refine blk_alloc ?_ _)); refine blk_far ?_ NB102_101.out _; (with_reducible repeat (first | refine blk_drewN ?_ _ | refine blk_drew ?_ | refine blk_alloc ?_ _)); exact BK102.out) hb); have n4_ := Aside0.mk (below_step (by repeat (first | (with_reducible first | exact HB.out | apply below_alloc | apply pw_below_drewN | apply below_drew1 | refine below_set ?_ GE101.out | refine below_set ?_ GE102.out) | exact HB.out)) hb); clear HO108; clear BK101; clear BK102; clear HB; have HO108 := n0_; have HO111 := n1_; have BK101 := n2_; have BK102 := n3_; have HB := n4_; clear n0_ n1_ n2_ n3_ n4_; clear hb ho14; have hcz15_0 : w13.cell? ⟨gb101, 0, none⟩ = some (.int .i64 a0_0) := (blk_cell BK101.out 0).trans rfl; have hcz15_1 : w13.cell? ⟨gb101, 1, none⟩ = some (.string a0_1) := (blk_cell BK101.out 1).trans rfl; have hcz15_2 : w13.cell? ⟨gb101, 2, none⟩ = some (.string a0_2) := (blk_cell BK101.out 2).trans rfl; have hcz15_3 : w13.cell? ⟨gb101, 3, none⟩ = some (.int .u64 a0_3) := (blk_cell BK101.out 3).trans rfl; have hcz15_4 : w13.cell? ⟨gb101, 4, none⟩ = some (.int .u64 a0_4) := (blk_cell BK101.out 4).trans rfl; have hcz15_5 : w13.cell? ⟨gb101, 5, none⟩ = some (.string a0_5) := (blk_cell BK101.out 5).trans rfl; have hcz15_6 : w13.cell? ⟨gb101, 6, none⟩ = some (.string a0_6) := (blk_cell BK101.out 6).trans rfl; have hcz15_7 : w13.cell? ⟨gb101, 7, none⟩ = some (.slice Ao11 y106.length co11) := (blk_cell BK101.out 7).trans rfl; have hcz15_8 : w13.cell? ⟨gb101, 8, none⟩ = some (.slice A0_8 l0_8.length c0_8) := (blk_cell BK101.out 8).trans rfl; have hfz15_0 := blk_frozen BK101.out 0; have hfz15_1 := blk_frozen BK101.out 1; have hfz15_2 := blk_frozen BK101.out 2; have hfz15_3 := blk_frozen BK101.out 3; have hfz15_4 := blk_frozen BK101.out 4; have hfz15_5 := blk_frozen BK101.out 5; have hfz15_6 := blk_frozen BK101.out 6; have hfz15_7 := blk_frozen BK101.out 7; have hfz15_8 := blk_frozen BK101.out 8) | ((with_reducible refine gate_builtin (b := .append) (xs := #[.tmp 8, .tmp 10]) rfl ?_); at_builtin; refine Kd.R_append_rows Kd.string (w0 := w) w.heap.size rfl (.tmp 8) (.tmp 10) 31 9 (.string ⟨#[]⟩) 16 rfl Tryd.underlying31 info9 rfl (by decide) (by omega) v110 y109 l0_8 _ _ _ (fun k_ => some k_ ≠ (.slice Ao11 y106.length co11 : Value).ownBlock) (fun _ => False) rfl rfl ?aO ?aR (fun _ _ h => h) (fun _ h => h.elim) ?aF ?aB ?aS ?aL ?_; (case aR => repeat (first | exact (Kd.C_below HR0_8.out HB.out) | (with_reducible refine Kd.C_alloc ?_ _) | (with_reducible refine Kd.C_drewN ?_ _) | (with_reducible refine Kd.C_drew ?_))); (case aB => exact (by repeat (first | (with_reducible first | exact HB.out | apply below_alloc | apply pw_below_drewN | apply below_drew1 | refine below_set ?_ GE101.out | refine below_set ?_ GE102.out) | exact HB.out))); (case aF => exact (fun k_ hk => Kd.fresh' (Kd.R_lt (by (with_reducible repeat (first | apply Kd.R_alloc | apply Kd.R_drewN | apply Kd.R_drew)); exact HO108.out)) k_ hk)); (case aO => exact (by (with_reducible repeat (first | apply Kd.R_alloc | apply Kd.R_drewN | apply Kd.R_drew)); exact Kd.R_mono HO111.out (fun _ hk => hk.2))); (case aS => exact (below_size (by repeat (first | (with_reducible first | exact HB.out | apply below_alloc | apply pw_below_drewN | apply below_drew1 | refine below_set ?_ GE101.out | refine below_set ?_ GE102.out) | exact HB.out)))); (case aL => have := LMc3.out; omega); intro v113 w16 ho hb hg hat; rw [← Ny112.out] at ho; have n0_ := Aside0.mk (blk_grown (g := gb101) (o := .cells #[.int .i64 a0_0, .string a0_1, .string a0_2, .int .u64 a0_3, .int .u64 a0_4, .string a0_5, .string a0_6, .slice Ao11 y106.length co11, .slice A0_8 l0_8.length c0_8] 33 (0, 0)) (by (with_reducible repeat (first | refine blk_drewN ?_ _ | refine blk_drew ?_ | refine blk_alloc ?_ _)); exact BK101.out) hg (Kd.R_ne HO111.out BK101.out (by decide))); have n1_ := Aside0.mk (blk_grown (g := gb102) (o := .cells #[.int .i64 0, .string (⟨#[]⟩ : ByteArray), .string (⟨#[]⟩ : ByteArray), .int .u64 0, .int .u64 0, .string (⟨#[]⟩ : ByteArray), .string (⟨#[]⟩ : ByteArray), .slice none 0 0, .slice none 0 0] 33 (0, 0)) (by (with_reducible repeat (first | refine blk_drewN ?_ _ | refine blk_drew ?_ | refine blk_alloc ?_ _)); exact BK102.out) hg (Kd.R_ne HO111.out BK102.out (by decide))); have n2_ := Aside0.mk (Kd.R_after (ok := (fun _ => True)) (by (with_reducible repeat (first | apply Kd.R_alloc | apply Kd.R_drewN | apply Kd.R_drew)); exact HO108.out) hg hat); have n3_ := Aside0.mk (hb); have n4_ := Aside0.mk (ho); clear BK101; clear BK102; clear HO108; clear HB; clear HO111; have BK101 := n0_; have BK102 := n1_; have HO108 := n2_; have HB := n3_; have HO114 := n4_; clear n0_ n1_ n2_ n3_ n4_; clear ho hb hg hat; obtain ⟨Ao17, co17, eo17⟩ := Kd.R_slice HO114.out; subst eo17; have hcz18_0 : w16.cell? ⟨gb101, 0, none⟩ = some (.int .i64 a0_0) := (blk_cell BK101.out 0).trans rfl; have hcz18_1 : w16.cell? ⟨gb101, 1, none⟩ = some (.string a0_1) := (blk_cell BK101.out 1).trans rfl; have hcz18_2 : w16.cell? ⟨gb101, 2, none⟩ = some (.string a0_2) := (blk_cell BK101.out 2).trans rfl; have hcz18_3 : w16.cell? ⟨gb101, 3, none⟩ = some (.int .u64 a0_3) := (blk_cell BK101.out 3).trans rfl; have hcz18_4 : w16.cell? ⟨gb101, 4, none⟩ = some (.int .u64 a0_4) := (blk_cell BK101.out 4).trans rfl; have hcz18_5 : w16.cell? ⟨gb101, 5, none⟩ = some (.string a0_5) := (blk_cell BK101.out 5).trans rfl; have hcz18_6 : w16.cell? ⟨gb101, 6, none⟩ = some (.string a0_6) := (blk_cell BK101.out 6).trans rfl; have hcz18_7 : w16.cell? ⟨gb101, 7, none⟩ = some (.slice Ao11 y106.length co11) := (blk_cell BK101.out 7).trans rfl; have hcz18_8 : w16.cell? ⟨gb101, 8, none⟩ = some (.slice A0_8 l0_8.length c0_8) := (blk_cell BK101.out 8).trans rfl; have hfz18_0 := blk_frozen BK101.out 0; have hfz18_1 := blk_frozen BK101.out 1; have hfz18_2 := blk_frozen BK101.out 2; have hfz18_3 := blk_frozen BK101.out 3; have hfz18_4 := blk_frozen BK101.out 4; have hfz18_5 := blk_frozen BK101.out 5; have hfz18_6 := blk_frozen BK101.out 6; have hfz18_7 := blk_frozen BK101.out 7; have hfz18_8 := blk_frozen BK101.out 8; have hcz19_0 : w16.cell? ⟨gb102, 0, none⟩ = some (.int .i64 0) := (blk_cell BK102.out 0).trans rfl; have hcz19_1 : w16.cell? ⟨gb102, 1, none⟩ = some (.string (⟨#[]⟩ : ByteArray)) := (blk_cell BK102.out 1).trans rfl; have hcz19_2 : w16.cell? ⟨gb102, 2, none⟩ = some (.string (⟨#[]⟩ : ByteArray)) := (blk_cell BK102.out 2).trans rfl; have hcz19_3 : w16.cell? ⟨gb102, 3, none⟩ = some (.int .u64 0) := (blk_cell BK102.out 3).trans rfl; have hcz19_4 : w16.cell? ⟨gb102, 4, none⟩ = some (.int .u64 0) := (blk_cell BK102.out 4).trans rfl; have hcz19_5 : w16.cell? ⟨gb102, 5, none⟩ = some (.string (⟨#[]⟩ : ByteArray)) := (blk_cell BK102.out 5).trans rfl; have hcz19_6 : w16.cell? ⟨gb102, 6, none⟩ = some (.string (⟨#[]⟩ : ByteArray)) := (blk_cell BK102.out 6).trans rfl; have hcz19_7 : w16.cell? ⟨gb102, 7, none⟩ = some (.slice none 0 0) := (blk_cell BK102.out 7).trans rfl; have hcz19_8 : w16.cell? ⟨gb102, 8, none⟩ = some (.slice none 0 0) := (blk_cell BK102.out 8).trans rfl; have hfz19_0 := blk_frozen BK102.out 0; have hfz19_1 := blk_frozen BK102.out 1; have hfz19_2 := blk_frozen BK102.out 2; have hfz19_3 := blk_frozen BK102.out 3; have hfz19_4 := blk_frozen BK102.out 4; have hfz19_5 := blk_frozen BK102.out 5; have hfz19_6 := blk_frozen BK102.out 6; have hfz19_7 := blk_frozen BK102.out 7; have hfz19_8 := blk_frozen BK102.out 8))
      refine bodyPost_ret (results_cell_row rfl _ _ gb102 33 #[.int .i64 a0_0, .string a0_1, .string a0_2, .int .u64 a0_3, .int .u64 a0_4, .string a0_5, .string a0_6, .slice Ao11 y106.length co11, .slice Ao17 y112.length co17] (0, 0) _ rfl (by (with_reducible repeat (first | refine blk_drewN ?_ _ | refine blk_drew ?_ | refine blk_alloc ?_ _)); refine blk_put (cs := #[.int .i64 a0_0, .string a0_1, .string a0_2, .int .u64 a0_3, .int .u64 a0_4, .string a0_5, .string a0_6, .slice Ao11 y106.length co11, .slice none 0 0]) ?_ 8 _ rfl; (with_reducible repeat (first | refine blk_drewN ?_ _ | refine blk_drew ?_ | refine blk_alloc ?_ _)); refine blk_put (cs := #[.int .i64 a0_0, .string a0_1, .string a0_2, .int .u64 a0_3, .int .u64 a0_4, .string a0_5, .string a0_6, .slice none 0 0, .slice none 0 0]) ?_ 7 _ rfl; (with_reducible repeat (first | refine blk_drewN ?_ _ | refine blk_drew ?_ | refine blk_alloc ?_ _)); refine blk_put (cs := #[.int .i64 a0_0, .string a0_1, .string a0_2, .int .u64 a0_3, .int .u64 a0_4, .string a0_5, .string (⟨#[]⟩ : ByteArray), .slice none 0 0, .slice none 0 0]) ?_ 6 _ rfl; (with_reducible repeat (first | refine blk_drewN ?_ _ | refine blk_drew ?_ | refine blk_alloc ?_ _)); refine blk_put (cs := #[.int .i64 a0_0, .string a0_1, .string a0_2, .int .u64 a0_3, .int .u64 a0_4, .string (⟨#[]⟩ : ByteArray), .string (⟨#[]⟩ : ByteArray), .slice none 0 0, .slice none 0 0]) ?_ 5 _ rfl; (with_reducible repeat (first | refine blk_drewN ?_ _ | refine blk_drew ?_ | refine blk_alloc ?_ _)); refine blk_put (cs := #[.int .i64 a0_0, .string a0_1, .string a0_2, .int .u64 a0_3, .int .u64 0, .string (⟨#[]⟩ : ByteArray), .string (⟨#[]⟩ : ByteArray), .slice none 0 0, .slice none 0 0]) ?_ 4 _ rfl; (with_reducible repeat (first | refine blk_drewN ?_ _ | refine blk_drew ?_ | refine blk_alloc ?_ _)); refine blk_put (cs := #[.int .i64 a0_0, .string a0_1, .string a0_2, .int .u64 0, .int .u64 0, .string (⟨#[]⟩ : ByteArray), .string (⟨#[]⟩ : ByteArray), .slice none 0 0, .slice none 0 0]) ?_ 3 _ rfl; (with_reducible repeat (first | refine blk_drewN ?_ _ | refine blk_drew ?_ | refine blk_alloc ?_ _)); refine blk_put (cs := #[.int .i64 a0_0, .string a0_1, .string (⟨#[]⟩ : ByteArray), .int .u64 0, .int .u64 0, .string (⟨#[]⟩ : ByteArray), .string (⟨#[]⟩ : ByteArray), .slice none 0 0, .slice none 0 0]) ?_ 2 _ rfl; (with_reducible repeat (first | refine blk_drewN ?_ _ | refine blk_drew ?_ | refine blk_alloc ?_ _)); refine blk_put (cs := #[.int .i64 a0_0, .string (⟨#[]⟩ : ByteArray), .string (⟨#[]⟩ : ByteArray), .int .u64 0, .int .u64 0, .string (⟨#[]⟩ : ByteArray), .string (⟨#[]⟩ : ByteArray), .slice none 0 0, .slice none 0 0]) ?_ 1 _ rfl; (with_reducible repeat (first | refine blk_drewN ?_ _ | refine blk_drew ?_ | refine blk_alloc ?_ _)); refine blk_put (cs := #[.int .i64 0, .string (⟨#[]⟩ : ByteArray), .string (⟨#[]⟩ : ByteArray), .int .u64 0, .int .u64 0, .string (⟨#[]⟩ : ByteArray), .string (⟨#[]⟩ : ByteArray), .slice none 0 0, .slice none 0 0]) ?_ 0 _ rfl; (with_reducible repeat (first | refine blk_drewN ?_ _ | refine blk_drew ?_ | refine blk_alloc ?_ _)); refine blk_far ?_ NB102_101.out _; (with_reducible repeat (first | refine blk_drewN ?_ _ | refine blk_drew ?_ | refine blk_alloc ?_ _)); exact BK102.out) Tryd.underlying33 rfl (by kernel_rfl)) rfl ?_
      exact ⟨_, _, by first | rfl | (simp [errW_none, errW_some] <;> rfl) | (simp [*, errW_none, errW_some] <;> rfl), by (with_reducible repeat (first | apply Kd.R_alloc | apply Kd.R_drewN | apply Kd.R_drew)); exact Kd.R_mono (Kd.R_far (p := ⟨gb102, 8, none⟩) (Kd.R_far (p := ⟨gb102, 7, none⟩) (Kd.R_far (p := ⟨gb102, 6, none⟩) (Kd.R_far (p := ⟨gb102, 5, none⟩) (Kd.R_far (p := ⟨gb102, 4, none⟩) (Kd.R_far (p := ⟨gb102, 3, none⟩) (Kd.R_far (p := ⟨gb102, 2, none⟩) (Kd.R_far (p := ⟨gb102, 1, none⟩) (Kd.R_far (p := ⟨gb102, 0, none⟩) (Kd.R_far (p := ⟨gb101, 8, none⟩) (Kd.R_types (Kd.R_types HO108.out BK101.out (by decide)) BK102.out (by decide)) (fun _ hk => hk.1.2) (.slice Ao17 y112.length co17)) (fun _ hk => hk.2) (.int .i64 a0_0)) (fun _ hk => hk.2) (.string a0_1)) (fun _ hk => hk.2) (.string a0_2)) (fun _ hk => hk.2) (.int .u64 a0_3)) (fun _ hk => hk.2) (.int .u64 a0_4)) (fun _ hk => hk.2) (.string a0_5)) (fun _ hk => hk.2) (.string a0_6)) (fun _ hk => hk.2) (.slice Ao11 y106.length co11)) (fun _ hk => hk.2) (.slice Ao17 y112.length co17)) (fun _ hk => hk.1.1.2), by (with_reducible repeat (first | apply Kd.R_alloc | apply Kd.R_drewN | apply Kd.R_drew)); exact Kd.R_mono (Kd.R_far (p := ⟨gb102, 8, none⟩) (Kd.R_far (p := ⟨gb102, 7, none⟩) (Kd.R_far (p := ⟨gb102, 6, none⟩) (Kd.R_far (p := ⟨gb102, 5, none⟩) (Kd.R_far (p := ⟨gb102, 4, none⟩) (Kd.R_far (p := ⟨gb102, 3, none⟩) (Kd.R_far (p := ⟨gb102, 2, none⟩) (Kd.R_far (p := ⟨gb102, 1, none⟩) (Kd.R_far (p := ⟨gb102, 0, none⟩) (Kd.R_far (p := ⟨gb101, 8, none⟩) (Kd.R_types (Kd.R_types HO114.out BK101.out (by decide)) BK102.out (by decide)) (fun _ hk => hk.1.2) (.slice Ao17 y112.length co17)) (fun _ hk => hk.2) (.int .i64 a0_0)) (fun _ hk => hk.2) (.string a0_1)) (fun _ hk => hk.2) (.string a0_2)) (fun _ hk => hk.2) (.int .u64 a0_3)) (fun _ hk => hk.2) (.int .u64 a0_4)) (fun _ hk => hk.2) (.string a0_5)) (fun _ hk => hk.2) (.string a0_6)) (fun _ hk => hk.2) (.slice Ao11 y106.length co11)) (fun _ hk => hk.2) (.slice Ao17 y112.length co17)) (fun _ hk => hk.1.1), by repeat (first | (with_reducible first | exact HB.out | apply below_alloc | apply pw_below_drewN | apply below_drew1 | refine below_set ?_ GE101.out | refine below_set ?_ GE102.out) | exact HB.out)⟩
    · rw [if_neg c3] at H
      exact absurd H (by simp)
  · rw [if_neg c2] at H
    exact absurd H (by simp)

end Go.Proofs.YtndicjikjcifaaaDoor.POw

/- From an argument's reading as data to a plain Lean value that its cells read as: one lemma a kind of type. No program in sight. -/
namespace Go.Proofs.YtndicjikjcifaaaDoor
open Go.RowKit Go.Proofs.YtndicjikjcifaaaDoorW.PrintWords Go.Proofs.YtndicjikjcifaaaDoorW.PrintLast

/-- Whatever reads as data of type T reads as a value of the kind d, of which G holds. -/
structure Opens (P : Program) (T : TypeId) {α : Type} (d : Kd α) (G : α → Prop) : Prop where
  size : P.cellsOf T = d.sz
  run : ∀ {H : Type} {enc : TypeId × Value → H} {w : World} {fuel : Nat} {cs : List Value} {x : DataW H × List MemPlace},
    DataW.trod enc P w 0 (fun _ => true) true fuel T cs = some x → (x.1.weights P T).all (· ≤ reachBytes) = true → ∃ a, d.K w a cs ∧ G a

section
variable {P : Program} {T : TypeId}
theorem Opens.int (k : IntKind) (hu : P.underlying T = some (.int k)) (hc : P.cellsOf T = 1) : Opens P T (Kd.int k) (fun n => (Lit.int k n).wf = true) :=
  ⟨hc, fun h _ => by
    obtain ⟨n, rfl, _, hw⟩ := DataW.trod_int hu h
    exact ⟨n, rfl, hw⟩⟩
theorem Opens.bool (hu : P.underlying T = some .bool) (hc : P.cellsOf T = 1) : Opens P T Kd.bool (fun _ => True) :=
  ⟨hc, fun h _ => by
    obtain ⟨n, rfl, _⟩ := DataW.trod_bool hu h
    exact ⟨n, rfl, trivial⟩⟩
theorem Opens.string (hu : P.underlying T = some .string) (hc : P.cellsOf T = 1) : Opens P T Kd.string (fun s => s.size ≤ 140737488351232) :=
  ⟨hc, fun h hw => by
    obtain ⟨s, rfl, rfl, hs⟩ := DataW.trod_string hu h
    refine ⟨s, rfl, ?_⟩
    have : s.data.toList.length ≤ reachBytes := by simpa [DataW.weights] using hw
    simpa [reachBytes] using this⟩

theorem cells_get {w : World} {base n : Nat} {a : Addr} {cs : List Value} (h : w.cells? base a n = some cs) : cs.length = n ∧ ∀ i u, cs[i]? = some u → w.cell? (a.add i) = some u := by
  unfold World.cells? at h
  split at h
  · have hl : cs.length = n := by simpa using mapM_some_length h
    refine ⟨hl, fun i u hu => ?_⟩
    have hi : i < n := by rw [← hl]; exact (List.getElem?_eq_some_iff.1 hu).1
    have := mapM_some_get h i i (by simp [hi])
    rw [this, hu]
  · cases h

theorem weightsAll_mem {H : Type} {e : TypeId} : ∀ {l : List (DataW H)} {d : DataW H}, d ∈ l → ∀ n ∈ d.weights P e, n ∈ DataW.weightsAll P e l
  | x :: r, d, h, n, hn => by
    rw [DataW.weightsAll]
    rcases List.mem_cons.1 h with rfl | h
    · exact List.mem_append_left _ hn
    · exact List.mem_append_right _ (weightsAll_mem h n hn)

theorem choose_list {α : Type} {Q : Nat → α → Prop} (n : Nat) (h : ∀ i, i < n → ∃ a, Q i a) : ∃ l : List α, l.length = n ∧ ∀ i a, l[i]? = some a → Q i a := by
  induction n with
  | zero => exact ⟨[], rfl, fun i a h => by simp at h⟩
  | succ n ih =>
    obtain ⟨l, hl, hq⟩ := ih (fun i hi => h i (by omega))
    obtain ⟨a, ha⟩ := h n (by omega)
    refine ⟨l ++ [a], by simp [hl], fun i b hb => ?_⟩
    rcases Nat.lt_or_ge i n with hi | hi
    · rw [List.getElem?_append_left (by omega)] at hb
      exact hq i b hb
    · have : i = n := by
        have := (List.getElem?_eq_some_iff.1 hb).1
        simp [hl] at this
        omega
      subst this
      rw [List.getElem?_append_right (by omega), hl] at hb
      simp at hb
      exact hb ▸ ha

theorem Opens.slice {e : TypeId} {α : Type} {d : Kd α} {G : α → Prop} (hu : P.underlying T = some (.slice e)) (hc : P.cellsOf T = 1) (he : Opens P e d G) (B : Nat) (hB : P.bytesOf e = B) :
    Opens P T (Kd.slice e d) (fun l => (∀ a ∈ l, G a) ∧ l.length * B ≤ 140737488351232 ∧ l.length ≤ maxLen) := by
  refine ⟨hc, fun {H} {enc} {w} {fuel} {cs} {x} h hw => ?_⟩
  rcases Go.Deep.open_slice hu h with ⟨rfl, _⟩ | ⟨a, len, cap, m, n, D, Pl, rfl, _, hl, hm, hmm, rfl, hx⟩
  · exact ⟨[], ⟨none, 0, rfl, Nat.le_refl _, rfl, by simp, fun h => by simp at h⟩, fun a h => by simp at h, by simp, by simp⟩
  · simp only [if_true] at hmm
    subst hmm
    have hw' : ∀ i, i < len → ((D i).weights P e).all (· ≤ reachBytes) = true := by
      intro i hi
      rw [List.all_eq_true] at hw ⊢
      intro z hz
      refine hw z ?_
      simp only [DataW.weights, hu]
      refine List.mem_cons_of_mem _ (List.mem_append_left _ (weightsAll_mem (d := D i) ?_ z hz))
      exact List.mem_map.2 ⟨i, by simpa using hi, rfl⟩
    have hlen : len * B ≤ 140737488351232 := by
      rw [List.all_eq_true] at hw
      have h1 := hw (((List.range len).map D).length * P.bytesOf e + ((List.range (m - len)).map fun j => D (len + j)).length * P.bytesOf e) (by
        simp only [DataW.weights, hu, Nat.add_mul]
        exact List.mem_cons_self)
      rw [hB] at h1
      simp [reachBytes] at h1
      omega
    obtain ⟨l, hll, hq⟩ := choose_list (Q := fun i a' => ∃ c, c.length = d.sz ∧ d.K w a' c ∧ (∀ j u, c[j]? = some u → w.cell? (a.add (i * d.sz + j)) = some u) ∧ G a') len (fun i hi => by
      obtain ⟨cs', hcs, ht⟩ := hx i (by omega)
      obtain ⟨a', hK, hG⟩ := he.run ht (hw' i hi)
      have hcg := cells_get hcs
      rw [he.size] at hcg
      refine ⟨a', cs', hcg.1, hK, fun j u hu => ?_, hG⟩
      have := hcg.2 j u hu
      rwa [add_add] at this)
    refine ⟨l, ⟨some a, m, by rw [hll], by omega, rfl, by rw [hll]; unfold maxLen at hm; omega, fun _ => ⟨a, rfl, fun j p hp => ?_⟩⟩, fun p hp => ?_, by rw [hll]; exact hlen, by rw [hll]; omega⟩
    · obtain ⟨c, h1, h2, h3, _⟩ := hq j p hp
      exact ⟨c, h1, h2, h3⟩
    · obtain ⟨j, hj⟩ := List.mem_iff_getElem?.1 hp
      obtain ⟨c, _, _, _, h4⟩ := hq j p hj
      exact h4

/-- The same of fields in line, from cell number o on. -/
structure Fields (P : Program) (fs : List Field) (o : Nat) {α : Type} (d : Kd α) (G : α → Prop) : Prop where
  run : ∀ {H : Type} {enc : TypeId × Value → H} {w : World} {fuel : Nat} {cs : List Value} {xs : List (DataW H × List MemPlace)}, xs.length = fs.length →
    (∀ (i : Nat) (f : Field), fs[i]? = some f → DataW.trod enc P w 0 (fun _ => true) true fuel f.type ((cs.drop f.offset).take (P.cellsOf f.type)) = xs[i]?) →
    (DataW.weightsEach P (fs.map (·.type)) (xs.map (·.1))).all (· ≤ reachBytes) = true → cs.length = o + d.sz → ∃ a, d.K w a (cs.drop o) ∧ G a
theorem Fields.one {f : Field} {o : Nat} {α : Type} {d : Kd α} {G : α → Prop} (ho : f.offset = o) (h : Opens P f.type d G) : Fields P [f] o d G :=
  ⟨fun {H} {enc} {w} {fuel} {cs} {xs} hl ht hw hc => by
    match xs, hl with
    | [x], _ =>
      have h1 := ht 0 f rfl
      rw [ho, h.size, List.take_of_length_le (by rw [List.length_drop]; omega)] at h1
      refine h.run h1 ?_
      simpa [DataW.weightsEach] using hw⟩
theorem Fields.cons {f : Field} {fs : List Field} {o : Nat} {α β : Type} {d : Kd α} {d' : Kd β} {G : α → Prop} {G' : β → Prop} (ho : f.offset = o) (h : Opens P f.type d G) (h' : Fields P fs (o + d.sz) d' G') :
    Fields P (f :: fs) o (Kd.pair d d') (fun x => G x.1 ∧ G' x.2) :=
  ⟨fun {H} {enc} {w} {fuel} {cs} {xs} hl ht hw hc => by
    match xs, hl with
    | x :: xs, hl =>
      have h1 := ht 0 f rfl
      rw [ho, h.size] at h1
      have hsz : (Kd.pair d d').sz = d.sz + d'.sz := rfl
      rw [hsz] at hc
      simp only [List.map_cons, DataW.weightsEach, List.all_append, Bool.and_eq_true] at hw
      obtain ⟨a, ha, hG⟩ := h.run h1 hw.1
      obtain ⟨b, hb, hG'⟩ := h'.run (cs := cs) (xs := xs) (by simpa using hl) (fun i f hf => by simpa using ht (i + 1) f (by simpa using hf)) hw.2 (by omega)
      refine ⟨(a, b), ⟨(cs.drop o).take d.sz, cs.drop (o + d.sz), ?_, ha, hb⟩, hG, hG'⟩
      rw [← List.drop_drop, List.take_append_drop]⟩
theorem Opens.struct {fs : Array Field} {α : Type} {d : Kd α} {G : α → Prop} (hu : P.underlying T = some (.struct fs)) (hc : P.cellsOf T = d.sz) (h : Fields P fs.toList 0 d G) : Opens P T d G :=
  ⟨hc, fun {H} {enc} {w} {fuel} {cs} {x} ht hw => by
    obtain ⟨xs, n, _, rfl, hl, hxl, hf⟩ := DataW.trod_struct hu ht
    obtain ⟨a, ha, hG⟩ := h.run (cs := cs) (xs := xs) (by simpa using hxl) (fun i f hi => hf i f (by simpa using hi)) (by simpa [DataW.weights, hu] using hw) (by omega)
    exact ⟨a, by simpa using ha, hG⟩⟩
theorem Opens.iso {α β : Type} {d : Kd α} {G : α → Prop} (h : Opens P T d G) (f : β → α) (g : α → β) (hfg : ∀ a, f (g a) = a) : Opens P T (Kd.iso d f) (fun b => G (f b)) :=
  ⟨h.size, fun ht hw => by
    obtain ⟨a, ha, hG⟩ := h.run ht hw
    exact ⟨g a, by show d.K _ (f (g a)) _; rw [hfg]; exact ha, by show G (f (g a)); rw [hfg]; exact hG⟩⟩
end
end Go.Proofs.YtndicjikjcifaaaDoor

/- tusklaw04.Own, tuskref04.Same in a form of one line each; what a transaction argument is. -/
namespace Go.Proofs.YtndicjikjcifaaaDoor
open Go.RowKit Go.Shelf Go.Lib Go.Proofs.YtndicjikjcifaaaDoorW.PrintWords Go.Proofs.YtndicjikjcifaaaDoorW.PrintLast
open Go.Proofs.YtndicjikjcifaaaDoor.POw
set_option linter.unusedVariables false
set_option linter.unusedSimpArgs false

theorem opensStr : Opens Tryd.prog 9 Kd.string (fun s => s.size ≤ 140737488351232) := Opens.string Tryd.underlying9 (by kernel_rfl)
theorem opensStrs : Opens Tryd.prog 31 (Kd.slice 9 Kd.string) (fun l => (∀ a ∈ l, a.size ≤ 140737488351232) ∧ l.length * 16 ≤ 140737488351232 ∧ l.length ≤ maxLen) :=
  Opens.slice Tryd.underlying31 (by kernel_rfl) opensStr 16 (by kernel_rfl)
theorem opensInt : Opens Tryd.prog 3 (Kd.int .i64) (fun n => (Lit.int .i64 n).wf = true) := Opens.int .i64 Tryd.underlying3 (by kernel_rfl)
theorem opensU64 : Opens Tryd.prog 30 (Kd.int .u64) (fun n => (Lit.int .u64 n).wf = true) := Opens.int .u64 Tryd.underlying30 (by kernel_rfl)
abbrev kTx := Kd.pair (Kd.int .i64) (Kd.pair Kd.string (Kd.pair Kd.string (Kd.pair (Kd.int .u64) (Kd.pair (Kd.int .u64) (Kd.pair Kd.string (Kd.pair Kd.string (Kd.pair (Kd.slice 9 Kd.string) (Kd.slice 9 Kd.string))))))))
/-- What is known of a transaction that came in. -/
structure TxIn (w : World) (k : Int) (f t : ByteArray) (am nc : Int) (ky' vl : ByteArray) (A B : Option Addr) (c d : Nat) (rs ws : List ByteArray) : Prop where
  r : Kd.C Kd.string w A rs.length rs
  rc : rs.length ≤ c
  s : Kd.C Kd.string w B ws.length ws
  sc : ws.length ≤ d
  am : 0 ≤ am
  nc : 0 ≤ nc
  rl : rs.length * 16 ≤ 140737488351232
  sl : ws.length * 16 ≤ 140737488351232
  f : f.size ≤ 140737488351232
  t : t.size ≤ 140737488351232
  ky : ky'.size ≤ 140737488351232
  vl : vl.size ≤ 140737488351232
  rz : ∀ a ∈ rs, a.size ≤ 140737488351232
  sz : ∀ a ∈ ws, a.size ≤ 140737488351232
theorem TxIn.below {w w' : World} {k : Int} {f t : ByteArray} {am nc : Int} {ky' vl : ByteArray} {A B : Option Addr} {c d : Nat} {rs ws : List ByteArray} (h : TxIn w k f t am nc ky' vl A B c d rs ws) (hb : Below w.heap.size w w') : TxIn w' k f t am nc ky' vl A B c d rs ws :=
  { h with r := Kd.C_below h.r hb, s := Kd.C_below h.s hb }
theorem u64_lo {n : Int} (h : (Lit.int .u64 n).wf = true) : 0 ≤ n := ((Lit.wf_int_iff .u64 n).1 h).1
end Go.Proofs.YtndicjikjcifaaaDoor

/- The sealers' answers, case by case; an operation (a tick, or a transaction to add) as it came in; Own's copies and what they lead to. -/
namespace Go.Proofs.YtndicjikjcifaaaDoor
open Go.RowKit Go.Proofs.YtndicjikjcifaaaDoorW.PrintWords Go.Proofs.YtndicjikjcifaaaDoorW.PrintLast
open PB (S33 k33)
set_option linter.unusedVariables false
set_option linter.unusedSimpArgs false
/-- A sealer's block. -/
abbrev sl6 (a0 s0 t0 : Int) (A : Option Addr) (n c : Nat) (k0 n0 : Int) : List Value := [.int .i64 a0, .int .i64 s0, .int .i64 t0, .slice A n c, .int .i64 k0, .int .i64 n0]
section
variable {T : TypeId} {z a0 s0 t0 k0 n0 : Int} {g : Nat} {A : Option Addr} {c : Nat} {xs : List S33} {ok : Nat → Prop} {t : S33} {w : World} {Sf Rf : Nat → Prop} {M : List Asn} {e : Ending} {W : World}
theorem AddP.no (h : AddP T z g a0 s0 t0 k0 n0 A c xs ok t w Sf Rf M e W) (hz : z ≠ 0) : e = .returned (.int .i64 z) ∧ St w Sf Rf (Asn.blk g (sl6 a0 s0 t0 A xs.length c k0 n0) T :: Asn.qu k33 33 (.slice A xs.length c) xs ok :: M) W := by
  rcases h with ⟨_, h1, h2⟩ | ⟨h0, _⟩ | ⟨h0, _⟩
  · exact ⟨h1, h2⟩
  · exact absurd h0 hz
  · exact absurd h0 hz
theorem AddP.full (h : AddP T z g a0 s0 t0 k0 n0 A c xs ok t w Sf Rf M e W) (hz : z = 0) (hf : (xs.length : Int) ≥ 4 * s0) : e = .returned (.int .i64 4) ∧ St w Sf Rf (Asn.blk g (sl6 a0 s0 t0 A xs.length c k0 n0) T :: Asn.qu k33 33 (.slice A xs.length c) xs ok :: M) W := by
  rcases h with ⟨h0, _⟩ | ⟨_, _, h1, h2⟩ | ⟨_, h0, _⟩
  · exact absurd hz h0
  · exact ⟨h1, h2⟩
  · exact absurd hf h0
theorem AddP.in_ (h : AddP T z g a0 s0 t0 k0 n0 A c xs ok t w Sf Rf M e W) (hz : z = 0) (hf : ¬ (xs.length : Int) ≥ 4 * s0) : e = .returned (.int .i64 0) ∧ ∃ A' c' ok', St w Sf Rf (Asn.blk g (sl6 a0 s0 t0 A' (xs ++ [t]).length c' k0 n0) T :: Asn.qu k33 33 (.slice A' (xs ++ [t]).length c') (xs ++ [t]) ok' :: M) W := by
  rcases h with ⟨h0, _⟩ | ⟨_, h0, _⟩ | ⟨_, _, h1, h2⟩
  · exact absurd hz h0
  · exact absurd h0 hf
  · exact ⟨h1, h2⟩
abbrev cutA (A : Option Addr) (c m : Nat) : Option Addr := if c = m then A else A.map (·.add (m * 9))
theorem Ticked.none (h : Ticked g a0 s0 t0 k0 n0 A c xs ok w Sf Rf e W) (h0 : xs.length = 0) : e = .returned (.tuple #[.agg #[.int .i64 0, .int .i64 0, .slice Option.none 0 0], .bool false]) ∧ St w Sf Rf [Asn.blk g (sl6 a0 s0 t0 A xs.length c k0 n0) 72, Asn.qu k33 33 (.slice A xs.length c) xs ok] W := by
  rcases h with ⟨_, h1, h2⟩ | ⟨h1, _⟩ | ⟨h1, _⟩
  · exact ⟨h1, h2⟩
  · exact absurd h0 h1
  · exact absurd h0 h1
theorem Ticked.wait (h : Ticked g a0 s0 t0 k0 n0 A c xs ok w Sf Rf e W) (h0 : xs.length ≠ 0) (hw : (xs.length : Int) < s0 ∧ k0 + 1 < t0) : e = .returned (.tuple #[.agg #[.int .i64 0, .int .i64 0, .slice Option.none 0 0], .bool false]) ∧ St w Sf Rf [Asn.blk g (sl6 a0 s0 t0 A xs.length c (k0 + 1) n0) 72, Asn.qu k33 33 (.slice A xs.length c) xs ok] W := by
  rcases h with ⟨h1, _⟩ | ⟨_, _, _, h1, h2⟩ | ⟨_, h1, _⟩
  · exact absurd h1 h0
  · exact ⟨h1, h2⟩
  · exact absurd hw h1
theorem Ticked.seal (h : Ticked g a0 s0 t0 k0 n0 A c xs ok w Sf Rf e W) (h0 : xs.length ≠ 0) (hw : ¬ ((xs.length : Int) < s0 ∧ k0 + 1 < t0)) (m : Nat) (hm : (m : Int) = min s0 (xs.length : Int)) : e = .returned (.tuple #[.agg #[.int .i64 a0, .int .i64 (n0 + 1), .slice A (xs.take m).length m], .bool true]) ∧
    St w Sf Rf [Asn.blk g (sl6 a0 s0 t0 (cutA A c m) (xs.drop m).length (c - m) 0 (n0 + 1)) 72, Asn.qf k33 33 (.slice (cutA A c m) (xs.drop m).length (c - m)) (xs.drop m) ok A (xs.take m).length (xs.take m)] W := by
  rcases h with ⟨h1, _⟩ | ⟨_, h1, h2, _⟩ | ⟨_, _, m', hm', h1, h2⟩
  · exact absurd h1 h0
  · exact absurd ⟨h1, h2⟩ hw
  · obtain rfl : m = m' := by omega
    rw [List.length_take, List.length_drop, Nat.min_eq_left (by omega)]
    exact ⟨h1, h2⟩
theorem RTicked.none (h : RTicked g a0 s0 t0 k0 n0 A c xs ok w Sf Rf e W) (h0 : xs.length = 0) : e = .returned (.tuple #[.agg #[.int .i64 0, .int .i64 0, .slice Option.none 0 0], .bool false]) ∧ St w Sf Rf [Asn.blk g (sl6 a0 s0 t0 A xs.length c k0 n0) 46, Asn.qu k33 33 (.slice A xs.length c) xs ok] W := by
  rcases h with ⟨_, h1, h2⟩ | ⟨h1, _⟩ | ⟨h1, _⟩
  · exact ⟨h1, h2⟩
  · exact absurd h0 h1
  · exact absurd h0 h1
theorem RTicked.wait (h : RTicked g a0 s0 t0 k0 n0 A c xs ok w Sf Rf e W) (h0 : xs.length ≠ 0) (hw : (xs.length : Int) < s0 ∧ k0 + 1 < t0) : e = .returned (.tuple #[.agg #[.int .i64 0, .int .i64 0, .slice Option.none 0 0], .bool false]) ∧ St w Sf Rf [Asn.blk g (sl6 a0 s0 t0 A xs.length c (k0 + 1) n0) 46, Asn.qu k33 33 (.slice A xs.length c) xs ok] W := by
  rcases h with ⟨h1, _⟩ | ⟨_, _, _, h1, h2⟩ | ⟨_, h1, _⟩
  · exact absurd h1 h0
  · exact ⟨h1, h2⟩
  · exact absurd hw h1
theorem RTicked.seal (h : RTicked g a0 s0 t0 k0 n0 A c xs ok w Sf Rf e W) (h0 : xs.length ≠ 0) (hw : ¬ ((xs.length : Int) < s0 ∧ k0 + 1 < t0)) (m : Nat) (hm : (m : Int) = min s0 (xs.length : Int)) : ∃ (A' : Option Addr) (c' : Nat) (ok' : Nat → Prop), (xs.take m).length ≤ c' ∧ e = .returned (.tuple #[.agg #[.int .i64 a0, .int .i64 (n0 + 1), .slice A' (xs.take m).length c'], .bool true]) ∧
    St w Sf Rf [Asn.blk g (sl6 a0 s0 t0 (cutA A c m) (xs.drop m).length (c - m) 0 (n0 + 1)) 46, Asn.qu k33 33 (.slice (cutA A c m) (xs.drop m).length (c - m)) (xs.drop m) ok, Asn.rd k33 ok' A' (xs.take m).length (xs.take m)] W := by
  rcases h with ⟨h1, _⟩ | ⟨_, h1, h2, _⟩ | ⟨_, _, m', A', c', ok', hm', h1, h2, h3⟩
  · exact absurd h1 h0
  · exact absurd ⟨h1, h2⟩ hw
  · obtain rfl : m = m' := by omega
    rw [List.length_drop]
    exact ⟨A', c', ok', h1, h2, h3⟩
theorem SealNew.is (h : SealNew T a0 s0 t0 w e W) (hk : SealOk a0 s0 t0) : ∃ g, e = .returned (.tuple #[.pointer (some ⟨g, 0, none⟩), .int .i64 0]) ∧ w.heap.size ≤ g ∧ W.heap[g]? = some (.cells (sl6 a0 s0 t0 Option.none 0 0 0 0).toArray T (0, 0)) ∧ Below w.heap.size w W := h.1 hk
theorem SealNew.no (h : SealNew T a0 s0 t0 w e W) (hk : ¬ SealOk a0 s0 t0) : e = .returned (.tuple #[.pointer Option.none, .int .i64 2]) ∧ Below w.heap.size w W := h.2 hk
/-- A block that a call made. -/
theorem St.newBlk {w W W' : World} {S R : Nat → Prop} {M : List Asn} {g : Nat} {cs : List Value} {T : TypeId} (H : St w S R M W) (hb : Below W.heap.size W W') (hg : W.heap.size ≤ g) (h : W'.heap[g]? = some (.cells cs.toArray T (0, 0))) : St w S R (M ++ [Asn.blk g cs T]) W' :=
  H.fresh hb _ h (fun k hk => by
    rcases hk with hk | hk
    · exact (show k = g from hk) ▸ ⟨hg, blk_lt h⟩
    · cases hk)
end
/-- A tick, or a transaction. -/
abbrev kOp : Kd (Bool × S33) := Kd.pair Kd.bool k33
theorem kOp_heap : Kd.Heap kOp := Kd.heap_pair Kd.heap_bool k33_heap
theorem kOp_open {w : World} {b : Bool} {x : S33} {cs : List Value} (h : kOp.K w (b, x) cs) : ∃ A7 c7 A8 c8, cs = [.bool b, .int .i64 x.f0, .string x.f1, .string x.f2, .int .u64 x.f3, .int .u64 x.f4, .string x.f5, .string x.f6, .slice A7 x.f7.length c7, .slice A8 x.f8.length c8] := by
  obtain ⟨c0, c1, rfl, h0, h1⟩ := h
  obtain ⟨A7, c7, A8, c8, rfl, _⟩ := PB.k33_open h1
  have h0 : c0 = [.bool b] := h0
  subst h0
  exact ⟨A7, c7, A8, c8, rfl⟩
theorem kOp_tx {w : World} {b : Bool} {x : S33} {cs : List Value} (h : kOp.K w (b, x) (.bool b :: cs)) : k33.K w x cs := by
  obtain ⟨c0, c1, he, h0, h1⟩ := h
  have h0 : c0 = [.bool b] := h0
  subst h0
  simp only [List.singleton_append, List.cons.injEq, true_and] at he
  exact he ▸ h1
theorem k33_C_heap {w : World} {A : Option Addr} {n : Nat} {l : List (Bool × S33)} (h : kOp.C w A n l) : Foot (fun W => kOp.C W A n l) w (fun k => k < w.heap.size) := fun W' hW => kOp_heap.C (fun k hk => hW k hk hk) h
/-- Own's copy, and what it leads to. -/
theorem ownF_calls (t : S33) (A B : Option Addr) (c d : Nat) (w : World) (hK : k33.K w t [.int .i64 t.f0, .string t.f1, .string t.f2, .int .u64 t.f3, .int .u64 t.f4, .string t.f5, .string t.f6, .slice A t.f7.length c, .slice B t.f8.length d]) (h1 : t.f7.length < 8796093022208) (h2 : t.f8.length < 8796093022208) :
    Calls Tryd.prog 19 #[.agg #[.int .i64 t.f0, .string t.f1, .string t.f2, .int .u64 t.f3, .int .u64 t.f4, .string t.f5, .string t.f6, .slice A t.f7.length c, .slice B t.f8.length d]] w
      fun e w' => ∃ A' c' B' d', e = .returned (.agg #[.int .i64 t.f0, .string t.f1, .string t.f2, .int .u64 t.f3, .int .u64 t.f4, .string t.f5, .string t.f6, .slice A' t.f7.length c', .slice B' t.f8.length d'])
        ∧ Foot (fun W => k33.K W t [.int .i64 t.f0, .string t.f1, .string t.f2, .int .u64 t.f3, .int .u64 t.f4, .string t.f5, .string t.f6, .slice A' t.f7.length c', .slice B' t.f8.length d']) w' (fun k => w.heap.size ≤ k) ∧ Below w.heap.size w w' := by
  obtain ⟨l7, g7, l8, g8⟩ := k33_parts hK
  refine (POw.tusklaw04_Own.calls t.f0 t.f1 t.f2 t.f3 t.f4 t.f5 t.f6 A c t.f7 B d t.f8 t.f0 t.f1 t.f2 t.f3 t.f4 t.f5 t.f6 t.f7 t.f8 w g7 l7 g8 l8 ?_).mono ?_
  · simp [POw.tusklaw04_Own.f, h1, h2]
  · rintro e w' ⟨v7, v8, rfl, r7, r8, hb⟩
    obtain ⟨A', c', rfl, q1, q2⟩ := Kd.R_reads r7
    obtain ⟨B', d', rfl, q3, q4⟩ := Kd.R_reads r8
    exact ⟨A', c', B', d', rfl, fk_tx t q1 (Foot.mono (Kd.R_F (Kd.R_bound r7)) (fun k hk => hk.2.1)) q3 (Foot.mono (Kd.R_F (Kd.R_bound r8)) (fun k hk => hk.2.1)), hb⟩
/-- What is known of an operation that came in. -/
def OpB (o : Bool × S33) : Prop := LimT o.2 ∧ o.2.f7.length < 8796093022208 ∧ o.2.f8.length < 8796093022208
theorem chT_len {t : S33} (h : chT t = 0) : LenT t := by
  have hF := ch_fine (show ch t.f0 t.f1 t.f2 t.f3 t.f4 t.f5 t.f6 t.f7 t.f8 = 0 from h)
  have h7 := (ke_zero hF.rs).1
  have h8 := (ke_zero hF.ws).1
  exact ⟨by omega, by omega⟩
end Go.Proofs.YtndicjikjcifaaaDoor

/- BatchSeals. -/
namespace Go.Proofs.YtndicjikjcifaaaDoor
open Go.RowKit Go.Proofs.YtndicjikjcifaaaDoorW.PrintWords Go.Proofs.YtndicjikjcifaaaDoorW.PrintLast
set_option linter.unusedVariables false
set_option linter.unusedSimpArgs false
set_option maxRecDepth 100000
open PB (S33 k33)
set_option maxHeartbeats 4000000 in
theorem seals_no (a0 s0 t0 : Int) (A : Option Addr) (c : Nat) (l : List (Bool × S33)) (w : World) (hr : kOp.C w A l.length l) (hc : l.length ≤ c) (hl : l.length < 4611686018427387904) (hOB : ∀ o ∈ l, OpB o) (hok : ¬ SealOk a0 s0 t0) : Calls Tryd.prog 3 #[.int .i64 a0, .int .i64 s0, .int .i64 t0, .slice A l.length c] w fun e W => e = .returned (.bool true) ∧ Below w.heap.size w W := by
  have H0 : St w (fun _ => False) (fun _ => True) [Asn.rd kOp (fun k => k < w.heap.size) A l.length l] w := (St.first w _ _).old _ (k33_C_heap hr) (fun B hB => by cases hB)
  refine c_enter2 (args := [.int .i64 a0, .int .i64 s0, .int .i64 t0, .slice A l.length c]) (S := (fun _ => False)) (R := (fun _ => True)) (M := [Asn.rd kOp (fun k => k < w.heap.size) A l.length l]) Tryd.func3 (by kernel_rfl) 113 Tryd.ntmps3 (Nat.le_of_ble_eq_true rfl) (H0) (fun a W F H => ?_)
  have F := F.less [(0, .int .i64 a0), (1, .int .i64 s0), (2, .int .i64 t0), (3, .slice A l.length c)] (subc rfl (subc rfl (subc rfl (subc rfl sub0))))
  refine c_seq (by kernel_rfl) ?_
  refine c_text (id := 0) (by kernel_rfl) [(0, 2)] (by kernel_rfl) ?_
  refine sq2 (W' := W) (show Eq (α := OSk) _ (some (some 8, (.assign (.const (.bool false))), 4, none)) by kernel_rfl) trivial F (by decide) (v := .bool false) (x_assign rfl) (fun _ => trivial) (fun a F => ?_)
  unfold wpSeq
  have H : St w (fun _ => False) (fun _ => True) [Asn.rd kOp (fun k => k < w.heap.size) A l.length l] W := H
  refine t_normal ?_
  refine c_seq (by kernel_rfl) ?_
  refine c_text (id := 1) (by kernel_rfl) [(0, 2), (1, 2), (2, 2), (3, 2), (4, 2), (5, 2), (6, 2), (7, 2), (8, 2)] (by kernel_rfl) ?_
  refine sq2 (W' := W) (show Eq (α := OSk) _ (some (some 19, (.move (.tmp 0)), 3, none)) by kernel_rfl) trivial F (by decide) (v := .int .i64 a0) (x_move (F.slot rfl)) (fun _ => trivial) (fun a F => ?_)
  refine sq2 (W' := W) (show Eq (α := OSk) _ (some (some 20, (.move (.tmp 1)), 3, none)) by kernel_rfl) trivial F (by decide) (v := .int .i64 s0) (x_move (F.slot rfl)) (fun _ => trivial) (fun a F => ?_)
  refine sq2 (W' := W) (show Eq (α := OSk) _ (some (some 21, (.move (.tmp 2)), 3, none)) by kernel_rfl) trivial F (by decide) (v := .int .i64 t0) (x_move (F.slot rfl)) (fun _ => trivial) (fun a F => ?_)
  refine sqc (show Eq (α := OSk) _ (some (some 22, (.call { callee := (.value (.func 16)), args := #[(.tmp 19), (.tmp 20), (.tmp 21)], argTypes := #[3, 3, 3] }), 25, none)) by kernel_rfl) trivial F (by decide) (x_call Tryd.func16 (by kernel_rfl) rfl (args_3 (F.slot rfl) (F.slot rfl) (F.slot rfl))) ((new_calls a0 s0 t0 W).mono (fun _ _ h => h.no hok)) ?_
  rintro e W ⟨rfl, hB_⟩
  refine ⟨_, rfl, fun a F => ?_⟩
  have H := H.below hB_
  refine ⟨(fun _ => trivial), ?_⟩
  refine sq2 (W' := W) (show Eq (α := OSk) _ (some (some 18, (.move (.tmp 22)), 25, none)) by kernel_rfl) trivial F (by decide) (v := .tuple #[.pointer none, .int .i64 2]) (x_move (F.slot rfl)) (fun _ => trivial) (fun a F => ?_)
  refine sq2 (W' := W) (show Eq (α := OSk) _ (some (some 23, (.extract (.tmp 18) 0), 23, none)) by kernel_rfl) trivial F (by decide) (v := .pointer none) (x_extract (F.slot rfl) rfl) (fun _ => trivial) (fun a F => ?_)
  refine sq2 (W' := W) (show Eq (α := OSk) _ (some (some 24, (.extract (.tmp 18) 1), 24, none)) by kernel_rfl) trivial F (by decide) (v := .int .i64 2) (x_extract (F.slot rfl) rfl) (fun _ => trivial) (fun a F => ?_)
  refine sq2 (W' := W) (show Eq (α := OSk) _ (some (some 9, (.assign (.tmp 23)), 23, none)) by kernel_rfl) trivial F (by decide) (v := .pointer none) (x_assign (F.slot rfl)) (fun _ => trivial) (fun a F => ?_)
  refine sq2 (W' := W) (show Eq (α := OSk) _ (some (some 10, (.assign (.tmp 24)), 24, none)) by kernel_rfl) trivial F (by decide) (v := .int .i64 2) (x_assign (F.slot rfl)) (fun _ => trivial) (fun a F => ?_)
  unfold wpSeq
  refine t_normal ?_
  refine c_seq (by kernel_rfl) ?_
  refine c_text (id := 2) (by kernel_rfl) [(0, 2), (1, 2), (2, 2), (3, 2), (4, 2), (5, 2), (6, 2), (7, 2), (8, 2)] (by kernel_rfl) ?_
  refine sq2 (W' := W) (show Eq (α := OSk) _ (some (some 26, (.move (.tmp 0)), 3, none)) by kernel_rfl) trivial F (by decide) (v := .int .i64 a0) (x_move (F.slot rfl)) (fun _ => trivial) (fun a F => ?_)
  refine sq2 (W' := W) (show Eq (α := OSk) _ (some (some 27, (.move (.tmp 1)), 3, none)) by kernel_rfl) trivial F (by decide) (v := .int .i64 s0) (x_move (F.slot rfl)) (fun _ => trivial) (fun a F => ?_)
  refine sq2 (W' := W) (show Eq (α := OSk) _ (some (some 28, (.move (.tmp 2)), 3, none)) by kernel_rfl) trivial F (by decide) (v := .int .i64 t0) (x_move (F.slot rfl)) (fun _ => trivial) (fun a F => ?_)
  refine sqc (show Eq (α := OSk) _ (some (some 29, (.call { callee := (.value (.func 17)), args := #[(.tmp 26), (.tmp 27), (.tmp 28)], argTypes := #[3, 3, 3] }), 28, none)) by kernel_rfl) trivial F (by decide) (x_call Tryd.func17 (by kernel_rfl) rfl (args_3 (F.slot rfl) (F.slot rfl) (F.slot rfl))) ((rnew_calls a0 s0 t0 W).mono (fun _ _ h => h.no hok)) ?_
  rintro e W ⟨rfl, hB_⟩
  refine ⟨_, rfl, fun a F => ?_⟩
  have H := H.below hB_
  refine ⟨(fun _ => trivial), ?_⟩
  refine sq2 (W' := W) (show Eq (α := OSk) _ (some (some 25, (.move (.tmp 29)), 28, none)) by kernel_rfl) trivial F (by decide) (v := .tuple #[.pointer none, .int .i64 2]) (x_move (F.slot rfl)) (fun _ => trivial) (fun a F => ?_)
  refine sq2 (W' := W) (show Eq (α := OSk) _ (some (some 30, (.extract (.tmp 25) 0), 27, none)) by kernel_rfl) trivial F (by decide) (v := .pointer none) (x_extract (F.slot rfl) rfl) (fun _ => trivial) (fun a F => ?_)
  refine sq2 (W' := W) (show Eq (α := OSk) _ (some (some 31, (.extract (.tmp 25) 1), 24, none)) by kernel_rfl) trivial F (by decide) (v := .int .i64 2) (x_extract (F.slot rfl) rfl) (fun _ => trivial) (fun a F => ?_)
  refine sq2 (W' := W) (show Eq (α := OSk) _ (some (some 11, (.assign (.tmp 30)), 27, none)) by kernel_rfl) trivial F (by decide) (v := .pointer none) (x_assign (F.slot rfl)) (fun _ => trivial) (fun a F => ?_)
  refine sq2 (W' := W) (show Eq (α := OSk) _ (some (some 12, (.assign (.tmp 31)), 24, none)) by kernel_rfl) trivial F (by decide) (v := .int .i64 2) (x_assign (F.slot rfl)) (fun _ => trivial) (fun a F => ?_)
  unfold wpSeq
  refine t_normal ?_
  refine c_seq (by kernel_rfl) ?_
  refine c_seq (by kernel_rfl) ?_
  refine c_text (id := 3) (by kernel_rfl) [(0, 2), (1, 2), (2, 2), (3, 2), (4, 2), (5, 2), (6, 2), (7, 2), (8, 2), (9, 2), (10, 2)] (by kernel_rfl) ?_
  refine sq2 (W' := W) (show Eq (α := OSk) _ (some (some 32, (.move (.tmp 10)), 24, none)) by kernel_rfl) trivial F (by decide) (v := .int .i64 2) (x_move (F.slot rfl)) (fun _ => trivial) (fun a F => ?_)
  refine sq2 (W' := W) (show Eq (α := OSk) _ (some (some 33, (.move (.tmp 12)), 24, none)) by kernel_rfl) trivial F (by decide) (v := .int .i64 2) (x_move (F.slot rfl)) (fun _ => trivial) (fun a F => ?_)
  refine sq2 (W' := W) (show Eq (α := OSk) _ (some (some 34, (.binOp .neq 24 (.tmp 32) (.tmp 33) 24), 4, none)) by kernel_rfl) trivial F (by decide) (v := .bool false) (x_int (F.slot rfl) (F.slot rfl) rfl) (fun _ => trivial) (fun a F => ?_)
  refine sq2 (W' := W) (show Eq (α := OSk) _ (some (some 35, (.move (.tmp 34)), 4, none)) by kernel_rfl) trivial F (by decide) (v := .bool false) (x_move (F.slot rfl)) (fun _ => trivial) (fun a F => ?_)
  refine sq2 (W' := W) (show Eq (α := OSk) _ (some (some 36, (.move (.tmp 10)), 24, some (3, false))) by kernel_rfl) ⟨35, by kernel_rfl, rfl⟩ F (by decide) (v := .int .i64 2) (x_move (F.slot rfl)) (fun _ => trivial) (fun a F => ?_)
  refine sq2 (W' := W) (show Eq (α := OSk) _ (some (some 37, (.binOp .neq 24 (.tmp 36) (.const (.int .i64 0)) 24), 4, some (3, false))) by kernel_rfl) ⟨35, by kernel_rfl, rfl⟩ F (by decide) (v := .bool true) (x_int (F.slot rfl) rfl rfl) (fun _ => trivial) (fun a F => ?_)
  refine sq2 (W' := W) (show Eq (α := OSk) _ (some (some 38, (.pick (.tmp 35) (.const (.bool true)) (.tmp 37)), 4, none)) by kernel_rfl) trivial F (by decide) (v := .bool true) (x_pickF (F.slot rfl) (F.slot rfl)) (fun _ => trivial) (fun a F => ?_)
  refine sq2 (W' := W) (show Eq (α := OSk) _ (some (some 39, (.move (.tmp 38)), 4, none)) by kernel_rfl) trivial F (by decide) (v := .bool true) (x_move (F.slot rfl)) (fun _ => trivial) (fun a F => ?_)
  refine sqoff2 (e := 39) (show Eq (α := OSk) _ (some (some 40, (.move (.tmp 9)), 23, some (7, false))) by kernel_rfl) (by kernel_rfl) (.inl rfl) F (by decide) (trivial) (fun a F => ?_)
  refine sqoff2 (e := 39) (show Eq (α := OSk) _ (some (some 41, (.binOp .eql 23 (.tmp 40) (.const (.pointer none)) 23), 4, some (7, false))) by kernel_rfl) (by kernel_rfl) (.inl rfl) F (by decide) (trivial) (fun a F => ?_)
  refine sq2 (W' := W) (show Eq (α := OSk) _ (some (some 42, (.pick (.tmp 39) (.const (.bool true)) (.tmp 41)), 4, none)) by kernel_rfl) trivial F (by decide) (v := .bool true) (x_pickT (F.slot rfl) rfl) (fun _ => trivial) (fun a F => ?_)
  unfold wpSeq
  refine t_normal ?_
  refine c_yes (c := .tmp 42) (by kernel_rfl) (F.slot rfl) ?_
  refine c_seq (by kernel_rfl) ?_
  refine c_text (id := 4) (by kernel_rfl) [(0, 2), (1, 2), (2, 2), (3, 2), (4, 2), (5, 2), (6, 2), (7, 2), (8, 2), (9, 2), (10, 2), (11, 2)] (by kernel_rfl) ?_
  refine sq2 (W' := W) (show Eq (α := OSk) _ (some (some 43, (.move (.tmp 10)), 24, none)) by kernel_rfl) trivial F (by decide) (v := .int .i64 2) (x_move (F.slot rfl)) (fun _ => trivial) (fun a F => ?_)
  refine sq2 (W' := W) (show Eq (α := OSk) _ (some (some 44, (.move (.tmp 12)), 24, none)) by kernel_rfl) trivial F (by decide) (v := .int .i64 2) (x_move (F.slot rfl)) (fun _ => trivial) (fun a F => ?_)
  refine sq2 (W' := W) (show Eq (α := OSk) _ (some (some 45, (.binOp .eql 24 (.tmp 43) (.tmp 44) 24), 4, none)) by kernel_rfl) trivial F (by decide) (v := .bool true) (x_int (F.slot rfl) (F.slot rfl) rfl) (fun _ => trivial) (fun a F => ?_)
  refine sq2 (W' := W) (show Eq (α := OSk) _ (some (some 46, (.move (.tmp 45)), 4, none)) by kernel_rfl) trivial F (by decide) (v := .bool true) (x_move (F.slot rfl)) (fun _ => trivial) (fun a F => ?_)
  refine sq2 (W' := W) (show Eq (α := OSk) _ (some (some 47, (.move (.tmp 10)), 24, some (3, true))) by kernel_rfl) ⟨46, by kernel_rfl, rfl⟩ F (by decide) (v := .int .i64 2) (x_move (F.slot rfl)) (fun _ => trivial) (fun a F => ?_)
  refine sq2 (W' := W) (show Eq (α := OSk) _ (some (some 48, (.binOp .neq 24 (.tmp 47) (.const (.int .i64 0)) 24), 4, some (3, true))) by kernel_rfl) ⟨46, by kernel_rfl, rfl⟩ F (by decide) (v := .bool true) (x_int (F.slot rfl) rfl rfl) (fun _ => trivial) (fun a F => ?_)
  refine sq2 (W' := W) (show Eq (α := OSk) _ (some (some 49, (.pick (.tmp 46) (.tmp 48) (.const (.bool false))), 4, none)) by kernel_rfl) trivial F (by decide) (v := .bool true) (x_pickT (F.slot rfl) (F.slot rfl)) (fun _ => trivial) (fun a F => ?_)
  refine sq2 (W' := W) (show Eq (α := OSk) _ (some (some 50, (.move (.tmp 49)), 4, none)) by kernel_rfl) trivial F (by decide) (v := .bool true) (x_move (F.slot rfl)) (fun _ => trivial) (fun a F => ?_)
  refine sq2 (W' := W) (show Eq (α := OSk) _ (some (some 51, (.move (.tmp 9)), 23, some (7, true))) by kernel_rfl) ⟨50, by kernel_rfl, rfl⟩ F (by decide) (v := .pointer none) (x_move (F.slot rfl)) (fun _ => trivial) (fun a F => ?_)
  refine sq2 (W' := W) (show Eq (α := OSk) _ (some (some 52, (.binOp .eql 23 (.tmp 51) (.const (.pointer none)) 23), 4, some (7, true))) by kernel_rfl) ⟨50, by kernel_rfl, rfl⟩ F (by decide) (v := .bool true) (x_bin (F.slot rfl) rfl rfl) (fun _ => trivial) (fun a F => ?_)
  refine sq2 (W' := W) (show Eq (α := OSk) _ (some (some 53, (.pick (.tmp 50) (.tmp 52) (.const (.bool false))), 4, none)) by kernel_rfl) trivial F (by decide) (v := .bool true) (x_pickT (F.slot rfl) (F.slot rfl)) (fun _ => trivial) (fun a F => ?_)
  refine sq2 (W' := W) (show Eq (α := OSk) _ (some (some 8, (.assign (.tmp 53)), 4, none)) by kernel_rfl) trivial F (by decide) (v := .bool true) (x_assign (F.slot rfl)) (fun _ => trivial) (fun a F => ?_)
  unfold wpSeq
  refine t_normal ?_
  refine c_ret (by kernel_rfl) ?_
  refine t_ret ?_
  refine p_tmp Tryd.results3 F rfl ?_
  exact ⟨rfl, H.ends⟩
set_option maxHeartbeats 4000000 in
theorem seals_ok (a0 s0 t0 : Int) (A : Option Addr) (c : Nat) (l : List (Bool × S33)) (w : World) (hr : kOp.C w A l.length l) (hc : l.length ≤ c) (hl : l.length < 4611686018427387904) (hOB : ∀ o ∈ l, OpB o) (hok : SealOk a0 s0 t0) : Calls Tryd.prog 3 #[.int .i64 a0, .int .i64 s0, .int .i64 t0, .slice A l.length c] w fun e W => e = .returned (.bool true) ∧ Below w.heap.size w W := by
  have H0 : St w (fun _ => False) (fun _ => True) [Asn.rd kOp (fun k => k < w.heap.size) A l.length l] w := (St.first w _ _).old _ (k33_C_heap hr) (fun B hB => by cases hB)
  refine c_enter2 (args := [.int .i64 a0, .int .i64 s0, .int .i64 t0, .slice A l.length c]) (S := (fun _ => False)) (R := (fun _ => True)) (M := [Asn.rd kOp (fun k => k < w.heap.size) A l.length l]) Tryd.func3 (by kernel_rfl) 113 Tryd.ntmps3 (Nat.le_of_ble_eq_true rfl) (H0) (fun a W F H => ?_)
  have F := F.less [(0, .int .i64 a0), (1, .int .i64 s0), (2, .int .i64 t0), (3, .slice A l.length c)] (subc rfl (subc rfl (subc rfl (subc rfl sub0))))
  refine c_seq (by kernel_rfl) ?_
  refine c_text (id := 0) (by kernel_rfl) [(0, 2)] (by kernel_rfl) ?_
  refine sq2 (W' := W) (show Eq (α := OSk) _ (some (some 8, (.assign (.const (.bool false))), 4, none)) by kernel_rfl) trivial F (by decide) (v := .bool false) (x_assign rfl) (fun _ => trivial) (fun a F => ?_)
  unfold wpSeq
  have H : St w (fun _ => False) (fun _ => True) [Asn.rd kOp (fun k => k < w.heap.size) A l.length l] W := H
  refine t_normal ?_
  refine c_seq (by kernel_rfl) ?_
  refine c_text (id := 1) (by kernel_rfl) [(0, 2), (1, 2), (2, 2), (3, 2), (4, 2), (5, 2), (6, 2), (7, 2), (8, 2)] (by kernel_rfl) ?_
  refine sq2 (W' := W) (show Eq (α := OSk) _ (some (some 19, (.move (.tmp 0)), 3, none)) by kernel_rfl) trivial F (by decide) (v := .int .i64 a0) (x_move (F.slot rfl)) (fun _ => trivial) (fun a F => ?_)
  refine sq2 (W' := W) (show Eq (α := OSk) _ (some (some 20, (.move (.tmp 1)), 3, none)) by kernel_rfl) trivial F (by decide) (v := .int .i64 s0) (x_move (F.slot rfl)) (fun _ => trivial) (fun a F => ?_)
  refine sq2 (W' := W) (show Eq (α := OSk) _ (some (some 21, (.move (.tmp 2)), 3, none)) by kernel_rfl) trivial F (by decide) (v := .int .i64 t0) (x_move (F.slot rfl)) (fun _ => trivial) (fun a F => ?_)
  refine sqc (show Eq (α := OSk) _ (some (some 22, (.call { callee := (.value (.func 16)), args := #[(.tmp 19), (.tmp 20), (.tmp 21)], argTypes := #[3, 3, 3] }), 25, none)) by kernel_rfl) trivial F (by decide) (x_call Tryd.func16 (by kernel_rfl) rfl (args_3 (F.slot rfl) (F.slot rfl) (F.slot rfl))) ((new_calls a0 s0 t0 W).mono (fun _ _ h => h.is hok)) ?_
  rintro e W ⟨g1, rfl, hg1, hbg1, hB⟩
  refine ⟨_, rfl, fun a F => ?_⟩
  have H := H.newBlk hB hg1 hbg1
  have H : St w (fun _ => False) (fun _ => True) [Asn.rd kOp (fun k => k < w.heap.size) A l.length l, Asn.blk g1 [.int .i64 a0, .int .i64 s0, .int .i64 t0, .slice none 0 0, .int .i64 0, .int .i64 0] 72] W := H
  refine ⟨(fun _ => trivial), ?_⟩
  refine sq2 (W' := W) (show Eq (α := OSk) _ (some (some 18, (.move (.tmp 22)), 25, none)) by kernel_rfl) trivial F (by decide) (v := .tuple #[.pointer (some ⟨g1, 0, none⟩), .int .i64 0]) (x_move (F.slot rfl)) (fun _ => trivial) (fun a F => ?_)
  refine sq2 (W' := W) (show Eq (α := OSk) _ (some (some 23, (.extract (.tmp 18) 0), 23, none)) by kernel_rfl) trivial F (by decide) (v := .pointer (some ⟨g1, 0, none⟩)) (x_extract (F.slot rfl) rfl) (fun _ => trivial) (fun a F => ?_)
  refine sq2 (W' := W) (show Eq (α := OSk) _ (some (some 24, (.extract (.tmp 18) 1), 24, none)) by kernel_rfl) trivial F (by decide) (v := .int .i64 0) (x_extract (F.slot rfl) rfl) (fun _ => trivial) (fun a F => ?_)
  refine sq2 (W' := W) (show Eq (α := OSk) _ (some (some 9, (.assign (.tmp 23)), 23, none)) by kernel_rfl) trivial F (by decide) (v := .pointer (some ⟨g1, 0, none⟩)) (x_assign (F.slot rfl)) (fun _ => trivial) (fun a F => ?_)
  refine sq2 (W' := W) (show Eq (α := OSk) _ (some (some 10, (.assign (.tmp 24)), 24, none)) by kernel_rfl) trivial F (by decide) (v := .int .i64 0) (x_assign (F.slot rfl)) (fun _ => trivial) (fun a F => ?_)
  unfold wpSeq
  refine t_normal ?_
  refine c_seq (by kernel_rfl) ?_
  refine c_text (id := 2) (by kernel_rfl) [(0, 2), (1, 2), (2, 2), (3, 2), (4, 2), (5, 2), (6, 2), (7, 2), (8, 2)] (by kernel_rfl) ?_
  refine sq2 (W' := W) (show Eq (α := OSk) _ (some (some 26, (.move (.tmp 0)), 3, none)) by kernel_rfl) trivial F (by decide) (v := .int .i64 a0) (x_move (F.slot rfl)) (fun _ => trivial) (fun a F => ?_)
  refine sq2 (W' := W) (show Eq (α := OSk) _ (some (some 27, (.move (.tmp 1)), 3, none)) by kernel_rfl) trivial F (by decide) (v := .int .i64 s0) (x_move (F.slot rfl)) (fun _ => trivial) (fun a F => ?_)
  refine sq2 (W' := W) (show Eq (α := OSk) _ (some (some 28, (.move (.tmp 2)), 3, none)) by kernel_rfl) trivial F (by decide) (v := .int .i64 t0) (x_move (F.slot rfl)) (fun _ => trivial) (fun a F => ?_)
  refine sqc (show Eq (α := OSk) _ (some (some 29, (.call { callee := (.value (.func 17)), args := #[(.tmp 26), (.tmp 27), (.tmp 28)], argTypes := #[3, 3, 3] }), 28, none)) by kernel_rfl) trivial F (by decide) (x_call Tryd.func17 (by kernel_rfl) rfl (args_3 (F.slot rfl) (F.slot rfl) (F.slot rfl))) ((rnew_calls a0 s0 t0 W).mono (fun _ _ h => h.is hok)) ?_
  rintro e W ⟨g2, rfl, hg2, hbg2, hB⟩
  refine ⟨_, rfl, fun a F => ?_⟩
  have H := H.newBlk hB hg2 hbg2
  have H : St w (fun _ => False) (fun _ => True) [Asn.rd kOp (fun k => k < w.heap.size) A l.length l, Asn.blk g1 [.int .i64 a0, .int .i64 s0, .int .i64 t0, .slice none 0 0, .int .i64 0, .int .i64 0] 72, Asn.blk g2 [.int .i64 a0, .int .i64 s0, .int .i64 t0, .slice none 0 0, .int .i64 0, .int .i64 0] 46] W := H
  refine ⟨(fun _ => trivial), ?_⟩
  refine sq2 (W' := W) (show Eq (α := OSk) _ (some (some 25, (.move (.tmp 29)), 28, none)) by kernel_rfl) trivial F (by decide) (v := .tuple #[.pointer (some ⟨g2, 0, none⟩), .int .i64 0]) (x_move (F.slot rfl)) (fun _ => trivial) (fun a F => ?_)
  refine sq2 (W' := W) (show Eq (α := OSk) _ (some (some 30, (.extract (.tmp 25) 0), 27, none)) by kernel_rfl) trivial F (by decide) (v := .pointer (some ⟨g2, 0, none⟩)) (x_extract (F.slot rfl) rfl) (fun _ => trivial) (fun a F => ?_)
  refine sq2 (W' := W) (show Eq (α := OSk) _ (some (some 31, (.extract (.tmp 25) 1), 24, none)) by kernel_rfl) trivial F (by decide) (v := .int .i64 0) (x_extract (F.slot rfl) rfl) (fun _ => trivial) (fun a F => ?_)
  refine sq2 (W' := W) (show Eq (α := OSk) _ (some (some 11, (.assign (.tmp 30)), 27, none)) by kernel_rfl) trivial F (by decide) (v := .pointer (some ⟨g2, 0, none⟩)) (x_assign (F.slot rfl)) (fun _ => trivial) (fun a F => ?_)
  refine sq2 (W' := W) (show Eq (α := OSk) _ (some (some 12, (.assign (.tmp 31)), 24, none)) by kernel_rfl) trivial F (by decide) (v := .int .i64 0) (x_assign (F.slot rfl)) (fun _ => trivial) (fun a F => ?_)
  unfold wpSeq
  refine t_normal ?_
  refine c_seq (by kernel_rfl) ?_
  refine c_seq (by kernel_rfl) ?_
  refine c_text (id := 3) (by kernel_rfl) [(0, 2), (1, 2), (2, 2), (3, 2), (4, 2), (5, 2), (6, 2), (7, 2), (8, 2), (9, 2), (10, 2)] (by kernel_rfl) ?_
  refine sq2 (W' := W) (show Eq (α := OSk) _ (some (some 32, (.move (.tmp 10)), 24, none)) by kernel_rfl) trivial F (by decide) (v := .int .i64 0) (x_move (F.slot rfl)) (fun _ => trivial) (fun a F => ?_)
  refine sq2 (W' := W) (show Eq (α := OSk) _ (some (some 33, (.move (.tmp 12)), 24, none)) by kernel_rfl) trivial F (by decide) (v := .int .i64 0) (x_move (F.slot rfl)) (fun _ => trivial) (fun a F => ?_)
  refine sq2 (W' := W) (show Eq (α := OSk) _ (some (some 34, (.binOp .neq 24 (.tmp 32) (.tmp 33) 24), 4, none)) by kernel_rfl) trivial F (by decide) (v := .bool false) (x_int (F.slot rfl) (F.slot rfl) rfl) (fun _ => trivial) (fun a F => ?_)
  refine sq2 (W' := W) (show Eq (α := OSk) _ (some (some 35, (.move (.tmp 34)), 4, none)) by kernel_rfl) trivial F (by decide) (v := .bool false) (x_move (F.slot rfl)) (fun _ => trivial) (fun a F => ?_)
  refine sq2 (W' := W) (show Eq (α := OSk) _ (some (some 36, (.move (.tmp 10)), 24, some (3, false))) by kernel_rfl) ⟨35, by kernel_rfl, rfl⟩ F (by decide) (v := .int .i64 0) (x_move (F.slot rfl)) (fun _ => trivial) (fun a F => ?_)
  refine sq2 (W' := W) (show Eq (α := OSk) _ (some (some 37, (.binOp .neq 24 (.tmp 36) (.const (.int .i64 0)) 24), 4, some (3, false))) by kernel_rfl) ⟨35, by kernel_rfl, rfl⟩ F (by decide) (v := .bool false) (x_int (F.slot rfl) rfl rfl) (fun _ => trivial) (fun a F => ?_)
  refine sq2 (W' := W) (show Eq (α := OSk) _ (some (some 38, (.pick (.tmp 35) (.const (.bool true)) (.tmp 37)), 4, none)) by kernel_rfl) trivial F (by decide) (v := .bool false) (x_pickF (F.slot rfl) (F.slot rfl)) (fun _ => trivial) (fun a F => ?_)
  refine sq2 (W' := W) (show Eq (α := OSk) _ (some (some 39, (.move (.tmp 38)), 4, none)) by kernel_rfl) trivial F (by decide) (v := .bool false) (x_move (F.slot rfl)) (fun _ => trivial) (fun a F => ?_)
  refine sq2 (W' := W) (show Eq (α := OSk) _ (some (some 40, (.move (.tmp 9)), 23, some (7, false))) by kernel_rfl) ⟨39, by kernel_rfl, rfl⟩ F (by decide) (v := .pointer (some ⟨g1, 0, none⟩)) (x_move (F.slot rfl)) (fun _ => trivial) (fun a F => ?_)
  refine sq2 (W' := W) (show Eq (α := OSk) _ (some (some 41, (.binOp .eql 23 (.tmp 40) (.const (.pointer none)) 23), 4, some (7, false))) by kernel_rfl) ⟨39, by kernel_rfl, rfl⟩ F (by decide) (v := .bool false) (x_bin (F.slot rfl) rfl rfl) (fun _ => trivial) (fun a F => ?_)
  refine sq2 (W' := W) (show Eq (α := OSk) _ (some (some 42, (.pick (.tmp 39) (.const (.bool true)) (.tmp 41)), 4, none)) by kernel_rfl) trivial F (by decide) (v := .bool false) (x_pickF (F.slot rfl) (F.slot rfl)) (fun _ => trivial) (fun a F => ?_)
  unfold wpSeq
  refine t_normal ?_
  refine c_no (c := .tmp 42) (by kernel_rfl) (F.slot rfl) ?_
  refine c_skip (by kernel_rfl) ?_
  refine t_normal ?_
  refine c_seq (by kernel_rfl) ?_
  refine c_seq (by kernel_rfl) ?_
  have hs0 : 1 ≤ s0 := hok.2.2.1
  have hs1 : s0 ≤ 16 := hok.2.2.2.1
  have H := (H.quNil k33 33).quNil k33 33
  refine c_text (id := 5) (by kernel_rfl) [(0, 2)] (by kernel_rfl) ?_
  refine sq2 (W' := W) (show Eq (α := OSk) _ (some (some 13, (.assign (.const (.int .i64 0))), 3, none)) by kernel_rfl) trivial F (by decide) (v := .int .i64 0) (x_assign rfl) (fun _ => trivial) (fun a F => ?_)
  unfold wpSeq
  have H : St w (fun _ => False) (fun _ => True) [Asn.rd kOp (fun k => k < w.heap.size) A l.length l, Asn.blk g1 [.int .i64 a0, .int .i64 s0, .int .i64 t0, .slice none 0 0, .int .i64 0, .int .i64 0] 72, Asn.blk g2 [.int .i64 a0, .int .i64 s0, .int .i64 t0, .slice none 0 0, .int .i64 0, .int .i64 0] 46, Asn.qu k33 33 (.slice none 0 0) [] (fun _ => False), Asn.qu k33 33 (.slice none 0 0) [] (fun _ => False)] W := H
  refine t_normal ?_
  refine c_block (id := 0) (by kernel_rfl) ?_
  refine c_loop (by kernel_rfl) (fun k a W => ∃ (j : Nat) (k0 : Int) (n0 : Int) (A1 : Option Addr) (c1 : Nat) (xs : List S33) (ok1 : Nat → Prop) (A2 : Option Addr) (c2 : Nat) (ok2 : Nat → Prop), Fr 113 [(0, .int .i64 a0), (1, .int .i64 s0), (2, .int .i64 t0), (3, .slice A l.length c), (19, .int .i64 a0), (20, .int .i64 s0), (21, .int .i64 t0), (22, .tuple #[.pointer (some ⟨g1, 0, none⟩), .int .i64 0]), (18, .tuple #[.pointer (some ⟨g1, 0, none⟩), .int .i64 0]), (23, .pointer (some ⟨g1, 0, none⟩)), (24, .int .i64 0), (9, .pointer (some ⟨g1, 0, none⟩)), (10, .int .i64 0), (26, .int .i64 a0), (27, .int .i64 s0), (28, .int .i64 t0), (29, .tuple #[.pointer (some ⟨g2, 0, none⟩), .int .i64 0]), (25, .tuple #[.pointer (some ⟨g2, 0, none⟩), .int .i64 0]), (30, .pointer (some ⟨g2, 0, none⟩)), (31, .int .i64 0), (11, .pointer (some ⟨g2, 0, none⟩)), (12, .int .i64 0), (32, .int .i64 0), (33, .int .i64 0), (34, .bool false), (35, .bool false), (36, .int .i64 0), (37, .bool false), (38, .bool false), (39, .bool false), (40, .pointer (some ⟨g1, 0, none⟩)), (41, .bool false), (42, .bool false), (13, .int .i64 (j : Int))] a ∧ St w (fun _ => False) (fun _ => True) [Asn.rd kOp (fun k => k < w.heap.size) A l.length l, Asn.blk g1 [.int .i64 a0, .int .i64 s0, .int .i64 t0, .slice A1 xs.length c1, .int .i64 k0, .int .i64 n0] 72, Asn.blk g2 [.int .i64 a0, .int .i64 s0, .int .i64 t0, .slice A2 xs.length c2, .int .i64 k0, .int .i64 n0] 46, Asn.qu k33 33 (.slice A1 xs.length c1) xs ok1, Asn.qu k33 33 (.slice A2 xs.length c2) xs ok2] W ∧ (j ≤ l.length) ∧ (k + j = l.length) ∧ (∀ x ∈ xs, chT x = 0) ∧ (xs.length ≤ j) ∧ (0 ≤ k0) ∧ (k0 ≤ j) ∧ (0 ≤ n0) ∧ (n0 ≤ j)) l.length ⟨0, 0, 0, none, 0, [], _, none, 0, _, F.less _ (subc rfl (subc rfl (subc rfl (subc rfl (subc rfl (subc rfl (subc rfl (subc rfl (subc rfl (subc rfl (subc rfl (subc rfl (subc rfl (subc rfl (subc rfl (subc rfl (subc rfl (subc rfl (subc rfl (subc rfl (subc rfl (subc rfl (subc rfl (subc rfl (subc rfl (subc rfl (subc rfl (subc rfl (subc rfl (subc rfl (subc rfl (subc rfl (subc rfl (subc rfl sub0)))))))))))))))))))))))))))))))))), H, (Nat.zero_le _), rfl, (fun _ h => by cases h), (Nat.le_refl _), (by omega), (by omega), (by omega), (by omega)⟩ ?_
  rintro k a W ⟨j, k0, n0, A1, c1, xs, ok1, A2, c2, ok2, F, H, hj, hkj, hX, hxj, hk1, hk2, hn1, hn2⟩
  refine c_seq (by kernel_rfl) ?_
  refine c_seq (by kernel_rfl) ?_
  refine c_text (id := 6) (by kernel_rfl) [(0, 2), (1, 2), (2, 2), (3, 2), (4, 2), (5, 2), (6, 2), (7, 2)] (by kernel_rfl) ?_
  refine sq2 (W' := W) (show Eq (α := OSk) _ (some (some 54, (.move (.tmp 13)), 3, none)) by kernel_rfl) trivial F (by decide) (v := .int .i64 (j : Int)) (x_move (F.slot rfl)) (fun _ => trivial) (fun a F => ?_)
  refine sq2 (W' := W) (show Eq (α := OSk) _ (some (some 55, (.move (.tmp 3)), 22, none)) by kernel_rfl) trivial F (by decide) (v := .slice A l.length c) (x_move (F.slot rfl)) (fun _ => trivial) (fun a F => ?_)
  refine sq2 (W' := W) (show Eq (α := OSk) _ (some (some 56, (.call { callee := (.builtin .len), args := #[(.tmp 55)], argTypes := #[22] }), 3, none)) by kernel_rfl) trivial F (by decide) (v := .int .i64 (l.length : Int)) (x_lenL Tryd.underlying22 (F.slot rfl)) (fun _ => trivial) (fun a F => ?_)
  refine sq2 (W' := W) (show Eq (α := OSk) _ (some (some 57, (.binOp .lss 3 (.tmp 54) (.tmp 56) 3), 4, none)) by kernel_rfl) trivial F (by decide) (v := .bool (decide ((j : Int) < (l.length : Int)))) (x_int (F.slot rfl) (F.slot rfl) rfl) (fun _ => trivial) (fun a F => ?_)
  refine sq2 (W' := W) (show Eq (α := OSk) _ (some (some 58, (.move (.tmp 57)), 4, none)) by kernel_rfl) trivial F (by decide) (v := .bool (decide ((j : Int) < (l.length : Int)))) (x_move (F.slot rfl)) (fun _ => trivial) (fun a F => ?_)
  rcases bool_or (decide ((j : Int) < (l.length : Int))) with hb1 | hb1
  · have hb1d := of_decide_eq_true hb1
    have F := F.at 58 rfl (v' := .bool true) (congrArg Value.bool hb1)
    refine sq2 (W' := W) (show Eq (α := OSk) _ (some (some 59, (.move (.tmp 13)), 3, some (4, true))) by kernel_rfl) ⟨58, by kernel_rfl, rfl⟩ F (by decide) (v := .int .i64 (j : Int)) (x_move (F.slot rfl)) (fun _ => trivial) (fun a F => ?_)
    refine sq2 (W' := W) (show Eq (α := OSk) _ (some (some 60, (.binOp .lss 3 (.tmp 59) (.const (.int .i64 150)) 3), 4, some (4, true))) by kernel_rfl) ⟨58, by kernel_rfl, rfl⟩ F (by decide) (v := .bool (decide ((j : Int) < (150 : Int)))) (x_int (F.slot rfl) rfl rfl) (fun _ => trivial) (fun a F => ?_)
    refine sq2 (W' := W) (show Eq (α := OSk) _ (some (some 61, (.pick (.tmp 58) (.tmp 60) (.const (.bool false))), 4, none)) by kernel_rfl) trivial F (by decide) (v := .bool (decide ((j : Int) < (150 : Int)))) (x_pickT (F.slot rfl) (F.slot rfl)) (fun _ => trivial) (fun a F => ?_)
    unfold wpSeq
    have H : St w (fun _ => False) (fun _ => True) [Asn.rd kOp (fun k => k < w.heap.size) A l.length l, Asn.blk g1 [.int .i64 a0, .int .i64 s0, .int .i64 t0, .slice A1 xs.length c1, .int .i64 k0, .int .i64 n0] 72, Asn.blk g2 [.int .i64 a0, .int .i64 s0, .int .i64 t0, .slice A2 xs.length c2, .int .i64 k0, .int .i64 n0] 46, Asn.qu k33 33 (.slice A1 xs.length c1) xs ok1, Asn.qu k33 33 (.slice A2 xs.length c2) xs ok2] W := H
    refine t_normal ?_
    rcases bool_or (decide ((j : Int) < (150 : Int))) with hb2 | hb2
    · have hb2d := of_decide_eq_true hb2
      have F := F.at 61 rfl (v' := .bool true) (congrArg Value.bool hb2)
      refine c_yes (c := .tmp 61) (by kernel_rfl) (F.slot rfl) ?_
      refine c_skip (by kernel_rfl) ?_
      refine t_normal ?_
      refine c_seq (by kernel_rfl) ?_
      refine c_block (id := 1) (by kernel_rfl) ?_
      refine c_seq (by kernel_rfl) ?_
      refine c_seq (by kernel_rfl) ?_
      have hjl : j < l.length := by omega
      obtain ⟨⟨b, t⟩, htbt⟩ : ∃ t_, (l)[j]? = some t_ := ⟨_, List.getElem?_eq_getElem (by omega)⟩
      obtain ⟨adbt, csbt, hAbt, hKbt, H⟩ := H.elem 0 rfl (by decide) j (b, t) htbt
      obtain ⟨A7, c7, A8, c8, rfl⟩ := kOp_open hKbt
      have H : St w (fun _ => False) (fun _ => True) [Asn.rd kOp (fun k => k < w.heap.size) A l.length l, Asn.blk g1 [.int .i64 a0, .int .i64 s0, .int .i64 t0, .slice A1 xs.length c1, .int .i64 k0, .int .i64 n0] 72, Asn.blk g2 [.int .i64 a0, .int .i64 s0, .int .i64 t0, .slice A2 xs.length c2, .int .i64 k0, .int .i64 n0] 46, Asn.qu k33 33 (.slice A1 xs.length c1) xs ok1, Asn.qu k33 33 (.slice A2 xs.length c2) xs ok2, Asn.fk kOp (fun k => k < w.heap.size) (b, t) [.bool b, .int .i64 t.f0, .string t.f1, .string t.f2, .int .u64 t.f3, .int .u64 t.f4, .string t.f5, .string t.f6, .slice A7 t.f7.length c7, .slice A8 t.f8.length c8], Asn.cl (adbt.add (j * 10)) [.bool b, .int .i64 t.f0, .string t.f1, .string t.f2, .int .u64 t.f3, .int .u64 t.f4, .string t.f5, .string t.f6, .slice A7 t.f7.length c7, .slice A8 t.f8.length c8] (fun k => k < w.heap.size)] W := H
      have H := H.addF1 5 rfl (fun _ h => h) (fun W => k33.K W t [.int .i64 t.f0, .string t.f1, .string t.f2, .int .u64 t.f3, .int .u64 t.f4, .string t.f5, .string t.f6, .slice A7 t.f7.length c7, .slice A8 t.f8.length c8]) _ (fun _ h => h) (Foot.imp (H.get 5 rfl) (fun _ h => kOp_tx h))
      have H : St w (fun _ => False) (fun _ => True) [Asn.rd kOp (fun k => k < w.heap.size) A l.length l, Asn.blk g1 [.int .i64 a0, .int .i64 s0, .int .i64 t0, .slice A1 xs.length c1, .int .i64 k0, .int .i64 n0] 72, Asn.blk g2 [.int .i64 a0, .int .i64 s0, .int .i64 t0, .slice A2 xs.length c2, .int .i64 k0, .int .i64 n0] 46, Asn.qu k33 33 (.slice A1 xs.length c1) xs ok1, Asn.qu k33 33 (.slice A2 xs.length c2) xs ok2, Asn.fk kOp (fun k => k < w.heap.size) (b, t) [.bool b, .int .i64 t.f0, .string t.f1, .string t.f2, .int .u64 t.f3, .int .u64 t.f4, .string t.f5, .string t.f6, .slice A7 t.f7.length c7, .slice A8 t.f8.length c8], Asn.cl (adbt.add (j * 10)) [.bool b, .int .i64 t.f0, .string t.f1, .string t.f2, .int .u64 t.f3, .int .u64 t.f4, .string t.f5, .string t.f6, .slice A7 t.f7.length c7, .slice A8 t.f8.length c8] (fun k => k < w.heap.size), Asn.fk k33 (fun k => k < w.heap.size) t [.int .i64 t.f0, .string t.f1, .string t.f2, .int .u64 t.f3, .int .u64 t.f4, .string t.f5, .string t.f6, .slice A7 t.f7.length c7, .slice A8 t.f8.length c8]] W := H
      obtain ⟨hL, hB1, hB2⟩ := hOB _ (List.mem_of_getElem? htbt)
      refine c_text (id := 8) (by kernel_rfl) [(0, 2), (1, 2), (2, 2), (3, 2), (4, 2), (5, 2)] (by kernel_rfl) ?_
      refine sq2 (W' := W) (show Eq (α := OSk) _ (some (some 64, (.move (.tmp 3)), 22, none)) by kernel_rfl) trivial F (by decide) (v := .slice A l.length c) (x_move (F.slot rfl)) (fun _ => trivial) (fun a F => ?_)
      refine sq2 (W' := W) (show Eq (α := OSk) _ (some (some 65, (.move (.tmp 13)), 3, none)) by kernel_rfl) trivial F (by decide) (v := .int .i64 (j : Int)) (x_move (F.slot rfl)) (fun _ => trivial) (fun a F => ?_)
      refine sq2 (W' := W) (show Eq (α := OSk) _ (some (some 66, (.indexAddr 22 (.tmp 64) (.tmp 65)), 0, none)) by kernel_rfl) trivial F (by decide) (v := .pointer (some (adbt.add (j * 10)))) (x_indexE Tryd.underlying22 (Tryd.sizeOf35 W) (F.slot rfl) hAbt (F.slot rfl) (by omega)) (fun _ => trivial) (fun a F => ?_)
      refine sq2 (W' := W) (show Eq (α := OSk) _ (some (some 67, (.fieldAddr 35 (.tmp 66) 0), 0, none)) by kernel_rfl) trivial F (by decide) (v := .pointer (some (Addr.add (adbt.add (j * 10)) 0))) (x_fieldAddr Tryd.underlying35 rfl rfl (Tryd.sizeOf4 W) (F.slot rfl)) (fun _ => trivial) (fun a F => ?_)
      refine sq2 (show Eq (α := OSk) _ (some (some 68, (.load 4 (.tmp 67)), 4, none)) by kernel_rfl) trivial F (by decide) (v := .bool b) (x_load1 (Tryd.isAgg4 W) (F.slot rfl) (cl1 (H.get 6 rfl) 0 rfl)) (fun _ => trivial) (fun a F => ?_)
      refine sq2 (W' := W) (show Eq (α := OSk) _ (some (some 69, (.unOp .not 4 (.tmp 68)), 4, none)) by kernel_rfl) trivial F (by decide) (v := .bool (!b)) (x_not (F.slot rfl)) (fun _ => trivial) (fun a F => ?_)
      unfold wpSeq
      refine t_normal ?_
      rcases bool_or (!b) with hb3 | hb3
      · have F := F.at 69 rfl (v' := .bool true) (congrArg Value.bool hb3)
        refine c_yes (c := .tmp 69) (by kernel_rfl) (F.slot rfl) ?_
        refine c_seq (by kernel_rfl) ?_
        obtain ⟨z, hz⟩ : ∃ z, chT t = z := ⟨_, rfl⟩
        rcases (show (z = 0 ∧ ¬ (xs.length : Int) ≥ 4 * s0) ∨ (z = 0 ∧ (xs.length : Int) ≥ 4 * s0) ∨ z ≠ 0 by omega) with ⟨rfl, hf⟩ | ⟨rfl, hf⟩ | hz0
        · have hf : ¬ (xs.length : Int) ≥ 4 * s0 := hf
          refine c_drawn (id := 9) (by kernel_rfl) (by kernel_rfl) (Vs [Asn.cl (adbt.add (j * 10)) [.bool b, .int .i64 t.f0, .string t.f1, .string t.f2, .int .u64 t.f3, .int .u64 t.f4, .string t.f5, .string t.f6, .slice A7 t.f7.length c7, .slice A8 t.f8.length c8] (fun k => k < w.heap.size)]) [0, 0, 0, 6, 14, 30, 62, 127, 0, 0, 0, 1536, 3584, 7680, 16383, 32767] [] [(0, 0), (1, 0), (2, 0), (3, 0), (4, 0), (8, 0), (9, 0), (10, 0), (11, 0), (12, 0), (5, 1), (13, 1), (6, 2), (7, 2), (14, 2), (15, 0)] (by kernel_rfl) (fun _ _ d _ _ h => by cases d <;> exact h) (Vs.drew ⟨H.get 6 rfl, trivial⟩) ?_
          have H := H.drew
          generalize World.drew W = W at H ⊢
          refine sq0 (show Eq (α := OSk) _ (some (some 70, (.move (.tmp 9)), 23, none)) by kernel_rfl) trivial F (by decide) (v := .pointer (some ⟨g1, 0, none⟩)) (fun W_ => x_move (F.slot rfl)) (fun a F => ?_)
          refine sq0 (show Eq (α := OSk) _ (some (some 71, (.move (.tmp 3)), 22, none)) by kernel_rfl) trivial F (by decide) (v := .slice A l.length c) (fun W_ => x_move (F.slot rfl)) (fun a F => ?_)
          refine sq0 (show Eq (α := OSk) _ (some (some 72, (.move (.tmp 13)), 3, none)) by kernel_rfl) trivial F (by decide) (v := .int .i64 (j : Int)) (fun W_ => x_move (F.slot rfl)) (fun a F => ?_)
          refine sq0 (show Eq (α := OSk) _ (some (some 73, (.indexAddr 22 (.tmp 71) (.tmp 72)), 0, none)) by kernel_rfl) trivial F (by decide) (v := .pointer (some (adbt.add (j * 10)))) (fun W_ => x_indexE Tryd.underlying22 (Tryd.sizeOf35 W_) (F.slot rfl) hAbt (F.slot rfl) (by omega)) (fun a F => ?_)
          refine sq0 (show Eq (α := OSk) _ (some (some 74, (.fieldAddr 35 (.tmp 73) 1), 0, none)) by kernel_rfl) trivial F (by decide) (v := .pointer (some (Addr.add (adbt.add (j * 10)) 1))) (fun W_ => x_fieldAddr Tryd.underlying35 rfl rfl (Tryd.sizeOf33 W_) (F.slot rfl)) (fun a F => ?_)
          refine sq0 (show Eq (α := OSk) _ (some (some 78, (.move (.tmp 11)), 27, none)) by kernel_rfl) trivial F (by decide) (v := .pointer (some ⟨g2, 0, none⟩)) (fun W_ => x_move (F.slot rfl)) (fun a F => ?_)
          refine sq0 (show Eq (α := OSk) _ (some (some 79, (.move (.tmp 3)), 22, none)) by kernel_rfl) trivial F (by decide) (v := .slice A l.length c) (fun W_ => x_move (F.slot rfl)) (fun a F => ?_)
          refine sq0 (show Eq (α := OSk) _ (some (some 80, (.move (.tmp 13)), 3, none)) by kernel_rfl) trivial F (by decide) (v := .int .i64 (j : Int)) (fun W_ => x_move (F.slot rfl)) (fun a F => ?_)
          refine sq0 (show Eq (α := OSk) _ (some (some 81, (.indexAddr 22 (.tmp 79) (.tmp 80)), 0, none)) by kernel_rfl) trivial F (by decide) (v := .pointer (some (adbt.add (j * 10)))) (fun W_ => x_indexE Tryd.underlying22 (Tryd.sizeOf35 W_) (F.slot rfl) hAbt (F.slot rfl) (by omega)) (fun a F => ?_)
          refine sq0 (show Eq (α := OSk) _ (some (some 82, (.fieldAddr 35 (.tmp 81) 1), 0, none)) by kernel_rfl) trivial F (by decide) (v := .pointer (some (Addr.add (adbt.add (j * 10)) 1))) (fun W_ => x_fieldAddr Tryd.underlying35 rfl rfl (Tryd.sizeOf33 W_) (F.slot rfl)) (fun a F => ?_)
          refine sq1 (show Eq (α := OSk) _ (some (some 75, (.load 33 (.tmp 74)), 33, none)) by kernel_rfl) trivial F (by decide) (⟨H.get 6 rfl, trivial⟩) (v := .agg #[.int .i64 t.f0, .string t.f1, .string t.f2, .int .u64 t.f3, .int .u64 t.f4, .string t.f5, .string t.f6, .slice A7 t.f7.length c7, .slice A8 t.f8.length c8]) (fun W_ hV => x_loadN (Tryd.isAgg33 W_) [.int .i64 t.f0, .string t.f1, .string t.f2, .int .u64 t.f3, .int .u64 t.f4, .string t.f5, .string t.f6, .slice A7 t.f7.length c7, .slice A8 t.f8.length c8] (Tryd.sizeOf33 W_) (F.slot rfl) (cln hV.1 1 _ rfl)) (fun a F => ?_)
          refine sq1 (show Eq (α := OSk) _ (some (some 83, (.load 33 (.tmp 82)), 33, none)) by kernel_rfl) trivial F (by decide) (⟨H.get 6 rfl, trivial⟩) (v := .agg #[.int .i64 t.f0, .string t.f1, .string t.f2, .int .u64 t.f3, .int .u64 t.f4, .string t.f5, .string t.f6, .slice A7 t.f7.length c7, .slice A8 t.f8.length c8]) (fun W_ hV => x_loadN (Tryd.isAgg33 W_) [.int .i64 t.f0, .string t.f1, .string t.f2, .int .u64 t.f3, .int .u64 t.f4, .string t.f5, .string t.f6, .slice A7 t.f7.length c7, .slice A8 t.f8.length c8] (Tryd.sizeOf33 W_) (F.slot rfl) (cln hV.1 1 _ rfl)) (fun a F => ?_)
          refine sqc (show Eq (α := OSk) _ (some (some 76, (.call { callee := (.value (.func 19)), args := #[(.tmp 75)], argTypes := #[33] }), 33, none)) by kernel_rfl) trivial F (by decide) (x_call Tryd.func19 (by kernel_rfl) rfl (args_1 (F.slot rfl))) (ownF_calls t A7 A8 c7 c8 W (H.rd 7 rfl) hB1 hB2) ?_
          rintro e W ⟨A7o, c7o, A8o, c8o, rfl, hF, hB⟩
          refine ⟨_, rfl, fun a F => ?_⟩
          have H := H.freshF hB _ _ hF (fun k hk => hk)
          have H : St w (fun _ => False) (fun _ => True) [Asn.rd kOp (fun k => k < w.heap.size) A l.length l, Asn.blk g1 [.int .i64 a0, .int .i64 s0, .int .i64 t0, .slice A1 xs.length c1, .int .i64 k0, .int .i64 n0] 72, Asn.blk g2 [.int .i64 a0, .int .i64 s0, .int .i64 t0, .slice A2 xs.length c2, .int .i64 k0, .int .i64 n0] 46, Asn.qu k33 33 (.slice A1 xs.length c1) xs ok1, Asn.qu k33 33 (.slice A2 xs.length c2) xs ok2, Asn.fk kOp (fun k => k < w.heap.size) (b, t) [.bool b, .int .i64 t.f0, .string t.f1, .string t.f2, .int .u64 t.f3, .int .u64 t.f4, .string t.f5, .string t.f6, .slice A7 t.f7.length c7, .slice A8 t.f8.length c8], Asn.cl (adbt.add (j * 10)) [.bool b, .int .i64 t.f0, .string t.f1, .string t.f2, .int .u64 t.f3, .int .u64 t.f4, .string t.f5, .string t.f6, .slice A7 t.f7.length c7, .slice A8 t.f8.length c8] (fun k => k < w.heap.size), Asn.fk k33 (fun k => k < w.heap.size) t [.int .i64 t.f0, .string t.f1, .string t.f2, .int .u64 t.f3, .int .u64 t.f4, .string t.f5, .string t.f6, .slice A7 t.f7.length c7, .slice A8 t.f8.length c8], Asn.fk k33 _ t [.int .i64 t.f0, .string t.f1, .string t.f2, .int .u64 t.f3, .int .u64 t.f4, .string t.f5, .string t.f6, .slice A7o t.f7.length c7o, .slice A8o t.f8.length c8o]] W := H
          refine ⟨(fun _ => ⟨H.get 6 rfl, trivial⟩), ?_⟩
          have HS := H.select [1, 3, 8] [Asn.blk g1 [.int .i64 a0, .int .i64 s0, .int .i64 t0, .slice A1 xs.length c1, .int .i64 k0, .int .i64 n0] 72, Asn.qu k33 33 (.slice A1 xs.length c1) xs ok1, Asn.fk k33 _ t [.int .i64 t.f0, .string t.f1, .string t.f2, .int .u64 t.f3, .int .u64 t.f4, .string t.f5, .string t.f6, .slice A7o t.f7.length c7o, .slice A8o t.f8.length c8o]] rfl (by decide)
          refine sqc (show Eq (α := OSk) _ (some (some 77, (.call { callee := (.value (.func 18)), args := #[(.tmp 70), (.tmp 76)], argTypes := #[23, 33] }), 24, none)) by kernel_rfl) trivial F (by decide) (x_call Tryd.func18 (by kernel_rfl) rfl (args_2 (F.slot rfl) (F.slot rfl))) ((add_calls g1 a0 s0 t0 k0 n0 A1 c1 xs ok1 _ t A7o A8o c7o c8o W hs0 hs1 HS).mono (fun _ _ h => h.in_ hz hf)) ?_
          rintro e W ⟨rfl, Ap, cp, okp, H1⟩
          refine ⟨_, rfl, fun a F => ?_⟩
          have H := H.back [1, 3, 8] [Asn.blk g1 [.int .i64 a0, .int .i64 s0, .int .i64 t0, .slice A1 xs.length c1, .int .i64 k0, .int .i64 n0] 72, Asn.qu k33 33 (.slice A1 xs.length c1) xs ok1, Asn.fk k33 _ t [.int .i64 t.f0, .string t.f1, .string t.f2, .int .u64 t.f3, .int .u64 t.f4, .string t.f5, .string t.f6, .slice A7o t.f7.length c7o, .slice A8o t.f8.length c8o]] rfl (by decide) [Asn.blk g1 [.int .i64 a0, .int .i64 s0, .int .i64 t0, .slice Ap ((xs ++ [t]).length) cp, .int .i64 k0, .int .i64 n0] 72, Asn.qu k33 33 (.slice Ap ((xs ++ [t]).length) cp) (xs ++ [t]) okp, Asn.fk k33 _ t [.int .i64 t.f0, .string t.f1, .string t.f2, .int .u64 t.f3, .int .u64 t.f4, .string t.f5, .string t.f6, .slice A7o t.f7.length c7o, .slice A8o t.f8.length c8o]] [] rfl H1
          clear HS H1
          have H : St w (fun _ => False) (fun _ => True) [Asn.rd kOp (fun k => k < w.heap.size) A l.length l, Asn.blk g1 [.int .i64 a0, .int .i64 s0, .int .i64 t0, .slice Ap ((xs ++ [t]).length) cp, .int .i64 k0, .int .i64 n0] 72, Asn.blk g2 [.int .i64 a0, .int .i64 s0, .int .i64 t0, .slice A2 xs.length c2, .int .i64 k0, .int .i64 n0] 46, Asn.qu k33 33 (.slice Ap ((xs ++ [t]).length) cp) (xs ++ [t]) okp, Asn.qu k33 33 (.slice A2 xs.length c2) xs ok2, Asn.fk kOp (fun k => k < w.heap.size) (b, t) [.bool b, .int .i64 t.f0, .string t.f1, .string t.f2, .int .u64 t.f3, .int .u64 t.f4, .string t.f5, .string t.f6, .slice A7 t.f7.length c7, .slice A8 t.f8.length c8], Asn.cl (adbt.add (j * 10)) [.bool b, .int .i64 t.f0, .string t.f1, .string t.f2, .int .u64 t.f3, .int .u64 t.f4, .string t.f5, .string t.f6, .slice A7 t.f7.length c7, .slice A8 t.f8.length c8] (fun k => k < w.heap.size), Asn.fk k33 (fun k => k < w.heap.size) t [.int .i64 t.f0, .string t.f1, .string t.f2, .int .u64 t.f3, .int .u64 t.f4, .string t.f5, .string t.f6, .slice A7 t.f7.length c7, .slice A8 t.f8.length c8], Asn.fk k33 _ t [.int .i64 t.f0, .string t.f1, .string t.f2, .int .u64 t.f3, .int .u64 t.f4, .string t.f5, .string t.f6, .slice A7o t.f7.length c7o, .slice A8o t.f8.length c8o]] W := H
          refine ⟨(fun _ => ⟨H.get 6 rfl, trivial⟩), ?_⟩
          have HS := H.select [2, 4, 7] [Asn.blk g2 [.int .i64 a0, .int .i64 s0, .int .i64 t0, .slice A2 xs.length c2, .int .i64 k0, .int .i64 n0] 46, Asn.qu k33 33 (.slice A2 xs.length c2) xs ok2, Asn.fk k33 (fun k => k < w.heap.size) t [.int .i64 t.f0, .string t.f1, .string t.f2, .int .u64 t.f3, .int .u64 t.f4, .string t.f5, .string t.f6, .slice A7 t.f7.length c7, .slice A8 t.f8.length c8]] rfl (by decide)
          refine sqc (show Eq (α := OSk) _ (some (some 84, (.call { callee := (.value (.func 20)), args := #[(.tmp 78), (.tmp 83)], argTypes := #[27, 33] }), 24, none)) by kernel_rfl) trivial F (by decide) (x_call Tryd.func20 (by kernel_rfl) rfl (args_2 (F.slot rfl) (F.slot rfl))) ((radd_callsP g2 a0 s0 t0 k0 n0 A2 c2 xs ok2 _ t A7 A8 c7 c8 hL W hs0 hs1 HS).mono (fun _ _ h => h.in_ hz hf)) ?_
          rintro e W ⟨rfl, Aq, cq, okq, H1⟩
          refine ⟨_, rfl, fun a F => ?_⟩
          have H := H.back [2, 4, 7] [Asn.blk g2 [.int .i64 a0, .int .i64 s0, .int .i64 t0, .slice A2 xs.length c2, .int .i64 k0, .int .i64 n0] 46, Asn.qu k33 33 (.slice A2 xs.length c2) xs ok2, Asn.fk k33 (fun k => k < w.heap.size) t [.int .i64 t.f0, .string t.f1, .string t.f2, .int .u64 t.f3, .int .u64 t.f4, .string t.f5, .string t.f6, .slice A7 t.f7.length c7, .slice A8 t.f8.length c8]] rfl (by decide) [Asn.blk g2 [.int .i64 a0, .int .i64 s0, .int .i64 t0, .slice Aq ((xs ++ [t]).length) cq, .int .i64 k0, .int .i64 n0] 46, Asn.qu k33 33 (.slice Aq ((xs ++ [t]).length) cq) (xs ++ [t]) okq, Asn.fk k33 (fun k => k < w.heap.size) t [.int .i64 t.f0, .string t.f1, .string t.f2, .int .u64 t.f3, .int .u64 t.f4, .string t.f5, .string t.f6, .slice A7 t.f7.length c7, .slice A8 t.f8.length c8]] [] rfl H1
          clear HS H1
          have H : St w (fun _ => False) (fun _ => True) [Asn.rd kOp (fun k => k < w.heap.size) A l.length l, Asn.blk g1 [.int .i64 a0, .int .i64 s0, .int .i64 t0, .slice Ap ((xs ++ [t]).length) cp, .int .i64 k0, .int .i64 n0] 72, Asn.blk g2 [.int .i64 a0, .int .i64 s0, .int .i64 t0, .slice Aq ((xs ++ [t]).length) cq, .int .i64 k0, .int .i64 n0] 46, Asn.qu k33 33 (.slice Ap ((xs ++ [t]).length) cp) (xs ++ [t]) okp, Asn.qu k33 33 (.slice Aq ((xs ++ [t]).length) cq) (xs ++ [t]) okq, Asn.fk kOp (fun k => k < w.heap.size) (b, t) [.bool b, .int .i64 t.f0, .string t.f1, .string t.f2, .int .u64 t.f3, .int .u64 t.f4, .string t.f5, .string t.f6, .slice A7 t.f7.length c7, .slice A8 t.f8.length c8], Asn.cl (adbt.add (j * 10)) [.bool b, .int .i64 t.f0, .string t.f1, .string t.f2, .int .u64 t.f3, .int .u64 t.f4, .string t.f5, .string t.f6, .slice A7 t.f7.length c7, .slice A8 t.f8.length c8] (fun k => k < w.heap.size), Asn.fk k33 (fun k => k < w.heap.size) t [.int .i64 t.f0, .string t.f1, .string t.f2, .int .u64 t.f3, .int .u64 t.f4, .string t.f5, .string t.f6, .slice A7 t.f7.length c7, .slice A8 t.f8.length c8], Asn.fk k33 _ t [.int .i64 t.f0, .string t.f1, .string t.f2, .int .u64 t.f3, .int .u64 t.f4, .string t.f5, .string t.f6, .slice A7o t.f7.length c7o, .slice A8o t.f8.length c8o]] W := H
          refine ⟨(fun _ => ⟨H.get 6 rfl, trivial⟩), ?_⟩
          refine sq0 (show Eq (α := OSk) _ (some (some 85, (.binOp .neq 24 (.tmp 77) (.tmp 84) 24), 4, none)) by kernel_rfl) trivial F (by decide) (v := .bool false) (fun W_ => x_int (F.slot rfl) (F.slot rfl) rfl) (fun a F => ?_)
          unfold wpSeq
          refine t_normal ?_
          refine c_no (c := .tmp 85) (by kernel_rfl) (F.slot rfl) ?_
          refine c_skip (by kernel_rfl) ?_
          refine t_normal ?_
          refine c_seq (by kernel_rfl) ?_
          refine c_drawn (id := 15) (by kernel_rfl) (by kernel_rfl) (Vs [Asn.blk g2 [.int .i64 a0, .int .i64 s0, .int .i64 t0, .slice Aq ((xs ++ [t]).length) cq, .int .i64 k0, .int .i64 n0] 46]) [0, 1, 0, 4, 12, 28, 60, 127] [] [(0, 0), (2, 0), (3, 0), (4, 0), (5, 1), (6, 0), (1, 2), (7, 0)] (by kernel_rfl) (fun _ _ d _ _ h => by cases d <;> exact h) (Vs.drew ⟨H.get 2 rfl, trivial⟩) ?_
          have H := H.drew
          generalize World.drew W = W at H ⊢
          refine sq0 (show Eq (α := OSk) _ (some (some 105, (.move (.tmp 9)), 23, none)) by kernel_rfl) trivial F (by decide) (v := .pointer (some ⟨g1, 0, none⟩)) (fun W_ => x_move (F.slot rfl)) (fun a F => ?_)
          refine sq0 (show Eq (α := OSk) _ (some (some 107, (.move (.tmp 11)), 27, none)) by kernel_rfl) trivial F (by decide) (v := .pointer (some ⟨g2, 0, none⟩)) (fun W_ => x_move (F.slot rfl)) (fun a F => ?_)
          refine sq0 (show Eq (α := OSk) _ (some (some 108, (.nilCheck (.tmp 107)), 0, none)) by kernel_rfl) trivial F (by decide) (v := .pointer (some ⟨g2, 0, none⟩)) (fun W_ => x_nil (F.slot rfl)) (fun a F => ?_)
          refine sq0 (show Eq (α := OSk) _ (some (some 109, (.fieldAddr 46 (.tmp 108) 3), 0, none)) by kernel_rfl) trivial F (by decide) (v := .pointer (some ⟨g2, 3, none⟩)) (fun W_ => x_field0 Tryd.underlying46 rfl rfl (Tryd.sizeOf38 W_) (F.slot rfl)) (fun a F => ?_)
          refine sq1 (show Eq (α := OSk) _ (some (some 110, (.load 38 (.tmp 109)), 38, none)) by kernel_rfl) trivial F (by decide) (⟨H.get 2 rfl, trivial⟩) (v := .slice Aq ((xs ++ [t]).length) cq) (fun W_ hV => x_load1 (Tryd.isAgg38 W_) (F.slot rfl) (bcell hV.1 rfl)) (fun a F => ?_)
          refine sq0 (show Eq (α := OSk) _ (some (some 111, (.call { callee := (.builtin .len), args := #[(.tmp 110)], argTypes := #[38] }), 3, none)) by kernel_rfl) trivial F (by decide) (v := .int .i64 ((xs ++ [t]).length : Int)) (fun W_ => x_lenL Tryd.underlying38 (F.slot rfl)) (fun a F => ?_)
          have HS := H.select [1] [Asn.blk g1 [.int .i64 a0, .int .i64 s0, .int .i64 t0, .slice Ap ((xs ++ [t]).length) cp, .int .i64 k0, .int .i64 n0] 72] rfl (by decide)
          refine sqc (show Eq (α := OSk) _ (some (some 106, (.call { callee := (.value (.func 24)), args := #[(.tmp 105)], argTypes := #[23] }), 3, none)) by kernel_rfl) trivial F (by decide) (x_call Tryd.func24 (by kernel_rfl) rfl (args_1 (F.slot rfl))) (waits_calls g1 a0 s0 t0 k0 n0 Ap ((xs ++ [t]).length) cp  W HS) ?_
          rintro e W ⟨rfl, H1⟩
          refine ⟨_, rfl, fun a F => ?_⟩
          have H := H.back [1] [Asn.blk g1 [.int .i64 a0, .int .i64 s0, .int .i64 t0, .slice Ap ((xs ++ [t]).length) cp, .int .i64 k0, .int .i64 n0] 72] rfl (by decide) [Asn.blk g1 [.int .i64 a0, .int .i64 s0, .int .i64 t0, .slice Ap ((xs ++ [t]).length) cp, .int .i64 k0, .int .i64 n0] 72] [] rfl H1
          clear HS H1
          refine ⟨(fun _ => ⟨H.get 2 rfl, trivial⟩), ?_⟩
          refine sq0 (show Eq (α := OSk) _ (some (some 112, (.binOp .neq 3 (.tmp 106) (.tmp 111) 3), 4, none)) by kernel_rfl) trivial F (by decide) (v := .bool (((xs ++ [t]).length : Int) != ((xs ++ [t]).length : Int))) (fun W_ => x_int (F.slot rfl) (F.slot rfl) rfl) (fun a F => ?_)
          unfold wpSeq
          refine t_normal ?_
          have hb6 : (((xs ++ [t]).length : Int) != ((xs ++ [t]).length : Int)) = false := by simp
          have F := F.at 112 rfl (v' := .bool false) (congrArg Value.bool hb6)
          refine c_no (c := .tmp 112) (by kernel_rfl) (F.slot rfl) ?_
          refine c_skip (by kernel_rfl) ?_
          refine b_normal ?_
          refine t_normal ?_
          refine c_text (id := 7) (by kernel_rfl) [(0, 2), (1, 2), (2, 2)] (by kernel_rfl) ?_
          refine sq2 (W' := W) (show Eq (α := OSk) _ (some (some 62, (.move (.tmp 13)), 3, none)) by kernel_rfl) trivial F (by decide) (v := .int .i64 (j : Int)) (x_move (F.slot rfl)) (fun _ => trivial) (fun a F => ?_)
          refine sq2 (W' := W) (show Eq (α := OSk) _ (some (some 63, (.binOp .add 3 (.tmp 62) (.const (.int .i64 1)) 3), 3, none)) by kernel_rfl) trivial F (by decide) (v := .int .i64 (IntKind.i64.wrap ((j : Int) + 1))) (x_int (F.slot rfl) rfl rfl) (fun _ => trivial) (fun a F => ?_)
          have F := F.conv (v' := .int .i64 ((j : Int) + 1)) (congrArg (Value.int .i64) (wrap_i64 _ (by omega) (by omega)))
          refine sq2 (W' := W) (show Eq (α := OSk) _ (some (some 13, (.assign (.tmp 63)), 3, none)) by kernel_rfl) trivial F (by decide) (v := .int .i64 ((j : Int) + 1)) (x_assign (F.slot rfl)) (fun _ => trivial) (fun a F => ?_)
          unfold wpSeq
          refine t_normal ?_
          have F_ := F
          have H := H.front 5
          have F := F.at 13 rfl (v' := .int .i64 ((j + 1 : Nat) : Int)) (congrArg (Value.int .i64) (by omega))
          have hxl : (xs ++ [t]).length = xs.length + 1 := by simp
          exact ⟨k - 1, by omega, j + 1, k0, n0, Ap, cp, (xs ++ [t]), _, Aq, cq, _, F.less _ (subc rfl (subc rfl (subc rfl (subc rfl (subc rfl (subc rfl (subc rfl (subc rfl (subc rfl (subc rfl (subc rfl (subc rfl (subc rfl (subc rfl (subc rfl (subc rfl (subc rfl (subc rfl (subc rfl (subc rfl (subc rfl (subc rfl (subc rfl (subc rfl (subc rfl (subc rfl (subc rfl (subc rfl (subc rfl (subc rfl (subc rfl (subc rfl (subc rfl (subc rfl sub0)))))))))))))))))))))))))))))))))), H, (by omega), (by omega), (fun x hx => (List.mem_append.1 hx).elim (hX x) (fun h => (List.mem_singleton.1 h) ▸ hz)), (by omega), (by omega), (by omega), (by omega), (by omega)⟩
        · have hf : (xs.length : Int) ≥ 4 * s0 := hf
          refine c_drawn (id := 9) (by kernel_rfl) (by kernel_rfl) (Vs [Asn.cl (adbt.add (j * 10)) [.bool b, .int .i64 t.f0, .string t.f1, .string t.f2, .int .u64 t.f3, .int .u64 t.f4, .string t.f5, .string t.f6, .slice A7 t.f7.length c7, .slice A8 t.f8.length c8] (fun k => k < w.heap.size)]) [0, 0, 0, 6, 14, 30, 62, 127, 0, 0, 0, 1536, 3584, 7680, 16383, 32767] [] [(0, 0), (1, 0), (2, 0), (3, 0), (4, 0), (8, 0), (9, 0), (10, 0), (11, 0), (12, 0), (5, 1), (13, 1), (6, 2), (7, 2), (14, 2), (15, 0)] (by kernel_rfl) (fun _ _ d _ _ h => by cases d <;> exact h) (Vs.drew ⟨H.get 6 rfl, trivial⟩) ?_
          have H := H.drew
          generalize World.drew W = W at H ⊢
          refine sq0 (show Eq (α := OSk) _ (some (some 70, (.move (.tmp 9)), 23, none)) by kernel_rfl) trivial F (by decide) (v := .pointer (some ⟨g1, 0, none⟩)) (fun W_ => x_move (F.slot rfl)) (fun a F => ?_)
          refine sq0 (show Eq (α := OSk) _ (some (some 71, (.move (.tmp 3)), 22, none)) by kernel_rfl) trivial F (by decide) (v := .slice A l.length c) (fun W_ => x_move (F.slot rfl)) (fun a F => ?_)
          refine sq0 (show Eq (α := OSk) _ (some (some 72, (.move (.tmp 13)), 3, none)) by kernel_rfl) trivial F (by decide) (v := .int .i64 (j : Int)) (fun W_ => x_move (F.slot rfl)) (fun a F => ?_)
          refine sq0 (show Eq (α := OSk) _ (some (some 73, (.indexAddr 22 (.tmp 71) (.tmp 72)), 0, none)) by kernel_rfl) trivial F (by decide) (v := .pointer (some (adbt.add (j * 10)))) (fun W_ => x_indexE Tryd.underlying22 (Tryd.sizeOf35 W_) (F.slot rfl) hAbt (F.slot rfl) (by omega)) (fun a F => ?_)
          refine sq0 (show Eq (α := OSk) _ (some (some 74, (.fieldAddr 35 (.tmp 73) 1), 0, none)) by kernel_rfl) trivial F (by decide) (v := .pointer (some (Addr.add (adbt.add (j * 10)) 1))) (fun W_ => x_fieldAddr Tryd.underlying35 rfl rfl (Tryd.sizeOf33 W_) (F.slot rfl)) (fun a F => ?_)
          refine sq0 (show Eq (α := OSk) _ (some (some 78, (.move (.tmp 11)), 27, none)) by kernel_rfl) trivial F (by decide) (v := .pointer (some ⟨g2, 0, none⟩)) (fun W_ => x_move (F.slot rfl)) (fun a F => ?_)
          refine sq0 (show Eq (α := OSk) _ (some (some 79, (.move (.tmp 3)), 22, none)) by kernel_rfl) trivial F (by decide) (v := .slice A l.length c) (fun W_ => x_move (F.slot rfl)) (fun a F => ?_)
          refine sq0 (show Eq (α := OSk) _ (some (some 80, (.move (.tmp 13)), 3, none)) by kernel_rfl) trivial F (by decide) (v := .int .i64 (j : Int)) (fun W_ => x_move (F.slot rfl)) (fun a F => ?_)
          refine sq0 (show Eq (α := OSk) _ (some (some 81, (.indexAddr 22 (.tmp 79) (.tmp 80)), 0, none)) by kernel_rfl) trivial F (by decide) (v := .pointer (some (adbt.add (j * 10)))) (fun W_ => x_indexE Tryd.underlying22 (Tryd.sizeOf35 W_) (F.slot rfl) hAbt (F.slot rfl) (by omega)) (fun a F => ?_)
          refine sq0 (show Eq (α := OSk) _ (some (some 82, (.fieldAddr 35 (.tmp 81) 1), 0, none)) by kernel_rfl) trivial F (by decide) (v := .pointer (some (Addr.add (adbt.add (j * 10)) 1))) (fun W_ => x_fieldAddr Tryd.underlying35 rfl rfl (Tryd.sizeOf33 W_) (F.slot rfl)) (fun a F => ?_)
          refine sq1 (show Eq (α := OSk) _ (some (some 75, (.load 33 (.tmp 74)), 33, none)) by kernel_rfl) trivial F (by decide) (⟨H.get 6 rfl, trivial⟩) (v := .agg #[.int .i64 t.f0, .string t.f1, .string t.f2, .int .u64 t.f3, .int .u64 t.f4, .string t.f5, .string t.f6, .slice A7 t.f7.length c7, .slice A8 t.f8.length c8]) (fun W_ hV => x_loadN (Tryd.isAgg33 W_) [.int .i64 t.f0, .string t.f1, .string t.f2, .int .u64 t.f3, .int .u64 t.f4, .string t.f5, .string t.f6, .slice A7 t.f7.length c7, .slice A8 t.f8.length c8] (Tryd.sizeOf33 W_) (F.slot rfl) (cln hV.1 1 _ rfl)) (fun a F => ?_)
          refine sq1 (show Eq (α := OSk) _ (some (some 83, (.load 33 (.tmp 82)), 33, none)) by kernel_rfl) trivial F (by decide) (⟨H.get 6 rfl, trivial⟩) (v := .agg #[.int .i64 t.f0, .string t.f1, .string t.f2, .int .u64 t.f3, .int .u64 t.f4, .string t.f5, .string t.f6, .slice A7 t.f7.length c7, .slice A8 t.f8.length c8]) (fun W_ hV => x_loadN (Tryd.isAgg33 W_) [.int .i64 t.f0, .string t.f1, .string t.f2, .int .u64 t.f3, .int .u64 t.f4, .string t.f5, .string t.f6, .slice A7 t.f7.length c7, .slice A8 t.f8.length c8] (Tryd.sizeOf33 W_) (F.slot rfl) (cln hV.1 1 _ rfl)) (fun a F => ?_)
          refine sqc (show Eq (α := OSk) _ (some (some 76, (.call { callee := (.value (.func 19)), args := #[(.tmp 75)], argTypes := #[33] }), 33, none)) by kernel_rfl) trivial F (by decide) (x_call Tryd.func19 (by kernel_rfl) rfl (args_1 (F.slot rfl))) (ownF_calls t A7 A8 c7 c8 W (H.rd 7 rfl) hB1 hB2) ?_
          rintro e W ⟨A7o, c7o, A8o, c8o, rfl, hF, hB⟩
          refine ⟨_, rfl, fun a F => ?_⟩
          have H := H.freshF hB _ _ hF (fun k hk => hk)
          have H : St w (fun _ => False) (fun _ => True) [Asn.rd kOp (fun k => k < w.heap.size) A l.length l, Asn.blk g1 [.int .i64 a0, .int .i64 s0, .int .i64 t0, .slice A1 xs.length c1, .int .i64 k0, .int .i64 n0] 72, Asn.blk g2 [.int .i64 a0, .int .i64 s0, .int .i64 t0, .slice A2 xs.length c2, .int .i64 k0, .int .i64 n0] 46, Asn.qu k33 33 (.slice A1 xs.length c1) xs ok1, Asn.qu k33 33 (.slice A2 xs.length c2) xs ok2, Asn.fk kOp (fun k => k < w.heap.size) (b, t) [.bool b, .int .i64 t.f0, .string t.f1, .string t.f2, .int .u64 t.f3, .int .u64 t.f4, .string t.f5, .string t.f6, .slice A7 t.f7.length c7, .slice A8 t.f8.length c8], Asn.cl (adbt.add (j * 10)) [.bool b, .int .i64 t.f0, .string t.f1, .string t.f2, .int .u64 t.f3, .int .u64 t.f4, .string t.f5, .string t.f6, .slice A7 t.f7.length c7, .slice A8 t.f8.length c8] (fun k => k < w.heap.size), Asn.fk k33 (fun k => k < w.heap.size) t [.int .i64 t.f0, .string t.f1, .string t.f2, .int .u64 t.f3, .int .u64 t.f4, .string t.f5, .string t.f6, .slice A7 t.f7.length c7, .slice A8 t.f8.length c8], Asn.fk k33 _ t [.int .i64 t.f0, .string t.f1, .string t.f2, .int .u64 t.f3, .int .u64 t.f4, .string t.f5, .string t.f6, .slice A7o t.f7.length c7o, .slice A8o t.f8.length c8o]] W := H
          refine ⟨(fun _ => ⟨H.get 6 rfl, trivial⟩), ?_⟩
          have HS := H.select [1, 3, 8] [Asn.blk g1 [.int .i64 a0, .int .i64 s0, .int .i64 t0, .slice A1 xs.length c1, .int .i64 k0, .int .i64 n0] 72, Asn.qu k33 33 (.slice A1 xs.length c1) xs ok1, Asn.fk k33 _ t [.int .i64 t.f0, .string t.f1, .string t.f2, .int .u64 t.f3, .int .u64 t.f4, .string t.f5, .string t.f6, .slice A7o t.f7.length c7o, .slice A8o t.f8.length c8o]] rfl (by decide)
          refine sqc (show Eq (α := OSk) _ (some (some 77, (.call { callee := (.value (.func 18)), args := #[(.tmp 70), (.tmp 76)], argTypes := #[23, 33] }), 24, none)) by kernel_rfl) trivial F (by decide) (x_call Tryd.func18 (by kernel_rfl) rfl (args_2 (F.slot rfl) (F.slot rfl))) ((add_calls g1 a0 s0 t0 k0 n0 A1 c1 xs ok1 _ t A7o A8o c7o c8o W hs0 hs1 HS).mono (fun _ _ h => h.full hz hf)) ?_
          rintro e W ⟨rfl, H1⟩
          refine ⟨_, rfl, fun a F => ?_⟩
          have H := H.back [1, 3, 8] [Asn.blk g1 [.int .i64 a0, .int .i64 s0, .int .i64 t0, .slice A1 xs.length c1, .int .i64 k0, .int .i64 n0] 72, Asn.qu k33 33 (.slice A1 xs.length c1) xs ok1, Asn.fk k33 _ t [.int .i64 t.f0, .string t.f1, .string t.f2, .int .u64 t.f3, .int .u64 t.f4, .string t.f5, .string t.f6, .slice A7o t.f7.length c7o, .slice A8o t.f8.length c8o]] rfl (by decide) [Asn.blk g1 [.int .i64 a0, .int .i64 s0, .int .i64 t0, .slice A1 xs.length c1, .int .i64 k0, .int .i64 n0] 72, Asn.qu k33 33 (.slice A1 xs.length c1) xs ok1, Asn.fk k33 _ t [.int .i64 t.f0, .string t.f1, .string t.f2, .int .u64 t.f3, .int .u64 t.f4, .string t.f5, .string t.f6, .slice A7o t.f7.length c7o, .slice A8o t.f8.length c8o]] [] rfl H1
          clear HS H1
          refine ⟨(fun _ => ⟨H.get 6 rfl, trivial⟩), ?_⟩
          have HS := H.select [2, 4, 7] [Asn.blk g2 [.int .i64 a0, .int .i64 s0, .int .i64 t0, .slice A2 xs.length c2, .int .i64 k0, .int .i64 n0] 46, Asn.qu k33 33 (.slice A2 xs.length c2) xs ok2, Asn.fk k33 (fun k => k < w.heap.size) t [.int .i64 t.f0, .string t.f1, .string t.f2, .int .u64 t.f3, .int .u64 t.f4, .string t.f5, .string t.f6, .slice A7 t.f7.length c7, .slice A8 t.f8.length c8]] rfl (by decide)
          refine sqc (show Eq (α := OSk) _ (some (some 84, (.call { callee := (.value (.func 20)), args := #[(.tmp 78), (.tmp 83)], argTypes := #[27, 33] }), 24, none)) by kernel_rfl) trivial F (by decide) (x_call Tryd.func20 (by kernel_rfl) rfl (args_2 (F.slot rfl) (F.slot rfl))) ((radd_callsP g2 a0 s0 t0 k0 n0 A2 c2 xs ok2 _ t A7 A8 c7 c8 hL W hs0 hs1 HS).mono (fun _ _ h => h.full hz hf)) ?_
          rintro e W ⟨rfl, H1⟩
          refine ⟨_, rfl, fun a F => ?_⟩
          have H := H.back [2, 4, 7] [Asn.blk g2 [.int .i64 a0, .int .i64 s0, .int .i64 t0, .slice A2 xs.length c2, .int .i64 k0, .int .i64 n0] 46, Asn.qu k33 33 (.slice A2 xs.length c2) xs ok2, Asn.fk k33 (fun k => k < w.heap.size) t [.int .i64 t.f0, .string t.f1, .string t.f2, .int .u64 t.f3, .int .u64 t.f4, .string t.f5, .string t.f6, .slice A7 t.f7.length c7, .slice A8 t.f8.length c8]] rfl (by decide) [Asn.blk g2 [.int .i64 a0, .int .i64 s0, .int .i64 t0, .slice A2 xs.length c2, .int .i64 k0, .int .i64 n0] 46, Asn.qu k33 33 (.slice A2 xs.length c2) xs ok2, Asn.fk k33 (fun k => k < w.heap.size) t [.int .i64 t.f0, .string t.f1, .string t.f2, .int .u64 t.f3, .int .u64 t.f4, .string t.f5, .string t.f6, .slice A7 t.f7.length c7, .slice A8 t.f8.length c8]] [] rfl H1
          clear HS H1
          refine ⟨(fun _ => ⟨H.get 6 rfl, trivial⟩), ?_⟩
          refine sq0 (show Eq (α := OSk) _ (some (some 85, (.binOp .neq 24 (.tmp 77) (.tmp 84) 24), 4, none)) by kernel_rfl) trivial F (by decide) (v := .bool false) (fun W_ => x_int (F.slot rfl) (F.slot rfl) rfl) (fun a F => ?_)
          unfold wpSeq
          refine t_normal ?_
          refine c_no (c := .tmp 85) (by kernel_rfl) (F.slot rfl) ?_
          refine c_skip (by kernel_rfl) ?_
          refine t_normal ?_
          refine c_seq (by kernel_rfl) ?_
          refine c_drawn (id := 15) (by kernel_rfl) (by kernel_rfl) (Vs [Asn.blk g2 [.int .i64 a0, .int .i64 s0, .int .i64 t0, .slice A2 xs.length c2, .int .i64 k0, .int .i64 n0] 46]) [0, 1, 0, 4, 12, 28, 60, 127] [] [(0, 0), (2, 0), (3, 0), (4, 0), (5, 1), (6, 0), (1, 2), (7, 0)] (by kernel_rfl) (fun _ _ d _ _ h => by cases d <;> exact h) (Vs.drew ⟨H.get 2 rfl, trivial⟩) ?_
          have H := H.drew
          generalize World.drew W = W at H ⊢
          refine sq0 (show Eq (α := OSk) _ (some (some 105, (.move (.tmp 9)), 23, none)) by kernel_rfl) trivial F (by decide) (v := .pointer (some ⟨g1, 0, none⟩)) (fun W_ => x_move (F.slot rfl)) (fun a F => ?_)
          refine sq0 (show Eq (α := OSk) _ (some (some 107, (.move (.tmp 11)), 27, none)) by kernel_rfl) trivial F (by decide) (v := .pointer (some ⟨g2, 0, none⟩)) (fun W_ => x_move (F.slot rfl)) (fun a F => ?_)
          refine sq0 (show Eq (α := OSk) _ (some (some 108, (.nilCheck (.tmp 107)), 0, none)) by kernel_rfl) trivial F (by decide) (v := .pointer (some ⟨g2, 0, none⟩)) (fun W_ => x_nil (F.slot rfl)) (fun a F => ?_)
          refine sq0 (show Eq (α := OSk) _ (some (some 109, (.fieldAddr 46 (.tmp 108) 3), 0, none)) by kernel_rfl) trivial F (by decide) (v := .pointer (some ⟨g2, 3, none⟩)) (fun W_ => x_field0 Tryd.underlying46 rfl rfl (Tryd.sizeOf38 W_) (F.slot rfl)) (fun a F => ?_)
          refine sq1 (show Eq (α := OSk) _ (some (some 110, (.load 38 (.tmp 109)), 38, none)) by kernel_rfl) trivial F (by decide) (⟨H.get 2 rfl, trivial⟩) (v := .slice A2 xs.length c2) (fun W_ hV => x_load1 (Tryd.isAgg38 W_) (F.slot rfl) (bcell hV.1 rfl)) (fun a F => ?_)
          refine sq0 (show Eq (α := OSk) _ (some (some 111, (.call { callee := (.builtin .len), args := #[(.tmp 110)], argTypes := #[38] }), 3, none)) by kernel_rfl) trivial F (by decide) (v := .int .i64 (xs.length : Int)) (fun W_ => x_lenL Tryd.underlying38 (F.slot rfl)) (fun a F => ?_)
          have HS := H.select [1] [Asn.blk g1 [.int .i64 a0, .int .i64 s0, .int .i64 t0, .slice A1 xs.length c1, .int .i64 k0, .int .i64 n0] 72] rfl (by decide)
          refine sqc (show Eq (α := OSk) _ (some (some 106, (.call { callee := (.value (.func 24)), args := #[(.tmp 105)], argTypes := #[23] }), 3, none)) by kernel_rfl) trivial F (by decide) (x_call Tryd.func24 (by kernel_rfl) rfl (args_1 (F.slot rfl))) (waits_calls g1 a0 s0 t0 k0 n0 A1 xs.length c1  W HS) ?_
          rintro e W ⟨rfl, H1⟩
          refine ⟨_, rfl, fun a F => ?_⟩
          have H := H.back [1] [Asn.blk g1 [.int .i64 a0, .int .i64 s0, .int .i64 t0, .slice A1 xs.length c1, .int .i64 k0, .int .i64 n0] 72] rfl (by decide) [Asn.blk g1 [.int .i64 a0, .int .i64 s0, .int .i64 t0, .slice A1 xs.length c1, .int .i64 k0, .int .i64 n0] 72] [] rfl H1
          clear HS H1
          refine ⟨(fun _ => ⟨H.get 2 rfl, trivial⟩), ?_⟩
          refine sq0 (show Eq (α := OSk) _ (some (some 112, (.binOp .neq 3 (.tmp 106) (.tmp 111) 3), 4, none)) by kernel_rfl) trivial F (by decide) (v := .bool ((xs.length : Int) != (xs.length : Int))) (fun W_ => x_int (F.slot rfl) (F.slot rfl) rfl) (fun a F => ?_)
          unfold wpSeq
          refine t_normal ?_
          have hb9 : ((xs.length : Int) != (xs.length : Int)) = false := by simp
          have F := F.at 112 rfl (v' := .bool false) (congrArg Value.bool hb9)
          refine c_no (c := .tmp 112) (by kernel_rfl) (F.slot rfl) ?_
          refine c_skip (by kernel_rfl) ?_
          refine b_normal ?_
          refine t_normal ?_
          refine c_text (id := 7) (by kernel_rfl) [(0, 2), (1, 2), (2, 2)] (by kernel_rfl) ?_
          refine sq2 (W' := W) (show Eq (α := OSk) _ (some (some 62, (.move (.tmp 13)), 3, none)) by kernel_rfl) trivial F (by decide) (v := .int .i64 (j : Int)) (x_move (F.slot rfl)) (fun _ => trivial) (fun a F => ?_)
          refine sq2 (W' := W) (show Eq (α := OSk) _ (some (some 63, (.binOp .add 3 (.tmp 62) (.const (.int .i64 1)) 3), 3, none)) by kernel_rfl) trivial F (by decide) (v := .int .i64 (IntKind.i64.wrap ((j : Int) + 1))) (x_int (F.slot rfl) rfl rfl) (fun _ => trivial) (fun a F => ?_)
          have F := F.conv (v' := .int .i64 ((j : Int) + 1)) (congrArg (Value.int .i64) (wrap_i64 _ (by omega) (by omega)))
          refine sq2 (W' := W) (show Eq (α := OSk) _ (some (some 13, (.assign (.tmp 63)), 3, none)) by kernel_rfl) trivial F (by decide) (v := .int .i64 ((j : Int) + 1)) (x_assign (F.slot rfl)) (fun _ => trivial) (fun a F => ?_)
          unfold wpSeq
          refine t_normal ?_
          have F_ := F
          have H := H.front 5
          have F := F.at 13 rfl (v' := .int .i64 ((j + 1 : Nat) : Int)) (congrArg (Value.int .i64) (by omega))
          exact ⟨k - 1, by omega, j + 1, k0, n0, A1, c1, xs, _, A2, c2, _, F.less _ (subc rfl (subc rfl (subc rfl (subc rfl (subc rfl (subc rfl (subc rfl (subc rfl (subc rfl (subc rfl (subc rfl (subc rfl (subc rfl (subc rfl (subc rfl (subc rfl (subc rfl (subc rfl (subc rfl (subc rfl (subc rfl (subc rfl (subc rfl (subc rfl (subc rfl (subc rfl (subc rfl (subc rfl (subc rfl (subc rfl (subc rfl (subc rfl (subc rfl (subc rfl sub0)))))))))))))))))))))))))))))))))), H, (by omega), (by omega), hX, (by omega), (by omega), (by omega), (by omega), (by omega)⟩
        · refine c_drawn (id := 9) (by kernel_rfl) (by kernel_rfl) (Vs [Asn.cl (adbt.add (j * 10)) [.bool b, .int .i64 t.f0, .string t.f1, .string t.f2, .int .u64 t.f3, .int .u64 t.f4, .string t.f5, .string t.f6, .slice A7 t.f7.length c7, .slice A8 t.f8.length c8] (fun k => k < w.heap.size)]) [0, 0, 0, 6, 14, 30, 62, 127, 0, 0, 0, 1536, 3584, 7680, 16383, 32767] [] [(0, 0), (1, 0), (2, 0), (3, 0), (4, 0), (8, 0), (9, 0), (10, 0), (11, 0), (12, 0), (5, 1), (13, 1), (6, 2), (7, 2), (14, 2), (15, 0)] (by kernel_rfl) (fun _ _ d _ _ h => by cases d <;> exact h) (Vs.drew ⟨H.get 6 rfl, trivial⟩) ?_
          have H := H.drew
          generalize World.drew W = W at H ⊢
          refine sq0 (show Eq (α := OSk) _ (some (some 70, (.move (.tmp 9)), 23, none)) by kernel_rfl) trivial F (by decide) (v := .pointer (some ⟨g1, 0, none⟩)) (fun W_ => x_move (F.slot rfl)) (fun a F => ?_)
          refine sq0 (show Eq (α := OSk) _ (some (some 71, (.move (.tmp 3)), 22, none)) by kernel_rfl) trivial F (by decide) (v := .slice A l.length c) (fun W_ => x_move (F.slot rfl)) (fun a F => ?_)
          refine sq0 (show Eq (α := OSk) _ (some (some 72, (.move (.tmp 13)), 3, none)) by kernel_rfl) trivial F (by decide) (v := .int .i64 (j : Int)) (fun W_ => x_move (F.slot rfl)) (fun a F => ?_)
          refine sq0 (show Eq (α := OSk) _ (some (some 73, (.indexAddr 22 (.tmp 71) (.tmp 72)), 0, none)) by kernel_rfl) trivial F (by decide) (v := .pointer (some (adbt.add (j * 10)))) (fun W_ => x_indexE Tryd.underlying22 (Tryd.sizeOf35 W_) (F.slot rfl) hAbt (F.slot rfl) (by omega)) (fun a F => ?_)
          refine sq0 (show Eq (α := OSk) _ (some (some 74, (.fieldAddr 35 (.tmp 73) 1), 0, none)) by kernel_rfl) trivial F (by decide) (v := .pointer (some (Addr.add (adbt.add (j * 10)) 1))) (fun W_ => x_fieldAddr Tryd.underlying35 rfl rfl (Tryd.sizeOf33 W_) (F.slot rfl)) (fun a F => ?_)
          refine sq0 (show Eq (α := OSk) _ (some (some 78, (.move (.tmp 11)), 27, none)) by kernel_rfl) trivial F (by decide) (v := .pointer (some ⟨g2, 0, none⟩)) (fun W_ => x_move (F.slot rfl)) (fun a F => ?_)
          refine sq0 (show Eq (α := OSk) _ (some (some 79, (.move (.tmp 3)), 22, none)) by kernel_rfl) trivial F (by decide) (v := .slice A l.length c) (fun W_ => x_move (F.slot rfl)) (fun a F => ?_)
          refine sq0 (show Eq (α := OSk) _ (some (some 80, (.move (.tmp 13)), 3, none)) by kernel_rfl) trivial F (by decide) (v := .int .i64 (j : Int)) (fun W_ => x_move (F.slot rfl)) (fun a F => ?_)
          refine sq0 (show Eq (α := OSk) _ (some (some 81, (.indexAddr 22 (.tmp 79) (.tmp 80)), 0, none)) by kernel_rfl) trivial F (by decide) (v := .pointer (some (adbt.add (j * 10)))) (fun W_ => x_indexE Tryd.underlying22 (Tryd.sizeOf35 W_) (F.slot rfl) hAbt (F.slot rfl) (by omega)) (fun a F => ?_)
          refine sq0 (show Eq (α := OSk) _ (some (some 82, (.fieldAddr 35 (.tmp 81) 1), 0, none)) by kernel_rfl) trivial F (by decide) (v := .pointer (some (Addr.add (adbt.add (j * 10)) 1))) (fun W_ => x_fieldAddr Tryd.underlying35 rfl rfl (Tryd.sizeOf33 W_) (F.slot rfl)) (fun a F => ?_)
          refine sq1 (show Eq (α := OSk) _ (some (some 75, (.load 33 (.tmp 74)), 33, none)) by kernel_rfl) trivial F (by decide) (⟨H.get 6 rfl, trivial⟩) (v := .agg #[.int .i64 t.f0, .string t.f1, .string t.f2, .int .u64 t.f3, .int .u64 t.f4, .string t.f5, .string t.f6, .slice A7 t.f7.length c7, .slice A8 t.f8.length c8]) (fun W_ hV => x_loadN (Tryd.isAgg33 W_) [.int .i64 t.f0, .string t.f1, .string t.f2, .int .u64 t.f3, .int .u64 t.f4, .string t.f5, .string t.f6, .slice A7 t.f7.length c7, .slice A8 t.f8.length c8] (Tryd.sizeOf33 W_) (F.slot rfl) (cln hV.1 1 _ rfl)) (fun a F => ?_)
          refine sq1 (show Eq (α := OSk) _ (some (some 83, (.load 33 (.tmp 82)), 33, none)) by kernel_rfl) trivial F (by decide) (⟨H.get 6 rfl, trivial⟩) (v := .agg #[.int .i64 t.f0, .string t.f1, .string t.f2, .int .u64 t.f3, .int .u64 t.f4, .string t.f5, .string t.f6, .slice A7 t.f7.length c7, .slice A8 t.f8.length c8]) (fun W_ hV => x_loadN (Tryd.isAgg33 W_) [.int .i64 t.f0, .string t.f1, .string t.f2, .int .u64 t.f3, .int .u64 t.f4, .string t.f5, .string t.f6, .slice A7 t.f7.length c7, .slice A8 t.f8.length c8] (Tryd.sizeOf33 W_) (F.slot rfl) (cln hV.1 1 _ rfl)) (fun a F => ?_)
          refine sqc (show Eq (α := OSk) _ (some (some 76, (.call { callee := (.value (.func 19)), args := #[(.tmp 75)], argTypes := #[33] }), 33, none)) by kernel_rfl) trivial F (by decide) (x_call Tryd.func19 (by kernel_rfl) rfl (args_1 (F.slot rfl))) (ownF_calls t A7 A8 c7 c8 W (H.rd 7 rfl) hB1 hB2) ?_
          rintro e W ⟨A7o, c7o, A8o, c8o, rfl, hF, hB⟩
          refine ⟨_, rfl, fun a F => ?_⟩
          have H := H.freshF hB _ _ hF (fun k hk => hk)
          have H : St w (fun _ => False) (fun _ => True) [Asn.rd kOp (fun k => k < w.heap.size) A l.length l, Asn.blk g1 [.int .i64 a0, .int .i64 s0, .int .i64 t0, .slice A1 xs.length c1, .int .i64 k0, .int .i64 n0] 72, Asn.blk g2 [.int .i64 a0, .int .i64 s0, .int .i64 t0, .slice A2 xs.length c2, .int .i64 k0, .int .i64 n0] 46, Asn.qu k33 33 (.slice A1 xs.length c1) xs ok1, Asn.qu k33 33 (.slice A2 xs.length c2) xs ok2, Asn.fk kOp (fun k => k < w.heap.size) (b, t) [.bool b, .int .i64 t.f0, .string t.f1, .string t.f2, .int .u64 t.f3, .int .u64 t.f4, .string t.f5, .string t.f6, .slice A7 t.f7.length c7, .slice A8 t.f8.length c8], Asn.cl (adbt.add (j * 10)) [.bool b, .int .i64 t.f0, .string t.f1, .string t.f2, .int .u64 t.f3, .int .u64 t.f4, .string t.f5, .string t.f6, .slice A7 t.f7.length c7, .slice A8 t.f8.length c8] (fun k => k < w.heap.size), Asn.fk k33 (fun k => k < w.heap.size) t [.int .i64 t.f0, .string t.f1, .string t.f2, .int .u64 t.f3, .int .u64 t.f4, .string t.f5, .string t.f6, .slice A7 t.f7.length c7, .slice A8 t.f8.length c8], Asn.fk k33 _ t [.int .i64 t.f0, .string t.f1, .string t.f2, .int .u64 t.f3, .int .u64 t.f4, .string t.f5, .string t.f6, .slice A7o t.f7.length c7o, .slice A8o t.f8.length c8o]] W := H
          refine ⟨(fun _ => ⟨H.get 6 rfl, trivial⟩), ?_⟩
          have HS := H.select [1, 3, 8] [Asn.blk g1 [.int .i64 a0, .int .i64 s0, .int .i64 t0, .slice A1 xs.length c1, .int .i64 k0, .int .i64 n0] 72, Asn.qu k33 33 (.slice A1 xs.length c1) xs ok1, Asn.fk k33 _ t [.int .i64 t.f0, .string t.f1, .string t.f2, .int .u64 t.f3, .int .u64 t.f4, .string t.f5, .string t.f6, .slice A7o t.f7.length c7o, .slice A8o t.f8.length c8o]] rfl (by decide)
          refine sqc (show Eq (α := OSk) _ (some (some 77, (.call { callee := (.value (.func 18)), args := #[(.tmp 70), (.tmp 76)], argTypes := #[23, 33] }), 24, none)) by kernel_rfl) trivial F (by decide) (x_call Tryd.func18 (by kernel_rfl) rfl (args_2 (F.slot rfl) (F.slot rfl))) ((add_calls g1 a0 s0 t0 k0 n0 A1 c1 xs ok1 _ t A7o A8o c7o c8o W hs0 hs1 HS).mono (fun _ _ h => h.no (fun e => hz0 (hz.symm.trans e)))) ?_
          rintro e W ⟨rfl, H1⟩
          refine ⟨_, rfl, fun a F => ?_⟩
          have H := H.back [1, 3, 8] [Asn.blk g1 [.int .i64 a0, .int .i64 s0, .int .i64 t0, .slice A1 xs.length c1, .int .i64 k0, .int .i64 n0] 72, Asn.qu k33 33 (.slice A1 xs.length c1) xs ok1, Asn.fk k33 _ t [.int .i64 t.f0, .string t.f1, .string t.f2, .int .u64 t.f3, .int .u64 t.f4, .string t.f5, .string t.f6, .slice A7o t.f7.length c7o, .slice A8o t.f8.length c8o]] rfl (by decide) [Asn.blk g1 [.int .i64 a0, .int .i64 s0, .int .i64 t0, .slice A1 xs.length c1, .int .i64 k0, .int .i64 n0] 72, Asn.qu k33 33 (.slice A1 xs.length c1) xs ok1, Asn.fk k33 _ t [.int .i64 t.f0, .string t.f1, .string t.f2, .int .u64 t.f3, .int .u64 t.f4, .string t.f5, .string t.f6, .slice A7o t.f7.length c7o, .slice A8o t.f8.length c8o]] [] rfl H1
          clear HS H1
          refine ⟨(fun _ => ⟨H.get 6 rfl, trivial⟩), ?_⟩
          have HS := H.select [2, 4, 7] [Asn.blk g2 [.int .i64 a0, .int .i64 s0, .int .i64 t0, .slice A2 xs.length c2, .int .i64 k0, .int .i64 n0] 46, Asn.qu k33 33 (.slice A2 xs.length c2) xs ok2, Asn.fk k33 (fun k => k < w.heap.size) t [.int .i64 t.f0, .string t.f1, .string t.f2, .int .u64 t.f3, .int .u64 t.f4, .string t.f5, .string t.f6, .slice A7 t.f7.length c7, .slice A8 t.f8.length c8]] rfl (by decide)
          refine sqc (show Eq (α := OSk) _ (some (some 84, (.call { callee := (.value (.func 20)), args := #[(.tmp 78), (.tmp 83)], argTypes := #[27, 33] }), 24, none)) by kernel_rfl) trivial F (by decide) (x_call Tryd.func20 (by kernel_rfl) rfl (args_2 (F.slot rfl) (F.slot rfl))) ((radd_callsP g2 a0 s0 t0 k0 n0 A2 c2 xs ok2 _ t A7 A8 c7 c8 hL W hs0 hs1 HS).mono (fun _ _ h => h.no (fun e => hz0 (hz.symm.trans e)))) ?_
          rintro e W ⟨rfl, H1⟩
          refine ⟨_, rfl, fun a F => ?_⟩
          have H := H.back [2, 4, 7] [Asn.blk g2 [.int .i64 a0, .int .i64 s0, .int .i64 t0, .slice A2 xs.length c2, .int .i64 k0, .int .i64 n0] 46, Asn.qu k33 33 (.slice A2 xs.length c2) xs ok2, Asn.fk k33 (fun k => k < w.heap.size) t [.int .i64 t.f0, .string t.f1, .string t.f2, .int .u64 t.f3, .int .u64 t.f4, .string t.f5, .string t.f6, .slice A7 t.f7.length c7, .slice A8 t.f8.length c8]] rfl (by decide) [Asn.blk g2 [.int .i64 a0, .int .i64 s0, .int .i64 t0, .slice A2 xs.length c2, .int .i64 k0, .int .i64 n0] 46, Asn.qu k33 33 (.slice A2 xs.length c2) xs ok2, Asn.fk k33 (fun k => k < w.heap.size) t [.int .i64 t.f0, .string t.f1, .string t.f2, .int .u64 t.f3, .int .u64 t.f4, .string t.f5, .string t.f6, .slice A7 t.f7.length c7, .slice A8 t.f8.length c8]] [] rfl H1
          clear HS H1
          refine ⟨(fun _ => ⟨H.get 6 rfl, trivial⟩), ?_⟩
          refine sq0 (show Eq (α := OSk) _ (some (some 85, (.binOp .neq 24 (.tmp 77) (.tmp 84) 24), 4, none)) by kernel_rfl) trivial F (by decide) (v := .bool ((chT t) != (chT t))) (fun W_ => x_int (F.slot rfl) (F.slot rfl) rfl) (fun a F => ?_)
          unfold wpSeq
          refine t_normal ?_
          have hb11 : ((chT t) != (chT t)) = false := by simp
          have F := F.at 85 rfl (v' := .bool false) (congrArg Value.bool hb11)
          refine c_no (c := .tmp 85) (by kernel_rfl) (F.slot rfl) ?_
          refine c_skip (by kernel_rfl) ?_
          refine t_normal ?_
          refine c_seq (by kernel_rfl) ?_
          refine c_drawn (id := 15) (by kernel_rfl) (by kernel_rfl) (Vs [Asn.blk g2 [.int .i64 a0, .int .i64 s0, .int .i64 t0, .slice A2 xs.length c2, .int .i64 k0, .int .i64 n0] 46]) [0, 1, 0, 4, 12, 28, 60, 127] [] [(0, 0), (2, 0), (3, 0), (4, 0), (5, 1), (6, 0), (1, 2), (7, 0)] (by kernel_rfl) (fun _ _ d _ _ h => by cases d <;> exact h) (Vs.drew ⟨H.get 2 rfl, trivial⟩) ?_
          have H := H.drew
          generalize World.drew W = W at H ⊢
          refine sq0 (show Eq (α := OSk) _ (some (some 105, (.move (.tmp 9)), 23, none)) by kernel_rfl) trivial F (by decide) (v := .pointer (some ⟨g1, 0, none⟩)) (fun W_ => x_move (F.slot rfl)) (fun a F => ?_)
          refine sq0 (show Eq (α := OSk) _ (some (some 107, (.move (.tmp 11)), 27, none)) by kernel_rfl) trivial F (by decide) (v := .pointer (some ⟨g2, 0, none⟩)) (fun W_ => x_move (F.slot rfl)) (fun a F => ?_)
          refine sq0 (show Eq (α := OSk) _ (some (some 108, (.nilCheck (.tmp 107)), 0, none)) by kernel_rfl) trivial F (by decide) (v := .pointer (some ⟨g2, 0, none⟩)) (fun W_ => x_nil (F.slot rfl)) (fun a F => ?_)
          refine sq0 (show Eq (α := OSk) _ (some (some 109, (.fieldAddr 46 (.tmp 108) 3), 0, none)) by kernel_rfl) trivial F (by decide) (v := .pointer (some ⟨g2, 3, none⟩)) (fun W_ => x_field0 Tryd.underlying46 rfl rfl (Tryd.sizeOf38 W_) (F.slot rfl)) (fun a F => ?_)
          refine sq1 (show Eq (α := OSk) _ (some (some 110, (.load 38 (.tmp 109)), 38, none)) by kernel_rfl) trivial F (by decide) (⟨H.get 2 rfl, trivial⟩) (v := .slice A2 xs.length c2) (fun W_ hV => x_load1 (Tryd.isAgg38 W_) (F.slot rfl) (bcell hV.1 rfl)) (fun a F => ?_)
          refine sq0 (show Eq (α := OSk) _ (some (some 111, (.call { callee := (.builtin .len), args := #[(.tmp 110)], argTypes := #[38] }), 3, none)) by kernel_rfl) trivial F (by decide) (v := .int .i64 (xs.length : Int)) (fun W_ => x_lenL Tryd.underlying38 (F.slot rfl)) (fun a F => ?_)
          have HS := H.select [1] [Asn.blk g1 [.int .i64 a0, .int .i64 s0, .int .i64 t0, .slice A1 xs.length c1, .int .i64 k0, .int .i64 n0] 72] rfl (by decide)
          refine sqc (show Eq (α := OSk) _ (some (some 106, (.call { callee := (.value (.func 24)), args := #[(.tmp 105)], argTypes := #[23] }), 3, none)) by kernel_rfl) trivial F (by decide) (x_call Tryd.func24 (by kernel_rfl) rfl (args_1 (F.slot rfl))) (waits_calls g1 a0 s0 t0 k0 n0 A1 xs.length c1  W HS) ?_
          rintro e W ⟨rfl, H1⟩
          refine ⟨_, rfl, fun a F => ?_⟩
          have H := H.back [1] [Asn.blk g1 [.int .i64 a0, .int .i64 s0, .int .i64 t0, .slice A1 xs.length c1, .int .i64 k0, .int .i64 n0] 72] rfl (by decide) [Asn.blk g1 [.int .i64 a0, .int .i64 s0, .int .i64 t0, .slice A1 xs.length c1, .int .i64 k0, .int .i64 n0] 72] [] rfl H1
          clear HS H1
          refine ⟨(fun _ => ⟨H.get 2 rfl, trivial⟩), ?_⟩
          refine sq0 (show Eq (α := OSk) _ (some (some 112, (.binOp .neq 3 (.tmp 106) (.tmp 111) 3), 4, none)) by kernel_rfl) trivial F (by decide) (v := .bool ((xs.length : Int) != (xs.length : Int))) (fun W_ => x_int (F.slot rfl) (F.slot rfl) rfl) (fun a F => ?_)
          unfold wpSeq
          refine t_normal ?_
          have hb13 : ((xs.length : Int) != (xs.length : Int)) = false := by simp
          have F := F.at 112 rfl (v' := .bool false) (congrArg Value.bool hb13)
          refine c_no (c := .tmp 112) (by kernel_rfl) (F.slot rfl) ?_
          refine c_skip (by kernel_rfl) ?_
          refine b_normal ?_
          refine t_normal ?_
          refine c_text (id := 7) (by kernel_rfl) [(0, 2), (1, 2), (2, 2)] (by kernel_rfl) ?_
          refine sq2 (W' := W) (show Eq (α := OSk) _ (some (some 62, (.move (.tmp 13)), 3, none)) by kernel_rfl) trivial F (by decide) (v := .int .i64 (j : Int)) (x_move (F.slot rfl)) (fun _ => trivial) (fun a F => ?_)
          refine sq2 (W' := W) (show Eq (α := OSk) _ (some (some 63, (.binOp .add 3 (.tmp 62) (.const (.int .i64 1)) 3), 3, none)) by kernel_rfl) trivial F (by decide) (v := .int .i64 (IntKind.i64.wrap ((j : Int) + 1))) (x_int (F.slot rfl) rfl rfl) (fun _ => trivial) (fun a F => ?_)
          have F := F.conv (v' := .int .i64 ((j : Int) + 1)) (congrArg (Value.int .i64) (wrap_i64 _ (by omega) (by omega)))
          refine sq2 (W' := W) (show Eq (α := OSk) _ (some (some 13, (.assign (.tmp 63)), 3, none)) by kernel_rfl) trivial F (by decide) (v := .int .i64 ((j : Int) + 1)) (x_assign (F.slot rfl)) (fun _ => trivial) (fun a F => ?_)
          unfold wpSeq
          refine t_normal ?_
          have F_ := F
          have H := H.front 5
          have F := F.at 13 rfl (v' := .int .i64 ((j + 1 : Nat) : Int)) (congrArg (Value.int .i64) (by omega))
          exact ⟨k - 1, by omega, j + 1, k0, n0, A1, c1, xs, _, A2, c2, _, F.less _ (subc rfl (subc rfl (subc rfl (subc rfl (subc rfl (subc rfl (subc rfl (subc rfl (subc rfl (subc rfl (subc rfl (subc rfl (subc rfl (subc rfl (subc rfl (subc rfl (subc rfl (subc rfl (subc rfl (subc rfl (subc rfl (subc rfl (subc rfl (subc rfl (subc rfl (subc rfl (subc rfl (subc rfl (subc rfl (subc rfl (subc rfl (subc rfl (subc rfl (subc rfl sub0)))))))))))))))))))))))))))))))))), H, (by omega), (by omega), hX, (by omega), (by omega), (by omega), (by omega), (by omega)⟩
      · have F := F.at 69 rfl (v' := .bool false) (congrArg Value.bool hb3)
        refine c_no (c := .tmp 69) (by kernel_rfl) (F.slot rfl) ?_
        refine c_seq (by kernel_rfl) ?_
        rcases (show xs.length = 0 ∨ (xs.length ≠ 0 ∧ ((xs.length : Int) < s0 ∧ k0 + 1 < t0)) ∨ (xs.length ≠ 0 ∧ ¬ ((xs.length : Int) < s0 ∧ k0 + 1 < t0)) by omega) with hx0 | ⟨hx0, hw⟩ | ⟨hx0, hw⟩
        · refine c_text (id := 11) (by kernel_rfl) [(0, 2), (1, 2), (2, 2), (3, 2), (4, 2), (5, 2), (6, 2), (7, 2)] (by kernel_rfl) ?_
          refine sq2 (W' := W) (show Eq (α := OSk) _ (some (some 87, (.move (.tmp 9)), 23, none)) by kernel_rfl) trivial F (by decide) (v := .pointer (some ⟨g1, 0, none⟩)) (x_move (F.slot rfl)) (fun _ => trivial) (fun a F => ?_)
          have HS := H.select [1, 3] [Asn.blk g1 [.int .i64 a0, .int .i64 s0, .int .i64 t0, .slice A1 xs.length c1, .int .i64 k0, .int .i64 n0] 72, Asn.qu k33 33 (.slice A1 xs.length c1) xs ok1] rfl (by decide)
          refine sqc (show Eq (α := OSk) _ (some (some 88, (.call { callee := (.value (.func 21)), args := #[(.tmp 87)], argTypes := #[23] }), 41, none)) by kernel_rfl) trivial F (by decide) (x_call Tryd.func21 (by kernel_rfl) rfl (args_1 (F.slot rfl))) ((tick_calls g1 a0 s0 t0 k0 n0 A1 c1 xs ok1 W hs0 hs1 (by omega) (by omega) (by omega) (by omega) (by omega) HS).mono (fun _ _ h => h.none hx0)) ?_
          rintro e W ⟨rfl, H1⟩
          refine ⟨_, rfl, fun a F => ?_⟩
          have H := H.back [1, 3] [Asn.blk g1 [.int .i64 a0, .int .i64 s0, .int .i64 t0, .slice A1 xs.length c1, .int .i64 k0, .int .i64 n0] 72, Asn.qu k33 33 (.slice A1 xs.length c1) xs ok1] rfl (by decide) [Asn.blk g1 [.int .i64 a0, .int .i64 s0, .int .i64 t0, .slice A1 xs.length c1, .int .i64 k0, .int .i64 n0] 72, Asn.qu k33 33 (.slice A1 xs.length c1) xs ok1] [] rfl H1
          clear HS H1
          refine ⟨(fun _ => trivial), ?_⟩
          refine sq2 (W' := W) (show Eq (α := OSk) _ (some (some 86, (.move (.tmp 88)), 41, none)) by kernel_rfl) trivial F (by decide) (v := .tuple #[.agg #[.int .i64 0, .int .i64 0, .slice none 0 0], .bool false]) (x_move (F.slot rfl)) (fun _ => trivial) (fun a F => ?_)
          refine sq2 (W' := W) (show Eq (α := OSk) _ (some (some 89, (.extract (.tmp 86) 0), 40, none)) by kernel_rfl) trivial F (by decide) (v := .agg #[.int .i64 0, .int .i64 0, .slice none 0 0]) (x_extract (F.slot rfl) rfl) (fun _ => trivial) (fun a F => ?_)
          refine sq2 (W' := W) (show Eq (α := OSk) _ (some (some 90, (.extract (.tmp 86) 1), 4, none)) by kernel_rfl) trivial F (by decide) (v := .bool false) (x_extract (F.slot rfl) rfl) (fun _ => trivial) (fun a F => ?_)
          refine sq_new (show Eq (α := OSk) _ (some (some 14, (.alloc 40), 0, none)) by kernel_rfl) trivial F (by decide) H [.int .i64 0, .int .i64 0, .slice none 0 0] 40 (x_alloc Tryd.zeroValue40 rfl) ?_
          intro g14 W a hg14 H F
          refine ⟨(fun _ => trivial), ?_⟩
          refine sq_put (M := [Asn.rd kOp (fun k => k < w.heap.size) A l.length l, Asn.blk g1 [.int .i64 a0, .int .i64 s0, .int .i64 t0, .slice A1 xs.length c1, .int .i64 k0, .int .i64 n0] 72, Asn.blk g2 [.int .i64 a0, .int .i64 s0, .int .i64 t0, .slice A2 xs.length c2, .int .i64 k0, .int .i64 n0] 46, Asn.qu k33 33 (.slice A1 xs.length c1) xs ok1, Asn.qu k33 33 (.slice A2 xs.length c2) xs ok2, Asn.fk kOp (fun k => k < w.heap.size) (b, t) [.bool b, .int .i64 t.f0, .string t.f1, .string t.f2, .int .u64 t.f3, .int .u64 t.f4, .string t.f5, .string t.f6, .slice A7 t.f7.length c7, .slice A8 t.f8.length c8], Asn.cl (adbt.add (j * 10)) [.bool b, .int .i64 t.f0, .string t.f1, .string t.f2, .int .u64 t.f3, .int .u64 t.f4, .string t.f5, .string t.f6, .slice A7 t.f7.length c7, .slice A8 t.f8.length c8] (fun k => k < w.heap.size), Asn.fk k33 (fun k => k < w.heap.size) t [.int .i64 t.f0, .string t.f1, .string t.f2, .int .u64 t.f3, .int .u64 t.f4, .string t.f5, .string t.f6, .slice A7 t.f7.length c7, .slice A8 t.f8.length c8], Asn.blk g14 [.int .i64 0, .int .i64 0, .slice none 0 0] 40]) (show Eq (α := OSk) _ (some (none, (.store 40 (.tmp 14) (.tmp 89)), 0, none)) by kernel_rfl) trivial F (x_store H (k := 8) (cs' := [.int .i64 0, .int .i64 0, .slice none 0 0]) rfl (Tryd.sizeOf40 W) (F.slot rfl) (F.slot rfl) rfl (Nat.le_of_ble_eq_true rfl) rfl rfl) ?_
          intro W H
          refine ⟨(fun _ => trivial), ?_⟩
          refine sq2 (W' := W) (show Eq (α := OSk) _ (some (some 15, (.assign (.tmp 90)), 4, none)) by kernel_rfl) trivial F (by decide) (v := .bool false) (x_assign (F.slot rfl)) (fun _ => trivial) (fun a F => ?_)
          unfold wpSeq
          refine t_normal ?_
          refine c_seq (by kernel_rfl) ?_
          refine c_text (id := 12) (by kernel_rfl) [(0, 2), (1, 2), (2, 2), (3, 2), (4, 2), (5, 2), (6, 2), (7, 2)] (by kernel_rfl) ?_
          refine sq2 (W' := W) (show Eq (α := OSk) _ (some (some 92, (.move (.tmp 11)), 27, none)) by kernel_rfl) trivial F (by decide) (v := .pointer (some ⟨g2, 0, none⟩)) (x_move (F.slot rfl)) (fun _ => trivial) (fun a F => ?_)
          have HS := H.select [2, 4] [Asn.blk g2 [.int .i64 a0, .int .i64 s0, .int .i64 t0, .slice A2 xs.length c2, .int .i64 k0, .int .i64 n0] 46, Asn.qu k33 33 (.slice A2 xs.length c2) xs ok2] rfl (by decide)
          refine sqc (show Eq (α := OSk) _ (some (some 93, (.call { callee := (.value (.func 22)), args := #[(.tmp 92)], argTypes := #[27] }), 41, none)) by kernel_rfl) trivial F (by decide) (x_call Tryd.func22 (by kernel_rfl) rfl (args_1 (F.slot rfl))) ((rtick_calls g2 a0 s0 t0 k0 n0 A2 c2 xs ok2 W hs0 hs1 (by omega) (by omega) (by omega) (by omega) (by omega) HS).mono (fun _ _ h => h.none hx0)) ?_
          rintro e W ⟨rfl, H1⟩
          refine ⟨_, rfl, fun a F => ?_⟩
          have H := H.back [2, 4] [Asn.blk g2 [.int .i64 a0, .int .i64 s0, .int .i64 t0, .slice A2 xs.length c2, .int .i64 k0, .int .i64 n0] 46, Asn.qu k33 33 (.slice A2 xs.length c2) xs ok2] rfl (by decide) [Asn.blk g2 [.int .i64 a0, .int .i64 s0, .int .i64 t0, .slice A2 xs.length c2, .int .i64 k0, .int .i64 n0] 46, Asn.qu k33 33 (.slice A2 xs.length c2) xs ok2] [] rfl H1
          clear HS H1
          refine ⟨(fun _ => trivial), ?_⟩
          refine sq2 (W' := W) (show Eq (α := OSk) _ (some (some 91, (.move (.tmp 93)), 41, none)) by kernel_rfl) trivial F (by decide) (v := .tuple #[.agg #[.int .i64 0, .int .i64 0, .slice none 0 0], .bool false]) (x_move (F.slot rfl)) (fun _ => trivial) (fun a F => ?_)
          refine sq2 (W' := W) (show Eq (α := OSk) _ (some (some 94, (.extract (.tmp 91) 0), 40, none)) by kernel_rfl) trivial F (by decide) (v := .agg #[.int .i64 0, .int .i64 0, .slice none 0 0]) (x_extract (F.slot rfl) rfl) (fun _ => trivial) (fun a F => ?_)
          refine sq2 (W' := W) (show Eq (α := OSk) _ (some (some 95, (.extract (.tmp 91) 1), 4, none)) by kernel_rfl) trivial F (by decide) (v := .bool false) (x_extract (F.slot rfl) rfl) (fun _ => trivial) (fun a F => ?_)
          refine sq_new (show Eq (α := OSk) _ (some (some 16, (.alloc 40), 0, none)) by kernel_rfl) trivial F (by decide) H [.int .i64 0, .int .i64 0, .slice none 0 0] 40 (x_alloc Tryd.zeroValue40 rfl) ?_
          intro g15 W a hg15 H F
          refine ⟨(fun _ => trivial), ?_⟩
          refine sq_put (M := [Asn.rd kOp (fun k => k < w.heap.size) A l.length l, Asn.blk g1 [.int .i64 a0, .int .i64 s0, .int .i64 t0, .slice A1 xs.length c1, .int .i64 k0, .int .i64 n0] 72, Asn.blk g2 [.int .i64 a0, .int .i64 s0, .int .i64 t0, .slice A2 xs.length c2, .int .i64 k0, .int .i64 n0] 46, Asn.qu k33 33 (.slice A1 xs.length c1) xs ok1, Asn.qu k33 33 (.slice A2 xs.length c2) xs ok2, Asn.fk kOp (fun k => k < w.heap.size) (b, t) [.bool b, .int .i64 t.f0, .string t.f1, .string t.f2, .int .u64 t.f3, .int .u64 t.f4, .string t.f5, .string t.f6, .slice A7 t.f7.length c7, .slice A8 t.f8.length c8], Asn.cl (adbt.add (j * 10)) [.bool b, .int .i64 t.f0, .string t.f1, .string t.f2, .int .u64 t.f3, .int .u64 t.f4, .string t.f5, .string t.f6, .slice A7 t.f7.length c7, .slice A8 t.f8.length c8] (fun k => k < w.heap.size), Asn.fk k33 (fun k => k < w.heap.size) t [.int .i64 t.f0, .string t.f1, .string t.f2, .int .u64 t.f3, .int .u64 t.f4, .string t.f5, .string t.f6, .slice A7 t.f7.length c7, .slice A8 t.f8.length c8], Asn.blk g14 [.int .i64 0, .int .i64 0, .slice none 0 0] 40, Asn.blk g15 [.int .i64 0, .int .i64 0, .slice none 0 0] 40]) (show Eq (α := OSk) _ (some (none, (.store 40 (.tmp 16) (.tmp 94)), 0, none)) by kernel_rfl) trivial F (x_store H (k := 9) (cs' := [.int .i64 0, .int .i64 0, .slice none 0 0]) rfl (Tryd.sizeOf40 W) (F.slot rfl) (F.slot rfl) rfl (Nat.le_of_ble_eq_true rfl) rfl rfl) ?_
          intro W H
          refine ⟨(fun _ => trivial), ?_⟩
          refine sq2 (W' := W) (show Eq (α := OSk) _ (some (some 17, (.assign (.tmp 95)), 4, none)) by kernel_rfl) trivial F (by decide) (v := .bool false) (x_assign (F.slot rfl)) (fun _ => trivial) (fun a F => ?_)
          unfold wpSeq
          refine t_normal ?_
          refine c_seq (by kernel_rfl) ?_
          refine c_text (id := 13) (by kernel_rfl) [(0, 2), (1, 2), (2, 2), (3, 2), (4, 2), (5, 2), (6, 2), (7, 2), (8, 2)] (by kernel_rfl) ?_
          refine sq2 (show Eq (α := OSk) _ (some (some 96, (.load 40 (.tmp 14)), 40, none)) by kernel_rfl) trivial F (by decide) (v := .agg #[.int .i64 0, .int .i64 0, .slice none 0 0]) (x_loadB (Tryd.isAgg40 W) [.int .i64 0, .int .i64 0, .slice none 0 0] (Tryd.sizeOf40 W) (F.slot rfl) (H.blk 8 rfl)) (fun _ => trivial) (fun a F => ?_)
          refine sq2 (show Eq (α := OSk) _ (some (some 97, (.load 40 (.tmp 16)), 40, none)) by kernel_rfl) trivial F (by decide) (v := .agg #[.int .i64 0, .int .i64 0, .slice none 0 0]) (x_loadB (Tryd.isAgg40 W) [.int .i64 0, .int .i64 0, .slice none 0 0] (Tryd.sizeOf40 W) (F.slot rfl) (H.blk 9 rfl)) (fun _ => trivial) (fun a F => ?_)
          refine sqc (show Eq (α := OSk) _ (some (some 98, (.call { callee := (.value (.func 23)), args := #[(.tmp 96), (.tmp 97)], argTypes := #[40, 40] }), 4, none)) by kernel_rfl) trivial F (by decide) (x_call Tryd.func23 (by kernel_rfl) rfl (args_2 (F.slot rfl) (F.slot rfl))) (bsame_calls 0 0 none none 0 0 [] W (by decide) (fun _ h => by cases h) (Kd.C_nil _ _) (Nat.le_refl _) (Kd.C_nil _ _) (Nat.le_refl _)) ?_
          rintro e W ⟨rfl, hB_⟩
          refine ⟨_, rfl, fun a F => ?_⟩
          have H := H.below hB_
          refine ⟨(fun _ => trivial), ?_⟩
          refine sq2 (W' := W) (show Eq (α := OSk) _ (some (some 99, (.unOp .not 4 (.tmp 98)), 4, none)) by kernel_rfl) trivial F (by decide) (v := .bool false) (x_not (b := true) (F.slot rfl)) (fun _ => trivial) (fun a F => ?_)
          refine sq2 (W' := W) (show Eq (α := OSk) _ (some (some 100, (.move (.tmp 99)), 4, none)) by kernel_rfl) trivial F (by decide) (v := .bool false) (x_move (F.slot rfl)) (fun _ => trivial) (fun a F => ?_)
          refine sq2 (W' := W) (show Eq (α := OSk) _ (some (some 101, (.move (.tmp 15)), 4, some (4, false))) by kernel_rfl) ⟨100, by kernel_rfl, rfl⟩ F (by decide) (v := .bool false) (x_move (F.slot rfl)) (fun _ => trivial) (fun a F => ?_)
          refine sq2 (W' := W) (show Eq (α := OSk) _ (some (some 102, (.move (.tmp 17)), 4, some (4, false))) by kernel_rfl) ⟨100, by kernel_rfl, rfl⟩ F (by decide) (v := .bool false) (x_move (F.slot rfl)) (fun _ => trivial) (fun a F => ?_)
          refine sq2 (W' := W) (show Eq (α := OSk) _ (some (some 103, (.binOp .neq 4 (.tmp 101) (.tmp 102) 4), 4, some (4, false))) by kernel_rfl) ⟨100, by kernel_rfl, rfl⟩ F (by decide) (v := .bool false) (x_bin (F.slot rfl) (F.slot rfl) rfl) (fun _ => trivial) (fun a F => ?_)
          refine sq2 (W' := W) (show Eq (α := OSk) _ (some (some 104, (.pick (.tmp 100) (.const (.bool true)) (.tmp 103)), 4, none)) by kernel_rfl) trivial F (by decide) (v := .bool false) (x_pickF (F.slot rfl) (F.slot rfl)) (fun _ => trivial) (fun a F => ?_)
          unfold wpSeq
          refine t_normal ?_
          refine c_no (c := .tmp 104) (by kernel_rfl) (F.slot rfl) ?_
          refine c_skip (by kernel_rfl) ?_
          refine t_normal ?_
          refine c_seq (by kernel_rfl) ?_
          refine c_drawn (id := 15) (by kernel_rfl) (by kernel_rfl) (Vs [Asn.blk g2 [.int .i64 a0, .int .i64 s0, .int .i64 t0, .slice A2 xs.length c2, .int .i64 k0, .int .i64 n0] 46]) [0, 1, 0, 4, 12, 28, 60, 127] [] [(0, 0), (2, 0), (3, 0), (4, 0), (5, 1), (6, 0), (1, 2), (7, 0)] (by kernel_rfl) (fun _ _ d _ _ h => by cases d <;> exact h) (Vs.drew ⟨H.get 2 rfl, trivial⟩) ?_
          have H := H.drew
          generalize World.drew W = W at H ⊢
          refine sq0 (show Eq (α := OSk) _ (some (some 105, (.move (.tmp 9)), 23, none)) by kernel_rfl) trivial F (by decide) (v := .pointer (some ⟨g1, 0, none⟩)) (fun W_ => x_move (F.slot rfl)) (fun a F => ?_)
          refine sq0 (show Eq (α := OSk) _ (some (some 107, (.move (.tmp 11)), 27, none)) by kernel_rfl) trivial F (by decide) (v := .pointer (some ⟨g2, 0, none⟩)) (fun W_ => x_move (F.slot rfl)) (fun a F => ?_)
          refine sq0 (show Eq (α := OSk) _ (some (some 108, (.nilCheck (.tmp 107)), 0, none)) by kernel_rfl) trivial F (by decide) (v := .pointer (some ⟨g2, 0, none⟩)) (fun W_ => x_nil (F.slot rfl)) (fun a F => ?_)
          refine sq0 (show Eq (α := OSk) _ (some (some 109, (.fieldAddr 46 (.tmp 108) 3), 0, none)) by kernel_rfl) trivial F (by decide) (v := .pointer (some ⟨g2, 3, none⟩)) (fun W_ => x_field0 Tryd.underlying46 rfl rfl (Tryd.sizeOf38 W_) (F.slot rfl)) (fun a F => ?_)
          refine sq1 (show Eq (α := OSk) _ (some (some 110, (.load 38 (.tmp 109)), 38, none)) by kernel_rfl) trivial F (by decide) (⟨H.get 2 rfl, trivial⟩) (v := .slice A2 xs.length c2) (fun W_ hV => x_load1 (Tryd.isAgg38 W_) (F.slot rfl) (bcell hV.1 rfl)) (fun a F => ?_)
          refine sq0 (show Eq (α := OSk) _ (some (some 111, (.call { callee := (.builtin .len), args := #[(.tmp 110)], argTypes := #[38] }), 3, none)) by kernel_rfl) trivial F (by decide) (v := .int .i64 (xs.length : Int)) (fun W_ => x_lenL Tryd.underlying38 (F.slot rfl)) (fun a F => ?_)
          have HS := H.select [1] [Asn.blk g1 [.int .i64 a0, .int .i64 s0, .int .i64 t0, .slice A1 xs.length c1, .int .i64 k0, .int .i64 n0] 72] rfl (by decide)
          refine sqc (show Eq (α := OSk) _ (some (some 106, (.call { callee := (.value (.func 24)), args := #[(.tmp 105)], argTypes := #[23] }), 3, none)) by kernel_rfl) trivial F (by decide) (x_call Tryd.func24 (by kernel_rfl) rfl (args_1 (F.slot rfl))) (waits_calls g1 a0 s0 t0 k0 n0 A1 xs.length c1  W HS) ?_
          rintro e W ⟨rfl, H1⟩
          refine ⟨_, rfl, fun a F => ?_⟩
          have H := H.back [1] [Asn.blk g1 [.int .i64 a0, .int .i64 s0, .int .i64 t0, .slice A1 xs.length c1, .int .i64 k0, .int .i64 n0] 72] rfl (by decide) [Asn.blk g1 [.int .i64 a0, .int .i64 s0, .int .i64 t0, .slice A1 xs.length c1, .int .i64 k0, .int .i64 n0] 72] [] rfl H1
          clear HS H1
          refine ⟨(fun _ => ⟨H.get 2 rfl, trivial⟩), ?_⟩
          refine sq0 (show Eq (α := OSk) _ (some (some 112, (.binOp .neq 3 (.tmp 106) (.tmp 111) 3), 4, none)) by kernel_rfl) trivial F (by decide) (v := .bool ((xs.length : Int) != (xs.length : Int))) (fun W_ => x_int (F.slot rfl) (F.slot rfl) rfl) (fun a F => ?_)
          unfold wpSeq
          refine t_normal ?_
          have hb17 : ((xs.length : Int) != (xs.length : Int)) = false := by simp
          have F := F.at 112 rfl (v' := .bool false) (congrArg Value.bool hb17)
          refine c_no (c := .tmp 112) (by kernel_rfl) (F.slot rfl) ?_
          refine c_skip (by kernel_rfl) ?_
          refine b_normal ?_
          refine t_normal ?_
          refine c_text (id := 7) (by kernel_rfl) [(0, 2), (1, 2), (2, 2)] (by kernel_rfl) ?_
          refine sq2 (W' := W) (show Eq (α := OSk) _ (some (some 62, (.move (.tmp 13)), 3, none)) by kernel_rfl) trivial F (by decide) (v := .int .i64 (j : Int)) (x_move (F.slot rfl)) (fun _ => trivial) (fun a F => ?_)
          refine sq2 (W' := W) (show Eq (α := OSk) _ (some (some 63, (.binOp .add 3 (.tmp 62) (.const (.int .i64 1)) 3), 3, none)) by kernel_rfl) trivial F (by decide) (v := .int .i64 (IntKind.i64.wrap ((j : Int) + 1))) (x_int (F.slot rfl) rfl rfl) (fun _ => trivial) (fun a F => ?_)
          have F := F.conv (v' := .int .i64 ((j : Int) + 1)) (congrArg (Value.int .i64) (wrap_i64 _ (by omega) (by omega)))
          refine sq2 (W' := W) (show Eq (α := OSk) _ (some (some 13, (.assign (.tmp 63)), 3, none)) by kernel_rfl) trivial F (by decide) (v := .int .i64 ((j : Int) + 1)) (x_assign (F.slot rfl)) (fun _ => trivial) (fun a F => ?_)
          unfold wpSeq
          refine t_normal ?_
          have F_ := F
          have H := H.front 5
          have F := F.at 13 rfl (v' := .int .i64 ((j + 1 : Nat) : Int)) (congrArg (Value.int .i64) (by omega))
          exact ⟨k - 1, by omega, j + 1, k0, n0, A1, c1, xs, _, A2, c2, _, F.less _ (subc rfl (subc rfl (subc rfl (subc rfl (subc rfl (subc rfl (subc rfl (subc rfl (subc rfl (subc rfl (subc rfl (subc rfl (subc rfl (subc rfl (subc rfl (subc rfl (subc rfl (subc rfl (subc rfl (subc rfl (subc rfl (subc rfl (subc rfl (subc rfl (subc rfl (subc rfl (subc rfl (subc rfl (subc rfl (subc rfl (subc rfl (subc rfl (subc rfl (subc rfl sub0)))))))))))))))))))))))))))))))))), H, (by omega), (by omega), hX, (by omega), (by omega), (by omega), (by omega), (by omega)⟩
        · refine c_text (id := 11) (by kernel_rfl) [(0, 2), (1, 2), (2, 2), (3, 2), (4, 2), (5, 2), (6, 2), (7, 2)] (by kernel_rfl) ?_
          refine sq2 (W' := W) (show Eq (α := OSk) _ (some (some 87, (.move (.tmp 9)), 23, none)) by kernel_rfl) trivial F (by decide) (v := .pointer (some ⟨g1, 0, none⟩)) (x_move (F.slot rfl)) (fun _ => trivial) (fun a F => ?_)
          have HS := H.select [1, 3] [Asn.blk g1 [.int .i64 a0, .int .i64 s0, .int .i64 t0, .slice A1 xs.length c1, .int .i64 k0, .int .i64 n0] 72, Asn.qu k33 33 (.slice A1 xs.length c1) xs ok1] rfl (by decide)
          refine sqc (show Eq (α := OSk) _ (some (some 88, (.call { callee := (.value (.func 21)), args := #[(.tmp 87)], argTypes := #[23] }), 41, none)) by kernel_rfl) trivial F (by decide) (x_call Tryd.func21 (by kernel_rfl) rfl (args_1 (F.slot rfl))) ((tick_calls g1 a0 s0 t0 k0 n0 A1 c1 xs ok1 W hs0 hs1 (by omega) (by omega) (by omega) (by omega) (by omega) HS).mono (fun _ _ h => h.wait hx0 hw)) ?_
          rintro e W ⟨rfl, H1⟩
          refine ⟨_, rfl, fun a F => ?_⟩
          have H := H.back [1, 3] [Asn.blk g1 [.int .i64 a0, .int .i64 s0, .int .i64 t0, .slice A1 xs.length c1, .int .i64 k0, .int .i64 n0] 72, Asn.qu k33 33 (.slice A1 xs.length c1) xs ok1] rfl (by decide) [Asn.blk g1 [.int .i64 a0, .int .i64 s0, .int .i64 t0, .slice A1 xs.length c1, .int .i64 (k0 + 1), .int .i64 n0] 72, Asn.qu k33 33 (.slice A1 xs.length c1) xs ok1] [] rfl H1
          clear HS H1
          have H : St w (fun _ => False) (fun _ => True) [Asn.rd kOp (fun k => k < w.heap.size) A l.length l, Asn.blk g1 [.int .i64 a0, .int .i64 s0, .int .i64 t0, .slice A1 xs.length c1, .int .i64 (k0 + 1), .int .i64 n0] 72, Asn.blk g2 [.int .i64 a0, .int .i64 s0, .int .i64 t0, .slice A2 xs.length c2, .int .i64 k0, .int .i64 n0] 46, Asn.qu k33 33 (.slice A1 xs.length c1) xs ok1, Asn.qu k33 33 (.slice A2 xs.length c2) xs ok2, Asn.fk kOp (fun k => k < w.heap.size) (b, t) [.bool b, .int .i64 t.f0, .string t.f1, .string t.f2, .int .u64 t.f3, .int .u64 t.f4, .string t.f5, .string t.f6, .slice A7 t.f7.length c7, .slice A8 t.f8.length c8], Asn.cl (adbt.add (j * 10)) [.bool b, .int .i64 t.f0, .string t.f1, .string t.f2, .int .u64 t.f3, .int .u64 t.f4, .string t.f5, .string t.f6, .slice A7 t.f7.length c7, .slice A8 t.f8.length c8] (fun k => k < w.heap.size), Asn.fk k33 (fun k => k < w.heap.size) t [.int .i64 t.f0, .string t.f1, .string t.f2, .int .u64 t.f3, .int .u64 t.f4, .string t.f5, .string t.f6, .slice A7 t.f7.length c7, .slice A8 t.f8.length c8]] W := H
          refine ⟨(fun _ => trivial), ?_⟩
          refine sq2 (W' := W) (show Eq (α := OSk) _ (some (some 86, (.move (.tmp 88)), 41, none)) by kernel_rfl) trivial F (by decide) (v := .tuple #[.agg #[.int .i64 0, .int .i64 0, .slice none 0 0], .bool false]) (x_move (F.slot rfl)) (fun _ => trivial) (fun a F => ?_)
          refine sq2 (W' := W) (show Eq (α := OSk) _ (some (some 89, (.extract (.tmp 86) 0), 40, none)) by kernel_rfl) trivial F (by decide) (v := .agg #[.int .i64 0, .int .i64 0, .slice none 0 0]) (x_extract (F.slot rfl) rfl) (fun _ => trivial) (fun a F => ?_)
          refine sq2 (W' := W) (show Eq (α := OSk) _ (some (some 90, (.extract (.tmp 86) 1), 4, none)) by kernel_rfl) trivial F (by decide) (v := .bool false) (x_extract (F.slot rfl) rfl) (fun _ => trivial) (fun a F => ?_)
          refine sq_new (show Eq (α := OSk) _ (some (some 14, (.alloc 40), 0, none)) by kernel_rfl) trivial F (by decide) H [.int .i64 0, .int .i64 0, .slice none 0 0] 40 (x_alloc Tryd.zeroValue40 rfl) ?_
          intro g18 W a hg18 H F
          refine ⟨(fun _ => trivial), ?_⟩
          refine sq_put (M := [Asn.rd kOp (fun k => k < w.heap.size) A l.length l, Asn.blk g1 [.int .i64 a0, .int .i64 s0, .int .i64 t0, .slice A1 xs.length c1, .int .i64 (k0 + 1), .int .i64 n0] 72, Asn.blk g2 [.int .i64 a0, .int .i64 s0, .int .i64 t0, .slice A2 xs.length c2, .int .i64 k0, .int .i64 n0] 46, Asn.qu k33 33 (.slice A1 xs.length c1) xs ok1, Asn.qu k33 33 (.slice A2 xs.length c2) xs ok2, Asn.fk kOp (fun k => k < w.heap.size) (b, t) [.bool b, .int .i64 t.f0, .string t.f1, .string t.f2, .int .u64 t.f3, .int .u64 t.f4, .string t.f5, .string t.f6, .slice A7 t.f7.length c7, .slice A8 t.f8.length c8], Asn.cl (adbt.add (j * 10)) [.bool b, .int .i64 t.f0, .string t.f1, .string t.f2, .int .u64 t.f3, .int .u64 t.f4, .string t.f5, .string t.f6, .slice A7 t.f7.length c7, .slice A8 t.f8.length c8] (fun k => k < w.heap.size), Asn.fk k33 (fun k => k < w.heap.size) t [.int .i64 t.f0, .string t.f1, .string t.f2, .int .u64 t.f3, .int .u64 t.f4, .string t.f5, .string t.f6, .slice A7 t.f7.length c7, .slice A8 t.f8.length c8], Asn.blk g18 [.int .i64 0, .int .i64 0, .slice none 0 0] 40]) (show Eq (α := OSk) _ (some (none, (.store 40 (.tmp 14) (.tmp 89)), 0, none)) by kernel_rfl) trivial F (x_store H (k := 8) (cs' := [.int .i64 0, .int .i64 0, .slice none 0 0]) rfl (Tryd.sizeOf40 W) (F.slot rfl) (F.slot rfl) rfl (Nat.le_of_ble_eq_true rfl) rfl rfl) ?_
          intro W H
          refine ⟨(fun _ => trivial), ?_⟩
          refine sq2 (W' := W) (show Eq (α := OSk) _ (some (some 15, (.assign (.tmp 90)), 4, none)) by kernel_rfl) trivial F (by decide) (v := .bool false) (x_assign (F.slot rfl)) (fun _ => trivial) (fun a F => ?_)
          unfold wpSeq
          refine t_normal ?_
          refine c_seq (by kernel_rfl) ?_
          refine c_text (id := 12) (by kernel_rfl) [(0, 2), (1, 2), (2, 2), (3, 2), (4, 2), (5, 2), (6, 2), (7, 2)] (by kernel_rfl) ?_
          refine sq2 (W' := W) (show Eq (α := OSk) _ (some (some 92, (.move (.tmp 11)), 27, none)) by kernel_rfl) trivial F (by decide) (v := .pointer (some ⟨g2, 0, none⟩)) (x_move (F.slot rfl)) (fun _ => trivial) (fun a F => ?_)
          have HS := H.select [2, 4] [Asn.blk g2 [.int .i64 a0, .int .i64 s0, .int .i64 t0, .slice A2 xs.length c2, .int .i64 k0, .int .i64 n0] 46, Asn.qu k33 33 (.slice A2 xs.length c2) xs ok2] rfl (by decide)
          refine sqc (show Eq (α := OSk) _ (some (some 93, (.call { callee := (.value (.func 22)), args := #[(.tmp 92)], argTypes := #[27] }), 41, none)) by kernel_rfl) trivial F (by decide) (x_call Tryd.func22 (by kernel_rfl) rfl (args_1 (F.slot rfl))) ((rtick_calls g2 a0 s0 t0 k0 n0 A2 c2 xs ok2 W hs0 hs1 (by omega) (by omega) (by omega) (by omega) (by omega) HS).mono (fun _ _ h => h.wait hx0 hw)) ?_
          rintro e W ⟨rfl, H1⟩
          refine ⟨_, rfl, fun a F => ?_⟩
          have H := H.back [2, 4] [Asn.blk g2 [.int .i64 a0, .int .i64 s0, .int .i64 t0, .slice A2 xs.length c2, .int .i64 k0, .int .i64 n0] 46, Asn.qu k33 33 (.slice A2 xs.length c2) xs ok2] rfl (by decide) [Asn.blk g2 [.int .i64 a0, .int .i64 s0, .int .i64 t0, .slice A2 xs.length c2, .int .i64 (k0 + 1), .int .i64 n0] 46, Asn.qu k33 33 (.slice A2 xs.length c2) xs ok2] [] rfl H1
          clear HS H1
          have H : St w (fun _ => False) (fun _ => True) [Asn.rd kOp (fun k => k < w.heap.size) A l.length l, Asn.blk g1 [.int .i64 a0, .int .i64 s0, .int .i64 t0, .slice A1 xs.length c1, .int .i64 (k0 + 1), .int .i64 n0] 72, Asn.blk g2 [.int .i64 a0, .int .i64 s0, .int .i64 t0, .slice A2 xs.length c2, .int .i64 (k0 + 1), .int .i64 n0] 46, Asn.qu k33 33 (.slice A1 xs.length c1) xs ok1, Asn.qu k33 33 (.slice A2 xs.length c2) xs ok2, Asn.fk kOp (fun k => k < w.heap.size) (b, t) [.bool b, .int .i64 t.f0, .string t.f1, .string t.f2, .int .u64 t.f3, .int .u64 t.f4, .string t.f5, .string t.f6, .slice A7 t.f7.length c7, .slice A8 t.f8.length c8], Asn.cl (adbt.add (j * 10)) [.bool b, .int .i64 t.f0, .string t.f1, .string t.f2, .int .u64 t.f3, .int .u64 t.f4, .string t.f5, .string t.f6, .slice A7 t.f7.length c7, .slice A8 t.f8.length c8] (fun k => k < w.heap.size), Asn.fk k33 (fun k => k < w.heap.size) t [.int .i64 t.f0, .string t.f1, .string t.f2, .int .u64 t.f3, .int .u64 t.f4, .string t.f5, .string t.f6, .slice A7 t.f7.length c7, .slice A8 t.f8.length c8], Asn.blk g18 [.int .i64 0, .int .i64 0, .slice none 0 0] 40] W := H
          refine ⟨(fun _ => trivial), ?_⟩
          refine sq2 (W' := W) (show Eq (α := OSk) _ (some (some 91, (.move (.tmp 93)), 41, none)) by kernel_rfl) trivial F (by decide) (v := .tuple #[.agg #[.int .i64 0, .int .i64 0, .slice none 0 0], .bool false]) (x_move (F.slot rfl)) (fun _ => trivial) (fun a F => ?_)
          refine sq2 (W' := W) (show Eq (α := OSk) _ (some (some 94, (.extract (.tmp 91) 0), 40, none)) by kernel_rfl) trivial F (by decide) (v := .agg #[.int .i64 0, .int .i64 0, .slice none 0 0]) (x_extract (F.slot rfl) rfl) (fun _ => trivial) (fun a F => ?_)
          refine sq2 (W' := W) (show Eq (α := OSk) _ (some (some 95, (.extract (.tmp 91) 1), 4, none)) by kernel_rfl) trivial F (by decide) (v := .bool false) (x_extract (F.slot rfl) rfl) (fun _ => trivial) (fun a F => ?_)
          refine sq_new (show Eq (α := OSk) _ (some (some 16, (.alloc 40), 0, none)) by kernel_rfl) trivial F (by decide) H [.int .i64 0, .int .i64 0, .slice none 0 0] 40 (x_alloc Tryd.zeroValue40 rfl) ?_
          intro g19 W a hg19 H F
          refine ⟨(fun _ => trivial), ?_⟩
          refine sq_put (M := [Asn.rd kOp (fun k => k < w.heap.size) A l.length l, Asn.blk g1 [.int .i64 a0, .int .i64 s0, .int .i64 t0, .slice A1 xs.length c1, .int .i64 (k0 + 1), .int .i64 n0] 72, Asn.blk g2 [.int .i64 a0, .int .i64 s0, .int .i64 t0, .slice A2 xs.length c2, .int .i64 (k0 + 1), .int .i64 n0] 46, Asn.qu k33 33 (.slice A1 xs.length c1) xs ok1, Asn.qu k33 33 (.slice A2 xs.length c2) xs ok2, Asn.fk kOp (fun k => k < w.heap.size) (b, t) [.bool b, .int .i64 t.f0, .string t.f1, .string t.f2, .int .u64 t.f3, .int .u64 t.f4, .string t.f5, .string t.f6, .slice A7 t.f7.length c7, .slice A8 t.f8.length c8], Asn.cl (adbt.add (j * 10)) [.bool b, .int .i64 t.f0, .string t.f1, .string t.f2, .int .u64 t.f3, .int .u64 t.f4, .string t.f5, .string t.f6, .slice A7 t.f7.length c7, .slice A8 t.f8.length c8] (fun k => k < w.heap.size), Asn.fk k33 (fun k => k < w.heap.size) t [.int .i64 t.f0, .string t.f1, .string t.f2, .int .u64 t.f3, .int .u64 t.f4, .string t.f5, .string t.f6, .slice A7 t.f7.length c7, .slice A8 t.f8.length c8], Asn.blk g18 [.int .i64 0, .int .i64 0, .slice none 0 0] 40, Asn.blk g19 [.int .i64 0, .int .i64 0, .slice none 0 0] 40]) (show Eq (α := OSk) _ (some (none, (.store 40 (.tmp 16) (.tmp 94)), 0, none)) by kernel_rfl) trivial F (x_store H (k := 9) (cs' := [.int .i64 0, .int .i64 0, .slice none 0 0]) rfl (Tryd.sizeOf40 W) (F.slot rfl) (F.slot rfl) rfl (Nat.le_of_ble_eq_true rfl) rfl rfl) ?_
          intro W H
          refine ⟨(fun _ => trivial), ?_⟩
          refine sq2 (W' := W) (show Eq (α := OSk) _ (some (some 17, (.assign (.tmp 95)), 4, none)) by kernel_rfl) trivial F (by decide) (v := .bool false) (x_assign (F.slot rfl)) (fun _ => trivial) (fun a F => ?_)
          unfold wpSeq
          refine t_normal ?_
          refine c_seq (by kernel_rfl) ?_
          refine c_text (id := 13) (by kernel_rfl) [(0, 2), (1, 2), (2, 2), (3, 2), (4, 2), (5, 2), (6, 2), (7, 2), (8, 2)] (by kernel_rfl) ?_
          refine sq2 (show Eq (α := OSk) _ (some (some 96, (.load 40 (.tmp 14)), 40, none)) by kernel_rfl) trivial F (by decide) (v := .agg #[.int .i64 0, .int .i64 0, .slice none 0 0]) (x_loadB (Tryd.isAgg40 W) [.int .i64 0, .int .i64 0, .slice none 0 0] (Tryd.sizeOf40 W) (F.slot rfl) (H.blk 8 rfl)) (fun _ => trivial) (fun a F => ?_)
          refine sq2 (show Eq (α := OSk) _ (some (some 97, (.load 40 (.tmp 16)), 40, none)) by kernel_rfl) trivial F (by decide) (v := .agg #[.int .i64 0, .int .i64 0, .slice none 0 0]) (x_loadB (Tryd.isAgg40 W) [.int .i64 0, .int .i64 0, .slice none 0 0] (Tryd.sizeOf40 W) (F.slot rfl) (H.blk 9 rfl)) (fun _ => trivial) (fun a F => ?_)
          refine sqc (show Eq (α := OSk) _ (some (some 98, (.call { callee := (.value (.func 23)), args := #[(.tmp 96), (.tmp 97)], argTypes := #[40, 40] }), 4, none)) by kernel_rfl) trivial F (by decide) (x_call Tryd.func23 (by kernel_rfl) rfl (args_2 (F.slot rfl) (F.slot rfl))) (bsame_calls 0 0 none none 0 0 [] W (by decide) (fun _ h => by cases h) (Kd.C_nil _ _) (Nat.le_refl _) (Kd.C_nil _ _) (Nat.le_refl _)) ?_
          rintro e W ⟨rfl, hB_⟩
          refine ⟨_, rfl, fun a F => ?_⟩
          have H := H.below hB_
          refine ⟨(fun _ => trivial), ?_⟩
          refine sq2 (W' := W) (show Eq (α := OSk) _ (some (some 99, (.unOp .not 4 (.tmp 98)), 4, none)) by kernel_rfl) trivial F (by decide) (v := .bool false) (x_not (b := true) (F.slot rfl)) (fun _ => trivial) (fun a F => ?_)
          refine sq2 (W' := W) (show Eq (α := OSk) _ (some (some 100, (.move (.tmp 99)), 4, none)) by kernel_rfl) trivial F (by decide) (v := .bool false) (x_move (F.slot rfl)) (fun _ => trivial) (fun a F => ?_)
          refine sq2 (W' := W) (show Eq (α := OSk) _ (some (some 101, (.move (.tmp 15)), 4, some (4, false))) by kernel_rfl) ⟨100, by kernel_rfl, rfl⟩ F (by decide) (v := .bool false) (x_move (F.slot rfl)) (fun _ => trivial) (fun a F => ?_)
          refine sq2 (W' := W) (show Eq (α := OSk) _ (some (some 102, (.move (.tmp 17)), 4, some (4, false))) by kernel_rfl) ⟨100, by kernel_rfl, rfl⟩ F (by decide) (v := .bool false) (x_move (F.slot rfl)) (fun _ => trivial) (fun a F => ?_)
          refine sq2 (W' := W) (show Eq (α := OSk) _ (some (some 103, (.binOp .neq 4 (.tmp 101) (.tmp 102) 4), 4, some (4, false))) by kernel_rfl) ⟨100, by kernel_rfl, rfl⟩ F (by decide) (v := .bool false) (x_bin (F.slot rfl) (F.slot rfl) rfl) (fun _ => trivial) (fun a F => ?_)
          refine sq2 (W' := W) (show Eq (α := OSk) _ (some (some 104, (.pick (.tmp 100) (.const (.bool true)) (.tmp 103)), 4, none)) by kernel_rfl) trivial F (by decide) (v := .bool false) (x_pickF (F.slot rfl) (F.slot rfl)) (fun _ => trivial) (fun a F => ?_)
          unfold wpSeq
          refine t_normal ?_
          refine c_no (c := .tmp 104) (by kernel_rfl) (F.slot rfl) ?_
          refine c_skip (by kernel_rfl) ?_
          refine t_normal ?_
          refine c_seq (by kernel_rfl) ?_
          refine c_drawn (id := 15) (by kernel_rfl) (by kernel_rfl) (Vs [Asn.blk g2 [.int .i64 a0, .int .i64 s0, .int .i64 t0, .slice A2 xs.length c2, .int .i64 (k0 + 1), .int .i64 n0] 46]) [0, 1, 0, 4, 12, 28, 60, 127] [] [(0, 0), (2, 0), (3, 0), (4, 0), (5, 1), (6, 0), (1, 2), (7, 0)] (by kernel_rfl) (fun _ _ d _ _ h => by cases d <;> exact h) (Vs.drew ⟨H.get 2 rfl, trivial⟩) ?_
          have H := H.drew
          generalize World.drew W = W at H ⊢
          refine sq0 (show Eq (α := OSk) _ (some (some 105, (.move (.tmp 9)), 23, none)) by kernel_rfl) trivial F (by decide) (v := .pointer (some ⟨g1, 0, none⟩)) (fun W_ => x_move (F.slot rfl)) (fun a F => ?_)
          refine sq0 (show Eq (α := OSk) _ (some (some 107, (.move (.tmp 11)), 27, none)) by kernel_rfl) trivial F (by decide) (v := .pointer (some ⟨g2, 0, none⟩)) (fun W_ => x_move (F.slot rfl)) (fun a F => ?_)
          refine sq0 (show Eq (α := OSk) _ (some (some 108, (.nilCheck (.tmp 107)), 0, none)) by kernel_rfl) trivial F (by decide) (v := .pointer (some ⟨g2, 0, none⟩)) (fun W_ => x_nil (F.slot rfl)) (fun a F => ?_)
          refine sq0 (show Eq (α := OSk) _ (some (some 109, (.fieldAddr 46 (.tmp 108) 3), 0, none)) by kernel_rfl) trivial F (by decide) (v := .pointer (some ⟨g2, 3, none⟩)) (fun W_ => x_field0 Tryd.underlying46 rfl rfl (Tryd.sizeOf38 W_) (F.slot rfl)) (fun a F => ?_)
          refine sq1 (show Eq (α := OSk) _ (some (some 110, (.load 38 (.tmp 109)), 38, none)) by kernel_rfl) trivial F (by decide) (⟨H.get 2 rfl, trivial⟩) (v := .slice A2 xs.length c2) (fun W_ hV => x_load1 (Tryd.isAgg38 W_) (F.slot rfl) (bcell hV.1 rfl)) (fun a F => ?_)
          refine sq0 (show Eq (α := OSk) _ (some (some 111, (.call { callee := (.builtin .len), args := #[(.tmp 110)], argTypes := #[38] }), 3, none)) by kernel_rfl) trivial F (by decide) (v := .int .i64 (xs.length : Int)) (fun W_ => x_lenL Tryd.underlying38 (F.slot rfl)) (fun a F => ?_)
          have HS := H.select [1] [Asn.blk g1 [.int .i64 a0, .int .i64 s0, .int .i64 t0, .slice A1 xs.length c1, .int .i64 (k0 + 1), .int .i64 n0] 72] rfl (by decide)
          refine sqc (show Eq (α := OSk) _ (some (some 106, (.call { callee := (.value (.func 24)), args := #[(.tmp 105)], argTypes := #[23] }), 3, none)) by kernel_rfl) trivial F (by decide) (x_call Tryd.func24 (by kernel_rfl) rfl (args_1 (F.slot rfl))) (waits_calls g1 a0 s0 t0 (k0 + 1) n0 A1 xs.length c1  W HS) ?_
          rintro e W ⟨rfl, H1⟩
          refine ⟨_, rfl, fun a F => ?_⟩
          have H := H.back [1] [Asn.blk g1 [.int .i64 a0, .int .i64 s0, .int .i64 t0, .slice A1 xs.length c1, .int .i64 (k0 + 1), .int .i64 n0] 72] rfl (by decide) [Asn.blk g1 [.int .i64 a0, .int .i64 s0, .int .i64 t0, .slice A1 xs.length c1, .int .i64 (k0 + 1), .int .i64 n0] 72] [] rfl H1
          clear HS H1
          refine ⟨(fun _ => ⟨H.get 2 rfl, trivial⟩), ?_⟩
          refine sq0 (show Eq (α := OSk) _ (some (some 112, (.binOp .neq 3 (.tmp 106) (.tmp 111) 3), 4, none)) by kernel_rfl) trivial F (by decide) (v := .bool ((xs.length : Int) != (xs.length : Int))) (fun W_ => x_int (F.slot rfl) (F.slot rfl) rfl) (fun a F => ?_)
          unfold wpSeq
          refine t_normal ?_
          have hb21 : ((xs.length : Int) != (xs.length : Int)) = false := by simp
          have F := F.at 112 rfl (v' := .bool false) (congrArg Value.bool hb21)
          refine c_no (c := .tmp 112) (by kernel_rfl) (F.slot rfl) ?_
          refine c_skip (by kernel_rfl) ?_
          refine b_normal ?_
          refine t_normal ?_
          refine c_text (id := 7) (by kernel_rfl) [(0, 2), (1, 2), (2, 2)] (by kernel_rfl) ?_
          refine sq2 (W' := W) (show Eq (α := OSk) _ (some (some 62, (.move (.tmp 13)), 3, none)) by kernel_rfl) trivial F (by decide) (v := .int .i64 (j : Int)) (x_move (F.slot rfl)) (fun _ => trivial) (fun a F => ?_)
          refine sq2 (W' := W) (show Eq (α := OSk) _ (some (some 63, (.binOp .add 3 (.tmp 62) (.const (.int .i64 1)) 3), 3, none)) by kernel_rfl) trivial F (by decide) (v := .int .i64 (IntKind.i64.wrap ((j : Int) + 1))) (x_int (F.slot rfl) rfl rfl) (fun _ => trivial) (fun a F => ?_)
          have F := F.conv (v' := .int .i64 ((j : Int) + 1)) (congrArg (Value.int .i64) (wrap_i64 _ (by omega) (by omega)))
          refine sq2 (W' := W) (show Eq (α := OSk) _ (some (some 13, (.assign (.tmp 63)), 3, none)) by kernel_rfl) trivial F (by decide) (v := .int .i64 ((j : Int) + 1)) (x_assign (F.slot rfl)) (fun _ => trivial) (fun a F => ?_)
          unfold wpSeq
          refine t_normal ?_
          have F_ := F
          have H := H.front 5
          have F := F.at 13 rfl (v' := .int .i64 ((j + 1 : Nat) : Int)) (congrArg (Value.int .i64) (by omega))
          exact ⟨k - 1, by omega, j + 1, (k0 + 1), n0, A1, c1, xs, _, A2, c2, _, F.less _ (subc rfl (subc rfl (subc rfl (subc rfl (subc rfl (subc rfl (subc rfl (subc rfl (subc rfl (subc rfl (subc rfl (subc rfl (subc rfl (subc rfl (subc rfl (subc rfl (subc rfl (subc rfl (subc rfl (subc rfl (subc rfl (subc rfl (subc rfl (subc rfl (subc rfl (subc rfl (subc rfl (subc rfl (subc rfl (subc rfl (subc rfl (subc rfl (subc rfl (subc rfl sub0)))))))))))))))))))))))))))))))))), H, (by omega), (by omega), hX, (by omega), (by omega), (by omega), (by omega), (by omega)⟩
        · obtain ⟨m, hm⟩ : ∃ m : Nat, (m : Int) = min s0 (xs.length : Int) := ⟨(min s0 (xs.length : Int)).toNat, by omega⟩
          refine c_text (id := 11) (by kernel_rfl) [(0, 2), (1, 2), (2, 2), (3, 2), (4, 2), (5, 2), (6, 2), (7, 2)] (by kernel_rfl) ?_
          refine sq2 (W' := W) (show Eq (α := OSk) _ (some (some 87, (.move (.tmp 9)), 23, none)) by kernel_rfl) trivial F (by decide) (v := .pointer (some ⟨g1, 0, none⟩)) (x_move (F.slot rfl)) (fun _ => trivial) (fun a F => ?_)
          have HS := H.select [1, 3] [Asn.blk g1 [.int .i64 a0, .int .i64 s0, .int .i64 t0, .slice A1 xs.length c1, .int .i64 k0, .int .i64 n0] 72, Asn.qu k33 33 (.slice A1 xs.length c1) xs ok1] rfl (by decide)
          refine sqc (show Eq (α := OSk) _ (some (some 88, (.call { callee := (.value (.func 21)), args := #[(.tmp 87)], argTypes := #[23] }), 41, none)) by kernel_rfl) trivial F (by decide) (x_call Tryd.func21 (by kernel_rfl) rfl (args_1 (F.slot rfl))) ((tick_calls g1 a0 s0 t0 k0 n0 A1 c1 xs ok1 W hs0 hs1 (by omega) (by omega) (by omega) (by omega) (by omega) HS).mono (fun _ _ h => h.seal hx0 hw m hm)) ?_
          rintro e W ⟨rfl, H1⟩
          refine ⟨_, rfl, fun a F => ?_⟩
          have H := H.back [1, 3] [Asn.blk g1 [.int .i64 a0, .int .i64 s0, .int .i64 t0, .slice A1 xs.length c1, .int .i64 k0, .int .i64 n0] 72, Asn.qu k33 33 (.slice A1 xs.length c1) xs ok1] rfl (by decide) [Asn.blk g1 [.int .i64 a0, .int .i64 s0, .int .i64 t0, .slice (cutA A1 c1 m) ((xs.drop m).length) (c1 - m), .int .i64 0, .int .i64 (n0 + 1)] 72, Asn.qf k33 33 (.slice (cutA A1 c1 m) (xs.drop m).length (c1 - m)) (xs.drop m) ok1 A1 (xs.take m).length (xs.take m)] [] rfl H1
          clear HS H1
          have H : St w (fun _ => False) (fun _ => True) [Asn.rd kOp (fun k => k < w.heap.size) A l.length l, Asn.blk g1 [.int .i64 a0, .int .i64 s0, .int .i64 t0, .slice (cutA A1 c1 m) ((xs.drop m).length) (c1 - m), .int .i64 0, .int .i64 (n0 + 1)] 72, Asn.blk g2 [.int .i64 a0, .int .i64 s0, .int .i64 t0, .slice A2 xs.length c2, .int .i64 k0, .int .i64 n0] 46, Asn.qf k33 33 (.slice (cutA A1 c1 m) (xs.drop m).length (c1 - m)) (xs.drop m) ok1 A1 (xs.take m).length (xs.take m), Asn.qu k33 33 (.slice A2 xs.length c2) xs ok2, Asn.fk kOp (fun k => k < w.heap.size) (b, t) [.bool b, .int .i64 t.f0, .string t.f1, .string t.f2, .int .u64 t.f3, .int .u64 t.f4, .string t.f5, .string t.f6, .slice A7 t.f7.length c7, .slice A8 t.f8.length c8], Asn.cl (adbt.add (j * 10)) [.bool b, .int .i64 t.f0, .string t.f1, .string t.f2, .int .u64 t.f3, .int .u64 t.f4, .string t.f5, .string t.f6, .slice A7 t.f7.length c7, .slice A8 t.f8.length c8] (fun k => k < w.heap.size), Asn.fk k33 (fun k => k < w.heap.size) t [.int .i64 t.f0, .string t.f1, .string t.f2, .int .u64 t.f3, .int .u64 t.f4, .string t.f5, .string t.f6, .slice A7 t.f7.length c7, .slice A8 t.f8.length c8]] W := H
          refine ⟨(fun _ => trivial), ?_⟩
          refine sq2 (W' := W) (show Eq (α := OSk) _ (some (some 86, (.move (.tmp 88)), 41, none)) by kernel_rfl) trivial F (by decide) (v := .tuple #[.agg #[.int .i64 a0, .int .i64 (n0 + 1), .slice A1 ((xs.take m).length) m], .bool true]) (x_move (F.slot rfl)) (fun _ => trivial) (fun a F => ?_)
          refine sq2 (W' := W) (show Eq (α := OSk) _ (some (some 89, (.extract (.tmp 86) 0), 40, none)) by kernel_rfl) trivial F (by decide) (v := .agg #[.int .i64 a0, .int .i64 (n0 + 1), .slice A1 ((xs.take m).length) m]) (x_extract (F.slot rfl) rfl) (fun _ => trivial) (fun a F => ?_)
          refine sq2 (W' := W) (show Eq (α := OSk) _ (some (some 90, (.extract (.tmp 86) 1), 4, none)) by kernel_rfl) trivial F (by decide) (v := .bool true) (x_extract (F.slot rfl) rfl) (fun _ => trivial) (fun a F => ?_)
          refine sq_new (show Eq (α := OSk) _ (some (some 14, (.alloc 40), 0, none)) by kernel_rfl) trivial F (by decide) H [.int .i64 0, .int .i64 0, .slice none 0 0] 40 (x_alloc Tryd.zeroValue40 rfl) ?_
          intro g22 W a hg22 H F
          refine ⟨(fun _ => trivial), ?_⟩
          refine sq_put (M := [Asn.rd kOp (fun k => k < w.heap.size) A l.length l, Asn.blk g1 [.int .i64 a0, .int .i64 s0, .int .i64 t0, .slice (cutA A1 c1 m) ((xs.drop m).length) (c1 - m), .int .i64 0, .int .i64 (n0 + 1)] 72, Asn.blk g2 [.int .i64 a0, .int .i64 s0, .int .i64 t0, .slice A2 xs.length c2, .int .i64 k0, .int .i64 n0] 46, Asn.qf k33 33 (.slice (cutA A1 c1 m) (xs.drop m).length (c1 - m)) (xs.drop m) ok1 A1 (xs.take m).length (xs.take m), Asn.qu k33 33 (.slice A2 xs.length c2) xs ok2, Asn.fk kOp (fun k => k < w.heap.size) (b, t) [.bool b, .int .i64 t.f0, .string t.f1, .string t.f2, .int .u64 t.f3, .int .u64 t.f4, .string t.f5, .string t.f6, .slice A7 t.f7.length c7, .slice A8 t.f8.length c8], Asn.cl (adbt.add (j * 10)) [.bool b, .int .i64 t.f0, .string t.f1, .string t.f2, .int .u64 t.f3, .int .u64 t.f4, .string t.f5, .string t.f6, .slice A7 t.f7.length c7, .slice A8 t.f8.length c8] (fun k => k < w.heap.size), Asn.fk k33 (fun k => k < w.heap.size) t [.int .i64 t.f0, .string t.f1, .string t.f2, .int .u64 t.f3, .int .u64 t.f4, .string t.f5, .string t.f6, .slice A7 t.f7.length c7, .slice A8 t.f8.length c8], Asn.blk g22 [.int .i64 a0, .int .i64 (n0 + 1), .slice A1 ((xs.take m).length) m] 40]) (show Eq (α := OSk) _ (some (none, (.store 40 (.tmp 14) (.tmp 89)), 0, none)) by kernel_rfl) trivial F (x_store H (k := 8) (cs' := [.int .i64 a0, .int .i64 (n0 + 1), .slice A1 ((xs.take m).length) m]) rfl (Tryd.sizeOf40 W) (F.slot rfl) (F.slot rfl) rfl (Nat.le_of_ble_eq_true rfl) rfl rfl) ?_
          intro W H
          refine ⟨(fun _ => trivial), ?_⟩
          refine sq2 (W' := W) (show Eq (α := OSk) _ (some (some 15, (.assign (.tmp 90)), 4, none)) by kernel_rfl) trivial F (by decide) (v := .bool true) (x_assign (F.slot rfl)) (fun _ => trivial) (fun a F => ?_)
          unfold wpSeq
          refine t_normal ?_
          refine c_seq (by kernel_rfl) ?_
          refine c_text (id := 12) (by kernel_rfl) [(0, 2), (1, 2), (2, 2), (3, 2), (4, 2), (5, 2), (6, 2), (7, 2)] (by kernel_rfl) ?_
          refine sq2 (W' := W) (show Eq (α := OSk) _ (some (some 92, (.move (.tmp 11)), 27, none)) by kernel_rfl) trivial F (by decide) (v := .pointer (some ⟨g2, 0, none⟩)) (x_move (F.slot rfl)) (fun _ => trivial) (fun a F => ?_)
          have HS := H.select [2, 4] [Asn.blk g2 [.int .i64 a0, .int .i64 s0, .int .i64 t0, .slice A2 xs.length c2, .int .i64 k0, .int .i64 n0] 46, Asn.qu k33 33 (.slice A2 xs.length c2) xs ok2] rfl (by decide)
          refine sqc (show Eq (α := OSk) _ (some (some 93, (.call { callee := (.value (.func 22)), args := #[(.tmp 92)], argTypes := #[27] }), 41, none)) by kernel_rfl) trivial F (by decide) (x_call Tryd.func22 (by kernel_rfl) rfl (args_1 (F.slot rfl))) ((rtick_calls g2 a0 s0 t0 k0 n0 A2 c2 xs ok2 W hs0 hs1 (by omega) (by omega) (by omega) (by omega) (by omega) HS).mono (fun _ _ h => h.seal hx0 hw m hm)) ?_
          rintro e W ⟨Aq, cq, okq, hcq, rfl, H1⟩
          refine ⟨_, rfl, fun a F => ?_⟩
          have H := H.back [2, 4] [Asn.blk g2 [.int .i64 a0, .int .i64 s0, .int .i64 t0, .slice A2 xs.length c2, .int .i64 k0, .int .i64 n0] 46, Asn.qu k33 33 (.slice A2 xs.length c2) xs ok2] rfl (by decide) [Asn.blk g2 [.int .i64 a0, .int .i64 s0, .int .i64 t0, .slice (cutA A2 c2 m) ((xs.drop m).length) (c2 - m), .int .i64 0, .int .i64 (n0 + 1)] 46, Asn.qu k33 33 (.slice (cutA A2 c2 m) ((xs.drop m).length) (c2 - m)) (xs.drop m) ok2] [Asn.rd k33 okq Aq ((xs.take m).length) (xs.take m)] rfl H1
          clear HS H1
          have H : St w (fun _ => False) (fun _ => True) [Asn.rd kOp (fun k => k < w.heap.size) A l.length l, Asn.blk g1 [.int .i64 a0, .int .i64 s0, .int .i64 t0, .slice (cutA A1 c1 m) ((xs.drop m).length) (c1 - m), .int .i64 0, .int .i64 (n0 + 1)] 72, Asn.blk g2 [.int .i64 a0, .int .i64 s0, .int .i64 t0, .slice (cutA A2 c2 m) ((xs.drop m).length) (c2 - m), .int .i64 0, .int .i64 (n0 + 1)] 46, Asn.qf k33 33 (.slice (cutA A1 c1 m) (xs.drop m).length (c1 - m)) (xs.drop m) ok1 A1 (xs.take m).length (xs.take m), Asn.qu k33 33 (.slice (cutA A2 c2 m) ((xs.drop m).length) (c2 - m)) (xs.drop m) ok2, Asn.fk kOp (fun k => k < w.heap.size) (b, t) [.bool b, .int .i64 t.f0, .string t.f1, .string t.f2, .int .u64 t.f3, .int .u64 t.f4, .string t.f5, .string t.f6, .slice A7 t.f7.length c7, .slice A8 t.f8.length c8], Asn.cl (adbt.add (j * 10)) [.bool b, .int .i64 t.f0, .string t.f1, .string t.f2, .int .u64 t.f3, .int .u64 t.f4, .string t.f5, .string t.f6, .slice A7 t.f7.length c7, .slice A8 t.f8.length c8] (fun k => k < w.heap.size), Asn.fk k33 (fun k => k < w.heap.size) t [.int .i64 t.f0, .string t.f1, .string t.f2, .int .u64 t.f3, .int .u64 t.f4, .string t.f5, .string t.f6, .slice A7 t.f7.length c7, .slice A8 t.f8.length c8], Asn.blk g22 [.int .i64 a0, .int .i64 (n0 + 1), .slice A1 ((xs.take m).length) m] 40, Asn.rd k33 okq Aq ((xs.take m).length) (xs.take m)] W := H
          refine ⟨(fun _ => trivial), ?_⟩
          refine sq2 (W' := W) (show Eq (α := OSk) _ (some (some 91, (.move (.tmp 93)), 41, none)) by kernel_rfl) trivial F (by decide) (v := .tuple #[.agg #[.int .i64 a0, .int .i64 (n0 + 1), .slice Aq ((xs.take m).length) cq], .bool true]) (x_move (F.slot rfl)) (fun _ => trivial) (fun a F => ?_)
          refine sq2 (W' := W) (show Eq (α := OSk) _ (some (some 94, (.extract (.tmp 91) 0), 40, none)) by kernel_rfl) trivial F (by decide) (v := .agg #[.int .i64 a0, .int .i64 (n0 + 1), .slice Aq ((xs.take m).length) cq]) (x_extract (F.slot rfl) rfl) (fun _ => trivial) (fun a F => ?_)
          refine sq2 (W' := W) (show Eq (α := OSk) _ (some (some 95, (.extract (.tmp 91) 1), 4, none)) by kernel_rfl) trivial F (by decide) (v := .bool true) (x_extract (F.slot rfl) rfl) (fun _ => trivial) (fun a F => ?_)
          refine sq_new (show Eq (α := OSk) _ (some (some 16, (.alloc 40), 0, none)) by kernel_rfl) trivial F (by decide) H [.int .i64 0, .int .i64 0, .slice none 0 0] 40 (x_alloc Tryd.zeroValue40 rfl) ?_
          intro g23 W a hg23 H F
          refine ⟨(fun _ => trivial), ?_⟩
          refine sq_put (M := [Asn.rd kOp (fun k => k < w.heap.size) A l.length l, Asn.blk g1 [.int .i64 a0, .int .i64 s0, .int .i64 t0, .slice (cutA A1 c1 m) ((xs.drop m).length) (c1 - m), .int .i64 0, .int .i64 (n0 + 1)] 72, Asn.blk g2 [.int .i64 a0, .int .i64 s0, .int .i64 t0, .slice (cutA A2 c2 m) ((xs.drop m).length) (c2 - m), .int .i64 0, .int .i64 (n0 + 1)] 46, Asn.qf k33 33 (.slice (cutA A1 c1 m) (xs.drop m).length (c1 - m)) (xs.drop m) ok1 A1 (xs.take m).length (xs.take m), Asn.qu k33 33 (.slice (cutA A2 c2 m) ((xs.drop m).length) (c2 - m)) (xs.drop m) ok2, Asn.fk kOp (fun k => k < w.heap.size) (b, t) [.bool b, .int .i64 t.f0, .string t.f1, .string t.f2, .int .u64 t.f3, .int .u64 t.f4, .string t.f5, .string t.f6, .slice A7 t.f7.length c7, .slice A8 t.f8.length c8], Asn.cl (adbt.add (j * 10)) [.bool b, .int .i64 t.f0, .string t.f1, .string t.f2, .int .u64 t.f3, .int .u64 t.f4, .string t.f5, .string t.f6, .slice A7 t.f7.length c7, .slice A8 t.f8.length c8] (fun k => k < w.heap.size), Asn.fk k33 (fun k => k < w.heap.size) t [.int .i64 t.f0, .string t.f1, .string t.f2, .int .u64 t.f3, .int .u64 t.f4, .string t.f5, .string t.f6, .slice A7 t.f7.length c7, .slice A8 t.f8.length c8], Asn.blk g22 [.int .i64 a0, .int .i64 (n0 + 1), .slice A1 ((xs.take m).length) m] 40, Asn.rd k33 okq Aq ((xs.take m).length) (xs.take m), Asn.blk g23 [.int .i64 a0, .int .i64 (n0 + 1), .slice Aq ((xs.take m).length) cq] 40]) (show Eq (α := OSk) _ (some (none, (.store 40 (.tmp 16) (.tmp 94)), 0, none)) by kernel_rfl) trivial F (x_store H (k := 10) (cs' := [.int .i64 a0, .int .i64 (n0 + 1), .slice Aq ((xs.take m).length) cq]) rfl (Tryd.sizeOf40 W) (F.slot rfl) (F.slot rfl) rfl (Nat.le_of_ble_eq_true rfl) rfl rfl) ?_
          intro W H
          refine ⟨(fun _ => trivial), ?_⟩
          refine sq2 (W' := W) (show Eq (α := OSk) _ (some (some 17, (.assign (.tmp 95)), 4, none)) by kernel_rfl) trivial F (by decide) (v := .bool true) (x_assign (F.slot rfl)) (fun _ => trivial) (fun a F => ?_)
          unfold wpSeq
          refine t_normal ?_
          refine c_seq (by kernel_rfl) ?_
          refine c_text (id := 13) (by kernel_rfl) [(0, 2), (1, 2), (2, 2), (3, 2), (4, 2), (5, 2), (6, 2), (7, 2), (8, 2)] (by kernel_rfl) ?_
          refine sq2 (show Eq (α := OSk) _ (some (some 96, (.load 40 (.tmp 14)), 40, none)) by kernel_rfl) trivial F (by decide) (v := .agg #[.int .i64 a0, .int .i64 (n0 + 1), .slice A1 ((xs.take m).length) m]) (x_loadB (Tryd.isAgg40 W) [.int .i64 a0, .int .i64 (n0 + 1), .slice A1 ((xs.take m).length) m] (Tryd.sizeOf40 W) (F.slot rfl) (H.blk 8 rfl)) (fun _ => trivial) (fun a F => ?_)
          refine sq2 (show Eq (α := OSk) _ (some (some 97, (.load 40 (.tmp 16)), 40, none)) by kernel_rfl) trivial F (by decide) (v := .agg #[.int .i64 a0, .int .i64 (n0 + 1), .slice Aq ((xs.take m).length) cq]) (x_loadB (Tryd.isAgg40 W) [.int .i64 a0, .int .i64 (n0 + 1), .slice Aq ((xs.take m).length) cq] (Tryd.sizeOf40 W) (F.slot rfl) (H.blk 10 rfl)) (fun _ => trivial) (fun a F => ?_)
          refine sqc (show Eq (α := OSk) _ (some (some 98, (.call { callee := (.value (.func 23)), args := #[(.tmp 96), (.tmp 97)], argTypes := #[40, 40] }), 4, none)) by kernel_rfl) trivial F (by decide) (x_call Tryd.func23 (by kernel_rfl) rfl (args_2 (F.slot rfl) (F.slot rfl))) (bsame_calls a0 (n0 + 1) A1 Aq m cq (xs.take m) W (by rw [List.length_take]; omega) (fun t ht => chT_len (hX t (List.mem_of_mem_take ht))) (H.qfRead 3 rfl) (by rw [List.length_take]; omega) (H.rd 9 rfl) hcq) ?_
          rintro e W ⟨rfl, hB_⟩
          refine ⟨_, rfl, fun a F => ?_⟩
          have H := H.below hB_
          refine ⟨(fun _ => trivial), ?_⟩
          refine sq2 (W' := W) (show Eq (α := OSk) _ (some (some 99, (.unOp .not 4 (.tmp 98)), 4, none)) by kernel_rfl) trivial F (by decide) (v := .bool false) (x_not (b := true) (F.slot rfl)) (fun _ => trivial) (fun a F => ?_)
          refine sq2 (W' := W) (show Eq (α := OSk) _ (some (some 100, (.move (.tmp 99)), 4, none)) by kernel_rfl) trivial F (by decide) (v := .bool false) (x_move (F.slot rfl)) (fun _ => trivial) (fun a F => ?_)
          refine sq2 (W' := W) (show Eq (α := OSk) _ (some (some 101, (.move (.tmp 15)), 4, some (4, false))) by kernel_rfl) ⟨100, by kernel_rfl, rfl⟩ F (by decide) (v := .bool true) (x_move (F.slot rfl)) (fun _ => trivial) (fun a F => ?_)
          refine sq2 (W' := W) (show Eq (α := OSk) _ (some (some 102, (.move (.tmp 17)), 4, some (4, false))) by kernel_rfl) ⟨100, by kernel_rfl, rfl⟩ F (by decide) (v := .bool true) (x_move (F.slot rfl)) (fun _ => trivial) (fun a F => ?_)
          refine sq2 (W' := W) (show Eq (α := OSk) _ (some (some 103, (.binOp .neq 4 (.tmp 101) (.tmp 102) 4), 4, some (4, false))) by kernel_rfl) ⟨100, by kernel_rfl, rfl⟩ F (by decide) (v := .bool false) (x_bin (F.slot rfl) (F.slot rfl) rfl) (fun _ => trivial) (fun a F => ?_)
          refine sq2 (W' := W) (show Eq (α := OSk) _ (some (some 104, (.pick (.tmp 100) (.const (.bool true)) (.tmp 103)), 4, none)) by kernel_rfl) trivial F (by decide) (v := .bool false) (x_pickF (F.slot rfl) (F.slot rfl)) (fun _ => trivial) (fun a F => ?_)
          unfold wpSeq
          refine t_normal ?_
          refine c_no (c := .tmp 104) (by kernel_rfl) (F.slot rfl) ?_
          refine c_skip (by kernel_rfl) ?_
          refine t_normal ?_
          refine c_seq (by kernel_rfl) ?_
          refine c_drawn (id := 15) (by kernel_rfl) (by kernel_rfl) (Vs [Asn.blk g2 [.int .i64 a0, .int .i64 s0, .int .i64 t0, .slice (cutA A2 c2 m) ((xs.drop m).length) (c2 - m), .int .i64 0, .int .i64 (n0 + 1)] 46]) [0, 1, 0, 4, 12, 28, 60, 127] [] [(0, 0), (2, 0), (3, 0), (4, 0), (5, 1), (6, 0), (1, 2), (7, 0)] (by kernel_rfl) (fun _ _ d _ _ h => by cases d <;> exact h) (Vs.drew ⟨H.get 2 rfl, trivial⟩) ?_
          have H := H.drew
          generalize World.drew W = W at H ⊢
          refine sq0 (show Eq (α := OSk) _ (some (some 105, (.move (.tmp 9)), 23, none)) by kernel_rfl) trivial F (by decide) (v := .pointer (some ⟨g1, 0, none⟩)) (fun W_ => x_move (F.slot rfl)) (fun a F => ?_)
          refine sq0 (show Eq (α := OSk) _ (some (some 107, (.move (.tmp 11)), 27, none)) by kernel_rfl) trivial F (by decide) (v := .pointer (some ⟨g2, 0, none⟩)) (fun W_ => x_move (F.slot rfl)) (fun a F => ?_)
          refine sq0 (show Eq (α := OSk) _ (some (some 108, (.nilCheck (.tmp 107)), 0, none)) by kernel_rfl) trivial F (by decide) (v := .pointer (some ⟨g2, 0, none⟩)) (fun W_ => x_nil (F.slot rfl)) (fun a F => ?_)
          refine sq0 (show Eq (α := OSk) _ (some (some 109, (.fieldAddr 46 (.tmp 108) 3), 0, none)) by kernel_rfl) trivial F (by decide) (v := .pointer (some ⟨g2, 3, none⟩)) (fun W_ => x_field0 Tryd.underlying46 rfl rfl (Tryd.sizeOf38 W_) (F.slot rfl)) (fun a F => ?_)
          refine sq1 (show Eq (α := OSk) _ (some (some 110, (.load 38 (.tmp 109)), 38, none)) by kernel_rfl) trivial F (by decide) (⟨H.get 2 rfl, trivial⟩) (v := .slice (cutA A2 c2 m) ((xs.drop m).length) (c2 - m)) (fun W_ hV => x_load1 (Tryd.isAgg38 W_) (F.slot rfl) (bcell hV.1 rfl)) (fun a F => ?_)
          refine sq0 (show Eq (α := OSk) _ (some (some 111, (.call { callee := (.builtin .len), args := #[(.tmp 110)], argTypes := #[38] }), 3, none)) by kernel_rfl) trivial F (by decide) (v := .int .i64 ((xs.drop m).length : Int)) (fun W_ => x_lenL Tryd.underlying38 (F.slot rfl)) (fun a F => ?_)
          have HS := H.select [1] [Asn.blk g1 [.int .i64 a0, .int .i64 s0, .int .i64 t0, .slice (cutA A1 c1 m) ((xs.drop m).length) (c1 - m), .int .i64 0, .int .i64 (n0 + 1)] 72] rfl (by decide)
          refine sqc (show Eq (α := OSk) _ (some (some 106, (.call { callee := (.value (.func 24)), args := #[(.tmp 105)], argTypes := #[23] }), 3, none)) by kernel_rfl) trivial F (by decide) (x_call Tryd.func24 (by kernel_rfl) rfl (args_1 (F.slot rfl))) (waits_calls g1 a0 s0 t0 0 (n0 + 1) (cutA A1 c1 m) ((xs.drop m).length) (c1 - m)  W HS) ?_
          rintro e W ⟨rfl, H1⟩
          refine ⟨_, rfl, fun a F => ?_⟩
          have H := H.back [1] [Asn.blk g1 [.int .i64 a0, .int .i64 s0, .int .i64 t0, .slice (cutA A1 c1 m) ((xs.drop m).length) (c1 - m), .int .i64 0, .int .i64 (n0 + 1)] 72] rfl (by decide) [Asn.blk g1 [.int .i64 a0, .int .i64 s0, .int .i64 t0, .slice (cutA A1 c1 m) ((xs.drop m).length) (c1 - m), .int .i64 0, .int .i64 (n0 + 1)] 72] [] rfl H1
          clear HS H1
          refine ⟨(fun _ => ⟨H.get 2 rfl, trivial⟩), ?_⟩
          refine sq0 (show Eq (α := OSk) _ (some (some 112, (.binOp .neq 3 (.tmp 106) (.tmp 111) 3), 4, none)) by kernel_rfl) trivial F (by decide) (v := .bool (((xs.drop m).length : Int) != ((xs.drop m).length : Int))) (fun W_ => x_int (F.slot rfl) (F.slot rfl) rfl) (fun a F => ?_)
          unfold wpSeq
          refine t_normal ?_
          have hb25 : (((xs.drop m).length : Int) != ((xs.drop m).length : Int)) = false := by simp
          have F := F.at 112 rfl (v' := .bool false) (congrArg Value.bool hb25)
          refine c_no (c := .tmp 112) (by kernel_rfl) (F.slot rfl) ?_
          refine c_skip (by kernel_rfl) ?_
          refine b_normal ?_
          refine t_normal ?_
          refine c_text (id := 7) (by kernel_rfl) [(0, 2), (1, 2), (2, 2)] (by kernel_rfl) ?_
          refine sq2 (W' := W) (show Eq (α := OSk) _ (some (some 62, (.move (.tmp 13)), 3, none)) by kernel_rfl) trivial F (by decide) (v := .int .i64 (j : Int)) (x_move (F.slot rfl)) (fun _ => trivial) (fun a F => ?_)
          refine sq2 (W' := W) (show Eq (α := OSk) _ (some (some 63, (.binOp .add 3 (.tmp 62) (.const (.int .i64 1)) 3), 3, none)) by kernel_rfl) trivial F (by decide) (v := .int .i64 (IntKind.i64.wrap ((j : Int) + 1))) (x_int (F.slot rfl) rfl rfl) (fun _ => trivial) (fun a F => ?_)
          have F := F.conv (v' := .int .i64 ((j : Int) + 1)) (congrArg (Value.int .i64) (wrap_i64 _ (by omega) (by omega)))
          refine sq2 (W' := W) (show Eq (α := OSk) _ (some (some 13, (.assign (.tmp 63)), 3, none)) by kernel_rfl) trivial F (by decide) (v := .int .i64 ((j : Int) + 1)) (x_assign (F.slot rfl)) (fun _ => trivial) (fun a F => ?_)
          unfold wpSeq
          refine t_normal ?_
          have F_ := F
          have H := H.qfQu 3 rfl
          have H := H.front 5
          have F := F.at 13 rfl (v' := .int .i64 ((j + 1 : Nat) : Int)) (congrArg (Value.int .i64) (by omega))
          have hxl : (xs.drop m).length ≤ xs.length := by rw [List.length_drop]; omega
          exact ⟨k - 1, by omega, j + 1, 0, (n0 + 1), (cutA A1 c1 m), (c1 - m), (xs.drop m), _, (cutA A2 c2 m), (c2 - m), _, F.less _ (subc rfl (subc rfl (subc rfl (subc rfl (subc rfl (subc rfl (subc rfl (subc rfl (subc rfl (subc rfl (subc rfl (subc rfl (subc rfl (subc rfl (subc rfl (subc rfl (subc rfl (subc rfl (subc rfl (subc rfl (subc rfl (subc rfl (subc rfl (subc rfl (subc rfl (subc rfl (subc rfl (subc rfl (subc rfl (subc rfl (subc rfl (subc rfl (subc rfl (subc rfl sub0)))))))))))))))))))))))))))))))))), H, (by omega), (by omega), (fun x hx => hX x (List.mem_of_mem_drop hx)), (by omega), (by omega), (by omega), (by omega), (by omega)⟩
    · have hb2d := of_decide_eq_false hb2
      have F := F.at 61 rfl (v' := .bool false) (congrArg Value.bool hb2)
      refine c_no (c := .tmp 61) (by kernel_rfl) (F.slot rfl) ?_
      refine c_exit (id := 0) (by kernel_rfl) ?_
      refine t_exit ?_
      refine t_exit ?_
      refine b_here ?_
      refine t_normal ?_
      refine c_seq (by kernel_rfl) ?_
      refine c_text (id := 17) (by kernel_rfl) [(0, 2)] (by kernel_rfl) ?_
      refine sq2 (W' := W) (show Eq (α := OSk) _ (some (some 8, (.assign (.const (.bool true))), 4, none)) by kernel_rfl) trivial F (by decide) (v := .bool true) (x_assign rfl) (fun _ => trivial) (fun a F => ?_)
      unfold wpSeq
      refine t_normal ?_
      refine c_ret (by kernel_rfl) ?_
      refine p_tmp Tryd.results3 F rfl ?_
      exact ⟨rfl, H.ends⟩
  · have hb1d := of_decide_eq_false hb1
    have F := F.at 58 rfl (v' := .bool false) (congrArg Value.bool hb1)
    refine sqoff2 (e := 58) (show Eq (α := OSk) _ (some (some 59, (.move (.tmp 13)), 3, some (4, true))) by kernel_rfl) (by kernel_rfl) (.inl rfl) F (by decide) (trivial) (fun a F => ?_)
    refine sqoff2 (e := 58) (show Eq (α := OSk) _ (some (some 60, (.binOp .lss 3 (.tmp 59) (.const (.int .i64 150)) 3), 4, some (4, true))) by kernel_rfl) (by kernel_rfl) (.inl rfl) F (by decide) (trivial) (fun a F => ?_)
    refine sq2 (W' := W) (show Eq (α := OSk) _ (some (some 61, (.pick (.tmp 58) (.tmp 60) (.const (.bool false))), 4, none)) by kernel_rfl) trivial F (by decide) (v := .bool false) (x_pickF (F.slot rfl) rfl) (fun _ => trivial) (fun a F => ?_)
    unfold wpSeq
    have H : St w (fun _ => False) (fun _ => True) [Asn.rd kOp (fun k => k < w.heap.size) A l.length l, Asn.blk g1 [.int .i64 a0, .int .i64 s0, .int .i64 t0, .slice A1 xs.length c1, .int .i64 k0, .int .i64 n0] 72, Asn.blk g2 [.int .i64 a0, .int .i64 s0, .int .i64 t0, .slice A2 xs.length c2, .int .i64 k0, .int .i64 n0] 46, Asn.qu k33 33 (.slice A1 xs.length c1) xs ok1, Asn.qu k33 33 (.slice A2 xs.length c2) xs ok2] W := H
    refine t_normal ?_
    refine c_no (c := .tmp 61) (by kernel_rfl) (F.slot rfl) ?_
    refine c_exit (id := 0) (by kernel_rfl) ?_
    refine t_exit ?_
    refine t_exit ?_
    refine b_here ?_
    refine t_normal ?_
    refine c_seq (by kernel_rfl) ?_
    refine c_text (id := 17) (by kernel_rfl) [(0, 2)] (by kernel_rfl) ?_
    refine sq2 (W' := W) (show Eq (α := OSk) _ (some (some 8, (.assign (.const (.bool true))), 4, none)) by kernel_rfl) trivial F (by decide) (v := .bool true) (x_assign rfl) (fun _ => trivial) (fun a F => ?_)
    unfold wpSeq
    refine t_normal ?_
    refine c_ret (by kernel_rfl) ?_
    refine p_tmp Tryd.results3 F rfl ?_
    exact ⟨rfl, H.ends⟩
theorem batchSeals_calls (a0 s0 t0 : Int) (A : Option Addr) (c : Nat) (l : List (Bool × S33)) (w : World) (hr : kOp.C w A l.length l) (hc : l.length ≤ c) (hl : l.length < 4611686018427387904) (hOB : ∀ o ∈ l, OpB o) : Calls Tryd.prog 3 #[.int .i64 a0, .int .i64 s0, .int .i64 t0, .slice A l.length c] w fun e W => e = .returned (.bool true) ∧ Below w.heap.size w W := by
  by_cases hok : SealOk a0 s0 t0
  · exact seals_ok a0 s0 t0 A c l w hr hc hl hOB hok
  · exact seals_no a0 s0 t0 A c l w hr hc hl hOB hok
end Go.Proofs.YtndicjikjcifaaaDoor

/- The batch laws' arguments: rows of operations, a transaction, a batch: from data to plain values. -/
namespace Go.Proofs.YtndicjikjcifaaaDoor
open Go.RowKit Go.Proofs.YtndicjikjcifaaaDoorW.PrintWords Go.Proofs.YtndicjikjcifaaaDoorW.PrintLast
open PB (S33 k33)
set_option linter.unusedVariables false
set_option linter.unusedSimpArgs false
def gTx (t : S33) : Prop := (Lit.int .i64 t.f0).wf = true ∧ t.f1.size ≤ 140737488351232 ∧ t.f2.size ≤ 140737488351232 ∧ (Lit.int .u64 t.f3).wf = true ∧ (Lit.int .u64 t.f4).wf = true ∧ t.f5.size ≤ 140737488351232 ∧ t.f6.size ≤ 140737488351232 ∧
  ((∀ a ∈ t.f7, a.size ≤ 140737488351232) ∧ t.f7.length * 16 ≤ 140737488351232 ∧ t.f7.length ≤ maxLen) ∧ ((∀ a ∈ t.f8, a.size ≤ 140737488351232) ∧ t.f8.length * 16 ≤ 140737488351232 ∧ t.f8.length ≤ maxLen)
theorem opensTx : Opens Tryd.prog 33 k33 gTx :=
  Opens.iso (Opens.struct (d := kTx) Tryd.underlying33 (by kernel_rfl) (Fields.cons rfl opensInt (Fields.cons rfl opensStr (Fields.cons rfl opensStr (Fields.cons rfl opensU64 (Fields.cons rfl opensU64 (Fields.cons rfl opensStr (Fields.cons rfl opensStr (Fields.cons rfl opensStrs (Fields.one rfl opensStrs)))))))))) _ (fun x => ⟨x.1, x.2.1, x.2.2.1, x.2.2.2.1, x.2.2.2.2.1, x.2.2.2.2.2.1, x.2.2.2.2.2.2.1, x.2.2.2.2.2.2.2.1, x.2.2.2.2.2.2.2.2⟩) (fun _ => rfl)
theorem opensBl : Opens Tryd.prog 4 Kd.bool (fun _ => True) := Opens.bool Tryd.underlying4 (by kernel_rfl)
theorem opensOp : Opens Tryd.prog 35 kOp (fun x => True ∧ gTx x.2) := Opens.struct Tryd.underlying35 (by kernel_rfl) (Fields.cons (G := fun _ => True) (G' := gTx) rfl opensBl (Fields.one rfl opensTx))
theorem opensOps : Opens Tryd.prog 22 (Kd.slice 35 kOp) (fun l => (∀ a ∈ l, (True ∧ gTx a.2)) ∧ l.length * 144 ≤ 140737488351232 ∧ l.length ≤ maxLen) := Opens.slice Tryd.underlying22 (by kernel_rfl) opensOp 144 (by kernel_rfl)
theorem gTx_lim {t : S33} (h : gTx t) : LimT t ∧ t.f7.length < 8796093022208 ∧ t.f8.length < 8796093022208 ∧ 0 ≤ t.f3 ∧ 0 ≤ t.f4 := by
  obtain ⟨g0, g1, g2, g3, g4, g5, g6, g7, g8⟩ := h
  refine ⟨⟨by omega, by omega, by omega, fun x hx => ?_, fun x hx => ?_⟩, by omega, by omega, u64_lo g3, u64_lo g4⟩
  · have := g7.1 x hx; omega
  · have := g8.1 x hx; omega
theorem batchSeals_row (a0 s0 t0 : Int) (A : Option Addr) (c : Nat) (l : List (Bool × S33)) (w : World) (hr : kOp.C w A l.length l) (hc : l.length ≤ c) (hG : (∀ a ∈ l, (True ∧ gTx a.2)) ∧ l.length * 144 ≤ 140737488351232 ∧ l.length ≤ maxLen) :
    Calls Tryd.prog 3 #[.int .i64 a0, .int .i64 s0, .int .i64 t0, .slice A l.length c] w fun e W => e = .returned (.bool true) ∧ Below w.heap.size w W :=
  batchSeals_calls a0 s0 t0 A c l w hr hc (by omega) (fun o ho => by
    have := gTx_lim (hG.1 o ho).2
    exact ⟨this.1, this.2.1, this.2.2.1⟩)
end Go.Proofs.YtndicjikjcifaaaDoor
