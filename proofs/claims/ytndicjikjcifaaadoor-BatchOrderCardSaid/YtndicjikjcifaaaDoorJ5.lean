/- Texts joined by wip/tools/slim2.py: POwx1, Opens, Txown, Sealp, PFtx0, PFtx1, Txworks, Pay, Payc, Codeb, Codec, Batcod, Batdec, Batrdec, Batreads, Bwp, Bworks, Bwl, Bown. -/
import Derived.Test.YtndicjikjcifaaaDoorJ4
import Derived.Test.YtndicjikjcifaaaDoorJ1
import Derived.ChangeArms
import Derived.Deep.Slices
import Derived.SizedLaws
import Derived.ChangeShapes
import Derived.DataShut
import Derived.Test.YtndicjikjcifaaaDoorProg
import Derived.Below
import Derived.Deep.Draws
import Derived.Deep.AppendLies
import Derived.Maps.AppendAt
import Derived.OwnWalk
import Derived.Laws.BytesArg
import Derived.Laws.MakeOwn
import Derived.Laws.OwnMore
import Derived.Deep.OwnRows
import Derived.Tactics
import Derived.Lib.ConvBytes
import Derived.Laws.Slices
import Derived.WalkKit
import Derived.KernelRfl
import Derived.RowKit3
import Derived.Deep.LoopGhost
import Derived.Deep.QuietTactic
import Derived.BigQuiet
import Derived.WideLaws
import Derived.Deep.DeepCutAuto
import Derived.Deep.CutBlock
import Derived.Deep.RegionHeld3
import Derived.Laws.Rows
import Derived.Lib.AppendStr
import Derived.ArgAppend
import Derived.Laws.IdiomCopy
import Derived.OrdersHeld
import Derived.Laws.BitsLemmas
import Derived.RowKit
import Derived.Test.YtndicjikjcifaaaDoorJ2
import Derived.Test.YtndicjikjcifaaaDoorJ3
namespace Go.Proofs.YtndicjikjcifaaaDoor.POw
open Go.RowKit Go.Proofs.YtndicjikjcifaaaDoorW.PrintWords Go.Proofs.YtndicjikjcifaaaDoorW.PrintLast Go.Proofs.YtndicjikjcifaaaDoorW.PrintMore
attribute [local go_sem] max2_int min2_int max_two min_two max_three min_three max_four min_four   -- for this text's walks alone
set_option linter.unusedVariables false
set_option linter.unusedSimpArgs false
/-! ### tusklaw04_Own: function 19 -/
def tusklaw04_Own.f (a0_0 : Int) (a0_1 : ByteArray) (a0_2 : ByteArray) (a0_3 : Int) (a0_4 : Int) (a0_5 : ByteArray) (a0_6 : ByteArray) (l0_7 : List ByteArray) (l0_8 : List ByteArray) : Option (Int × ByteArray × ByteArray × Int × Int × ByteArray × ByteArray × List ByteArray × List ByteArray) := (some (([] : List ByteArray) : List ByteArray)).bind fun y103 => (if y103.length + l0_7.length < 8796093022208 then ((some (([] : List ByteArray) : List ByteArray)).bind fun y109 => (if y109.length + l0_8.length < 8796093022208 then (some (a0_0, a0_1, a0_2, a0_3, a0_4, a0_5, a0_6, (y103 ++ l0_7), (y109 ++ l0_8))) else (none))) else (none))
set_option maxHeartbeats 8000000 in
set_option maxRecDepth 100000 in
theorem tusklaw04_Own.calls (a0_0 : Int) (a0_1 : ByteArray) (a0_2 : ByteArray) (a0_3 : Int) (a0_4 : Int) (a0_5 : ByteArray) (a0_6 : ByteArray) (A0_7 : Option Addr) (c0_7 : Nat) (l0_7 : List ByteArray) (A0_8 : Option Addr) (c0_8 : Nat) (l0_8 : List ByteArray) (r1 : Int) (r2 : ByteArray) (r3 : ByteArray) (r4 : Int) (r5 : Int) (r6 : ByteArray) (r7 : ByteArray) (r8 : List ByteArray) (r9 : List ByteArray) (w : World) (hr0_7 : Kd.C Kd.string w A0_7 l0_7.length l0_7) (hc0_7 : l0_7.length ≤ c0_7) (hr0_8 : Kd.C Kd.string w A0_8 l0_8.length l0_8) (hc0_8 : l0_8.length ≤ c0_8) (h : tusklaw04_Own.f a0_0 a0_1 a0_2 a0_3 a0_4 a0_5 a0_6 l0_7 l0_8 = some (r1, r2, r3, r4, r5, r6, r7, r8, r9)) :
    Calls Tryd.prog 19 #[.agg #[.int .i64 a0_0, .string a0_1, .string a0_2, .int .u64 a0_3, .int .u64 a0_4, .string a0_5, .string a0_6, .slice A0_7 l0_7.length c0_7, .slice A0_8 l0_8.length c0_8]] w fun e w' => ∃ v7_ v8_ : Value, e = .returned (.agg #[.int .i64 r1, .string r2, .string r3, .int .u64 r4, .int .u64 r5, .string r6, .string r7, v7_, v8_]) ∧ Kd.R Kd.string 9 w' w.heap.size (fun k_ => some k_ ≠ (v8_ : Value).ownBlock) v7_ r8 ∧ Kd.R Kd.string 9 w' w.heap.size (fun k_ => some k_ ≠ (v7_ : Value).ownBlock) v8_ r9 ∧ Below w.heap.size w w' := by
  have hu33 := Tryd.underlying33
  have HR0_7 := Aside0.mk hr0_7
  have HC0_7 := Aside0.mk hc0_7
  clear hr0_7 hc0_7
  have HR0_8 := Aside0.mk hr0_8
  have HC0_8 := Aside0.mk hc0_8
  clear hr0_8 hc0_8
  have HB := Aside0.mk (Below.refl w.heap.size w)
  have H : ((some (([] : List ByteArray) : List ByteArray)).bind fun y103 => (if y103.length + l0_7.length < 8796093022208 then ((some (([] : List ByteArray) : List ByteArray)).bind fun y109 => (if y109.length + l0_8.length < 8796093022208 then (some (a0_0, a0_1, a0_2, a0_3, a0_4, a0_5, a0_6, (y103 ++ l0_7), (y109 ++ l0_8))) else (none))) else (none))) = some (r1, r2, r3, r4, r5, r6, r7, r8, r9) := h
  clear h
  obtain ⟨y103, hy103⟩ : ∃ y_ : List ByteArray, y_ = (([] : List ByteArray)) := ⟨_, rfl⟩
  replace H : (if y103.length + l0_7.length < 8796093022208 then ((some (([] : List ByteArray) : List ByteArray)).bind fun y109 => (if y109.length + l0_8.length < 8796093022208 then (some (a0_0, a0_1, a0_2, a0_3, a0_4, a0_5, a0_6, (y103 ++ l0_7), (y109 ++ l0_8))) else (none))) else (none)) = some (r1, r2, r3, r4, r5, r6, r7, r8, r9) := by first | (rw [hy103]; with_reducible exact H) | (have H2_ := (Option.bind_some _ _).symm.trans H; rw [hy103]; with_reducible exact H2_) | (have H2_ := (Option.bind_some _ _).symm.trans H; with_reducible exact H2_) | with_reducible exact H | (rw [hy103]; exact H) | exact H
  have Ny103 := Aside0.mk hy103
  clear hy103
  by_cases c2 : y103.length + l0_7.length < 8796093022208
  · rw [if_pos c2] at H
    have LMc2 := Aside0.mk c2
    clear c2
    obtain ⟨y106, hy106⟩ : ∃ y_ : List ByteArray, y_ = (y103 ++ l0_7) := ⟨_, rfl⟩
    replace H : ((some (([] : List ByteArray) : List ByteArray)).bind fun y109 => (if y109.length + l0_8.length < 8796093022208 then (some (a0_0, a0_1, a0_2, a0_3, a0_4, a0_5, a0_6, y106, (y109 ++ l0_8))) else (none))) = some (r1, r2, r3, r4, r5, r6, r7, r8, r9) := by first | (rw [hy106]; with_reducible exact H) | (have H2_ := (Option.bind_some _ _).symm.trans H; rw [hy106]; with_reducible exact H2_) | (have H2_ := (Option.bind_some _ _).symm.trans H; with_reducible exact H2_) | with_reducible exact H | (rw [hy106]; exact H) | exact H
    have Ny106 := Aside0.mk hy106
    clear hy106
    obtain ⟨y109, hy109⟩ : ∃ y_ : List ByteArray, y_ = (([] : List ByteArray)) := ⟨_, rfl⟩
    replace H : (if y109.length + l0_8.length < 8796093022208 then (some (a0_0, a0_1, a0_2, a0_3, a0_4, a0_5, a0_6, y106, (y109 ++ l0_8))) else (none)) = some (r1, r2, r3, r4, r5, r6, r7, r8, r9) := by first | (rw [hy109]; with_reducible exact H) | (have H2_ := (Option.bind_some _ _).symm.trans H; rw [hy109]; with_reducible exact H2_) | (have H2_ := (Option.bind_some _ _).symm.trans H; with_reducible exact H2_) | with_reducible exact H | (rw [hy109]; exact H) | exact H
    have Ny109 := Aside0.mk hy109
    clear hy109
    by_cases c3 : y109.length + l0_8.length < 8796093022208
    · rw [if_pos c3] at H
      have LMc3 := Aside0.mk c3
      clear c3
      obtain ⟨y112, hy112⟩ : ∃ y_ : List ByteArray, y_ = (y109 ++ l0_8) := ⟨_, rfl⟩
      replace H : (some (a0_0, a0_1, a0_2, a0_3, a0_4, a0_5, a0_6, y106, y112)) = some (r1, r2, r3, r4, r5, r6, r7, r8, r9) := by first | (rw [hy112]; with_reducible exact H) | (have H2_ := (Option.bind_some _ _).symm.trans H; rw [hy112]; with_reducible exact H2_) | (have H2_ := (Option.bind_some _ _).symm.trans H; with_reducible exact H2_) | with_reducible exact H | (rw [hy112]; exact H) | exact H
      have Ny112 := Aside0.mk hy112
      clear hy112
      simp only [Option.some.injEq, Prod.mk.injEq] at H
      obtain ⟨rfl, rfl, rfl, rfl, rfl, rfl, rfl, rfl, rfl⟩ := H
      go_enter Tryd.func19, Tryd.ntmps19
      go_wp2_with (first | ((with_reducible refine gate_dst (N := 1) rfl ?_); refine box_event ?hg (N := 1) ?hd (cs := #[.int .i64 a0_0, .string a0_1, .string a0_2, .int .u64 a0_3, .int .u64 a0_4, .string a0_5, .string a0_6, .slice A0_7 l0_7.length c0_7, .slice A0_8 l0_8.length c0_8]) (t := 33) ?hr ?_; (case hd => rfl); (case hg => rfl); (case hr => first | (go_simp; done) | (go_simp; rfl)); intro gb101 hg w4 hbox hb; have n0_ := Aside0.mk (below_step (by repeat (first | (with_reducible first | exact HB.out | apply below_alloc | apply pw_below_drewN | apply below_drew1) | exact HB.out)) hb); have n1_ := Aside0.mk (hbox); have n2_ := Aside0.mk ((by rw [hg]; exact (below_size (by repeat (first | (with_reducible first | exact HB.out | apply below_alloc | apply pw_below_drewN | apply below_drew1) | exact HB.out))) : w.heap.size ≤ gb101)); have n3_ := Aside0.mk ((by rw [hg]; exact (below_size (by repeat (first | (with_reducible first | exact HB.out | apply below_alloc | apply pw_below_drewN | apply below_drew1) | exact HB.out))) : w.heap.size ≤ gb101)); clear HB; have HB := n0_; have BK101 := n1_; have GW101 := n2_; have GE101 := n3_; clear n0_ n1_ n2_ n3_; clear hb hbox hg) | ((with_reducible refine gate_dst (N := 2) rfl ?_); refine box_event ?hg (N := 2) ?hd (cs := #[.int .i64 0, .string (⟨#[]⟩ : ByteArray), .string (⟨#[]⟩ : ByteArray), .int .u64 0, .int .u64 0, .string (⟨#[]⟩ : ByteArray), .string (⟨#[]⟩ : ByteArray), .slice none 0 0, .slice none 0 0]) (t := 33) ?hr ?_; (case hd => rfl); (case hg => rfl); (case hr => first | (go_simp; done) | (go_simp; rfl)); intro gb102 hg w5 hbox hb; have n0_ := Aside0.mk (blk_below (g := gb101) (o := .cells #[.int .i64 a0_0, .string a0_1, .string a0_2, .int .u64 a0_3, .int .u64 a0_4, .string a0_5, .string a0_6, .slice A0_7 l0_7.length c0_7, .slice A0_8 l0_8.length c0_8] 33 (0, 0)) (by (with_reducible repeat (first | refine blk_drewN ?_ _ | refine blk_drew ?_ | refine blk_alloc ?_ _)); exact BK101.out) hb); have n1_ := Aside0.mk (below_step (by repeat (first | (with_reducible first | exact HB.out | apply below_alloc | apply pw_below_drewN | apply below_drew1 | refine below_set ?_ GE101.out) | exact HB.out)) hb); have n2_ := Aside0.mk (hbox); have n3_ := Aside0.mk ((by rw [hg]; exact (below_size (by repeat (first | (with_reducible first | exact HB.out | apply below_alloc | apply pw_below_drewN | apply below_drew1 | refine below_set ?_ GE101.out) | exact HB.out))) : w.heap.size ≤ gb102)); have n4_ := Aside0.mk ((by rw [hg]; exact (below_size (by repeat (first | (with_reducible first | exact HB.out | apply below_alloc | apply pw_below_drewN | apply below_drew1 | refine below_set ?_ GE101.out) | exact HB.out))) : w.heap.size ≤ gb102)); have n5_ := Aside0.mk ((by rw [hg]; exact Nat.ne_of_lt (blk_lt (g := gb101) (o := .cells #[.int .i64 a0_0, .string a0_1, .string a0_2, .int .u64 a0_3, .int .u64 a0_4, .string a0_5, .string a0_6, .slice A0_7 l0_7.length c0_7, .slice A0_8 l0_8.length c0_8] 33 (0, 0)) (by (with_reducible repeat (first | refine blk_drewN ?_ _ | refine blk_drew ?_ | refine blk_alloc ?_ _)); exact BK101.out)) : gb101 ≠ gb102)); have n6_ := Aside0.mk ((by rw [hg]; exact Nat.ne_of_gt (blk_lt (g := gb101) (o := .cells #[.int .i64 a0_0, .string a0_1, .string a0_2, .int .u64 a0_3, .int .u64 a0_4, .string a0_5, .string a0_6, .slice A0_7 l0_7.length c0_7, .slice A0_8 l0_8.length c0_8] 33 (0, 0)) (by (with_reducible repeat (first | refine blk_drewN ?_ _ | refine blk_drew ?_ | refine blk_alloc ?_ _)); exact BK101.out)) : gb102 ≠ gb101)); clear BK101; clear HB; have BK101 := n0_; have HB := n1_; have BK102 := n2_; have GW102 := n3_; have GE102 := n4_; have NB101_102 := n5_; have NB102_101 := n6_; clear n0_ n1_ n2_ n3_ n4_ n5_ n6_; clear hb hbox hg) | ((with_reducible refine gate_dst (N := 3) rfl ?_); refine Kd.R_lit Kd.string _ 9 ?hg (N := 3) ?hd (xs := ([] : List ByteArray)) (inner := []) (ok := fun _ => True) (okp := fun _ => True) ?hr ?hp (fun _ hk => hk) trivial (Below.refl _ _) (Nat.le_refl _) (by simp) ?_; (case hd => rfl); (case hg => rfl); (case hr => first | (go_simp; done) | (go_simp; rfl)); (case hp => exact (Reps.none _ _)); intro v104 w6 ho7 hb hg_ hnew_; clear hg_ hnew_; (first | rw [← Ny103.out] at ho7 | (simp only [Int.reduceToNat] at ho7; rw [← Ny103.out] at ho7)); have n0_ := Aside0.mk (Kd.R_lower ho7 (below_size (by repeat (first | (with_reducible first | exact HB.out | apply below_alloc | apply pw_below_drewN | apply below_drew1 | refine below_set ?_ GE101.out | refine below_set ?_ GE102.out) | exact HB.out)))); have n1_ := Aside0.mk (blk_below (g := gb101) (o := .cells #[.int .i64 a0_0, .string a0_1, .string a0_2, .int .u64 a0_3, .int .u64 a0_4, .string a0_5, .string a0_6, .slice A0_7 l0_7.length c0_7, .slice A0_8 l0_8.length c0_8] 33 (0, 0)) (by (with_reducible repeat (first | refine blk_drewN ?_ _ | refine blk_drew ?_ | refine blk_alloc ?_ _)); exact BK101.out) hb); have n2_ := Aside0.mk (blk_below (g := gb102) (o := .cells #[.int .i64 0, .string (⟨#[]⟩ : ByteArray), .string (⟨#[]⟩ : ByteArray), .int .u64 0, .int .u64 0, .string (⟨#[]⟩ : ByteArray), .string (⟨#[]⟩ : ByteArray), .slice none 0 0, .slice none 0 0] 33 (0, 0)) (by (with_reducible repeat (first | refine blk_drewN ?_ _ | refine blk_drew ?_ | refine blk_alloc ?_ _)); exact BK102.out) hb); have n3_ := Aside0.mk (below_step (by repeat (first | (with_reducible first | exact HB.out | apply below_alloc | apply pw_below_drewN | apply below_drew1 | refine below_set ?_ GE101.out | refine below_set ?_ GE102.out) | exact HB.out)) hb); clear BK101; clear BK102; clear HB; have HO105 := n0_; have BK101 := n1_; have BK102 := n2_; have HB := n3_; clear n0_ n1_ n2_ n3_; clear hb ho7; have hnb8 := NB101_102.out; have hnc8 := NB102_101.out; have hcz9_0 : w6.cell? ⟨gb101, 0, none⟩ = some (.int .i64 a0_0) := (blk_cell BK101.out 0).trans rfl; have hcz9_1 : w6.cell? ⟨gb101, 1, none⟩ = some (.string a0_1) := (blk_cell BK101.out 1).trans rfl; have hcz9_2 : w6.cell? ⟨gb101, 2, none⟩ = some (.string a0_2) := (blk_cell BK101.out 2).trans rfl; have hcz9_3 : w6.cell? ⟨gb101, 3, none⟩ = some (.int .u64 a0_3) := (blk_cell BK101.out 3).trans rfl; have hcz9_4 : w6.cell? ⟨gb101, 4, none⟩ = some (.int .u64 a0_4) := (blk_cell BK101.out 4).trans rfl; have hcz9_5 : w6.cell? ⟨gb101, 5, none⟩ = some (.string a0_5) := (blk_cell BK101.out 5).trans rfl; have hcz9_6 : w6.cell? ⟨gb101, 6, none⟩ = some (.string a0_6) := (blk_cell BK101.out 6).trans rfl; have hcz9_7 : w6.cell? ⟨gb101, 7, none⟩ = some (.slice A0_7 l0_7.length c0_7) := (blk_cell BK101.out 7).trans rfl; have hcz9_8 : w6.cell? ⟨gb101, 8, none⟩ = some (.slice A0_8 l0_8.length c0_8) := (blk_cell BK101.out 8).trans rfl; have hfz9_0 := blk_frozen BK101.out 0; have hfz9_1 := blk_frozen BK101.out 1; have hfz9_2 := blk_frozen BK101.out 2; have hfz9_3 := blk_frozen BK101.out 3; have hfz9_4 := blk_frozen BK101.out 4; have hfz9_5 := blk_frozen BK101.out 5; have hfz9_6 := blk_frozen BK101.out 6; have hfz9_7 := blk_frozen BK101.out 7; have hfz9_8 := blk_frozen BK101.out 8) | ((with_reducible refine gate_builtin (b := .append) (xs := #[.tmp 3, .tmp 5]) rfl ?_); at_builtin; refine Kd.R_append_rows Kd.string (w0 := w) w.heap.size rfl (.tmp 3) (.tmp 5) 31 9 (.string ⟨#[]⟩) 16 rfl Tryd.underlying31 info9 rfl (by decide) (by omega) v104 y103 l0_7 _ _ _ (fun _ => True) (fun _ => False) rfl rfl ?aO ?aR (fun _ _ h => h) (fun _ h => h.elim) ?aF ?aB ?aS ?aL ?_; (case aR => repeat (first | exact (Kd.C_below HR0_7.out HB.out) | (with_reducible refine Kd.C_alloc ?_ _) | (with_reducible refine Kd.C_drewN ?_ _) | (with_reducible refine Kd.C_drew ?_))); (case aB => exact (by repeat (first | (with_reducible first | exact HB.out | apply below_alloc | apply pw_below_drewN | apply below_drew1 | refine below_set ?_ GE101.out | refine below_set ?_ GE102.out) | exact HB.out))); (case aF => exact (fun _ _ => trivial)); (case aO => exact (by (with_reducible repeat (first | apply Kd.R_alloc | apply Kd.R_drewN | apply Kd.R_drew)); exact HO105.out)); (case aS => exact (below_size (by repeat (first | (with_reducible first | exact HB.out | apply below_alloc | apply pw_below_drewN | apply below_drew1 | refine below_set ?_ GE101.out | refine below_set ?_ GE102.out) | exact HB.out)))); (case aL => have := LMc2.out; omega); intro v107 w10 ho hb hg hat; rw [← Ny106.out] at ho; have n0_ := Aside0.mk (blk_grown (g := gb101) (o := .cells #[.int .i64 a0_0, .string a0_1, .string a0_2, .int .u64 a0_3, .int .u64 a0_4, .string a0_5, .string a0_6, .slice A0_7 l0_7.length c0_7, .slice A0_8 l0_8.length c0_8] 33 (0, 0)) (by (with_reducible repeat (first | refine blk_drewN ?_ _ | refine blk_drew ?_ | refine blk_alloc ?_ _)); exact BK101.out) hg (Kd.R_ne HO105.out BK101.out (by decide))); have n1_ := Aside0.mk (blk_grown (g := gb102) (o := .cells #[.int .i64 0, .string (⟨#[]⟩ : ByteArray), .string (⟨#[]⟩ : ByteArray), .int .u64 0, .int .u64 0, .string (⟨#[]⟩ : ByteArray), .string (⟨#[]⟩ : ByteArray), .slice none 0 0, .slice none 0 0] 33 (0, 0)) (by (with_reducible repeat (first | refine blk_drewN ?_ _ | refine blk_drew ?_ | refine blk_alloc ?_ _)); exact BK102.out) hg (Kd.R_ne HO105.out BK102.out (by decide))); have n2_ := Aside0.mk (hb); have n3_ := Aside0.mk (ho); clear BK101; clear BK102; clear HB; clear HO105; have BK101 := n0_; have BK102 := n1_; have HB := n2_; have HO108 := n3_; clear n0_ n1_ n2_ n3_; clear ho hb hg hat; obtain ⟨Ao11, co11, eo11⟩ := Kd.R_slice HO108.out; subst eo11; have hcz12_0 : w10.cell? ⟨gb101, 0, none⟩ = some (.int .i64 a0_0) := (blk_cell BK101.out 0).trans rfl; have hcz12_1 : w10.cell? ⟨gb101, 1, none⟩ = some (.string a0_1) := (blk_cell BK101.out 1).trans rfl; have hcz12_2 : w10.cell? ⟨gb101, 2, none⟩ = some (.string a0_2) := (blk_cell BK101.out 2).trans rfl; have hcz12_3 : w10.cell? ⟨gb101, 3, none⟩ = some (.int .u64 a0_3) := (blk_cell BK101.out 3).trans rfl; have hcz12_4 : w10.cell? ⟨gb101, 4, none⟩ = some (.int .u64 a0_4) := (blk_cell BK101.out 4).trans rfl; have hcz12_5 : w10.cell? ⟨gb101, 5, none⟩ = some (.string a0_5) := (blk_cell BK101.out 5).trans rfl; have hcz12_6 : w10.cell? ⟨gb101, 6, none⟩ = some (.string a0_6) := (blk_cell BK101.out 6).trans rfl; have hcz12_7 : w10.cell? ⟨gb101, 7, none⟩ = some (.slice A0_7 l0_7.length c0_7) := (blk_cell BK101.out 7).trans rfl; have hcz12_8 : w10.cell? ⟨gb101, 8, none⟩ = some (.slice A0_8 l0_8.length c0_8) := (blk_cell BK101.out 8).trans rfl; have hfz12_0 := blk_frozen BK101.out 0; have hfz12_1 := blk_frozen BK101.out 1; have hfz12_2 := blk_frozen BK101.out 2; have hfz12_3 := blk_frozen BK101.out 3; have hfz12_4 := blk_frozen BK101.out 4; have hfz12_5 := blk_frozen BK101.out 5; have hfz12_6 := blk_frozen BK101.out 6; have hfz12_7 := blk_frozen BK101.out 7; have hfz12_8 := blk_frozen BK101.out 8) | ((with_reducible refine gate_dst (N := 8) rfl ?_); refine Kd.R_lit Kd.string _ 9 ?hg (N := 8) ?hd (xs := ([] : List ByteArray)) (inner := []) (ok := fun _ => True) (okp := fun _ => True) ?hr ?hp (fun _ hk => hk) trivial (Below.refl _ _) (Nat.le_refl _) (by simp) ?_; (case hd => rfl); (case hg => rfl); (case hr => first | (go_simp; done) | (go_simp; rfl)); (case hp => exact (Reps.none _ _)); intro v110 w13 ho14 hb hg_ hnew_; clear hg_ hnew_; (first | rw [← Ny109.out] at ho14 | (simp only [Int.reduceToNat] at ho14; rw [← Ny109.out] at ho14)); have n0_ := Aside0.mk (Kd.R_elder' (by (with_reducible repeat (first | apply Kd.R_alloc | apply Kd.R_drewN | apply Kd.R_drew)); exact (Kd.R_mono (Kd.R_far (p := ⟨gb101, 7, none⟩) (Kd.R_types HO108.out BK101.out (by decide)) (fun _ hk => hk.2) (.slice Ao11 y106.length co11)) (fun _ h_ => h_.1))) (Kd.R_base ho14) hb); have n1_ := Aside0.mk (Kd.R_lower (Kd.R_new' ho14 (Kd.R_lt (by (with_reducible repeat (first | apply Kd.R_alloc | apply Kd.R_drewN | apply Kd.R_drew)); exact (Kd.R_mono (Kd.R_far (p := ⟨gb101, 7, none⟩) (Kd.R_types HO108.out BK101.out (by decide)) (fun _ hk => hk.2) (.slice Ao11 y106.length co11)) (fun _ h_ => h_.1))))) (below_size (by repeat (first | (with_reducible first | exact HB.out | apply below_alloc | apply pw_below_drewN | apply below_drew1 | refine below_set ?_ GE101.out | refine below_set ?_ GE102.out) | exact HB.out)))); have n2_ := Aside0.mk (blk_below (g := gb101) (o := .cells #[.int .i64 a0_0, .string a0_1, .string a0_2, .int .u64 a0_3, .int .u64 a0_4, .string a0_5, .string a0_6, .slice Ao11 y106.length co11, .slice A0_8 l0_8.length c0_8] 33 (0, 0)) (by (with_reducible repeat (first | refine blk_drewN ?_ _ | refine blk_drew ?_ | refine blk_alloc ?_ _)); refine blk_put (cs := #[.int .i64 a0_0, .string a0_1, .string a0_2, .int .u64 a0_3, .int .u64 a0_4, .string a0_5, .string a0_6, .slice A0_7 l0_7.length c0_7, .slice A0_8 l0_8.length c0_8]) ?_ 7 _ rfl; (with_reducible repeat (first | refine blk_drewN ?_ _ | refine blk_drew ?_ | refine blk_alloc ?_ _)); exact BK101.out) hb); have n3_ := Aside0.mk (blk_below (g := gb102) (o := .cells #[.int .i64 0, .string (⟨#[]⟩ : ByteArray), .string (⟨#[]⟩ : ByteArray), .int .u64 0, .int .u64 0, .string (⟨#[]⟩ : ByteArray), .string (⟨#[]⟩ : ByteArray), .slice none 0 0, .slice none 0 0] 33 (0, 0)) (by (with_reducible repeat (first | refine blk_drewN ?_ _ | refine blk_drew ?_ | refine blk_alloc ?_ _)); refine blk_far ?_ NB102_101.out _; (with_reducible repeat (first | refine blk_drewN ?_ _ | refine blk_drew ?_ | refine blk_alloc ?_ _)); exact BK102.out) hb); have n4_ := Aside0.mk (below_step (by repeat (first | (with_reducible first | exact HB.out | apply below_alloc | apply pw_below_drewN | apply below_drew1 | refine below_set ?_ GE101.out | refine below_set ?_ GE102.out) | exact HB.out)) hb); clear HO108; clear BK101; clear BK102; clear HB; have HO108 := n0_; have HO111 := n1_; have BK101 := n2_; have BK102 := n3_; have HB := n4_; clear n0_ n1_ n2_ n3_ n4_; clear hb ho14; have hcz15_0 : w13.cell? ⟨gb101, 0, none⟩ = some (.int .i64 a0_0) := (blk_cell BK101.out 0).trans rfl; have hcz15_1 : w13.cell? ⟨gb101, 1, none⟩ = some (.string a0_1) := (blk_cell BK101.out 1).trans rfl; have hcz15_2 : w13.cell? ⟨gb101, 2, none⟩ = some (.string a0_2) := (blk_cell BK101.out 2).trans rfl; have hcz15_3 : w13.cell? ⟨gb101, 3, none⟩ = some (.int .u64 a0_3) := (blk_cell BK101.out 3).trans rfl; have hcz15_4 : w13.cell? ⟨gb101, 4, none⟩ = some (.int .u64 a0_4) := (blk_cell BK101.out 4).trans rfl; have hcz15_5 : w13.cell? ⟨gb101, 5, none⟩ = some (.string a0_5) := (blk_cell BK101.out 5).trans rfl; have hcz15_6 : w13.cell? ⟨gb101, 6, none⟩ = some (.string a0_6) := (blk_cell BK101.out 6).trans rfl; have hcz15_7 : w13.cell? ⟨gb101, 7, none⟩ = some (.slice Ao11 y106.length co11) := (blk_cell BK101.out 7).trans rfl; have hcz15_8 : w13.cell? ⟨gb101, 8, none⟩ = some (.slice A0_8 l0_8.length c0_8) := (blk_cell BK101.out 8).trans rfl; have hfz15_0 := blk_frozen BK101.out 0; have hfz15_1 := blk_frozen BK101.out 1; have hfz15_2 := blk_frozen BK101.out 2; have hfz15_3 := blk_frozen BK101.out 3; have hfz15_4 := blk_frozen BK101.out 4; have hfz15_5 := blk_frozen BK101.out 5; have hfz15_6 := blk_frozen BK101.out 6; have hfz15_7 := blk_frozen BK101.out 7; have hfz15_8 := blk_frozen BK101.out 8) | ((with_reducible refine gate_builtin (b := .append) (xs := #[.tmp 8, .tmp 10]) rfl ?_); at_builtin; refine Kd.R_append_rows Kd.string (w0 := w) w.heap.size rfl (.tmp 8) (.tmp 10) 31 9 (.string ⟨#[]⟩) 16 rfl Tryd.underlying31 info9 rfl (by decide) (by omega) v110 y109 l0_8 _ _ _ (fun k_ => some k_ ≠ (.slice Ao11 y106.length co11 : Value).ownBlock) (fun _ => False) rfl rfl ?aO ?aR (fun _ _ h => h) (fun _ h => h.elim) ?aF ?aB ?aS ?aL ?_; (case aR => repeat (first | exact (Kd.C_below HR0_8.out HB.out) | (with_reducible refine Kd.C_alloc ?_ _) | (with_reducible refine Kd.C_drewN ?_ _) | (with_reducible refine Kd.C_drew ?_))); (case aB => exact (by repeat (first | (with_reducible first | exact HB.out | apply below_alloc | apply pw_below_drewN | apply below_drew1 | refine below_set ?_ GE101.out | refine below_set ?_ GE102.out) | exact HB.out))); (case aF => exact (fun k_ hk => Kd.fresh' (Kd.R_lt (by (with_reducible repeat (first | apply Kd.R_alloc | apply Kd.R_drewN | apply Kd.R_drew)); exact HO108.out)) k_ hk)); (case aO => exact (by (with_reducible repeat (first | apply Kd.R_alloc | apply Kd.R_drewN | apply Kd.R_drew)); exact Kd.R_mono HO111.out (fun _ hk => hk.2))); (case aS => exact (below_size (by repeat (first | (with_reducible first | exact HB.out | apply below_alloc | apply pw_below_drewN | apply below_drew1 | refine below_set ?_ GE101.out | refine below_set ?_ GE102.out) | exact HB.out)))); (case aL => have := LMc3.out; omega); intro v113 w16 ho hb hg hat; rw [← Ny112.out] at ho; have n0_ := Aside0.mk (blk_grown (g := gb101) (o := .cells #[.int .i64 a0_0, .string a0_1, .string a0_2, .int .u64 a0_3, .int .u64 a0_4, .string a0_5, .string a0_6, .slice Ao11 y106.length co11, .slice A0_8 l0_8.length c0_8] 33 (0, 0)) (by (with_reducible repeat (first | refine blk_drewN ?_ _ | refine blk_drew ?_ | refine blk_alloc ?_ _)); exact BK101.out) hg (Kd.R_ne HO111.out BK101.out (by decide))); have n1_ := Aside0.mk (blk_grown (g := gb102) (o := .cells #[.int .i64 0, .string (⟨#[]⟩ : ByteArray), .string (⟨#[]⟩ : ByteArray), .int .u64 0, .int .u64 0, .string (⟨#[]⟩ : ByteArray), .string (⟨#[]⟩ : ByteArray), .slice none 0 0, .slice none 0 0] 33 (0, 0)) (by (with_reducible repeat (first | refine blk_drewN ?_ _ | refine blk_drew ?_ | refine blk_alloc ?_ _)); exact BK102.out) hg (Kd.R_ne HO111.out BK102.out (by decide))); have n2_ := Aside0.mk (Kd.R_after (ok := (fun _ => True)) (by (with_reducible repeat (first | apply Kd.R_alloc | apply Kd.R_drewN | apply Kd.R_drew)); exact HO108.out) hg hat); have n3_ := Aside0.mk (hb); have n4_ := Aside0.mk (ho); clear BK101; clear BK102; clear HO108; clear HB; clear HO111; have BK101 := n0_; have BK102 := n1_; have HO108 := n2_; have HB := n3_; have HO114 := n4_; clear n0_ n1_ n2_ n3_ n4_; clear ho hb hg hat; obtain ⟨Ao17, co17, eo17⟩ := Kd.R_slice HO114.out; subst eo17; have hcz18_0 : w16.cell? ⟨gb101, 0, none⟩ = some (.int .i64 a0_0) := (blk_cell BK101.out 0).trans rfl; have hcz18_1 : w16.cell? ⟨gb101, 1, none⟩ = some (.string a0_1) := (blk_cell BK101.out 1).trans rfl; have hcz18_2 : w16.cell? ⟨gb101, 2, none⟩ = some (.string a0_2) := (blk_cell BK101.out 2).trans rfl; have hcz18_3 : w16.cell? ⟨gb101, 3, none⟩ = some (.int .u64 a0_3) := (blk_cell BK101.out 3).trans rfl; have hcz18_4 : w16.cell? ⟨gb101, 4, none⟩ = some (.int .u64 a0_4) := (blk_cell BK101.out 4).trans rfl; have hcz18_5 : w16.cell? ⟨gb101, 5, none⟩ = some (.string a0_5) := (blk_cell BK101.out 5).trans rfl; have hcz18_6 : w16.cell? ⟨gb101, 6, none⟩ = some (.string a0_6) := (blk_cell BK101.out 6).trans rfl; have hcz18_7 : w16.cell? ⟨gb101, 7, none⟩ = some (.slice Ao11 y106.length co11) := (blk_cell BK101.out 7).trans rfl; have hcz18_8 : w16.cell? ⟨gb101, 8, none⟩ = some (.slice A0_8 l0_8.length c0_8) := (blk_cell BK101.out 8).trans rfl; have hfz18_0 := blk_frozen BK101.out 0; have hfz18_1 := blk_frozen BK101.out 1; have hfz18_2 := blk_frozen BK101.out 2; have hfz18_3 := blk_frozen BK101.out 3; have hfz18_4 := blk_frozen BK101.out 4; have hfz18_5 := blk_frozen BK101.out 5; have hfz18_6 := blk_frozen BK101.out 6; have hfz18_7 := blk_frozen BK101.out 7; have hfz18_8 := blk_frozen BK101.out 8; have hcz19_0 : w16.cell? ⟨gb102, 0, none⟩ = some (.int .i64 0) := (blk_cell BK102.out 0).trans rfl; have hcz19_1 : w16.cell? ⟨gb102, 1, none⟩ = some (.string (⟨#[]⟩ : ByteArray)) := (blk_cell BK102.out 1).trans rfl; have hcz19_2 : w16.cell? ⟨gb102, 2, none⟩ = some (.string (⟨#[]⟩ : ByteArray)) := (blk_cell BK102.out 2).trans rfl; have hcz19_3 : w16.cell? ⟨gb102, 3, none⟩ = some (.int .u64 0) := (blk_cell BK102.out 3).trans rfl; have hcz19_4 : w16.cell? ⟨gb102, 4, none⟩ = some (.int .u64 0) := (blk_cell BK102.out 4).trans rfl; have hcz19_5 : w16.cell? ⟨gb102, 5, none⟩ = some (.string (⟨#[]⟩ : ByteArray)) := (blk_cell BK102.out 5).trans rfl; have hcz19_6 : w16.cell? ⟨gb102, 6, none⟩ = some (.string (⟨#[]⟩ : ByteArray)) := (blk_cell BK102.out 6).trans rfl; have hcz19_7 : w16.cell? ⟨gb102, 7, none⟩ = some (.slice none 0 0) := (blk_cell BK102.out 7).trans rfl; have hcz19_8 : w16.cell? ⟨gb102, 8, none⟩ = some (.slice none 0 0) := (blk_cell BK102.out 8).trans rfl; have hfz19_0 := blk_frozen BK102.out 0; have hfz19_1 := blk_frozen BK102.out 1; have hfz19_2 := blk_frozen BK102.out 2; have hfz19_3 := blk_frozen BK102.out 3; have hfz19_4 := blk_frozen BK102.out 4; have hfz19_5 := blk_frozen BK102.out 5; have hfz19_6 := blk_frozen BK102.out 6; have hfz19_7 := blk_frozen BK102.out 7; have hfz19_8 := blk_frozen BK102.out 8))
      refine bodyPost_ret (results_cell_row rfl _ _ gb102 33 #[.int .i64 a0_0, .string a0_1, .string a0_2, .int .u64 a0_3, .int .u64 a0_4, .string a0_5, .string a0_6, .slice Ao11 y106.length co11, .slice Ao17 y112.length co17] (0, 0) _ rfl (by (with_reducible repeat (first | refine blk_drewN ?_ _ | refine blk_drew ?_ | refine blk_alloc ?_ _)); refine blk_put (cs := #[.int .i64 a0_0, .string a0_1, .string a0_2, .int .u64 a0_3, .int .u64 a0_4, .string a0_5, .string a0_6, .slice Ao11 y106.length co11, .slice none 0 0]) ?_ 8 _ rfl; (with_reducible repeat (first | refine blk_drewN ?_ _ | refine blk_drew ?_ | refine blk_alloc ?_ _)); refine blk_put (cs := #[.int .i64 a0_0, .string a0_1, .string a0_2, .int .u64 a0_3, .int .u64 a0_4, .string a0_5, .string a0_6, .slice none 0 0, .slice none 0 0]) ?_ 7 _ rfl; (with_reducible repeat (first | refine blk_drewN ?_ _ | refine blk_drew ?_ | refine blk_alloc ?_ _)); refine blk_put (cs := #[.int .i64 a0_0, .string a0_1, .string a0_2, .int .u64 a0_3, .int .u64 a0_4, .string a0_5, .string (⟨#[]⟩ : ByteArray), .slice none 0 0, .slice none 0 0]) ?_ 6 _ rfl; (with_reducible repeat (first | refine blk_drewN ?_ _ | refine blk_drew ?_ | refine blk_alloc ?_ _)); refine blk_put (cs := #[.int .i64 a0_0, .string a0_1, .string a0_2, .int .u64 a0_3, .int .u64 a0_4, .string (⟨#[]⟩ : ByteArray), .string (⟨#[]⟩ : ByteArray), .slice none 0 0, .slice none 0 0]) ?_ 5 _ rfl; (with_reducible repeat (first | refine blk_drewN ?_ _ | refine blk_drew ?_ | refine blk_alloc ?_ _)); refine blk_put (cs := #[.int .i64 a0_0, .string a0_1, .string a0_2, .int .u64 a0_3, .int .u64 0, .string (⟨#[]⟩ : ByteArray), .string (⟨#[]⟩ : ByteArray), .slice none 0 0, .slice none 0 0]) ?_ 4 _ rfl; (with_reducible repeat (first | refine blk_drewN ?_ _ | refine blk_drew ?_ | refine blk_alloc ?_ _)); refine blk_put (cs := #[.int .i64 a0_0, .string a0_1, .string a0_2, .int .u64 0, .int .u64 0, .string (⟨#[]⟩ : ByteArray), .string (⟨#[]⟩ : ByteArray), .slice none 0 0, .slice none 0 0]) ?_ 3 _ rfl; (with_reducible repeat (first | refine blk_drewN ?_ _ | refine blk_drew ?_ | refine blk_alloc ?_ _)); refine blk_put (cs := #[.int .i64 a0_0, .string a0_1, .string (⟨#[]⟩ : ByteArray), .int .u64 0, .int .u64 0, .string (⟨#[]⟩ : ByteArray), .string (⟨#[]⟩ : ByteArray), .slice none 0 0, .slice none 0 0]) ?_ 2 _ rfl; (with_reducible repeat (first | refine blk_drewN ?_ _ | refine blk_drew ?_ | refine blk_alloc ?_ _)); refine blk_put (cs := #[.int .i64 a0_0, .string (⟨#[]⟩ : ByteArray), .string (⟨#[]⟩ : ByteArray), .int .u64 0, .int .u64 0, .string (⟨#[]⟩ : ByteArray), .string (⟨#[]⟩ : ByteArray), .slice none 0 0, .slice none 0 0]) ?_ 1 _ rfl; (with_reducible repeat (first | refine blk_drewN ?_ _ | refine blk_drew ?_ | refine blk_alloc ?_ _)); refine blk_put (cs := #[.int .i64 0, .string (⟨#[]⟩ : ByteArray), .string (⟨#[]⟩ : ByteArray), .int .u64 0, .int .u64 0, .string (⟨#[]⟩ : ByteArray), .string (⟨#[]⟩ : ByteArray), .slice none 0 0, .slice none 0 0]) ?_ 0 _ rfl; (with_reducible repeat (first | refine blk_drewN ?_ _ | refine blk_drew ?_ | refine blk_alloc ?_ _)); refine blk_far ?_ NB102_101.out _; (with_reducible repeat (first | refine blk_drewN ?_ _ | refine blk_drew ?_ | refine blk_alloc ?_ _)); exact BK102.out) Tryd.underlying33 rfl (by kernel_rfl)) rfl ?_
      exact ⟨_, _, by first | rfl | (simp [errW_none, errW_some] <;> rfl) | (simp [*, errW_none, errW_some] <;> rfl), by (with_reducible repeat (first | apply Kd.R_alloc | apply Kd.R_drewN | apply Kd.R_drew)); exact Kd.R_mono (Kd.R_far (p := ⟨gb102, 8, none⟩) (Kd.R_far (p := ⟨gb102, 7, none⟩) (Kd.R_far (p := ⟨gb102, 6, none⟩) (Kd.R_far (p := ⟨gb102, 5, none⟩) (Kd.R_far (p := ⟨gb102, 4, none⟩) (Kd.R_far (p := ⟨gb102, 3, none⟩) (Kd.R_far (p := ⟨gb102, 2, none⟩) (Kd.R_far (p := ⟨gb102, 1, none⟩) (Kd.R_far (p := ⟨gb102, 0, none⟩) (Kd.R_far (p := ⟨gb101, 8, none⟩) (Kd.R_types (Kd.R_types HO108.out BK101.out (by decide)) BK102.out (by decide)) (fun _ hk => hk.1.2) (.slice Ao17 y112.length co17)) (fun _ hk => hk.2) (.int .i64 a0_0)) (fun _ hk => hk.2) (.string a0_1)) (fun _ hk => hk.2) (.string a0_2)) (fun _ hk => hk.2) (.int .u64 a0_3)) (fun _ hk => hk.2) (.int .u64 a0_4)) (fun _ hk => hk.2) (.string a0_5)) (fun _ hk => hk.2) (.string a0_6)) (fun _ hk => hk.2) (.slice Ao11 y106.length co11)) (fun _ hk => hk.2) (.slice Ao17 y112.length co17)) (fun _ hk => hk.1.1.2), by (with_reducible repeat (first | apply Kd.R_alloc | apply Kd.R_drewN | apply Kd.R_drew)); exact Kd.R_mono (Kd.R_far (p := ⟨gb102, 8, none⟩) (Kd.R_far (p := ⟨gb102, 7, none⟩) (Kd.R_far (p := ⟨gb102, 6, none⟩) (Kd.R_far (p := ⟨gb102, 5, none⟩) (Kd.R_far (p := ⟨gb102, 4, none⟩) (Kd.R_far (p := ⟨gb102, 3, none⟩) (Kd.R_far (p := ⟨gb102, 2, none⟩) (Kd.R_far (p := ⟨gb102, 1, none⟩) (Kd.R_far (p := ⟨gb102, 0, none⟩) (Kd.R_far (p := ⟨gb101, 8, none⟩) (Kd.R_types (Kd.R_types HO114.out BK101.out (by decide)) BK102.out (by decide)) (fun _ hk => hk.1.2) (.slice Ao17 y112.length co17)) (fun _ hk => hk.2) (.int .i64 a0_0)) (fun _ hk => hk.2) (.string a0_1)) (fun _ hk => hk.2) (.string a0_2)) (fun _ hk => hk.2) (.int .u64 a0_3)) (fun _ hk => hk.2) (.int .u64 a0_4)) (fun _ hk => hk.2) (.string a0_5)) (fun _ hk => hk.2) (.string a0_6)) (fun _ hk => hk.2) (.slice Ao11 y106.length co11)) (fun _ hk => hk.2) (.slice Ao17 y112.length co17)) (fun _ hk => hk.1.1), by repeat (first | (with_reducible first | exact HB.out | apply below_alloc | apply pw_below_drewN | apply below_drew1 | refine below_set ?_ GE101.out | refine below_set ?_ GE102.out) | exact HB.out)⟩
    · rw [if_neg c3] at H
      exact absurd H (by simp)
  · rw [if_neg c2] at H
    exact absurd H (by simp)
end Go.Proofs.YtndicjikjcifaaaDoor.POw

/- From an argument's reading as data to a plain Lean value that its cells read as: one lemma a kind of type. No program in sight. -/
namespace Go.Proofs.YtndicjikjcifaaaDoor
open Go.RowKit Go.Proofs.YtndicjikjcifaaaDoorW.PrintWords Go.Proofs.YtndicjikjcifaaaDoorW.PrintLast
structure Opens (P : Program) (T : TypeId) {α : Type} (d : Kd α) (G : α → Prop) : Prop where
  size : P.cellsOf T = d.sz
  run : ∀ {H : Type} {enc : TypeId × Value → H} {w : World} {fuel : Nat} {cs : List Value} {x : DataW H × List MemPlace},
    DataW.trod enc P w 0 (fun _ => true) true fuel T cs = some x → (x.1.weights P T).all (· ≤ reachBytes) = true → ∃ a, d.K w a cs ∧ G a
section
variable {P : Program} {T : TypeId}
theorem Opens.int (k : IntKind) (hu : P.underlying T = some (.int k)) (hc : P.cellsOf T = 1) : Opens P T (Kd.int k) (fun n => (Lit.int k n).wf = true) :=
  ⟨hc, fun h _ => by
    obtain ⟨n, rfl, _, hw⟩ := DataW.trod_int hu h
    exact ⟨n, rfl, hw⟩⟩
theorem Opens.bool (hu : P.underlying T = some .bool) (hc : P.cellsOf T = 1) : Opens P T Kd.bool (fun _ => True) :=
  ⟨hc, fun h _ => by
    obtain ⟨n, rfl, _⟩ := DataW.trod_bool hu h
    exact ⟨n, rfl, trivial⟩⟩
theorem Opens.string (hu : P.underlying T = some .string) (hc : P.cellsOf T = 1) : Opens P T Kd.string (fun s => s.size ≤ 140737488351232) :=
  ⟨hc, fun h hw => by
    obtain ⟨s, rfl, rfl, hs⟩ := DataW.trod_string hu h
    refine ⟨s, rfl, ?_⟩
    have : s.data.toList.length ≤ reachBytes := by simpa [DataW.weights] using hw
    simpa [reachBytes] using this⟩
theorem cells_get {w : World} {base n : Nat} {a : Addr} {cs : List Value} (h : w.cells? base a n = some cs) : cs.length = n ∧ ∀ i u, cs[i]? = some u → w.cell? (a.add i) = some u := by
  unfold World.cells? at h
  split at h
  · have hl : cs.length = n := by simpa using mapM_some_length h
    refine ⟨hl, fun i u hu => ?_⟩
    have hi : i < n := by rw [← hl]; exact (List.getElem?_eq_some_iff.1 hu).1
    have := mapM_some_get h i i (by simp [hi])
    rw [this, hu]
  · cases h
theorem weightsAll_mem {H : Type} {e : TypeId} : ∀ {l : List (DataW H)} {d : DataW H}, d ∈ l → ∀ n ∈ d.weights P e, n ∈ DataW.weightsAll P e l
  | x :: r, d, h, n, hn => by
    rw [DataW.weightsAll]
    rcases List.mem_cons.1 h with rfl | h
    · exact List.mem_append_left _ hn
    · exact List.mem_append_right _ (weightsAll_mem h n hn)
theorem choose_list {α : Type} {Q : Nat → α → Prop} (n : Nat) (h : ∀ i, i < n → ∃ a, Q i a) : ∃ l : List α, l.length = n ∧ ∀ i a, l[i]? = some a → Q i a := by
  induction n with
  | zero => exact ⟨[], rfl, fun i a h => by simp at h⟩
  | succ n ih =>
    obtain ⟨l, hl, hq⟩ := ih (fun i hi => h i (by omega))
    obtain ⟨a, ha⟩ := h n (by omega)
    refine ⟨l ++ [a], by simp [hl], fun i b hb => ?_⟩
    rcases Nat.lt_or_ge i n with hi | hi
    · rw [List.getElem?_append_left (by omega)] at hb
      exact hq i b hb
    · have : i = n := by
        have := (List.getElem?_eq_some_iff.1 hb).1
        simp [hl] at this
        omega
      subst this
      rw [List.getElem?_append_right (by omega), hl] at hb
      simp at hb
      exact hb ▸ ha
theorem Opens.slice {e : TypeId} {α : Type} {d : Kd α} {G : α → Prop} (hu : P.underlying T = some (.slice e)) (hc : P.cellsOf T = 1) (he : Opens P e d G) (B : Nat) (hB : P.bytesOf e = B) :
    Opens P T (Kd.slice e d) (fun l => (∀ a ∈ l, G a) ∧ l.length * B ≤ 140737488351232 ∧ l.length ≤ maxLen) := by
  refine ⟨hc, fun {H} {enc} {w} {fuel} {cs} {x} h hw => ?_⟩
  rcases Go.Deep.open_slice hu h with ⟨rfl, _⟩ | ⟨a, len, cap, m, n, D, Pl, rfl, _, hl, hm, hmm, rfl, hx⟩
  · exact ⟨[], ⟨none, 0, rfl, Nat.le_refl _, rfl, by simp, fun h => by simp at h⟩, fun a h => by simp at h, by simp, by simp⟩
  · simp only [if_true] at hmm
    subst hmm
    have hw' : ∀ i, i < len → ((D i).weights P e).all (· ≤ reachBytes) = true := by
      intro i hi
      rw [List.all_eq_true] at hw ⊢
      intro z hz
      refine hw z ?_
      simp only [DataW.weights, hu]
      refine List.mem_cons_of_mem _ (List.mem_append_left _ (weightsAll_mem (d := D i) ?_ z hz))
      exact List.mem_map.2 ⟨i, by simpa using hi, rfl⟩
    have hlen : len * B ≤ 140737488351232 := by
      rw [List.all_eq_true] at hw
      have h1 := hw (((List.range len).map D).length * P.bytesOf e + ((List.range (m - len)).map fun j => D (len + j)).length * P.bytesOf e) (by
        simp only [DataW.weights, hu, Nat.add_mul]
        exact List.mem_cons_self)
      rw [hB] at h1
      simp [reachBytes] at h1
      omega
    obtain ⟨l, hll, hq⟩ := choose_list (Q := fun i a' => ∃ c, c.length = d.sz ∧ d.K w a' c ∧ (∀ j u, c[j]? = some u → w.cell? (a.add (i * d.sz + j)) = some u) ∧ G a') len (fun i hi => by
      obtain ⟨cs', hcs, ht⟩ := hx i (by omega)
      obtain ⟨a', hK, hG⟩ := he.run ht (hw' i hi)
      have hcg := cells_get hcs
      rw [he.size] at hcg
      refine ⟨a', cs', hcg.1, hK, fun j u hu => ?_, hG⟩
      have := hcg.2 j u hu
      rwa [add_add] at this)
    refine ⟨l, ⟨some a, m, by rw [hll], by omega, rfl, by rw [hll]; unfold maxLen at hm; omega, fun _ => ⟨a, rfl, fun j p hp => ?_⟩⟩, fun p hp => ?_, by rw [hll]; exact hlen, by rw [hll]; omega⟩
    · obtain ⟨c, h1, h2, h3, _⟩ := hq j p hp
      exact ⟨c, h1, h2, h3⟩
    · obtain ⟨j, hj⟩ := List.mem_iff_getElem?.1 hp
      obtain ⟨c, _, _, _, h4⟩ := hq j p hj
      exact h4
structure Fields (P : Program) (fs : List Field) (o : Nat) {α : Type} (d : Kd α) (G : α → Prop) : Prop where
  run : ∀ {H : Type} {enc : TypeId × Value → H} {w : World} {fuel : Nat} {cs : List Value} {xs : List (DataW H × List MemPlace)}, xs.length = fs.length →
    (∀ (i : Nat) (f : Field), fs[i]? = some f → DataW.trod enc P w 0 (fun _ => true) true fuel f.type ((cs.drop f.offset).take (P.cellsOf f.type)) = xs[i]?) →
    (DataW.weightsEach P (fs.map (·.type)) (xs.map (·.1))).all (· ≤ reachBytes) = true → cs.length = o + d.sz → ∃ a, d.K w a (cs.drop o) ∧ G a
theorem Fields.one {f : Field} {o : Nat} {α : Type} {d : Kd α} {G : α → Prop} (ho : f.offset = o) (h : Opens P f.type d G) : Fields P [f] o d G :=
  ⟨fun {H} {enc} {w} {fuel} {cs} {xs} hl ht hw hc => by
    match xs, hl with
    | [x], _ =>
      have h1 := ht 0 f rfl
      rw [ho, h.size, List.take_of_length_le (by rw [List.length_drop]; omega)] at h1
      refine h.run h1 ?_
      simpa [DataW.weightsEach] using hw⟩
theorem Fields.cons {f : Field} {fs : List Field} {o : Nat} {α β : Type} {d : Kd α} {d' : Kd β} {G : α → Prop} {G' : β → Prop} (ho : f.offset = o) (h : Opens P f.type d G) (h' : Fields P fs (o + d.sz) d' G') :
    Fields P (f :: fs) o (Kd.pair d d') (fun x => G x.1 ∧ G' x.2) :=
  ⟨fun {H} {enc} {w} {fuel} {cs} {xs} hl ht hw hc => by
    match xs, hl with
    | x :: xs, hl =>
      have h1 := ht 0 f rfl
      rw [ho, h.size] at h1
      have hsz : (Kd.pair d d').sz = d.sz + d'.sz := rfl
      rw [hsz] at hc
      simp only [List.map_cons, DataW.weightsEach, List.all_append, Bool.and_eq_true] at hw
      obtain ⟨a, ha, hG⟩ := h.run h1 hw.1
      obtain ⟨b, hb, hG'⟩ := h'.run (cs := cs) (xs := xs) (by simpa using hl) (fun i f hf => by simpa using ht (i + 1) f (by simpa using hf)) hw.2 (by omega)
      refine ⟨(a, b), ⟨(cs.drop o).take d.sz, cs.drop (o + d.sz), ?_, ha, hb⟩, hG, hG'⟩
      rw [← List.drop_drop, List.take_append_drop]⟩
theorem Opens.struct {fs : Array Field} {α : Type} {d : Kd α} {G : α → Prop} (hu : P.underlying T = some (.struct fs)) (hc : P.cellsOf T = d.sz) (h : Fields P fs.toList 0 d G) : Opens P T d G :=
  ⟨hc, fun {H} {enc} {w} {fuel} {cs} {x} ht hw => by
    obtain ⟨xs, n, _, rfl, hl, hxl, hf⟩ := DataW.trod_struct hu ht
    obtain ⟨a, ha, hG⟩ := h.run (cs := cs) (xs := xs) (by simpa using hxl) (fun i f hi => hf i f (by simpa using hi)) (by simpa [DataW.weights, hu] using hw) (by omega)
    exact ⟨a, by simpa using ha, hG⟩⟩
theorem Opens.iso {α β : Type} {d : Kd α} {G : α → Prop} (h : Opens P T d G) (f : β → α) (g : α → β) (hfg : ∀ a, f (g a) = a) : Opens P T (Kd.iso d f) (fun b => G (f b)) :=
  ⟨h.size, fun ht hw => by
    obtain ⟨a, ha, hG⟩ := h.run ht hw
    exact ⟨g a, by show d.K _ (f (g a)) _; rw [hfg]; exact ha, by show G (f (g a)); rw [hfg]; exact hG⟩⟩
end
end Go.Proofs.YtndicjikjcifaaaDoor

/- tusklaw04.Own, tuskref04.Same in a form of one line each; what a transaction argument is. -/
namespace Go.Proofs.YtndicjikjcifaaaDoor
open Go.RowKit Go.Shelf Go.Lib Go.Proofs.YtndicjikjcifaaaDoorW.PrintWords Go.Proofs.YtndicjikjcifaaaDoorW.PrintLast
open Go.Proofs.YtndicjikjcifaaaDoor.POw
set_option linter.unusedVariables false
set_option linter.unusedSimpArgs false
theorem opensStr : Opens Tryd.prog 9 Kd.string (fun s => s.size ≤ 140737488351232) := Opens.string Tryd.underlying9 (by kernel_rfl)
theorem opensStrs : Opens Tryd.prog 31 (Kd.slice 9 Kd.string) (fun l => (∀ a ∈ l, a.size ≤ 140737488351232) ∧ l.length * 16 ≤ 140737488351232 ∧ l.length ≤ maxLen) :=
  Opens.slice Tryd.underlying31 (by kernel_rfl) opensStr 16 (by kernel_rfl)
theorem opensInt : Opens Tryd.prog 3 (Kd.int .i64) (fun n => (Lit.int .i64 n).wf = true) := Opens.int .i64 Tryd.underlying3 (by kernel_rfl)
theorem opensU64 : Opens Tryd.prog 30 (Kd.int .u64) (fun n => (Lit.int .u64 n).wf = true) := Opens.int .u64 Tryd.underlying30 (by kernel_rfl)
abbrev kTx := Kd.pair (Kd.int .i64) (Kd.pair Kd.string (Kd.pair Kd.string (Kd.pair (Kd.int .u64) (Kd.pair (Kd.int .u64) (Kd.pair Kd.string (Kd.pair Kd.string (Kd.pair (Kd.slice 9 Kd.string) (Kd.slice 9 Kd.string))))))))
structure TxIn (w : World) (k : Int) (f t : ByteArray) (am nc : Int) (ky' vl : ByteArray) (A B : Option Addr) (c d : Nat) (rs ws : List ByteArray) : Prop where
  r : Kd.C Kd.string w A rs.length rs
  rc : rs.length ≤ c
  s : Kd.C Kd.string w B ws.length ws
  sc : ws.length ≤ d
  am : 0 ≤ am
  nc : 0 ≤ nc
  rl : rs.length * 16 ≤ 140737488351232
  sl : ws.length * 16 ≤ 140737488351232
  f : f.size ≤ 140737488351232
  t : t.size ≤ 140737488351232
  ky : ky'.size ≤ 140737488351232
  vl : vl.size ≤ 140737488351232
  rz : ∀ a ∈ rs, a.size ≤ 140737488351232
  sz : ∀ a ∈ ws, a.size ≤ 140737488351232
theorem TxIn.below {w w' : World} {k : Int} {f t : ByteArray} {am nc : Int} {ky' vl : ByteArray} {A B : Option Addr} {c d : Nat} {rs ws : List ByteArray} (h : TxIn w k f t am nc ky' vl A B c d rs ws) (hb : Below w.heap.size w w') : TxIn w' k f t am nc ky' vl A B c d rs ws :=
  { h with r := Kd.C_below h.r hb, s := Kd.C_below h.s hb }
theorem u64_lo {n : Int} (h : (Lit.int .u64 n).wf = true) : 0 ≤ n := ((Lit.wf_int_iff .u64 n).1 h).1
end Go.Proofs.YtndicjikjcifaaaDoor

/- The sealers' answers, case by case; an operation (a tick, or a transaction to add) as it came in; Own's copies and what they lead to. -/
namespace Go.Proofs.YtndicjikjcifaaaDoor
open Go.RowKit Go.Proofs.YtndicjikjcifaaaDoorW.PrintWords Go.Proofs.YtndicjikjcifaaaDoorW.PrintLast
open PB (S33 k33)
set_option linter.unusedVariables false
set_option linter.unusedSimpArgs false
abbrev sl6 (a0 s0 t0 : Int) (A : Option Addr) (n c : Nat) (k0 n0 : Int) : List Value := [.int .i64 a0, .int .i64 s0, .int .i64 t0, .slice A n c, .int .i64 k0, .int .i64 n0]
section
variable {T : TypeId} {z a0 s0 t0 k0 n0 : Int} {g : Nat} {A : Option Addr} {c : Nat} {xs : List S33} {ok : Nat → Prop} {t : S33} {w : World} {Sf Rf : Nat → Prop} {M : List Asn} {e : Ending} {W : World}
theorem AddP.no (h : AddP T z g a0 s0 t0 k0 n0 A c xs ok t w Sf Rf M e W) (hz : z ≠ 0) : e = .returned (.int .i64 z) ∧ St w Sf Rf (Asn.blk g (sl6 a0 s0 t0 A xs.length c k0 n0) T :: Asn.qu k33 33 (.slice A xs.length c) xs ok :: M) W := by
  rcases h with ⟨_, h1, h2⟩ | ⟨h0, _⟩ | ⟨h0, _⟩
  · exact ⟨h1, h2⟩
  · exact absurd h0 hz
  · exact absurd h0 hz
theorem AddP.full (h : AddP T z g a0 s0 t0 k0 n0 A c xs ok t w Sf Rf M e W) (hz : z = 0) (hf : (xs.length : Int) ≥ 4 * s0) : e = .returned (.int .i64 4) ∧ St w Sf Rf (Asn.blk g (sl6 a0 s0 t0 A xs.length c k0 n0) T :: Asn.qu k33 33 (.slice A xs.length c) xs ok :: M) W := by
  rcases h with ⟨h0, _⟩ | ⟨_, _, h1, h2⟩ | ⟨_, h0, _⟩
  · exact absurd hz h0
  · exact ⟨h1, h2⟩
  · exact absurd hf h0
theorem AddP.in_ (h : AddP T z g a0 s0 t0 k0 n0 A c xs ok t w Sf Rf M e W) (hz : z = 0) (hf : ¬ (xs.length : Int) ≥ 4 * s0) : e = .returned (.int .i64 0) ∧ ∃ A' c' ok', St w Sf Rf (Asn.blk g (sl6 a0 s0 t0 A' (xs ++ [t]).length c' k0 n0) T :: Asn.qu k33 33 (.slice A' (xs ++ [t]).length c') (xs ++ [t]) ok' :: M) W := by
  rcases h with ⟨h0, _⟩ | ⟨_, h0, _⟩ | ⟨_, _, h1, h2⟩
  · exact absurd hz h0
  · exact absurd h0 hf
  · exact ⟨h1, h2⟩
abbrev cutA (A : Option Addr) (c m : Nat) : Option Addr := if c = m then A else A.map (·.add (m * 9))
theorem Ticked.none (h : Ticked g a0 s0 t0 k0 n0 A c xs ok w Sf Rf e W) (h0 : xs.length = 0) : e = .returned (.tuple #[.agg #[.int .i64 0, .int .i64 0, .slice Option.none 0 0], .bool false]) ∧ St w Sf Rf [Asn.blk g (sl6 a0 s0 t0 A xs.length c k0 n0) 72, Asn.qu k33 33 (.slice A xs.length c) xs ok] W := by
  rcases h with ⟨_, h1, h2⟩ | ⟨h1, _⟩ | ⟨h1, _⟩
  · exact ⟨h1, h2⟩
  · exact absurd h0 h1
  · exact absurd h0 h1
theorem Ticked.wait (h : Ticked g a0 s0 t0 k0 n0 A c xs ok w Sf Rf e W) (h0 : xs.length ≠ 0) (hw : (xs.length : Int) < s0 ∧ k0 + 1 < t0) : e = .returned (.tuple #[.agg #[.int .i64 0, .int .i64 0, .slice Option.none 0 0], .bool false]) ∧ St w Sf Rf [Asn.blk g (sl6 a0 s0 t0 A xs.length c (k0 + 1) n0) 72, Asn.qu k33 33 (.slice A xs.length c) xs ok] W := by
  rcases h with ⟨h1, _⟩ | ⟨_, _, _, h1, h2⟩ | ⟨_, h1, _⟩
  · exact absurd h1 h0
  · exact ⟨h1, h2⟩
  · exact absurd hw h1
theorem Ticked.seal (h : Ticked g a0 s0 t0 k0 n0 A c xs ok w Sf Rf e W) (h0 : xs.length ≠ 0) (hw : ¬ ((xs.length : Int) < s0 ∧ k0 + 1 < t0)) (m : Nat) (hm : (m : Int) = min s0 (xs.length : Int)) : e = .returned (.tuple #[.agg #[.int .i64 a0, .int .i64 (n0 + 1), .slice A (xs.take m).length m], .bool true]) ∧
    St w Sf Rf [Asn.blk g (sl6 a0 s0 t0 (cutA A c m) (xs.drop m).length (c - m) 0 (n0 + 1)) 72, Asn.qf k33 33 (.slice (cutA A c m) (xs.drop m).length (c - m)) (xs.drop m) ok A (xs.take m).length (xs.take m)] W := by
  rcases h with ⟨h1, _⟩ | ⟨_, h1, h2, _⟩ | ⟨_, _, m', hm', h1, h2⟩
  · exact absurd h1 h0
  · exact absurd ⟨h1, h2⟩ hw
  · obtain rfl : m = m' := by omega
    rw [List.length_take, List.length_drop, Nat.min_eq_left (by omega)]
    exact ⟨h1, h2⟩
theorem RTicked.none (h : RTicked g a0 s0 t0 k0 n0 A c xs ok w Sf Rf e W) (h0 : xs.length = 0) : e = .returned (.tuple #[.agg #[.int .i64 0, .int .i64 0, .slice Option.none 0 0], .bool false]) ∧ St w Sf Rf [Asn.blk g (sl6 a0 s0 t0 A xs.length c k0 n0) 46, Asn.qu k33 33 (.slice A xs.length c) xs ok] W := by
  rcases h with ⟨_, h1, h2⟩ | ⟨h1, _⟩ | ⟨h1, _⟩
  · exact ⟨h1, h2⟩
  · exact absurd h0 h1
  · exact absurd h0 h1
theorem RTicked.wait (h : RTicked g a0 s0 t0 k0 n0 A c xs ok w Sf Rf e W) (h0 : xs.length ≠ 0) (hw : (xs.length : Int) < s0 ∧ k0 + 1 < t0) : e = .returned (.tuple #[.agg #[.int .i64 0, .int .i64 0, .slice Option.none 0 0], .bool false]) ∧ St w Sf Rf [Asn.blk g (sl6 a0 s0 t0 A xs.length c (k0 + 1) n0) 46, Asn.qu k33 33 (.slice A xs.length c) xs ok] W := by
  rcases h with ⟨h1, _⟩ | ⟨_, _, _, h1, h2⟩ | ⟨_, h1, _⟩
  · exact absurd h1 h0
  · exact ⟨h1, h2⟩
  · exact absurd hw h1
theorem RTicked.seal (h : RTicked g a0 s0 t0 k0 n0 A c xs ok w Sf Rf e W) (h0 : xs.length ≠ 0) (hw : ¬ ((xs.length : Int) < s0 ∧ k0 + 1 < t0)) (m : Nat) (hm : (m : Int) = min s0 (xs.length : Int)) : ∃ (A' : Option Addr) (c' : Nat) (ok' : Nat → Prop), (xs.take m).length ≤ c' ∧ e = .returned (.tuple #[.agg #[.int .i64 a0, .int .i64 (n0 + 1), .slice A' (xs.take m).length c'], .bool true]) ∧
    St w Sf Rf [Asn.blk g (sl6 a0 s0 t0 (cutA A c m) (xs.drop m).length (c - m) 0 (n0 + 1)) 46, Asn.qu k33 33 (.slice (cutA A c m) (xs.drop m).length (c - m)) (xs.drop m) ok, Asn.rd k33 ok' A' (xs.take m).length (xs.take m)] W := by
  rcases h with ⟨h1, _⟩ | ⟨_, h1, h2, _⟩ | ⟨_, _, m', A', c', ok', hm', h1, h2, h3⟩
  · exact absurd h1 h0
  · exact absurd ⟨h1, h2⟩ hw
  · obtain rfl : m = m' := by omega
    rw [List.length_drop]
    exact ⟨A', c', ok', h1, h2, h3⟩
theorem SealNew.is (h : SealNew T a0 s0 t0 w e W) (hk : SealOk a0 s0 t0) : ∃ g, e = .returned (.tuple #[.pointer (some ⟨g, 0, none⟩), .int .i64 0]) ∧ w.heap.size ≤ g ∧ W.heap[g]? = some (.cells (sl6 a0 s0 t0 Option.none 0 0 0 0).toArray T (0, 0)) ∧ Below w.heap.size w W := h.1 hk
theorem SealNew.no (h : SealNew T a0 s0 t0 w e W) (hk : ¬ SealOk a0 s0 t0) : e = .returned (.tuple #[.pointer Option.none, .int .i64 2]) ∧ Below w.heap.size w W := h.2 hk
theorem St.newBlk {w W W' : World} {S R : Nat → Prop} {M : List Asn} {g : Nat} {cs : List Value} {T : TypeId} (H : St w S R M W) (hb : Below W.heap.size W W') (hg : W.heap.size ≤ g) (h : W'.heap[g]? = some (.cells cs.toArray T (0, 0))) : St w S R (M ++ [Asn.blk g cs T]) W' :=
  H.fresh hb _ h (fun k hk => by
    rcases hk with hk | hk
    · exact (show k = g from hk) ▸ ⟨hg, blk_lt h⟩
    · cases hk)
end
abbrev kOp : Kd (Bool × S33) := Kd.pair Kd.bool k33
theorem kOp_heap : Kd.Heap kOp := Kd.heap_pair Kd.heap_bool k33_heap
theorem kOp_open {w : World} {b : Bool} {x : S33} {cs : List Value} (h : kOp.K w (b, x) cs) : ∃ A7 c7 A8 c8, cs = [.bool b, .int .i64 x.f0, .string x.f1, .string x.f2, .int .u64 x.f3, .int .u64 x.f4, .string x.f5, .string x.f6, .slice A7 x.f7.length c7, .slice A8 x.f8.length c8] := by
  obtain ⟨c0, c1, rfl, h0, h1⟩ := h
  obtain ⟨A7, c7, A8, c8, rfl, _⟩ := PB.k33_open h1
  have h0 : c0 = [.bool b] := h0
  subst h0
  exact ⟨A7, c7, A8, c8, rfl⟩
theorem kOp_tx {w : World} {b : Bool} {x : S33} {cs : List Value} (h : kOp.K w (b, x) (.bool b :: cs)) : k33.K w x cs := by
  obtain ⟨c0, c1, he, h0, h1⟩ := h
  have h0 : c0 = [.bool b] := h0
  subst h0
  simp only [List.singleton_append, List.cons.injEq, true_and] at he
  exact he ▸ h1
theorem k33_C_heap {w : World} {A : Option Addr} {n : Nat} {l : List (Bool × S33)} (h : kOp.C w A n l) : Foot (fun W => kOp.C W A n l) w (fun k => k < w.heap.size) := fun W' hW => kOp_heap.C (fun k hk => hW k hk hk) h
theorem ownF_calls (t : S33) (A B : Option Addr) (c d : Nat) (w : World) (hK : k33.K w t [.int .i64 t.f0, .string t.f1, .string t.f2, .int .u64 t.f3, .int .u64 t.f4, .string t.f5, .string t.f6, .slice A t.f7.length c, .slice B t.f8.length d]) (h1 : t.f7.length < 8796093022208) (h2 : t.f8.length < 8796093022208) :
    Calls Tryd.prog 19 #[.agg #[.int .i64 t.f0, .string t.f1, .string t.f2, .int .u64 t.f3, .int .u64 t.f4, .string t.f5, .string t.f6, .slice A t.f7.length c, .slice B t.f8.length d]] w
      fun e w' => ∃ A' c' B' d', e = .returned (.agg #[.int .i64 t.f0, .string t.f1, .string t.f2, .int .u64 t.f3, .int .u64 t.f4, .string t.f5, .string t.f6, .slice A' t.f7.length c', .slice B' t.f8.length d'])
        ∧ Foot (fun W => k33.K W t [.int .i64 t.f0, .string t.f1, .string t.f2, .int .u64 t.f3, .int .u64 t.f4, .string t.f5, .string t.f6, .slice A' t.f7.length c', .slice B' t.f8.length d']) w' (fun k => w.heap.size ≤ k) ∧ Below w.heap.size w w' := by
  obtain ⟨l7, g7, l8, g8⟩ := k33_parts hK
  refine (POw.tusklaw04_Own.calls t.f0 t.f1 t.f2 t.f3 t.f4 t.f5 t.f6 A c t.f7 B d t.f8 t.f0 t.f1 t.f2 t.f3 t.f4 t.f5 t.f6 t.f7 t.f8 w g7 l7 g8 l8 ?_).mono ?_
  · simp [POw.tusklaw04_Own.f, h1, h2]
  · rintro e w' ⟨v7, v8, rfl, r7, r8, hb⟩
    obtain ⟨A', c', rfl, q1, q2⟩ := Kd.R_reads r7
    obtain ⟨B', d', rfl, q3, q4⟩ := Kd.R_reads r8
    exact ⟨A', c', B', d', rfl, fk_tx t q1 (Foot.mono (Kd.R_F (Kd.R_bound r7)) (fun k hk => hk.2.1)) q3 (Foot.mono (Kd.R_F (Kd.R_bound r8)) (fun k hk => hk.2.1)), hb⟩
def OpB (o : Bool × S33) : Prop := LimT o.2 ∧ o.2.f7.length < 8796093022208 ∧ o.2.f8.length < 8796093022208
theorem chT_len {t : S33} (h : chT t = 0) : LenT t := by
  have hF := ch_fine (show ch t.f0 t.f1 t.f2 t.f3 t.f4 t.f5 t.f6 t.f7 t.f8 = 0 from h)
  have h7 := (ke_zero hF.rs).1
  have h8 := (ke_zero hF.ws).1
  exact ⟨by omega, by omega⟩
end Go.Proofs.YtndicjikjcifaaaDoor

namespace Go.Proofs.YtndicjikjcifaaaDoor.PFt
open Go.RowKit Go.Proofs.YtndicjikjcifaaaDoorW.PrintWords Go.Proofs.YtndicjikjcifaaaDoorW.PrintLast Go.Proofs.YtndicjikjcifaaaDoorW.PrintMore
attribute [local go_sem] max2_int min2_int max_two min_two max_three min_three max_four min_four   -- for this text's walks alone
set_option linter.unusedVariables false
set_option linter.unusedSimpArgs false
def errW : Option Int → Value
  | none => .nilIface
  | some c => .iface 0 (.int .i64 c)
theorem errW_none : errW none = .nilIface := rfl
theorem errW_some (c : Int) : errW (some c) = .iface 0 (.int .i64 c) := rfl
-- the values' own types
/-! #### struct type 33 -/
structure S33 where
  f0 : Int
  f1 : ByteArray
  f2 : ByteArray
  f3 : Int
  f4 : Int
  f5 : ByteArray
  f6 : ByteArray
  f7 : (List ByteArray)
  f8 : (List ByteArray)
def z33 : S33 := ⟨(0 : Int), (⟨#[]⟩ : ByteArray), (⟨#[]⟩ : ByteArray), (0 : Int), (0 : Int), (⟨#[]⟩ : ByteArray), (⟨#[]⟩ : ByteArray), ([] : List ByteArray), ([] : List ByteArray)⟩
def k33 : Kd S33 := Kd.iso (Kd.pair (Kd.int .i64) (Kd.pair Kd.string (Kd.pair Kd.string (Kd.pair (Kd.int .u64) (Kd.pair (Kd.int .u64) (Kd.pair Kd.string (Kd.pair Kd.string (Kd.pair (Kd.slice 9 Kd.string) (Kd.slice 9 Kd.string))))))))) (fun x : S33 => (x.f0, x.f1, x.f2, x.f3, x.f4, x.f5, x.f6, x.f7, x.f8))
theorem k33_open {w : World} {x : S33} {cs : List Value} (h : k33.K w x cs) : ∃ A7 c7 A8 c8, cs = [.int .i64 x.f0, .string x.f1, .string x.f2, .int .u64 x.f3, .int .u64 x.f4, .string x.f5, .string x.f6, .slice A7 x.f7.length c7, .slice A8 x.f8.length c8] ∧ x.f7.length ≤ c7 ∧ Kd.string.C w A7 x.f7.length x.f7 ∧ x.f8.length ≤ c8 ∧ Kd.string.C w A8 x.f8.length x.f8 := by
  obtain ⟨_, _, rfl, rfl, ⟨_, _, rfl, rfl, ⟨_, _, rfl, rfl, ⟨_, _, rfl, rfl, ⟨_, _, rfl, rfl, ⟨_, _, rfl, rfl, ⟨_, _, rfl, rfl, ⟨_, _, rfl, ⟨A7, c7, rfl, l7, g7⟩, ⟨A8, c8, rfl, l8, g8⟩⟩⟩⟩⟩⟩⟩⟩⟩ := h
  exact ⟨A7, c7, A8, c8, rfl, l7, g7, l8, g8⟩
theorem k33_mk (w : World) (x : S33) {A7 : Option Addr} {c7 : Nat} (l7 : x.f7.length ≤ c7) (g7 : Kd.string.C w A7 x.f7.length x.f7) {A8 : Option Addr} {c8 : Nat} (l8 : x.f8.length ≤ c8) (g8 : Kd.string.C w A8 x.f8.length x.f8) : k33.K w x [.int .i64 x.f0, .string x.f1, .string x.f2, .int .u64 x.f3, .int .u64 x.f4, .string x.f5, .string x.f6, .slice A7 x.f7.length c7, .slice A8 x.f8.length c8] := ⟨[.int .i64 x.f0], [.string x.f1, .string x.f2, .int .u64 x.f3, .int .u64 x.f4, .string x.f5, .string x.f6, .slice A7 x.f7.length c7, .slice A8 x.f8.length c8], rfl, rfl, ⟨[.string x.f1], [.string x.f2, .int .u64 x.f3, .int .u64 x.f4, .string x.f5, .string x.f6, .slice A7 x.f7.length c7, .slice A8 x.f8.length c8], rfl, rfl, ⟨[.string x.f2], [.int .u64 x.f3, .int .u64 x.f4, .string x.f5, .string x.f6, .slice A7 x.f7.length c7, .slice A8 x.f8.length c8], rfl, rfl, ⟨[.int .u64 x.f3], [.int .u64 x.f4, .string x.f5, .string x.f6, .slice A7 x.f7.length c7, .slice A8 x.f8.length c8], rfl, rfl, ⟨[.int .u64 x.f4], [.string x.f5, .string x.f6, .slice A7 x.f7.length c7, .slice A8 x.f8.length c8], rfl, rfl, ⟨[.string x.f5], [.string x.f6, .slice A7 x.f7.length c7, .slice A8 x.f8.length c8], rfl, rfl, ⟨[.string x.f6], [.slice A7 x.f7.length c7, .slice A8 x.f8.length c8], rfl, rfl, ⟨[.slice A7 x.f7.length c7], [.slice A8 x.f8.length c8], rfl, ⟨A7, c7, rfl, l7, g7⟩, ⟨A8, c8, rfl, l8, g8⟩⟩⟩⟩⟩⟩⟩⟩⟩
theorem k33_mkM (w : World) (base : Nat) (ok : Nat → Prop) (x : S33) {v7 : Value} (g7 : Kd.string.R 9 w base ok v7 x.f7) {v8 : Value} (g8 : Kd.string.R 9 w base ok v8 x.f8) : k33.M w base ok x [.int .i64 x.f0, .string x.f1, .string x.f2, .int .u64 x.f3, .int .u64 x.f4, .string x.f5, .string x.f6, v7, v8] := ⟨[.int .i64 x.f0], [.string x.f1, .string x.f2, .int .u64 x.f3, .int .u64 x.f4, .string x.f5, .string x.f6, v7, v8], rfl, rfl, ⟨[.string x.f1], [.string x.f2, .int .u64 x.f3, .int .u64 x.f4, .string x.f5, .string x.f6, v7, v8], rfl, rfl, ⟨[.string x.f2], [.int .u64 x.f3, .int .u64 x.f4, .string x.f5, .string x.f6, v7, v8], rfl, rfl, ⟨[.int .u64 x.f3], [.int .u64 x.f4, .string x.f5, .string x.f6, v7, v8], rfl, rfl, ⟨[.int .u64 x.f4], [.string x.f5, .string x.f6, v7, v8], rfl, rfl, ⟨[.string x.f5], [.string x.f6, v7, v8], rfl, rfl, ⟨[.string x.f6], [v7, v8], rfl, rfl, ⟨[v7], [v8], rfl, ⟨v7, rfl, g7⟩, ⟨v8, rfl, g8⟩⟩⟩⟩⟩⟩⟩⟩⟩
def rd_T33 (xs : List S33) (i : Int) : S33 := xs.getD i.toNat z33
theorem at_T33 {w : World} {A : Option Addr} {n : Nat} {xs : List S33} (h : Kd.C k33 w A n xs) (i : Int) (h0 : 0 ≤ i) (h1 : i < n) : ∃ ad A7 c7 A8 c8, A = some ad ∧ w.cell? (ad.add (i.toNat * 9)) = some (.int .i64 (rd_T33 xs i).f0) ∧ w.cell? ⟨(ad.add (i.toNat * 9)).block, (ad.add (i.toNat * 9)).off + 1, none⟩ = some (.string (rd_T33 xs i).f1) ∧ w.cell? ⟨(ad.add (i.toNat * 9)).block, (ad.add (i.toNat * 9)).off + 2, none⟩ = some (.string (rd_T33 xs i).f2) ∧ w.cell? ⟨(ad.add (i.toNat * 9)).block, (ad.add (i.toNat * 9)).off + 3, none⟩ = some (.int .u64 (rd_T33 xs i).f3) ∧ w.cell? ⟨(ad.add (i.toNat * 9)).block, (ad.add (i.toNat * 9)).off + 4, none⟩ = some (.int .u64 (rd_T33 xs i).f4) ∧ w.cell? ⟨(ad.add (i.toNat * 9)).block, (ad.add (i.toNat * 9)).off + 5, none⟩ = some (.string (rd_T33 xs i).f5) ∧ w.cell? ⟨(ad.add (i.toNat * 9)).block, (ad.add (i.toNat * 9)).off + 6, none⟩ = some (.string (rd_T33 xs i).f6) ∧ w.cell? ⟨(ad.add (i.toNat * 9)).block, (ad.add (i.toNat * 9)).off + 7, none⟩ = some (.slice A7 (rd_T33 xs i).f7.length c7) ∧ w.cell? ⟨(ad.add (i.toNat * 9)).block, (ad.add (i.toNat * 9)).off + 8, none⟩ = some (.slice A8 (rd_T33 xs i).f8.length c8) ∧ (rd_T33 xs i).f7.length ≤ c7 ∧ Kd.string.C w A7 (rd_T33 xs i).f7.length (rd_T33 xs i).f7 ∧ (rd_T33 xs i).f8.length ≤ c8 ∧ Kd.string.C w A8 (rd_T33 xs i).f8.length (rd_T33 xs i).f8 := by
  obtain ⟨ad, c, e, _, hK, hc0⟩ := Kd.C_get h z33 i h0 h1
  have hc : ∀ j u, c[j]? = some u → w.cell? (ad.add (i.toNat * 9 + j)) = some u := hc0
  obtain ⟨A7, c7, A8, c8, rfl, l7, g7, l8, g8⟩ := k33_open hK
  exact ⟨ad, A7, c7, A8, c8, e, hc 0 _ rfl, by rw [← add_field _ _ 1 (by omega)]; exact hc 1 _ rfl, by rw [← add_field _ _ 2 (by omega)]; exact hc 2 _ rfl, by rw [← add_field _ _ 3 (by omega)]; exact hc 3 _ rfl, by rw [← add_field _ _ 4 (by omega)]; exact hc 4 _ rfl, by rw [← add_field _ _ 5 (by omega)]; exact hc 5 _ rfl, by rw [← add_field _ _ 6 (by omega)]; exact hc 6 _ rfl, by rw [← add_field _ _ 7 (by omega)]; exact hc 7 _ rfl, by rw [← add_field _ _ 8 (by omega)]; exact hc 8 _ rfl, l7, g7, l8, g8⟩
end Go.Proofs.YtndicjikjcifaaaDoor.PFt

namespace Go.Proofs.YtndicjikjcifaaaDoor.PFt
open Go.RowKit Go.Proofs.YtndicjikjcifaaaDoorW.PrintWords Go.Proofs.YtndicjikjcifaaaDoorW.PrintLast Go.Proofs.YtndicjikjcifaaaDoorW.PrintMore
attribute [local go_sem] max2_int min2_int max_two min_two max_three min_three max_four min_four   -- for this text's walks alone
set_option linter.unusedVariables false
set_option linter.unusedSimpArgs false
/-! ### tx_Needs: function 44 -/
-- IMPORT Derived.Test.YtndicjikjcifaaaDoorTxneed
/-! ### slices_Index_string_string: function 95 -/
def slices_Index_string_string.l0 : Nat → List ByteArray → ByteArray → Int → Int → Option (Int)
  | 0, _, _, _, _ => none
  | k + 1, x0, x1, x7, x8 => if x8 < x7 then (if 0 ≤ x8 then (if x8 < (x0.length : Int) then (if x1.toList = (rdOf ByteArray.empty x0 x8).toList then (some x8) else (slices_Index_string_string.l0 k x0 x1 x7 (wrap64 (x8 + 1)))) else (none)) else (none)) else (some (-1))
def slices_Index_string_string.f (k : Nat) (l0 : List ByteArray) (a1 : ByteArray) : Option (Int) := slices_Index_string_string.l0 k l0 a1 (l0.length : Int) 0
theorem slices_Index_string_string.mono_l : ∀ k, (∀ y0 y1 y2 y3, LeO (slices_Index_string_string.l0 k y0 y1 y2 y3) (slices_Index_string_string.l0 (k + 1) y0 y1 y2 y3))
  | 0 => fun _ _ _ _ r h => by simp [slices_Index_string_string.l0] at h
  | k + 1 => by
    have ih0 := slices_Index_string_string.mono_l k
    · intro y0 y1 y2 y3
      unfold slices_Index_string_string.l0
      repeat' first
      | (with_reducible exact ih0 _ _ _ _)
      | (with_reducible exact LeO.refl _)
      | (with_reducible exact LeO.none _)
      | (with_reducible refine LeO.ite ?_ ?_)
      | (with_reducible refine LeO.bind ?_ (fun _ => ?_))
      | exact ih0 _ _ _ _
      | exact LeO.none _
      | refine LeO.ite ?_ ?_
      | refine LeO.bind ?_ (fun _ => ?_)
theorem slices_Index_string_string.mono : ∀ a0 a1 k, LeO (slices_Index_string_string.f k a0 a1) (slices_Index_string_string.f (k + 1) a0 a1) := by
  intro a0 a1 k
  have ih0 := slices_Index_string_string.mono_l k
  unfold slices_Index_string_string.f
  repeat' first
      | (with_reducible exact ih0 _ _ _ _)
      | (with_reducible exact LeO.refl _)
      | (with_reducible exact LeO.none _)
      | (with_reducible refine LeO.ite ?_ ?_)
      | (with_reducible refine LeO.bind ?_ (fun _ => ?_))
      | exact ih0 _ _ _ _
      | exact LeO.none _
      | refine LeO.ite ?_ ?_
      | refine LeO.bind ?_ (fun _ => ?_)
/-! ### slices_Contains_string_string: function 76 -/
def slices_Contains_string_string.f (k : Nat) (l0 : List ByteArray) (a1 : ByteArray) : Option (Bool) := (slices_Index_string_string.f k l0 a1).bind fun t102 => (some (decide (t102 ≥ 0)))
theorem slices_Contains_string_string.mono : ∀ a0 a1 k, LeO (slices_Contains_string_string.f k a0 a1) (slices_Contains_string_string.f (k + 1) a0 a1) := by
  intro a0 a1 k
  unfold slices_Contains_string_string.f
  repeat' first
      | (with_reducible exact slices_Index_string_string.mono _ _ _)
      | (with_reducible exact LeO.refl _)
      | (with_reducible exact LeO.none _)
      | (with_reducible refine LeO.ite ?_ ?_)
      | (with_reducible refine LeO.bind ?_ (fun _ => ?_))
      | exact slices_Index_string_string.mono _ _ _
      | exact LeO.none _
      | refine LeO.ite ?_ ?_
      | refine LeO.bind ?_ (fun _ => ?_)
/-! ### tx_Fits: function 46 -/
def tx_Fits.l0 : Nat → List ByteArray → List ByteArray → Int → Int → Int → ByteArray → ByteArray → Int → Int → ByteArray → ByteArray → List ByteArray → List ByteArray → Option (Bool)
  | 0, _, _, _, _, _, _, _, _, _, _, _, _, _ => none
  | k + 1, x3, x8, x9, x10, x104000, x104001, x104002, x104003, x104004, x104005, x104006, x104007, x104008 => if x10 < x9 then (if 0 ≤ x10 then (if x10 < (x8.length : Int) then ((slices_Contains_string_string.f k x104008 (rdOf ByteArray.empty x8 x10)).bind fun t108 => (if t108 = true then (tx_Fits.l0 k x3 x8 x9 (wrap64 (x10 + 1)) x104000 x104001 x104002 x104003 x104004 x104005 x104006 x104007 x104008) else (some false))) else (none)) else (none)) else (some (decide ((x3.length : Int) > 0)))
def tx_Fits.f (k : Nat) (a0_0 : Int) (a0_1 : ByteArray) (a0_2 : ByteArray) (a0_3 : Int) (a0_4 : Int) (a0_5 : ByteArray) (a0_6 : ByteArray) (l0_7 : List ByteArray) (l0_8 : List ByteArray) : Option (Bool) := (tx_Needs.f a0_0 a0_1 a0_2 a0_3 a0_4 a0_5 a0_6 l0_7 l0_8).bind fun t104 => (tx_Fits.l0 k t104 t104 (t104.length : Int) 0 a0_0 a0_1 a0_2 a0_3 a0_4 a0_5 a0_6 l0_7 l0_8)
theorem tx_Fits.mono_l : ∀ k, (∀ y0 y1 y2 y3 y4 y5 y6 y7 y8 y9 y10 y11 y12, LeO (tx_Fits.l0 k y0 y1 y2 y3 y4 y5 y6 y7 y8 y9 y10 y11 y12) (tx_Fits.l0 (k + 1) y0 y1 y2 y3 y4 y5 y6 y7 y8 y9 y10 y11 y12))
  | 0 => fun _ _ _ _ _ _ _ _ _ _ _ _ _ r h => by simp [tx_Fits.l0] at h
  | k + 1 => by
    have ih0 := tx_Fits.mono_l k
    · intro y0 y1 y2 y3 y4 y5 y6 y7 y8 y9 y10 y11 y12
      unfold tx_Fits.l0
      repeat' first
      | (with_reducible exact ih0 _ _ _ _ _ _ _ _ _ _ _ _ _)
      | (with_reducible exact slices_Contains_string_string.mono _ _ _)
      | (with_reducible exact LeO.refl _)
      | (with_reducible exact LeO.none _)
      | (with_reducible refine LeO.ite ?_ ?_)
      | (with_reducible refine LeO.bind ?_ (fun _ => ?_))
      | exact ih0 _ _ _ _ _ _ _ _ _ _ _ _ _
      | exact slices_Contains_string_string.mono _ _ _
      | exact LeO.none _
      | refine LeO.ite ?_ ?_
      | refine LeO.bind ?_ (fun _ => ?_)
theorem tx_Fits.mono : ∀ a0 a1 a2 a3 a4 a5 a6 a7 a8 k, LeO (tx_Fits.f k a0 a1 a2 a3 a4 a5 a6 a7 a8) (tx_Fits.f (k + 1) a0 a1 a2 a3 a4 a5 a6 a7 a8) := by
  intro a0 a1 a2 a3 a4 a5 a6 a7 a8 k
  have ih0 := tx_Fits.mono_l k
  unfold tx_Fits.f
  repeat' first
      | (with_reducible exact ih0 _ _ _ _ _ _ _ _ _ _ _ _ _)
      | (with_reducible exact slices_Contains_string_string.mono _ _ _)
      | (with_reducible exact LeO.refl _)
      | (with_reducible exact LeO.none _)
      | (with_reducible refine LeO.ite ?_ ?_)
      | (with_reducible refine LeO.bind ?_ (fun _ => ?_))
      | exact ih0 _ _ _ _ _ _ _ _ _ _ _ _ _
      | exact slices_Contains_string_string.mono _ _ _
      | exact LeO.none _
      | refine LeO.ite ?_ ?_
      | refine LeO.bind ?_ (fun _ => ?_)
end Go.Proofs.YtndicjikjcifaaaDoor.PFt

/- tx.Fits: what is needed is declared. -/
namespace Go.Proofs.YtndicjikjcifaaaDoor
open Go.RowKit Go.Shelf Go.Lib Go.Proofs.YtndicjikjcifaaaDoorW.PrintWords Go.Proofs.YtndicjikjcifaaaDoorW.PrintLast
open Go.Proofs.YtndicjikjcifaaaDoor.PFt
set_option linter.unusedVariables false
set_option linter.unusedSimpArgs false
end Go.Proofs.YtndicjikjcifaaaDoor
/- tusklaw04.pay, works: one transaction that is as it should be. -/
namespace Go.Proofs.YtndicjikjcifaaaDoor
open Go.RowKit Go.Shelf Go.Lib Go.Proofs.YtndicjikjcifaaaDoorW.PrintWords Go.Proofs.YtndicjikjcifaaaDoorW.PrintLast
set_option linter.unusedVariables false
set_option linter.unusedSimpArgs false
def bab : ByteArray := ⟨#[97, 98]⟩
def bc : ByteArray := ⟨#[99]⟩
def kab : ByteArray := ⟨#[97, 58, 97, 98]⟩
def kc : ByteArray := ⟨#[97, 58, 99]⟩
end Go.Proofs.YtndicjikjcifaaaDoor

/- Literals of one-cell elements; the laws' own transaction. -/
namespace Go.Proofs.YtndicjikjcifaaaDoor
open Go.RowKit Go.Proofs.YtndicjikjcifaaaDoorW.PrintWords Go.Proofs.YtndicjikjcifaaaDoorW.PrintLast
open PB (S33 k33)
set_option linter.unusedVariables false
set_option linter.unusedSimpArgs false
theorem wrap_u64 (x : Int) (h0 : 0 ≤ x) (h1 : x < 18446744073709551616) : IntKind.u64.wrap x = x := by
  simp [IntKind.wrap, IntKind.bits, IntKind.signed]; omega
section
variable {P : Program} {T : TypeId}
theorem run_lit1 {t : TypeId} {bytes : Nat} {z : Value} (hu : P.underlying t = some (.slice T)) (hi : (P.info? T).map (fun i => (i.zero, i.size, i.bytes)) = some (some z, 1, bytes)) (hz : z.cells.size = 1) (vs : List Value) (h1 : ∀ v ∈ vs, v.cells = #[v]) (h0 : 0 < vs.length) (hm : vs.length ≤ 16777216) (parts : Array (Nat × Value))
    (hp : parts.toList = (vs.zipIdx 0).map fun x => (x.2, x.1)) (W : World) :
    (Instr.buildSlice t vs.length parts).run P W = .ok (.slice (some ⟨W.heap.size, 0, none⟩) vs.length vs.length) (W.alloc (.cells vs.toArray T)) := by
  cases hie : P.info? T with
  | none => simp [hie] at hi
  | some ie =>
    simp only [hie, Option.map_some, Option.some.injEq, Prod.mk.injEq] at hi
    obtain ⟨e1, e2, e3⟩ := hi
    refine run_buildSlice W t T vs.length _ vs.toArray ie z hu hie e1 (by rw [e2]; omega) (by rw [e2]; omega) ?_
    rw [e2, hp]
    exact Great.fill_flat vs _ h1 (by simp)
end
section
variable {P : Program} {ops : Array Oper} {Q : Exit → Act → World → Prop} {V : World → Prop} {ds : List Nat} {π : List (Nat × Nat)} {a : Act} {W W' w : World} {n i d1 m : Nat} {L : List (Nat × Value)} {ty t T : TypeId} {S R : Nat → Prop} {M : List Asn}
theorem sq_lit {g : Option (Nat × Bool)} {z : Value} {bytes : Nat} {parts : Array (Nat × Operand)} (vs : List Value) (hi : (ops[i]?).map sk = some (some d1, .buildSlice t m parts, ty, g)) (hg : On ops L g) (F : Fr n L a) (hd : d1 < n) (hm : m = vs.length)
    (ht : P.underlying t = some (.slice T)) (hinfo : (P.info? T).map (fun i => (i.zero, i.size, i.bytes)) = some (some z, 1, bytes)) (hz : z.cells.size = 1) (h1 : ∀ v ∈ vs, v.cells = #[v]) (h0 : 0 < vs.length) (hs : vs.length ≤ 16777216)
    (hp : (parts.map fun (i, x) => (i, a.eval x)).toList = (vs.zipIdx 0).map fun x => (x.2, x.1)) (H : St w S R M W)
    (h : ∀ b W' a', w.heap.size ≤ b → St w S R (M ++ [Asn.blk b vs T]) W' → Fr n ((d1, .slice (some ⟨b, 0, none⟩) m m) :: L) a' → (i ∉ ds → V W') ∧ wpSeq P ops Q V ds π a' W') : wpSeq P ops Q V ds ((i, 2) :: π) a W := by
  subst hm
  have hh := fun a' => h W.heap.size (W.alloc (.cells vs.toArray T)) a' H.low.size (H.alloc vs T)
  refine sqw hi hg F fun o K ho hK => ?_
  obtain ⟨e1, e2, e3⟩ := sk_eq ho
  unfold Oper.wp execOp
  rw [e2]
  have := run_lit1 (P := P) ht hinfo hz vs h1 h0 hs _ hp W
  simp only [this, Sem.run_bind, Result.andThen_ok]
  have q := hh _ (F.put d1 hd _)
  rw [← e1] at q
  exact hK _ _ q.1 q.2
end
theorem strs_foot {W : World} {g : Nat} {T : TypeId} (xs : List ByteArray) (hb : W.heap[g]? = some (.cells (xs.map Value.string).toArray T (0, 0))) (hn : xs.length ≤ 9223372036854775807) : Foot (fun W => Kd.string.C W (some ⟨g, 0, none⟩) xs.length xs) W (fun k => k = g) := fun W' hW => by
  have hb' := (hW g rfl (blk_lt hb)).trans hb
  refine ⟨rfl, hn, fun _ => ⟨_, rfl, fun j p hj => ⟨[.string p], rfl, rfl, fun i u hu => ?_⟩⟩⟩
  rw [addo, blk_cell hb']
  have hi : i = 0 := by have := (List.getElem?_eq_some_iff.1 hu).1; simp at this; omega
  subst hi
  obtain rfl : Value.string p = u := by simpa using hu
  have hz : Kd.string.sz = 1 := rfl
  simp [hz, hj]
def payT (n : Int) : S33 := ⟨1, bab, bc, 5, n, ⟨#[]⟩, ⟨#[]⟩, [], [kab, kc]⟩
theorem ch_payT (n : Int) (h : n ≤ 4611686018427387903) : chT (payT n) = 0 := by
  have h1 : nm bab = true := by decide +kernel
  have h2 : nm bc = true := by decide +kernel
  have h3 : ky kab = true := by decide +kernel
  have h4 : ky kc = true := by decide +kernel
  have h5 : lts kab kc = true := by rw [lts, Lib.toList_data, Lib.toList_data]; decide +kernel
  have h6 : (⟨#[]⟩ : ByteArray).toList.isEmpty = true := by rw [Lib.toList_data]; rfl
  simp [chT, payT, ch, chF, chR, ke, keL, h1, h2, h3, h4, h5, h6, h]
def PayP (n : Int) (w : World) (e : Ending) (W : World) : Prop :=
  ∃ B, e = .returned (.agg #[.int .i64 (payT n).f0, .string (payT n).f1, .string (payT n).f2, .int .u64 (payT n).f3, .int .u64 (payT n).f4, .string (payT n).f5, .string (payT n).f6, .slice none (payT n).f7.length 0, .slice B (payT n).f8.length 2])
    ∧ Foot (fun W => k33.K W (payT n) [.int .i64 (payT n).f0, .string (payT n).f1, .string (payT n).f2, .int .u64 (payT n).f3, .int .u64 (payT n).f4, .string (payT n).f5, .string (payT n).f6, .slice none (payT n).f7.length 0, .slice B (payT n).f8.length 2]) W (fun k => w.heap.size ≤ k) ∧ Below w.heap.size w W
end Go.Proofs.YtndicjikjcifaaaDoor

/- tusklaw05.pay. -/
namespace Go.Proofs.YtndicjikjcifaaaDoor
open Go.RowKit Go.Proofs.YtndicjikjcifaaaDoorW.PrintWords Go.Proofs.YtndicjikjcifaaaDoorW.PrintLast
set_option linter.unusedVariables false
set_option linter.unusedSimpArgs false
set_option maxRecDepth 100000
open PB (S33 k33)
theorem pay5_calls (n : Int) (h0 : 0 ≤ n) (h1 : n < 4611686018427387904) (w : World) : Calls Tryd.prog 38 #[.int .i64 n] w (PayP n w) := by
  refine c_enter2 (args := [.int .i64 n]) (S := (fun _ => False)) (R := (fun _ => True)) (M := []) Tryd.func38 (by kernel_rfl) 7 Tryd.ntmps38 (Nat.le_of_ble_eq_true rfl) (St.first w (fun _ => False) (fun _ => True)) (fun a W F H => ?_)
  have F := F.less [(0, .int .i64 n)] (subc rfl sub0)
  refine c_seq (by kernel_rfl) ?_
  refine c_text (id := 0) (by kernel_rfl) [(0, 2)] (by kernel_rfl) ?_
  refine sq_new (o_s 2 (.alloc 33) 0 (by kernel_rfl)) trivial F (by decide) H [.int .i64 0, .string ⟨#[]⟩, .string ⟨#[]⟩, .int .u64 0, .int .u64 0, .string ⟨#[]⟩, .string ⟨#[]⟩, .slice none 0 0, .slice none 0 0] 33 (x_alloc Tryd.zeroValue33 rfl) ?_
  intro g1 W a hg1 H F
  refine ⟨(fun _ => trivial), ?_⟩
  unfold wpSeq
  have H : St w (fun _ => False) (fun _ => True) [Asn.blk g1 [.int .i64 0, .string ⟨#[]⟩, .string ⟨#[]⟩, .int .u64 0, .int .u64 0, .string ⟨#[]⟩, .string ⟨#[]⟩, .slice none 0 0, .slice none 0 0] 33] W := H
  refine t_normal ?_
  refine c_seq (by kernel_rfl) ?_
  refine c_text (id := 1) (by kernel_rfl) [(0, 2), (1, 2), (2, 2), (3, 2), (4, 2)] (by kernel_rfl) ?_
  refine q2 (o_s 3 (.move (.tmp 0)) 3 (by kernel_rfl)) F (by decide) (x_move (F.slot rfl)) (fun a F => ?_)
  refine q2 (o_s 4 (.convert 3 30 (.tmp 3)) 30 (by kernel_rfl)) F (by decide) (v := .int .u64 (IntKind.u64.wrap n)) (x_conv Tryd.underlying3 Tryd.underlying30 (F.slot rfl)) (fun a F => ?_)
  have F := F.conv (v' := .int .u64 n) (congrArg (Value.int .u64) (wrap_u64 _ h0 (by omega)))
  refine sq_lit [.string ⟨#[97, 58, 97, 98]⟩, .string ⟨#[97, 58, 99]⟩] (o_s 5 (.buildSlice 31 2 #[(0, (.const (.string { data := #[97, 58, 97, 98] }))), (1, (.const (.string { data := #[97, 58, 99] })))]) 31 (by kernel_rfl)) trivial F (by decide) rfl Tryd.underlying31 (show (Tryd.prog.info? 9).map (fun i => (i.zero, i.size, i.bytes)) = some (some (.string ⟨#[]⟩), 1, 16) by kernel_rfl) rfl (by simp [Value.cells]) (by decide) (by decide) (by simp [Act.eval]) H ?_
  intro g2 W a hg2 H F
  refine ⟨(fun _ => trivial), ?_⟩
  refine q2 (o_s 6 (.build 33 #[(0, (.const (.int .i64 1))), (1, (.const (.string { data := #[97, 98] }))), (2, (.const (.string { data := #[99] }))), (3, (.const (.int .u64 5))), (4, (.tmp 4)), (8, (.tmp 5))]) 33 (by kernel_rfl)) F (by decide) (v := .agg #[.int .i64 1, .string ⟨#[97, 98]⟩, .string ⟨#[99]⟩, .int .u64 5, .int .u64 n, .string ⟨#[]⟩, .string ⟨#[]⟩, .slice none 0 0, .slice (some ⟨g2, 0, none⟩) 2 2]) (by simp [ex, execOp, Instr.build, Tryd.zeroValue33, run_underlying Tryd.underlying33, Instr.fill, Value.cells, ev_c, F.slot (i := 4) rfl, F.slot (i := 5) rfl, Tryd.sizeOf3, Tryd.sizeOf9, Tryd.sizeOf30, Tryd.sizeOf31]) (fun a F => ?_)
  refine sq_put (M := [Asn.blk g1 [.int .i64 1, .string ⟨#[97, 98]⟩, .string ⟨#[99]⟩, .int .u64 5, .int .u64 n, .string ⟨#[]⟩, .string ⟨#[]⟩, .slice none 0 0, .slice (some ⟨g2, 0, none⟩) 2 2] 33, Asn.blk g2 [.string ⟨#[97, 58, 97, 98]⟩, .string ⟨#[97, 58, 99]⟩] 9]) (o_n (.store 33 (.tmp 2) (.tmp 6)) 0 (by kernel_rfl)) trivial F (x_store H (k := 0) (cs' := [.int .i64 1, .string ⟨#[97, 98]⟩, .string ⟨#[99]⟩, .int .u64 5, .int .u64 n, .string ⟨#[]⟩, .string ⟨#[]⟩, .slice none 0 0, .slice (some ⟨g2, 0, none⟩) 2 2]) rfl (Tryd.sizeOf33 W) (F.slot rfl) (F.slot rfl) rfl (Nat.le_of_ble_eq_true rfl) rfl rfl) ?_
  intro W H
  refine ⟨(fun _ => trivial), ?_⟩
  unfold wpSeq
  refine t_normal ?_
  refine c_ret (by kernel_rfl) ?_
  refine p_cell Tryd.results38 F rfl (H.blk 0 rfl) (Tryd.isAgg33 W) (Tryd.sizeOf33 W) ?_
  have hf := strs_foot [kab, kc] (H.blk 1 rfl) (by decide)
  exact ⟨some ⟨g2, 0, none⟩, rfl, Foot.mono (fk_tx (payT n) (Nat.le_refl _) (Foot.mono (Kd.F_nil _ _ (fun _ => False)) (fun k h => h.elim)) (Nat.le_refl _) hf) (fun k (hk : k = g2) => hk ▸ hg2), H.ends⟩
end Go.Proofs.YtndicjikjcifaaaDoor

/- Numbers, texts and lists as bytes: what is written is read; what is read was written so. -/
namespace Go.Proofs.YtndicjikjcifaaaDoor
open Go.RowKit Go.Shelf Go.Lib Go.Proofs.YtndicjikjcifaaaDoorW.PrintWords Go.Proofs.YtndicjikjcifaaaDoorW.PrintLast
set_option linter.unusedVariables false
set_option linter.unusedSimpArgs false
theorem bn_app (n : Nat) (r : ByteArray) (i : Nat) (v : Int) (h : (vints n)[i]? = some v) : bn (strOfNums (vints n) ++ r) i = v.toNat % 256 := by
  have hi : i < (vints n).length := (List.getElem?_eq_some_iff.1 h).1
  have hs : (strOfNums (vints n)).size = (vints n).length := strOfNums_size _
  have hlt : i < (strOfNums (vints n) ++ r).size := by rw [ByteArray.size_append]; omega
  rw [bn, dif_pos hlt, ByteArray.getElem_append_left (by omega)]
  have e : (strOfNums (vints n))[i]'(by omega) = UInt8.ofNat v.toNat := by
    have h2 := (List.getElem?_eq_some_iff.1 h).2
    rw [← h2]
    simp [strOfNums, ByteArray.getElem_eq_getElem_data]
  rw [e]
  simp
theorem vints_bytes : ∀ n, ∀ v ∈ vints n, 0 ≤ v ∧ v < 256 := by
  intro n
  induction n using Nat.strongRecOn with
  | ind n ih =>
    rw [vints]
    split
    · intro v hv
      simp at hv
      omega
    · intro v hv
      rcases List.mem_cons.1 hv with rfl | hv
      · omega
      · exact ih (n / 128) (by omega) v hv
theorem vints_pos (n : Nat) : 0 < (vints n).length := by
  rw [vints]
  split <;> simp
theorem vints_val (s : ByteArray) : ∀ n j, (∀ i v, (vints n)[i]? = some v → bn s (j + i) = v.toNat) →
    (∀ i, j ≤ i → i < j + (vints n).length - 1 → 128 ≤ bn s i) ∧ bn s (j + (vints n).length - 1) < 128 ∧ bval s (j + (vints n).length - 1) (vints n).length j = n ∧ (bn s (j + (vints n).length - 1) = 0 → n = 0) := by
  intro n
  induction n using Nat.strongRecOn with
  | ind n ih =>
    intro j h
    rw [vints] at h ⊢
    by_cases h1 : n < 128
    · rw [dif_pos h1] at h ⊢
      have h2 := h 0 _ rfl
      simp only [Nat.add_zero, Int.toNat_natCast] at h2
      simp only [List.length_singleton, Nat.add_sub_cancel]
      refine ⟨fun i h3 h4 => by omega, by omega, ?_, by omega⟩
      simp only [bval]
      omega
    · rw [dif_neg h1] at h ⊢
      have hp := vints_pos (n / 128)
      have h2 := h 0 _ rfl
      obtain ⟨g1, g2, g3, g4⟩ := ih (n / 128) (by omega) (j + 1) (fun i v hv => by
        have := h (i + 1) v (by simpa using hv)
        rw [show j + 1 + i = j + (i + 1) by omega]
        exact this)
      simp only [Nat.add_zero, Int.toNat_natCast] at h2
      simp only [List.length_cons]
      rw [show j + ((vints (n / 128)).length + 1) - 1 = j + 1 + (vints (n / 128)).length - 1 by omega]
      refine ⟨fun i h3 h4 => ?_, g2, ?_, fun h5 => by have := g4 h5; omega⟩
      · rcases Nat.eq_or_lt_of_le h3 with rfl | h3
        · omega
        · exact g1 i (by omega) (by omega)
      · rw [bval, g3, h2]
        omega
theorem ib_eq {n : Int} (h0 : 0 ≤ n) (h1 : n ≤ 4611686018427387903) : ib n = strOfNums (vints n.toNat) := by
  rw [ib, if_neg (by omega)]
theorem gi_app (n : Int) (r : ByteArray) (h0 : 0 ≤ n) (h1 : n ≤ 4611686018427387903) : gi (ib n ++ r) 9 0 0 = (n, ((ib n).size : Int), 0) := by
  rw [ib_eq h0 h1]
  obtain ⟨m, rfl⟩ : ∃ m : Nat, n = m := ⟨n.toNat, by omega⟩
  rw [Int.toNat_natCast]
  have hl := vints_len 8 m (by omega)
  have hp := vints_pos m
  have hs : (strOfNums (vints m)).size = (vints m).length := strOfNums_size _
  obtain ⟨g1, g2, g3, g4⟩ := vints_val (strOfNums (vints m) ++ r) m 0 (fun i v hv => by
    rw [Nat.zero_add, bn_app m r i v hv]
    have := vints_bytes m v (List.mem_of_getElem? hv)
    omega)
  simp only [Nat.zero_add] at g1 g2 g3 g4
  have := gi_val (strOfNums (vints m) ++ r) ((vints m).length - 1) (by rw [ByteArray.size_append]; omega) g2 ((vints m).length - 1) 0 0 (by omega) (by omega) (fun j h2 h3 => g1 j h2 h3)
  rw [show 9 - 0 = 9 from rfl] at this
  rw [this, show (vints m).length - 1 + 1 = (vints m).length by omega, g3, fin, Nat.mul_zero, Nat.pow_zero, Nat.one_mul, Nat.zero_add, if_neg (by omega), if_neg (by rintro ⟨h2, h3⟩; have := g4 h2; subst this; rw [vints, dif_pos (by omega)] at h3; simp at h3), hs, show (vints m).length - 1 + 1 = (vints m).length by omega]
theorem ba_eq {a b : ByteArray} (h : a.data.toList = b.data.toList) : a = b := ByteArray.ext (Array.toList_inj.1 h)
theorem ba_app (a b : ByteArray) : (a ++ b).data.toList = a.data.toList ++ b.data.toList := by simp
theorem ba_len (a : ByteArray) : a.data.toList.length = a.size := by rw [Array.length_toList]; rfl
theorem ba_ext (a : ByteArray) (i j : Nat) : (a.extract i j).data.toList = (a.data.toList.take j).drop i := by
  rw [ByteArray.data_extract, Array.toList_extract, List.extract_eq_drop_take']
theorem ba_assoc (a b c : ByteArray) : a ++ b ++ c = a ++ (b ++ c) := ByteArray.append_assoc
theorem ba_rest (a : ByteArray) (n : Nat) : (rest a (n : Int)).data.toList = a.data.toList.drop n := by
  show (a.extract (n : Int).toNat a.size).data.toList = _
  rw [Int.toNat_natCast, ba_ext, List.take_of_length_le (by rw [ba_len]; exact Nat.le_refl _)]
theorem rest_app (a r : ByteArray) : rest (a ++ r) ((a.size : Nat) : Int) = r := by
  apply ba_eq
  rw [ba_rest, ba_app, List.drop_left' (ba_len a)]
theorem mid_app (a x r : ByteArray) : (a ++ (x ++ r)).extract a.size (a.size + x.size) = x := by
  apply ba_eq
  rw [ba_ext, ba_app, ba_app, List.take_append, List.take_append, ba_len, ba_len, List.take_of_length_le (by rw [ba_len]; omega), List.take_of_length_le (by rw [ba_len]; omega), show a.size + x.size - a.size - x.size = 0 by omega, List.take_zero, List.append_nil, List.drop_left' (ba_len a)]
theorem gt_app (x r : ByteArray) (hx : x.size ≤ 65536) : gt (tb x ++ r) = (x, ((tb x).size : Int), 0) := by
  have e : tb x ++ r = ib x.size ++ (x ++ r) := ba_assoc _ _ _
  have es : (tb x).size = (ib x.size).size + x.size := ByteArray.size_append
  have hs : (ib x.size ++ (x ++ r)).size = (ib x.size).size + (x.size + r.size) := by rw [ByteArray.size_append, ByteArray.size_append]
  rw [gt, e, gi_app _ _ (by omega) (by omega)]
  dsimp only
  rw [if_pos rfl, if_neg (by omega), if_neg (by omega)]
  rw [show ((((ib x.size).size : Nat) : Int) + ((x.size : Nat) : Int)).toNat = (ib x.size).size + x.size by omega, Int.toNat_natCast, mid_app]
  rw [es]
  push_cast
  rfl
def tbsB (xs : List ByteArray) : ByteArray := ⟨(tbs xs).toArray⟩
theorem tbsB_cons (x : ByteArray) (xs : List ByteArray) : tbsB (x :: xs) = tb x ++ tbsB xs := by
  apply ba_eq
  rw [ba_app]
  rfl
theorem lb_eq (xs : List ByteArray) : lb xs = ib xs.length ++ tbsB xs := by
  apply ba_eq
  rw [ba_app]
  rfl
theorem ba_nil' (a : ByteArray) : a ++ (⟨#[]⟩ : ByteArray) = a := by
  apply ba_eq
  rw [ba_app]
  exact List.append_nil _
theorem glL_app : ∀ (xs : List ByteArray) (pre r : ByteArray) (acc : List ByteArray), (∀ x ∈ xs, x.size ≤ 65536) →
    glL (pre ++ (tbsB xs ++ r)) xs.length pre.size acc = (acc ++ xs, ((pre.size + (tbsB xs).size : Nat) : Int), 0)
  | [], pre, r, acc, h => by
    rw [List.length_nil, glL, List.append_nil]
    rfl
  | x :: xs, pre, r, acc, h => by
    have e : pre ++ (tbsB (x :: xs) ++ r) = (pre ++ tb x) ++ (tbsB xs ++ r) := by rw [tbsB_cons, ba_assoc, ba_assoc]
    have hx : (pre ++ (tbsB (x :: xs) ++ r)).extract pre.size (pre ++ (tbsB (x :: xs) ++ r)).size = tb x ++ (tbsB xs ++ r) := by
      have := rest_app pre (tbsB (x :: xs) ++ r)
      rw [rest, Int.toNat_natCast] at this
      rw [this, tbsB_cons, ba_assoc]
    have ih := glL_app xs (pre ++ tb x) r (acc ++ [x]) (fun y hy => h y (by simp [hy]))
    rw [List.length_cons, glL, hx, gt_app x _ (h x (by simp))]
    dsimp only
    rw [if_pos rfl, Int.toNat_natCast]
    have es : pre.size + (tb x).size = (pre ++ tb x).size := ByteArray.size_append.symm
    rw [e, es, ih, List.append_assoc, List.singleton_append, tbsB_cons, ByteArray.size_append, ByteArray.size_append, Nat.add_assoc]
theorem gl_app (xs : List ByteArray) (r : ByteArray) (m : Int) (hm : (xs.length : Int) ≤ m) (hl : xs.length ≤ 65536) (h : ∀ x ∈ xs, x.size ≤ 65536) : gl (lb xs ++ r) m = (xs, ((lb xs).size : Int), 0) := by
  rw [lb_eq, ba_assoc, gl, gi_app _ _ (by omega) (by omega)]
  dsimp only
  rw [if_pos rfl, if_neg (by omega), Int.toNat_natCast, Int.toNat_natCast, glL_app xs _ r [] h, ByteArray.size_append]
  rfl
theorem encB_eq (k : Int) (f t : ByteArray) (am nc : Int) (ky' vl : ByteArray) (rs ws : List ByteArray) :
    encB k f t am nc ky' vl rs ws = ib k ++ (tb f ++ (tb t ++ (ib am ++ (ib nc ++ (tb ky' ++ (tb vl ++ (lb rs ++ lb ws))))))) := by
  apply ba_eq
  simp only [ba_app]
  unfold encB
  rw [join_nil]
  simp [encL]
end Go.Proofs.YtndicjikjcifaaaDoor

/- tx.Decode and tx.Encode turn each other round. -/
namespace Go.Proofs.YtndicjikjcifaaaDoor
open Go.RowKit Go.Shelf Go.Lib Go.Proofs.YtndicjikjcifaaaDoorW.PrintWords Go.Proofs.YtndicjikjcifaaaDoorW.PrintLast
set_option linter.unusedVariables false
set_option linter.unusedSimpArgs false
theorem bI (n : Int) (r : ByteArray) (k : Int → ByteArray → Dec) (h0 : 0 ≤ n) (h1 : n ≤ 4611686018427387903) : bindE (gi (ib n ++ r) 9 0 0) (ib n ++ r) k = k n r :=
  bindE_ok (gi_app n r h0 h1) (rest_app _ _)
theorem bT (x r : ByteArray) (k : ByteArray → ByteArray → Dec) (hx : x.size ≤ 65536) : bindE (gt (tb x ++ r)) (tb x ++ r) k = k x r :=
  bindE_ok (gt_app x r hx) (rest_app _ _)
theorem bL (xs : List ByteArray) (r : ByteArray) (k : List ByteArray → ByteArray → Dec) (hl : xs.length ≤ 8) (hx : ∀ x ∈ xs, x.size ≤ 65536) : bindE (gl (lb xs ++ r) 8) (lb xs ++ r) k = k xs r :=
  bindE_ok (gl_app xs r 8 (by omega) (by omega) hx) (rest_app _ _)
theorem dec_enc {k : Int} {f t : ByteArray} {am nc : Int} {ky' vl : ByteArray} {rs ws : List ByteArray} (hc : ch k f t am nc ky' vl rs ws = 0) (ha : 0 ≤ am) (hn : 0 ≤ nc) (r : ByteArray) :
    dec (encB k f t am nc ky' vl rs ws ++ r) = if r.toList.isEmpty = true then (k, f, t, am, nc, ky', vl, rs, ws, 0) else derr 6 := by
  have hf := ch_fine hc
  have h1 := ke_zero hf.rs
  have h2 := ke_zero hf.ws
  have hk := hf.k
  have f1 := hf.f
  have f2 := hf.t
  have f3 := hf.ky
  have f4 := hf.vl
  rw [encB_eq]
  simp only [ba_assoc]
  unfold dec
  refine (bI k _ _ (by omega) (by omega)).trans ?_
  refine (bT f _ _ (by omega)).trans ?_
  refine (bT t _ _ (by omega)).trans ?_
  refine (bI am _ _ ha hf.am).trans ?_
  refine (bI nc _ _ hn hf.nc).trans ?_
  refine (bT ky' _ _ (by omega)).trans ?_
  refine (bT vl _ _ (by omega)).trans ?_
  refine (bL rs _ _ h1.1 (fun x hx => by have := h1.2 x hx; omega)).trans ?_
  refine (bL ws _ _ h2.1 (fun x hx => by have := h2.2 x hx; omega)).trans ?_
  rw [if_pos (by omega), fin9, if_pos hc]
end Go.Proofs.YtndicjikjcifaaaDoor

/- batch.Decode and batch.Encode turn each other round: the plain law. -/
namespace Go.Proofs.YtndicjikjcifaaaDoor
open Go.RowKit Go.Shelf Go.Lib Go.Proofs.YtndicjikjcifaaaDoorW.PrintWords Go.Proofs.YtndicjikjcifaaaDoorW.PrintLast
open PB (S33 k33)
set_option linter.unusedVariables false
set_option linter.unusedSimpArgs false
theorem wI_eq {n : Int} (h0 : 0 ≤ n) (h1 : n ≤ 4611686018427387903) : wI n = ib n := by
  unfold wI wire_Int.f
  rw [Option.getD_some, if_neg (by omega), ib_eq h0 h1]
theorem encT_dec {t : S33} (h : chT t = 0) (ha : 0 ≤ t.f3) (hn : 0 ≤ t.f4) : dec (encT t) = (t.f0, t.f1, t.f2, t.f3, t.f4, t.f5, t.f6, t.f7, t.f8, 0) := by
  have h0 : ch t.f0 t.f1 t.f2 t.f3 t.f4 t.f5 t.f6 t.f7 t.f8 = 0 := h
  have e : encT t = encB t.f0 t.f1 t.f2 t.f3 t.f4 t.f5 t.f6 t.f7 t.f8 := by unfold encT enc; rw [if_pos h0]
  have := dec_enc h0 ha hn ⟨#[]⟩
  rw [ba_nil', if_pos (by rw [Lib.toList_data]; rfl)] at this
  rw [e]; exact this
theorem dall_enc : ∀ l : List S33, (∀ t ∈ l, chT t = 0 ∧ 0 ≤ t.f3 ∧ 0 ≤ t.f4) → dall (l.map encT) = (l, 0)
  | [], _ => rfl
  | t :: r, h => by
    obtain ⟨h1, h2, h3⟩ := h t List.mem_cons_self
    have e := encT_dec h1 h2 h3
    have ih := dall_enc r (fun x hx => h x (List.mem_cons_of_mem _ hx))
    rw [List.map_cons, dall, if_pos (by rw [e]; rfl), ih, e]
    rfl
theorem bdec_enc {a n : Int} {l : List S33} (h : bchk a n l = 0) (hp : ∀ t ∈ l, 0 ≤ t.f3 ∧ 0 ≤ t.f4) : bdec (bencB a n l) = (a, n, l, 0) := by
  obtain ⟨a0, a6, n1, n2, l0, l16, hc⟩ := bchk_ok h
  have hx : ∀ x ∈ l.map encT, x.size ≤ 65536 := by
    intro x hx
    obtain ⟨t, ht, rfl⟩ := List.mem_map.1 hx
    have h0 : ch t.f0 t.f1 t.f2 t.f3 t.f4 t.f5 t.f6 t.f7 t.f8 = 0 := hc t ht
    have e : encT t = encB t.f0 t.f1 t.f2 t.f3 t.f4 t.f5 t.f6 t.f7 t.f8 := by unfold encT enc; rw [if_pos h0]
    rw [e]
    exact Nat.le_trans (encB_size (ch_fine h0)) (by decide)
  have e : bencB a n l = ib a ++ (ib n ++ (lb (l.map encT) ++ ⟨#[]⟩)) := by
    unfold bencB
    rw [wI_eq a0 (by omega), wI_eq (by omega) n2, ba_nil', ba_assoc]
  have g1 := gi_app a (ib n ++ (lb (l.map encT) ++ ⟨#[]⟩)) a0 (by omega)
  have g2 := gi_app n (lb (l.map encT) ++ ⟨#[]⟩) (by omega) n2
  have g3 := gl_app (l.map encT) ⟨#[]⟩ 16 (by rw [List.length_map]; omega) (by rw [List.length_map]; omega) hx
  have hd := dall_enc l (fun t ht => ⟨hc t ht, hp t ht⟩)
  rw [e]
  unfold bdec
  rw [g1, if_pos rfl]
  dsimp only
  rw [rest_app]
  unfold bdec1
  rw [g2, if_pos rfl]
  dsimp only
  rw [rest_app]
  unfold bdec2
  rw [g3, if_pos rfl]
  dsimp only
  rw [hd]
  unfold bfin
  rw [if_pos rfl, if_neg (by rw [ba_nil']; omega), if_neg (by omega), if_pos h]
end Go.Proofs.YtndicjikjcifaaaDoor

/- batch.Decode. -/
namespace Go.Proofs.YtndicjikjcifaaaDoor
open Go.RowKit Go.Proofs.YtndicjikjcifaaaDoorW.PrintWords Go.Proofs.YtndicjikjcifaaaDoorW.PrintLast
set_option linter.unusedVariables false
set_option linter.unusedSimpArgs false
set_option maxRecDepth 100000
open PB (S33 k33)
set_option maxHeartbeats 1000000 in
theorem bdec_calls (s0 : ByteArray) (w : World) (hs0 : s0.size < 4611686018427387904) :
    Calls Tryd.prog 28 #[.string s0] w fun e w' => BP (bdec s0) w e w' := by
  refine c_enter2 (args := [.string s0]) (S := (fun _ => False)) (R := (fun _ => False)) (M := []) Tryd.func28 (by kernel_rfl) 93 Tryd.ntmps28 (Nat.le_of_ble_eq_true rfl) (St.first w (fun _ => False) (fun _ => False)) (fun a W F H => ?_)
  have F := F.less [(0, .string s0)] (subc rfl sub0)
  refine c_seq (by kernel_rfl) ?_
  refine c_text (id := 0) (by kernel_rfl) [(0, 2), (1, 2)] (by kernel_rfl) ?_
  refine sq_new (o_s 2 (.alloc 40) 0 (by kernel_rfl)) trivial F (by decide) H [.int .i64 0, .int .i64 0, .slice none 0 0] 40 (x_alloc Tryd.zeroValue40 rfl) ?_
  intro g1 W a hg1 H F
  refine ⟨(fun _ => trivial), ?_⟩
  refine q2 (o_s 3 (.assign (.const (.int .i64 0))) 24 (by kernel_rfl)) F (by decide) (v := .int .i64 0) (x_assign rfl) (fun a F => ?_)
  unfold wpSeq
  have H : St w (fun _ => False) (fun _ => False) [Asn.blk g1 [.int .i64 0, .int .i64 0, .slice none 0 0] 40] W := H
  refine t_normal ?_
  refine c_seq (by kernel_rfl) ?_
  refine c_text (id := 1) (by kernel_rfl) [(0, 2)] (by kernel_rfl) ?_
  refine sq_new (o_s 4 (.alloc 87) 0 (by kernel_rfl)) trivial F (by decide) H [.int .i64 0, .int .i64 0] 87 (x_alloc Tryd.zeroValue87 rfl) ?_
  intro g2 W a hg2 H F
  refine ⟨(fun _ => trivial), ?_⟩
  unfold wpSeq
  have H : St w (fun _ => False) (fun _ => False) [Asn.blk g1 [.int .i64 0, .int .i64 0, .slice none 0 0] 40, Asn.blk g2 [.int .i64 0, .int .i64 0] 87] W := H
  refine t_normal ?_
  refine c_seq (by kernel_rfl) ?_
  refine c_seq (by kernel_rfl) ?_
  refine c_text (id := 2) (by kernel_rfl) [(0, 2)] (by kernel_rfl) ?_
  refine q2 (o_s 18 (.move (.const (.int .i64 0))) 3 (by kernel_rfl)) F (by decide) (v := .int .i64 0) (x_move rfl) (fun a F => ?_)
  unfold wpSeq
  refine t_normal ?_
  refine c_block (id := 0) (by kernel_rfl) ?_
  refine c_loop (by kernel_rfl) (fun k a W => ∃ (i : Int) (x : Int) (y : Int) (s : ByteArray), Fr 93 [(2, .pointer (some ⟨g1, 0, none⟩)), (4, .pointer (some ⟨g2, 0, none⟩)), (0, .string s), (18, .int .i64 i)] a ∧ St w (fun _ => False) (fun _ => False) [Asn.blk g1 [.int .i64 0, .int .i64 0, .slice none 0 0] 40, Asn.blk g2 [.int .i64 x, .int .i64 y] 87] W ∧ (s.size < 4611686018427387904) ∧ ((k : Int) + i = 3) ∧ ((i = 0 ∧ y = 0 ∧ bdec s0 = bdec s) ∨ (i = 1 ∧ y = 0 ∧ bdec s0 = bdec1 x s) ∨ (i = 2 ∧ bdec s0 = bdec2 x y s))) 3 ⟨0, 0, 0, s0, F.less _ (subc rfl (subc rfl (subc rfl (subc rfl sub0)))), H, hs0, (by omega), (.inl ⟨rfl, rfl, rfl⟩)⟩ ?_
  rintro k a W ⟨i, x, y, s, F, H, HS, hq, hc⟩
  refine c_seq (by kernel_rfl) ?_
  rcases hc with ⟨rfl, rfl, HF⟩ | ⟨rfl, rfl, HF⟩ | ⟨rfl, HF⟩
  · refine c_text (id := 3) (by kernel_rfl) [(0, 2)] (by kernel_rfl) ?_
    refine q2 (o_s 19 (.binOp .lss 3 (.tmp 18) (.const (.int .i64 2)) 3) 0 (by kernel_rfl)) F (by decide) (v := .bool true) (x_int (F.slot rfl) rfl rfl) (fun a F => ?_)
    unfold wpSeq
    have H : St w (fun _ => False) (fun _ => False) [Asn.blk g1 [.int .i64 0, .int .i64 0, .slice none 0 0] 40, Asn.blk g2 [.int .i64 x, .int .i64 0] 87] W := H
    refine t_normal ?_
    refine c_seq (by kernel_rfl) ?_
    refine c_yes (c := .tmp 19) (by kernel_rfl) (F.slot rfl) ?_
    refine c_skip (by kernel_rfl) ?_
    refine t_normal ?_
    refine c_seq (by kernel_rfl) ?_
    refine c_block (id := 1) (by kernel_rfl) ?_
    refine c_seq (by kernel_rfl) ?_
    refine c_text (id := 4) (by kernel_rfl) [(0, 2), (1, 2)] (by kernel_rfl) ?_
    refine q2 (o_s 20 (.move (.tmp 18)) 3 (by kernel_rfl)) F (by decide) (x_move (F.slot rfl)) (fun a F => ?_)
    refine q2 (o_s 5 (.assign (.tmp 20)) 3 (by kernel_rfl)) F (by decide) (v := .int .i64 0) (x_assign (F.slot rfl)) (fun a F => ?_)
    unfold wpSeq
    refine t_normal ?_
    refine c_seq (by kernel_rfl) ?_
    refine c_text (id := 5) (by kernel_rfl) [(0, 2), (1, 2), (2, 2), (3, 2), (4, 2), (5, 2), (6, 2), (7, 2), (8, 2)] (by kernel_rfl) ?_
    refine q2 (o_s 22 (.move (.tmp 0)) 9 (by kernel_rfl)) F (by decide) (x_move (F.slot rfl)) (fun a F => ?_)
    obtain ⟨a1, k1, z1, hG⟩ : ∃ a k z, gi s 9 0 0 = (a, k, z) := ⟨_, _, _, rfl⟩
    refine sqc (o_s 23 (.call { callee := (.value (.func 60)), args := #[(.tmp 22)], argTypes := #[9] }) 88 (by kernel_rfl)) trivial F (by decide) (x_call Tryd.func60 (by kernel_rfl) rfl (args_1 (F.slot rfl))) (wire_GetInt.calls s a1 k1 z1 W (congrArg some hG)) ?_
    rintro e W ⟨rfl, hd⟩
    refine ⟨_, rfl, fun a F => ?_⟩
    have H := H.below (drawn_below hd)
    refine ⟨(fun _ => trivial), ?_⟩
    refine q2 (o_s 21 (.move (.tmp 23)) 88 (by kernel_rfl)) F (by decide) (x_move (F.slot rfl)) (fun a F => ?_)
    refine q2 (o_s 24 (.extract (.tmp 21) 0) 2 (by kernel_rfl)) F (by decide) (v := .int .i64 a1) (x_extract (F.slot rfl) rfl) (fun a F => ?_)
    refine q2 (o_s 25 (.extract (.tmp 21) 1) 3 (by kernel_rfl)) F (by decide) (v := .int .i64 k1) (x_extract (F.slot rfl) rfl) (fun a F => ?_)
    refine q2 (o_s 26 (.extract (.tmp 21) 2) 24 (by kernel_rfl)) F (by decide) (v := .int .i64 z1) (x_extract (F.slot rfl) rfl) (fun a F => ?_)
    refine q2 (o_s 6 (.assign (.tmp 24)) 2 (by kernel_rfl)) F (by decide) (v := .int .i64 a1) (x_assign (F.slot rfl)) (fun a F => ?_)
    refine q2 (o_s 7 (.assign (.tmp 25)) 3 (by kernel_rfl)) F (by decide) (v := .int .i64 k1) (x_assign (F.slot rfl)) (fun a F => ?_)
    refine q2 (o_s 8 (.assign (.tmp 26)) 24 (by kernel_rfl)) F (by decide) (v := .int .i64 z1) (x_assign (F.slot rfl)) (fun a F => ?_)
    unfold wpSeq
    refine t_normal ?_
    refine c_seq (by kernel_rfl) ?_
    refine c_seq (by kernel_rfl) ?_
    refine c_text (id := 6) (by kernel_rfl) [(0, 2), (1, 2)] (by kernel_rfl) ?_
    refine q2 (o_s 27 (.move (.tmp 8)) 24 (by kernel_rfl)) F (by decide) (x_move (F.slot rfl)) (fun a F => ?_)
    refine q2 (o_s 28 (.binOp .neq 24 (.tmp 27) (.const (.int .i64 0)) 24) 4 (by kernel_rfl)) F (by decide) (v := .bool (z1 != (0 : Int))) (x_int (F.slot rfl) rfl rfl) (fun a F => ?_)
    unfold wpSeq
    refine t_normal ?_
    rcases bool_or (z1 != (0 : Int)) with hb3 | hb3
    · have F := F.at 28 rfl (v' := .bool true) (congrArg Value.bool hb3)
      refine c_yes (c := .tmp 28) (by kernel_rfl) (F.slot rfl) ?_
      refine c_seq (by kernel_rfl) ?_
      refine c_text (id := 7) (by kernel_rfl) [(0, 2), (1, 2), (2, 2), (3, 2)] (by kernel_rfl) ?_
      refine q2 (o_s 29 (.build 40 #[]) 40 (by kernel_rfl)) F (by decide) (v := .agg #[.int .i64 0, .int .i64 0, .slice none 0 0]) (by simp [ex, execOp, Instr.build, Tryd.zeroValue40, run_underlying Tryd.underlying40, Instr.fill, Value.cells, Tryd.sizeOf3, Tryd.sizeOf38]) (fun a F => ?_)
      refine q2 (o_s 30 (.move (.tmp 8)) 24 (by kernel_rfl)) F (by decide) (x_move (F.slot rfl)) (fun a F => ?_)
      refine sq_put (M := [Asn.blk g1 [.int .i64 0, .int .i64 0, .slice none 0 0] 40, Asn.blk g2 [.int .i64 x, .int .i64 0] 87]) (o_n (.store 40 (.tmp 2) (.tmp 29)) 0 (by kernel_rfl)) trivial F (x_store H (k := 0) (cs' := [.int .i64 0, .int .i64 0, .slice none 0 0]) rfl (Tryd.sizeOf40 W) (F.slot rfl) (F.slot rfl) rfl (Nat.le_of_ble_eq_true rfl) rfl rfl) ?_
      intro W H
      refine ⟨(fun _ => trivial), ?_⟩
      refine q2 (o_s 3 (.assign (.tmp 30)) 24 (by kernel_rfl)) F (by decide) (v := .int .i64 z1) (x_assign (F.slot rfl)) (fun a F => ?_)
      unfold wpSeq
      refine t_normal ?_
      refine c_ret (by kernel_rfl) ?_
      refine t_ret ?_
      refine b_ret ?_
      refine t_ret ?_
      refine t_ret ?_
      refine b_ret ?_
      refine t_ret ?_
      refine p_list (rs := [.cell 2 40, .tmp 3]) (vs := [.agg #[.int .i64 0, .int .i64 0, .slice none 0 0], .int .i64 z1]) Tryd.results28 (by simp) F (Vals.cell' F rfl (H.blk 0 rfl) Tryd.underlying40 rfl (by kernel_rfl) (Vals.tmp' F rfl .nil)) ?_
      have hz : z1 ≠ 0 := by simpa using hb3
      have HF : bdec s0 = bnil z1 := by have := HF.trans (if_neg (by rw [hG]; exact hz)); rw [hG] at this; exact this
      rw [HF]
      exact ⟨none, 0, rfl, Nat.le_refl _, fun _ _ => Kd.C_nil _ _, H.ends⟩
    · have F := F.at 28 rfl (v' := .bool false) (congrArg Value.bool hb3)
      refine c_no (c := .tmp 28) (by kernel_rfl) (F.slot rfl) ?_
      refine c_skip (by kernel_rfl) ?_
      refine t_normal ?_
      obtain rfl : z1 = 0 := by simpa using hb3
      have HF : bdec s0 = bdec1 a1 (rest s k1) := by have := HF.trans (if_pos (by rw [hG])); rw [hG] at this; exact this
      have hg := gi_ok s 9 0 0 (by omega) (by rw [hG])
      rw [hG] at hg; dsimp only at hg
      refine c_drawn (id := 8) (by kernel_rfl) (by kernel_rfl) (Vs []) [0, 0, 0, 0, 12, 3, 35, 127] [] [(0, 0), (1, 0), (2, 0), (3, 0), (4, 0), (5, 0), (6, 2), (7, 0)] (by kernel_rfl) (fun _ _ d _ _ h => by cases d <;> exact h) (trivial) ?_
      have H := H.drew
      generalize World.drew W = W at H ⊢
      refine q0 (o_s 31 (.move (.tmp 5)) 3 (by kernel_rfl)) F (by decide) (fun W_ => x_move (F.slot rfl)) (fun a F => ?_)
      refine q0 (o_s 32 (.move (.tmp 6)) 2 (by kernel_rfl)) F (by decide) (fun W_ => x_move (F.slot rfl)) (fun a F => ?_)
      refine q0 (o_s 33 (.move (.tmp 0)) 9 (by kernel_rfl)) F (by decide) (fun W_ => x_move (F.slot rfl)) (fun a F => ?_)
      refine q0 (o_s 34 (.move (.tmp 7)) 3 (by kernel_rfl)) F (by decide) (fun W_ => x_move (F.slot rfl)) (fun a F => ?_)
      refine q0 (o_s 35 (.slice 9 (.tmp 33) (some (.tmp 34)) none none) 9 (by kernel_rfl)) F (by decide) (v := .string (rest s k1)) (fun W_ => x_sliceS Tryd.underlying9 (F.slot rfl) (F.slot rfl) (by omega) (by omega)) (fun a F => ?_)
      refine q0 (o_s 36 (.indexAddr 87 (.tmp 4) (.tmp 31)) 0 (by kernel_rfl)) F (by decide) (v := .pointer (some ⟨g2, 0, none⟩)) (fun W_ => x_ixc Tryd.underlying87 (Tryd.sizeOf2 W_) (F.slot rfl) (F.slot rfl) (by decide)) (fun a F => ?_)
      refine sq_put (M := [Asn.blk g1 [.int .i64 0, .int .i64 0, .slice none 0 0] 40, Asn.blk g2 [.int .i64 a1, .int .i64 0] 87]) (o_n (.store 2 (.tmp 36) (.tmp 32)) 0 (by kernel_rfl)) trivial F (x_store H (k := 1) (cs' := [.int .i64 a1, .int .i64 0]) rfl (Tryd.sizeOf2 W) (F.slot rfl) (F.slot rfl) rfl (Nat.le_of_ble_eq_true rfl) rfl rfl) ?_
      intro W H
      refine ⟨(fun _ => trivial), ?_⟩
      refine q0 (o_s 0 (.assign (.tmp 35)) 9 (by kernel_rfl)) F (by decide) (v := .string (rest s k1)) (fun W_ => x_assign (F.slot rfl)) (fun a F => ?_)
      unfold wpSeq
      refine b_normal ?_
      refine t_normal ?_
      refine c_text (id := 9) (by kernel_rfl) [(0, 2), (1, 2)] (by kernel_rfl) ?_
      refine q2 (o_s 37 (.binOp .add 3 (.tmp 18) (.const (.int .i64 1)) 3) 3 (by kernel_rfl)) F (by decide) (v := .int .i64 1) (x_int (F.slot rfl) rfl rfl) (fun a F => ?_)
      refine q2 (o_s 18 (.move (.tmp 37)) 3 (by kernel_rfl)) F (by decide) (x_move (F.slot rfl)) (fun a F => ?_)
      unfold wpSeq
      refine t_normal ?_
      have F_ := F
      exact ⟨k - 1, by omega, (1 : Int), a1, 0, (rest s k1), F.less _ (subc rfl (subc rfl (subc rfl (subc rfl sub0)))), H, (by have := rest_size s k1; omega), by omega, .inr (.inl ⟨rfl, rfl, HF⟩)⟩
  · refine c_text (id := 3) (by kernel_rfl) [(0, 2)] (by kernel_rfl) ?_
    refine q2 (o_s 19 (.binOp .lss 3 (.tmp 18) (.const (.int .i64 2)) 3) 0 (by kernel_rfl)) F (by decide) (v := .bool true) (x_int (F.slot rfl) rfl rfl) (fun a F => ?_)
    unfold wpSeq
    have H : St w (fun _ => False) (fun _ => False) [Asn.blk g1 [.int .i64 0, .int .i64 0, .slice none 0 0] 40, Asn.blk g2 [.int .i64 x, .int .i64 0] 87] W := H
    refine t_normal ?_
    refine c_seq (by kernel_rfl) ?_
    refine c_yes (c := .tmp 19) (by kernel_rfl) (F.slot rfl) ?_
    refine c_skip (by kernel_rfl) ?_
    refine t_normal ?_
    refine c_seq (by kernel_rfl) ?_
    refine c_block (id := 1) (by kernel_rfl) ?_
    refine c_seq (by kernel_rfl) ?_
    refine c_text (id := 4) (by kernel_rfl) [(0, 2), (1, 2)] (by kernel_rfl) ?_
    refine q2 (o_s 20 (.move (.tmp 18)) 3 (by kernel_rfl)) F (by decide) (x_move (F.slot rfl)) (fun a F => ?_)
    refine q2 (o_s 5 (.assign (.tmp 20)) 3 (by kernel_rfl)) F (by decide) (v := .int .i64 1) (x_assign (F.slot rfl)) (fun a F => ?_)
    unfold wpSeq
    refine t_normal ?_
    refine c_seq (by kernel_rfl) ?_
    refine c_text (id := 5) (by kernel_rfl) [(0, 2), (1, 2), (2, 2), (3, 2), (4, 2), (5, 2), (6, 2), (7, 2), (8, 2)] (by kernel_rfl) ?_
    refine q2 (o_s 22 (.move (.tmp 0)) 9 (by kernel_rfl)) F (by decide) (x_move (F.slot rfl)) (fun a F => ?_)
    obtain ⟨a1, k1, z1, hG⟩ : ∃ a k z, gi s 9 0 0 = (a, k, z) := ⟨_, _, _, rfl⟩
    refine sqc (o_s 23 (.call { callee := (.value (.func 60)), args := #[(.tmp 22)], argTypes := #[9] }) 88 (by kernel_rfl)) trivial F (by decide) (x_call Tryd.func60 (by kernel_rfl) rfl (args_1 (F.slot rfl))) (wire_GetInt.calls s a1 k1 z1 W (congrArg some hG)) ?_
    rintro e W ⟨rfl, hd⟩
    refine ⟨_, rfl, fun a F => ?_⟩
    have H := H.below (drawn_below hd)
    refine ⟨(fun _ => trivial), ?_⟩
    refine q2 (o_s 21 (.move (.tmp 23)) 88 (by kernel_rfl)) F (by decide) (x_move (F.slot rfl)) (fun a F => ?_)
    refine q2 (o_s 24 (.extract (.tmp 21) 0) 2 (by kernel_rfl)) F (by decide) (v := .int .i64 a1) (x_extract (F.slot rfl) rfl) (fun a F => ?_)
    refine q2 (o_s 25 (.extract (.tmp 21) 1) 3 (by kernel_rfl)) F (by decide) (v := .int .i64 k1) (x_extract (F.slot rfl) rfl) (fun a F => ?_)
    refine q2 (o_s 26 (.extract (.tmp 21) 2) 24 (by kernel_rfl)) F (by decide) (v := .int .i64 z1) (x_extract (F.slot rfl) rfl) (fun a F => ?_)
    refine q2 (o_s 6 (.assign (.tmp 24)) 2 (by kernel_rfl)) F (by decide) (v := .int .i64 a1) (x_assign (F.slot rfl)) (fun a F => ?_)
    refine q2 (o_s 7 (.assign (.tmp 25)) 3 (by kernel_rfl)) F (by decide) (v := .int .i64 k1) (x_assign (F.slot rfl)) (fun a F => ?_)
    refine q2 (o_s 8 (.assign (.tmp 26)) 24 (by kernel_rfl)) F (by decide) (v := .int .i64 z1) (x_assign (F.slot rfl)) (fun a F => ?_)
    unfold wpSeq
    refine t_normal ?_
    refine c_seq (by kernel_rfl) ?_
    refine c_seq (by kernel_rfl) ?_
    refine c_text (id := 6) (by kernel_rfl) [(0, 2), (1, 2)] (by kernel_rfl) ?_
    refine q2 (o_s 27 (.move (.tmp 8)) 24 (by kernel_rfl)) F (by decide) (x_move (F.slot rfl)) (fun a F => ?_)
    refine q2 (o_s 28 (.binOp .neq 24 (.tmp 27) (.const (.int .i64 0)) 24) 4 (by kernel_rfl)) F (by decide) (v := .bool (z1 != (0 : Int))) (x_int (F.slot rfl) rfl rfl) (fun a F => ?_)
    unfold wpSeq
    refine t_normal ?_
    rcases bool_or (z1 != (0 : Int)) with hb5 | hb5
    · have F := F.at 28 rfl (v' := .bool true) (congrArg Value.bool hb5)
      refine c_yes (c := .tmp 28) (by kernel_rfl) (F.slot rfl) ?_
      refine c_seq (by kernel_rfl) ?_
      refine c_text (id := 7) (by kernel_rfl) [(0, 2), (1, 2), (2, 2), (3, 2)] (by kernel_rfl) ?_
      refine q2 (o_s 29 (.build 40 #[]) 40 (by kernel_rfl)) F (by decide) (v := .agg #[.int .i64 0, .int .i64 0, .slice none 0 0]) (by simp [ex, execOp, Instr.build, Tryd.zeroValue40, run_underlying Tryd.underlying40, Instr.fill, Value.cells, Tryd.sizeOf3, Tryd.sizeOf38]) (fun a F => ?_)
      refine q2 (o_s 30 (.move (.tmp 8)) 24 (by kernel_rfl)) F (by decide) (x_move (F.slot rfl)) (fun a F => ?_)
      refine sq_put (M := [Asn.blk g1 [.int .i64 0, .int .i64 0, .slice none 0 0] 40, Asn.blk g2 [.int .i64 x, .int .i64 0] 87]) (o_n (.store 40 (.tmp 2) (.tmp 29)) 0 (by kernel_rfl)) trivial F (x_store H (k := 0) (cs' := [.int .i64 0, .int .i64 0, .slice none 0 0]) rfl (Tryd.sizeOf40 W) (F.slot rfl) (F.slot rfl) rfl (Nat.le_of_ble_eq_true rfl) rfl rfl) ?_
      intro W H
      refine ⟨(fun _ => trivial), ?_⟩
      refine q2 (o_s 3 (.assign (.tmp 30)) 24 (by kernel_rfl)) F (by decide) (v := .int .i64 z1) (x_assign (F.slot rfl)) (fun a F => ?_)
      unfold wpSeq
      refine t_normal ?_
      refine c_ret (by kernel_rfl) ?_
      refine t_ret ?_
      refine b_ret ?_
      refine t_ret ?_
      refine t_ret ?_
      refine b_ret ?_
      refine t_ret ?_
      refine p_list (rs := [.cell 2 40, .tmp 3]) (vs := [.agg #[.int .i64 0, .int .i64 0, .slice none 0 0], .int .i64 z1]) Tryd.results28 (by simp) F (Vals.cell' F rfl (H.blk 0 rfl) Tryd.underlying40 rfl (by kernel_rfl) (Vals.tmp' F rfl .nil)) ?_
      have hz : z1 ≠ 0 := by simpa using hb5
      have HF : bdec s0 = bnil z1 := by have := HF.trans (if_neg (by rw [hG]; exact hz)); rw [hG] at this; exact this
      rw [HF]
      exact ⟨none, 0, rfl, Nat.le_refl _, fun _ _ => Kd.C_nil _ _, H.ends⟩
    · have F := F.at 28 rfl (v' := .bool false) (congrArg Value.bool hb5)
      refine c_no (c := .tmp 28) (by kernel_rfl) (F.slot rfl) ?_
      refine c_skip (by kernel_rfl) ?_
      refine t_normal ?_
      obtain rfl : z1 = 0 := by simpa using hb5
      have HF : bdec s0 = bdec2 x a1 (rest s k1) := by have := HF.trans (if_pos (by rw [hG])); rw [hG] at this; exact this
      have hg := gi_ok s 9 0 0 (by omega) (by rw [hG])
      rw [hG] at hg; dsimp only at hg
      refine c_drawn (id := 8) (by kernel_rfl) (by kernel_rfl) (Vs []) [0, 0, 0, 0, 12, 3, 35, 127] [] [(0, 0), (1, 0), (2, 0), (3, 0), (4, 0), (5, 0), (6, 2), (7, 0)] (by kernel_rfl) (fun _ _ d _ _ h => by cases d <;> exact h) (trivial) ?_
      have H := H.drew
      generalize World.drew W = W at H ⊢
      refine q0 (o_s 31 (.move (.tmp 5)) 3 (by kernel_rfl)) F (by decide) (fun W_ => x_move (F.slot rfl)) (fun a F => ?_)
      refine q0 (o_s 32 (.move (.tmp 6)) 2 (by kernel_rfl)) F (by decide) (fun W_ => x_move (F.slot rfl)) (fun a F => ?_)
      refine q0 (o_s 33 (.move (.tmp 0)) 9 (by kernel_rfl)) F (by decide) (fun W_ => x_move (F.slot rfl)) (fun a F => ?_)
      refine q0 (o_s 34 (.move (.tmp 7)) 3 (by kernel_rfl)) F (by decide) (fun W_ => x_move (F.slot rfl)) (fun a F => ?_)
      refine q0 (o_s 35 (.slice 9 (.tmp 33) (some (.tmp 34)) none none) 9 (by kernel_rfl)) F (by decide) (v := .string (rest s k1)) (fun W_ => x_sliceS Tryd.underlying9 (F.slot rfl) (F.slot rfl) (by omega) (by omega)) (fun a F => ?_)
      refine q0 (o_s 36 (.indexAddr 87 (.tmp 4) (.tmp 31)) 0 (by kernel_rfl)) F (by decide) (v := .pointer (some ⟨g2, 1, none⟩)) (fun W_ => x_ixc Tryd.underlying87 (Tryd.sizeOf2 W_) (F.slot rfl) (F.slot rfl) (by decide)) (fun a F => ?_)
      refine sq_put (M := [Asn.blk g1 [.int .i64 0, .int .i64 0, .slice none 0 0] 40, Asn.blk g2 [.int .i64 x, .int .i64 a1] 87]) (o_n (.store 2 (.tmp 36) (.tmp 32)) 0 (by kernel_rfl)) trivial F (x_store H (k := 1) (cs' := [.int .i64 x, .int .i64 a1]) rfl (Tryd.sizeOf2 W) (F.slot rfl) (F.slot rfl) rfl (Nat.le_of_ble_eq_true rfl) rfl rfl) ?_
      intro W H
      refine ⟨(fun _ => trivial), ?_⟩
      refine q0 (o_s 0 (.assign (.tmp 35)) 9 (by kernel_rfl)) F (by decide) (v := .string (rest s k1)) (fun W_ => x_assign (F.slot rfl)) (fun a F => ?_)
      unfold wpSeq
      refine b_normal ?_
      refine t_normal ?_
      refine c_text (id := 9) (by kernel_rfl) [(0, 2), (1, 2)] (by kernel_rfl) ?_
      refine q2 (o_s 37 (.binOp .add 3 (.tmp 18) (.const (.int .i64 1)) 3) 3 (by kernel_rfl)) F (by decide) (v := .int .i64 2) (x_int (F.slot rfl) rfl rfl) (fun a F => ?_)
      refine q2 (o_s 18 (.move (.tmp 37)) 3 (by kernel_rfl)) F (by decide) (x_move (F.slot rfl)) (fun a F => ?_)
      unfold wpSeq
      refine t_normal ?_
      have F_ := F
      exact ⟨k - 1, by omega, (2 : Int), x, a1, (rest s k1), F.less _ (subc rfl (subc rfl (subc rfl (subc rfl sub0)))), H, (by have := rest_size s k1; omega), by omega, .inr (.inr ⟨rfl, HF⟩)⟩
  · refine c_text (id := 3) (by kernel_rfl) [(0, 2)] (by kernel_rfl) ?_
    refine q2 (o_s 19 (.binOp .lss 3 (.tmp 18) (.const (.int .i64 2)) 3) 0 (by kernel_rfl)) F (by decide) (v := .bool false) (x_int (F.slot rfl) rfl rfl) (fun a F => ?_)
    unfold wpSeq
    have H : St w (fun _ => False) (fun _ => False) [Asn.blk g1 [.int .i64 0, .int .i64 0, .slice none 0 0] 40, Asn.blk g2 [.int .i64 x, .int .i64 y] 87] W := H
    refine t_normal ?_
    refine c_seq (by kernel_rfl) ?_
    refine c_no (c := .tmp 19) (by kernel_rfl) (F.slot rfl) ?_
    refine c_exit (id := 0) (by kernel_rfl) ?_
    refine t_exit ?_
    refine t_exit ?_
    refine b_here ?_
    refine t_normal ?_
    refine c_seq (by kernel_rfl) ?_
    refine c_text (id := 10) (by kernel_rfl) [(0, 2), (1, 2), (2, 2), (3, 2), (4, 2), (5, 2), (6, 2), (7, 2), (8, 2)] (by kernel_rfl) ?_
    refine q2 (o_s 39 (.move (.tmp 0)) 9 (by kernel_rfl)) F (by decide) (x_move (F.slot rfl)) (fun a F => ?_)
    obtain ⟨l, k1, z1, hG⟩ : ∃ l k z, gl s 16 = (l, k, z) := ⟨_, _, _, rfl⟩
    refine sqc (o_s 40 (.call { callee := (.value (.func 61)), args := #[(.tmp 39), (.const (.int .i64 16))], argTypes := #[9, 3] }) 90 (by kernel_rfl)) trivial F (by decide) (x_call Tryd.func61 (by kernel_rfl) rfl (args_2 (F.slot rfl) rfl)) (PWi.wire_GetList.calls 17 s 16 l k1 z1 W ((wire_list s HS 16 (by omega) 17 (by omega)).trans (congrArg some hG))) ?_
    rintro e W ⟨v9, rfl, hR, hd⟩
    refine ⟨_, rfl, fun a F => ?_⟩
    obtain ⟨A, c, rfl, hc9, hC⟩ := Kd.R_reads hR
    have H := H.freshF hd _ _ (Kd.R_F (Kd.R_bound hR)) (fun k hk => hk.2.1)
    have H : St w (fun _ => False) (fun _ => False) [Asn.blk g1 [.int .i64 0, .int .i64 0, .slice none 0 0] 40, Asn.blk g2 [.int .i64 x, .int .i64 y] 87, Asn.rd Kd.string _ A l.length l] W := H
    refine ⟨(fun _ => trivial), ?_⟩
    refine q2 (o_s 38 (.move (.tmp 40)) 90 (by kernel_rfl)) F (by decide) (x_move (F.slot rfl)) (fun a F => ?_)
    refine q2 (o_s 41 (.extract (.tmp 38) 0) 31 (by kernel_rfl)) F (by decide) (v := .slice A l.length c) (x_extract (F.slot rfl) rfl) (fun a F => ?_)
    refine q2 (o_s 42 (.extract (.tmp 38) 1) 3 (by kernel_rfl)) F (by decide) (v := .int .i64 k1) (x_extract (F.slot rfl) rfl) (fun a F => ?_)
    refine q2 (o_s 43 (.extract (.tmp 38) 2) 24 (by kernel_rfl)) F (by decide) (v := .int .i64 z1) (x_extract (F.slot rfl) rfl) (fun a F => ?_)
    refine q2 (o_s 9 (.assign (.tmp 41)) 31 (by kernel_rfl)) F (by decide) (v := .slice A l.length c) (x_assign (F.slot rfl)) (fun a F => ?_)
    refine q2 (o_s 10 (.assign (.tmp 42)) 3 (by kernel_rfl)) F (by decide) (v := .int .i64 k1) (x_assign (F.slot rfl)) (fun a F => ?_)
    refine q2 (o_s 11 (.assign (.tmp 43)) 24 (by kernel_rfl)) F (by decide) (v := .int .i64 z1) (x_assign (F.slot rfl)) (fun a F => ?_)
    unfold wpSeq
    refine t_normal ?_
    refine c_seq (by kernel_rfl) ?_
    refine c_seq (by kernel_rfl) ?_
    refine c_text (id := 11) (by kernel_rfl) [(0, 2), (1, 2)] (by kernel_rfl) ?_
    refine q2 (o_s 44 (.move (.tmp 11)) 24 (by kernel_rfl)) F (by decide) (x_move (F.slot rfl)) (fun a F => ?_)
    refine q2 (o_s 45 (.binOp .neq 24 (.tmp 44) (.const (.int .i64 0)) 24) 4 (by kernel_rfl)) F (by decide) (v := .bool (z1 != (0 : Int))) (x_int (F.slot rfl) rfl rfl) (fun a F => ?_)
    unfold wpSeq
    refine t_normal ?_
    rcases bool_or (z1 != (0 : Int)) with hb7 | hb7
    · have F := F.at 45 rfl (v' := .bool true) (congrArg Value.bool hb7)
      refine c_yes (c := .tmp 45) (by kernel_rfl) (F.slot rfl) ?_
      refine c_seq (by kernel_rfl) ?_
      refine c_text (id := 12) (by kernel_rfl) [(0, 2), (1, 2), (2, 2), (3, 2)] (by kernel_rfl) ?_
      refine q2 (o_s 46 (.build 40 #[]) 40 (by kernel_rfl)) F (by decide) (v := .agg #[.int .i64 0, .int .i64 0, .slice none 0 0]) (by simp [ex, execOp, Instr.build, Tryd.zeroValue40, run_underlying Tryd.underlying40, Instr.fill, Value.cells, Tryd.sizeOf3, Tryd.sizeOf38]) (fun a F => ?_)
      refine q2 (o_s 47 (.move (.tmp 11)) 24 (by kernel_rfl)) F (by decide) (x_move (F.slot rfl)) (fun a F => ?_)
      refine sq_put (M := [Asn.blk g1 [.int .i64 0, .int .i64 0, .slice none 0 0] 40, Asn.blk g2 [.int .i64 x, .int .i64 y] 87, Asn.rd Kd.string _ A l.length l]) (o_n (.store 40 (.tmp 2) (.tmp 46)) 0 (by kernel_rfl)) trivial F (x_store H (k := 0) (cs' := [.int .i64 0, .int .i64 0, .slice none 0 0]) rfl (Tryd.sizeOf40 W) (F.slot rfl) (F.slot rfl) rfl (Nat.le_of_ble_eq_true rfl) rfl rfl) ?_
      intro W H
      refine ⟨(fun _ => trivial), ?_⟩
      refine q2 (o_s 3 (.assign (.tmp 47)) 24 (by kernel_rfl)) F (by decide) (v := .int .i64 z1) (x_assign (F.slot rfl)) (fun a F => ?_)
      unfold wpSeq
      refine t_normal ?_
      refine c_ret (by kernel_rfl) ?_
      refine t_ret ?_
      refine p_list (rs := [.cell 2 40, .tmp 3]) (vs := [.agg #[.int .i64 0, .int .i64 0, .slice none 0 0], .int .i64 z1]) Tryd.results28 (by simp) F (Vals.cell' F rfl (H.blk 0 rfl) Tryd.underlying40 rfl (by kernel_rfl) (Vals.tmp' F rfl .nil)) ?_
      have hz : z1 ≠ 0 := by simpa using hb7
      have HF : bdec s0 = bnil z1 := by have := HF.trans (if_neg (by rw [hG]; exact hz)); rw [hG] at this; exact this
      rw [HF]
      exact ⟨none, 0, rfl, Nat.le_refl _, fun _ _ => Kd.C_nil _ _, H.ends⟩
    · have F := F.at 45 rfl (v' := .bool false) (congrArg Value.bool hb7)
      refine c_no (c := .tmp 45) (by kernel_rfl) (F.slot rfl) ?_
      refine c_skip (by kernel_rfl) ?_
      refine t_normal ?_
      refine c_seq (by kernel_rfl) ?_
      obtain rfl : z1 = 0 := by simpa using hb7
      have hg := gl_ok s 16 (by rw [hG])
      have HF : bdec s0 = bfin x y s k1 (dall l) := by have := HF.trans (if_pos (by rw [hG])); rw [hG] at this; exact this
      have HL0 : ∀ x ∈ l, x.size < 4611686018427387904 := by
        intro x hx
        have h1 := bgl_size s 16 x (by rw [hG]; exact hx)
        omega
      rw [hG] at hg; dsimp only at hg
      refine c_text (id := 13) (by kernel_rfl) [(0, 2), (1, 2), (2, 2), (3, 2), (4, 2), (5, 2), (6, 2)] (by kernel_rfl) ?_
      refine q2 (o_s 48 (.indexAddr 87 (.tmp 4) (.const (.int .i64 0))) 0 (by kernel_rfl)) F (by decide) (v := .pointer (some ⟨g2, 0, none⟩)) (x_ixc Tryd.underlying87 (Tryd.sizeOf2 W) (F.slot rfl) rfl (by decide)) (fun a F => ?_)
      refine q2 (o_s 49 (.load 2 (.tmp 48)) 2 (by kernel_rfl)) F (by decide) (v := .int .i64 x) (x_load1 (Tryd.isAgg2 W) (F.slot rfl) (H.cell 1 rfl rfl)) (fun a F => ?_)
      refine q2 (o_s 50 (.indexAddr 87 (.tmp 4) (.const (.int .i64 1))) 0 (by kernel_rfl)) F (by decide) (v := .pointer (some ⟨g2, 1, none⟩)) (x_ixc Tryd.underlying87 (Tryd.sizeOf2 W) (F.slot rfl) rfl (by decide)) (fun a F => ?_)
      refine q2 (o_s 51 (.load 2 (.tmp 50)) 2 (by kernel_rfl)) F (by decide) (v := .int .i64 y) (x_load1 (Tryd.isAgg2 W) (F.slot rfl) (H.cell 1 rfl rfl)) (fun a F => ?_)
      refine q2 (o_s 52 (.build 40 #[(0, (.tmp 49)), (1, (.tmp 51))]) 40 (by kernel_rfl)) F (by decide) (v := .agg #[.int .i64 x, .int .i64 y, .slice none 0 0]) (by simp [ex, execOp, Instr.build, Tryd.zeroValue40, run_underlying Tryd.underlying40, Instr.fill, Value.cells, F.slot (i := 49) rfl, F.slot (i := 51) rfl, Tryd.sizeOf3, Tryd.sizeOf38]) (fun a F => ?_)
      refine sq_new (o_s 12 (.alloc 40) 0 (by kernel_rfl)) trivial F (by decide) H [.int .i64 0, .int .i64 0, .slice none 0 0] 40 (x_alloc Tryd.zeroValue40 rfl) ?_
      intro g8 W a hg8 H F
      refine ⟨(fun _ => trivial), ?_⟩
      refine sq_put (M := [Asn.blk g1 [.int .i64 0, .int .i64 0, .slice none 0 0] 40, Asn.blk g2 [.int .i64 x, .int .i64 y] 87, Asn.rd Kd.string _ A l.length l, Asn.blk g8 [.int .i64 x, .int .i64 y, .slice none 0 0] 40]) (o_n (.store 40 (.tmp 12) (.tmp 52)) 0 (by kernel_rfl)) trivial F (x_store H (k := 3) (cs' := [.int .i64 x, .int .i64 y, .slice none 0 0]) rfl (Tryd.sizeOf40 W) (F.slot rfl) (F.slot rfl) rfl (Nat.le_of_ble_eq_true rfl) rfl rfl) ?_
      intro W H
      refine ⟨(fun _ => trivial), ?_⟩
      unfold wpSeq
      refine t_normal ?_
      refine c_seq (by kernel_rfl) ?_
      refine c_seq (by kernel_rfl) ?_
      have H := H.quNil k33 33
      have H : St w (fun _ => False) (fun _ => False) [Asn.blk g1 [.int .i64 0, .int .i64 0, .slice none 0 0] 40, Asn.blk g2 [.int .i64 x, .int .i64 y] 87, Asn.rd Kd.string _ A l.length l, Asn.blk g8 [.int .i64 x, .int .i64 y, .slice none 0 0] 40, Asn.qu k33 33 (.slice none 0 0) ([] : List S33) (fun _ => False)] W := H
      refine c_text (id := 14) (by kernel_rfl) [(0, 2), (1, 2), (2, 2)] (by kernel_rfl) ?_
      refine q2 (o_s 53 (.move (.tmp 9)) 31 (by kernel_rfl)) F (by decide) (x_move (F.slot rfl)) (fun a F => ?_)
      refine q2 (o_s 54 (.call { callee := (.builtin .len), args := #[(.tmp 53)], argTypes := #[31] }) 3 (by kernel_rfl)) F (by decide) (v := .int .i64 (l.length : Int)) (x_lenL Tryd.underlying31 (F.slot rfl)) (fun a F => ?_)
      refine q2 (o_s 55 (.move (.const (.int .i64 0))) 3 (by kernel_rfl)) F (by decide) (v := .int .i64 0) (x_move rfl) (fun a F => ?_)
      unfold wpSeq
      refine t_normal ?_
      refine c_block (id := 2) (by kernel_rfl) ?_
      refine c_loop (by kernel_rfl) (fun k a W => ∃ (j : Nat) (acc : List S33) (A1 : Option Addr) (c1 : Nat) (ok : Nat → Prop), Fr 93 [(2, .pointer (some ⟨g1, 0, none⟩)), (4, .pointer (some ⟨g2, 0, none⟩)), (0, .string s), (18, .int .i64 2), (19, .bool false), (39, .string s), (40, .tuple #[.slice A l.length c, .int .i64 k1, .int .i64 0]), (38, .tuple #[.slice A l.length c, .int .i64 k1, .int .i64 0]), (41, .slice A l.length c), (42, .int .i64 k1), (43, .int .i64 0), (9, .slice A l.length c), (10, .int .i64 k1), (11, .int .i64 0), (44, .int .i64 0), (45, .bool false), (48, .pointer (some ⟨g2, 0, none⟩)), (49, .int .i64 x), (50, .pointer (some ⟨g2, 1, none⟩)), (51, .int .i64 y), (52, .agg #[.int .i64 x, .int .i64 y, .slice none 0 0]), (12, .pointer (some ⟨g8, 0, none⟩)), (53, .slice A l.length c), (54, .int .i64 (l.length : Int)), (55, .int .i64 (j : Int))] a ∧ St w (fun _ => False) (fun _ => False) [Asn.blk g1 [.int .i64 0, .int .i64 0, .slice none 0 0] 40, Asn.blk g2 [.int .i64 x, .int .i64 y] 87, Asn.rd Kd.string _ A l.length l, Asn.blk g8 [.int .i64 x, .int .i64 y, .slice A1 acc.length c1] 40, Asn.qu k33 33 (.slice A1 acc.length c1) acc ok] W ∧ (j ≤ l.length) ∧ (k + j = l.length) ∧ (acc.length = j) ∧ (dall l = (acc ++ (dall (l.drop j)).1, (dall (l.drop j)).2))) l.length ⟨0, [], none, 0, (fun _ => False), F.less _ (subc rfl (subc rfl (subc rfl (subc rfl (subc rfl (subc rfl (subc rfl (subc rfl (subc rfl (subc rfl (subc rfl (subc rfl (subc rfl (subc rfl (subc rfl (subc rfl (subc rfl (subc rfl (subc rfl (subc rfl (subc rfl (subc rfl (subc rfl (subc rfl (subc rfl sub0))))))))))))))))))))))))), H, (Nat.zero_le _), rfl, rfl, rfl⟩ ?_
      rintro k a W ⟨j, acc, A1, c1, ok, F, H, hj, hkj, hacc, HD⟩
      refine c_seq (by kernel_rfl) ?_
      refine c_text (id := 15) (by kernel_rfl) [(0, 2)] (by kernel_rfl) ?_
      refine q2 (o_s 56 (.binOp .lss 3 (.tmp 55) (.tmp 54) 3) 0 (by kernel_rfl)) F (by decide) (v := .bool (decide ((j : Int) < (l.length : Int)))) (x_int (F.slot rfl) (F.slot rfl) rfl) (fun a F => ?_)
      unfold wpSeq
      have H : St w (fun _ => False) (fun _ => False) [Asn.blk g1 [.int .i64 0, .int .i64 0, .slice none 0 0] 40, Asn.blk g2 [.int .i64 x, .int .i64 y] 87, Asn.rd Kd.string _ A l.length l, Asn.blk g8 [.int .i64 x, .int .i64 y, .slice A1 acc.length c1] 40, Asn.qu k33 33 (.slice A1 acc.length c1) acc ok] W := H
      refine t_normal ?_
      refine c_seq (by kernel_rfl) ?_
      rcases bool_or (decide ((j : Int) < (l.length : Int))) with hb9 | hb9
      · have hb9d := of_decide_eq_true hb9
        have F := F.at 56 rfl (v' := .bool true) (congrArg Value.bool hb9)
        refine c_yes (c := .tmp 56) (by kernel_rfl) (F.slot rfl) ?_
        refine c_skip (by kernel_rfl) ?_
        refine t_normal ?_
        refine c_seq (by kernel_rfl) ?_
        refine c_block (id := 3) (by kernel_rfl) ?_
        refine c_seq (by kernel_rfl) ?_
        refine c_text (id := 16) (by kernel_rfl) [(0, 2), (1, 2), (2, 2)] (by kernel_rfl) ?_
        obtain ⟨ad, hA, hx⟩ := Kd.at_string (H.rd 2 rfl) (j : Int) (by omega) (by omega)
        have hx : W.cell? (ad.add j) = some (.string (rdOf ByteArray.empty l (j : Int))) := hx
        obtain ⟨b, hb⟩ : ∃ b, rdOf ByteArray.empty l (j : Int) = b := ⟨_, rfl⟩
        have hbs : b.size < 4611686018427387904 := by
          have e : rdOf ByteArray.empty l (j : Int) = l[j] := by simp [rdOf, show j < l.length by omega]
          rw [← hb, e]; exact HL0 _ (List.getElem_mem _)
        have hd := dall_at l j (by omega)
        rw [hb] at hx hd
        have F := F.at 53 rfl (v' := .slice (some ad) l.length c) (by rw [hA])
        refine q2 (o_s 57 (.indexAddr 31 (.tmp 53) (.tmp 55)) 0 (by kernel_rfl)) F (by decide) (v := .pointer (some (ad.add j))) (x_indexSl1 (n := l.length) (c := c) (ad := ad) (i := (j : Int)) Tryd.underlying31 (Tryd.sizeOf9 W) (F.slot rfl) (F.slot rfl) (by omega) (by omega)) (fun a F => ?_)
        refine q2 (o_s 58 (.load 9 (.tmp 57)) 9 (by kernel_rfl)) F (by decide) (v := .string b) (x_load1 (Tryd.isAgg9 W) (F.slot rfl) hx) (fun a F => ?_)
        refine q2 (o_s 14 (.assign (.tmp 58)) 9 (by kernel_rfl)) F (by decide) (v := .string b) (x_assign (F.slot rfl)) (fun a F => ?_)
        unfold wpSeq
        refine t_normal ?_
        refine c_seq (by kernel_rfl) ?_
        refine c_text (id := 17) (by kernel_rfl) [(0, 2), (1, 2), (2, 2), (3, 2), (4, 2), (5, 2), (6, 2), (7, 2)] (by kernel_rfl) ?_
        refine q2 (o_s 60 (.move (.tmp 14)) 9 (by kernel_rfl)) F (by decide) (x_move (F.slot rfl)) (fun a F => ?_)
        obtain ⟨k0, f0, t0, am0, nc0, ky0, vl0, rs0, ws0, er, hr⟩ : ∃ a1 a2 a3 a4 a5 a6 a7 a8 a9 a10, dec b = (a1, a2, a3, a4, a5, a6, a7, a8, a9, a10) := ⟨_, _, _, _, _, _, _, _, _, _, rfl⟩
        refine sqc (o_s 61 (.call { callee := (.value (.func 25)), args := #[(.tmp 60)], argTypes := #[9] }) 48 (by kernel_rfl)) trivial F (by decide) (x_call Tryd.func25 (by kernel_rfl) rfl (args_1 (F.slot rfl))) (bdec_tx b W hbs hr) ?_
        rintro e W ⟨A7, c7, A8, c8, rfl, hF7, hl7, hF8, hl8, hB⟩
        refine ⟨_, rfl, fun a F => ?_⟩
        have H := H.freshF hB _ _ (fk_tx (toS (k0, f0, t0, am0, nc0, ky0, vl0, rs0, ws0, er)) hl7 hF7 hl8 hF8) (fun k hk => hk.1)
        have H : St w (fun _ => False) (fun _ => False) [Asn.blk g1 [.int .i64 0, .int .i64 0, .slice none 0 0] 40, Asn.blk g2 [.int .i64 x, .int .i64 y] 87, Asn.rd Kd.string _ A l.length l, Asn.blk g8 [.int .i64 x, .int .i64 y, .slice A1 acc.length c1] 40, Asn.qu k33 33 (.slice A1 acc.length c1) acc ok, Asn.fk k33 _ (toS (k0, f0, t0, am0, nc0, ky0, vl0, rs0, ws0, er)) [.int .i64 k0, .string f0, .string t0, .int .u64 am0, .int .u64 nc0, .string ky0, .string vl0, .slice A7 rs0.length c7, .slice A8 ws0.length c8]] W := H
        refine ⟨(fun _ => trivial), ?_⟩
        refine q2 (o_s 59 (.move (.tmp 61)) 48 (by kernel_rfl)) F (by decide) (x_move (F.slot rfl)) (fun a F => ?_)
        refine q2 (o_s 62 (.extract (.tmp 59) 0) 33 (by kernel_rfl)) F (by decide) (v := .agg #[.int .i64 k0, .string f0, .string t0, .int .u64 am0, .int .u64 nc0, .string ky0, .string vl0, .slice A7 rs0.length c7, .slice A8 ws0.length c8]) (x_extract (F.slot rfl) rfl) (fun a F => ?_)
        refine q2 (o_s 63 (.extract (.tmp 59) 1) 24 (by kernel_rfl)) F (by decide) (v := .int .i64 er) (x_extract (F.slot rfl) rfl) (fun a F => ?_)
        refine sq_new (o_s 15 (.alloc 33) 0 (by kernel_rfl)) trivial F (by decide) H [.int .i64 0, .string ⟨#[]⟩, .string ⟨#[]⟩, .int .u64 0, .int .u64 0, .string ⟨#[]⟩, .string ⟨#[]⟩, .slice none 0 0, .slice none 0 0] 33 (x_alloc Tryd.zeroValue33 rfl) ?_
        intro g10 W a hg10 H F
        refine ⟨(fun _ => trivial), ?_⟩
        refine sq_put (M := [Asn.blk g1 [.int .i64 0, .int .i64 0, .slice none 0 0] 40, Asn.blk g2 [.int .i64 x, .int .i64 y] 87, Asn.rd Kd.string _ A l.length l, Asn.blk g8 [.int .i64 x, .int .i64 y, .slice A1 acc.length c1] 40, Asn.qu k33 33 (.slice A1 acc.length c1) acc ok, Asn.fk k33 _ (toS (k0, f0, t0, am0, nc0, ky0, vl0, rs0, ws0, er)) [.int .i64 k0, .string f0, .string t0, .int .u64 am0, .int .u64 nc0, .string ky0, .string vl0, .slice A7 rs0.length c7, .slice A8 ws0.length c8], Asn.blk g10 [.int .i64 k0, .string f0, .string t0, .int .u64 am0, .int .u64 nc0, .string ky0, .string vl0, .slice A7 rs0.length c7, .slice A8 ws0.length c8] 33]) (o_n (.store 33 (.tmp 15) (.tmp 62)) 0 (by kernel_rfl)) trivial F (x_store H (k := 6) (cs' := [.int .i64 k0, .string f0, .string t0, .int .u64 am0, .int .u64 nc0, .string ky0, .string vl0, .slice A7 rs0.length c7, .slice A8 ws0.length c8]) rfl (Tryd.sizeOf33 W) (F.slot rfl) (F.slot rfl) rfl (Nat.le_of_ble_eq_true rfl) rfl rfl) ?_
        intro W H
        refine ⟨(fun _ => trivial), ?_⟩
        refine q2 (o_s 16 (.assign (.tmp 63)) 24 (by kernel_rfl)) F (by decide) (v := .int .i64 er) (x_assign (F.slot rfl)) (fun a F => ?_)
        unfold wpSeq
        refine t_normal ?_
        refine c_seq (by kernel_rfl) ?_
        refine c_seq (by kernel_rfl) ?_
        refine c_text (id := 18) (by kernel_rfl) [(0, 2), (1, 2)] (by kernel_rfl) ?_
        refine q2 (o_s 64 (.move (.tmp 16)) 24 (by kernel_rfl)) F (by decide) (x_move (F.slot rfl)) (fun a F => ?_)
        refine q2 (o_s 65 (.binOp .neq 24 (.tmp 64) (.const (.int .i64 0)) 24) 4 (by kernel_rfl)) F (by decide) (v := .bool (er != (0 : Int))) (x_int (F.slot rfl) rfl rfl) (fun a F => ?_)
        unfold wpSeq
        refine t_normal ?_
        rcases bool_or (er != (0 : Int)) with hb11 | hb11
        · have F := F.at 65 rfl (v' := .bool true) (congrArg Value.bool hb11)
          refine c_yes (c := .tmp 65) (by kernel_rfl) (F.slot rfl) ?_
          refine c_seq (by kernel_rfl) ?_
          refine c_text (id := 19) (by kernel_rfl) [(0, 2), (1, 2), (2, 2), (3, 2)] (by kernel_rfl) ?_
          refine q2 (o_s 66 (.build 40 #[]) 40 (by kernel_rfl)) F (by decide) (v := .agg #[.int .i64 0, .int .i64 0, .slice none 0 0]) (by simp [ex, execOp, Instr.build, Tryd.zeroValue40, run_underlying Tryd.underlying40, Instr.fill, Value.cells, Tryd.sizeOf3, Tryd.sizeOf38]) (fun a F => ?_)
          refine q2 (o_s 67 (.move (.tmp 16)) 24 (by kernel_rfl)) F (by decide) (x_move (F.slot rfl)) (fun a F => ?_)
          refine sq_put (M := [Asn.blk g1 [.int .i64 0, .int .i64 0, .slice none 0 0] 40, Asn.blk g2 [.int .i64 x, .int .i64 y] 87, Asn.rd Kd.string _ A l.length l, Asn.blk g8 [.int .i64 x, .int .i64 y, .slice A1 acc.length c1] 40, Asn.qu k33 33 (.slice A1 acc.length c1) acc ok, Asn.fk k33 _ (toS (k0, f0, t0, am0, nc0, ky0, vl0, rs0, ws0, er)) [.int .i64 k0, .string f0, .string t0, .int .u64 am0, .int .u64 nc0, .string ky0, .string vl0, .slice A7 rs0.length c7, .slice A8 ws0.length c8], Asn.blk g10 [.int .i64 k0, .string f0, .string t0, .int .u64 am0, .int .u64 nc0, .string ky0, .string vl0, .slice A7 rs0.length c7, .slice A8 ws0.length c8] 33]) (o_n (.store 40 (.tmp 2) (.tmp 66)) 0 (by kernel_rfl)) trivial F (x_store H (k := 0) (cs' := [.int .i64 0, .int .i64 0, .slice none 0 0]) rfl (Tryd.sizeOf40 W) (F.slot rfl) (F.slot rfl) rfl (Nat.le_of_ble_eq_true rfl) rfl rfl) ?_
          intro W H
          refine ⟨(fun _ => trivial), ?_⟩
          refine q2 (o_s 3 (.assign (.tmp 67)) 24 (by kernel_rfl)) F (by decide) (v := .int .i64 er) (x_assign (F.slot rfl)) (fun a F => ?_)
          unfold wpSeq
          refine t_normal ?_
          refine c_ret (by kernel_rfl) ?_
          refine t_ret ?_
          refine b_ret ?_
          refine t_ret ?_
          refine t_ret ?_
          refine b_ret ?_
          refine t_ret ?_
          refine p_list (rs := [.cell 2 40, .tmp 3]) (vs := [.agg #[.int .i64 0, .int .i64 0, .slice none 0 0], .int .i64 er]) Tryd.results28 (by simp) F (Vals.cell' F rfl (H.blk 0 rfl) Tryd.underlying40 rfl (by kernel_rfl) (Vals.tmp' F rfl .nil)) ?_
          have hz : er ≠ 0 := by simpa using hb11
          have hn : errD (k0, f0, t0, am0, nc0, ky0, vl0, rs0, ws0, er) ≠ 0 := hz
          have HF : bdec s0 = bnil er := by rw [HF, HD, hd, dall, hr, if_neg hn]; exact if_neg hz
          rw [HF]
          exact ⟨none, 0, rfl, Nat.le_refl _, fun _ _ => Kd.C_nil _ _, H.ends⟩
        · have F := F.at 65 rfl (v' := .bool false) (congrArg Value.bool hb11)
          refine c_no (c := .tmp 65) (by kernel_rfl) (F.slot rfl) ?_
          refine c_skip (by kernel_rfl) ?_
          refine t_normal ?_
          obtain rfl : er = 0 := by simpa using hb11
          have HD : dall l = ((acc ++ [(toS (k0, f0, t0, am0, nc0, ky0, vl0, rs0, ws0, 0))]) ++ (dall (l.drop (j + 1))).1, (dall (l.drop (j + 1))).2) := by
            rw [HD, hd, dall, hr, if_pos (show errD _ = 0 from rfl), List.append_assoc]; rfl
          refine c_text (id := 20) (by kernel_rfl) [(0, 2), (1, 2), (2, 2), (3, 2), (4, 2), (5, 2), (6, 2)] (by kernel_rfl) ?_
          refine q2 (o_s 68 (.fieldAddr 40 (.tmp 12) 2) 0 (by kernel_rfl)) F (by decide) (v := .pointer (some ⟨g8, 2, none⟩)) (x_field0 Tryd.underlying40 rfl rfl (Tryd.sizeOf38 W) (F.slot rfl)) (fun a F => ?_)
          refine q2 (o_s 69 (.load 38 (.tmp 68)) 38 (by kernel_rfl)) F (by decide) (v := .slice A1 acc.length c1) (x_load1 (Tryd.isAgg38 W) (F.slot rfl) (H.cell 3 rfl rfl)) (fun a F => ?_)
          refine q2 (o_s 70 (.load 33 (.tmp 15)) 33 (by kernel_rfl)) F (by decide) (v := .agg #[.int .i64 k0, .string f0, .string t0, .int .u64 am0, .int .u64 nc0, .string ky0, .string vl0, .slice A7 rs0.length c7, .slice A8 ws0.length c8]) (x_loadB (Tryd.isAgg33 W) [.int .i64 k0, .string f0, .string t0, .int .u64 am0, .int .u64 nc0, .string ky0, .string vl0, .slice A7 rs0.length c7, .slice A8 ws0.length c8] (Tryd.sizeOf33 W) (F.slot rfl) (H.blk 6 rfl)) (fun a F => ?_)
          refine sq_bapp k33 4 5 (by decide) (o_s 71 (.buildSlice 38 1 #[(0, (.tmp 70))]) 38 (by kernel_rfl)) trivial (o_s 72 (.call { callee := (.builtin .append), args := #[(.tmp 69), (.tmp 71)], argTypes := #[38, 38] }) 38 (by kernel_rfl)) (fun _ => trivial) F (by decide) (by decide) rfl (fun a F => F.slot rfl) (F.slot rfl) rfl Tryd.underlying38 PB.info33 rfl (by decide) (by decide) (by decide) H rfl rfl (by omega) (fun W H => (fun _ => trivial)) ?_
          intro v_ W a H F
          obtain ⟨A2, c2, rfl, hc2⟩ := (H.qu 4 rfl).form
          have H : St w (fun _ => False) (fun _ => False) [Asn.blk g1 [.int .i64 0, .int .i64 0, .slice none 0 0] 40, Asn.blk g2 [.int .i64 x, .int .i64 y] 87, Asn.rd Kd.string _ A l.length l, Asn.blk g8 [.int .i64 x, .int .i64 y, .slice A1 acc.length c1] 40, Asn.qu k33 33 (.slice A2 ((acc ++ [(toS (k0, f0, t0, am0, nc0, ky0, vl0, rs0, ws0, 0))]).length) c2) (acc ++ [(toS (k0, f0, t0, am0, nc0, ky0, vl0, rs0, ws0, 0))]) _, Asn.fk k33 _ (toS (k0, f0, t0, am0, nc0, ky0, vl0, rs0, ws0, 0)) [.int .i64 k0, .string f0, .string t0, .int .u64 am0, .int .u64 nc0, .string ky0, .string vl0, .slice A7 rs0.length c7, .slice A8 ws0.length c8], Asn.blk g10 [.int .i64 k0, .string f0, .string t0, .int .u64 am0, .int .u64 nc0, .string ky0, .string vl0, .slice A7 rs0.length c7, .slice A8 ws0.length c8] 33] W := H
          refine ⟨(fun _ => trivial), ?_⟩
          refine q2 (o_s 73 (.fieldAddr 40 (.tmp 12) 2) 0 (by kernel_rfl)) F (by decide) (v := .pointer (some ⟨g8, 2, none⟩)) (x_field0 Tryd.underlying40 rfl rfl (Tryd.sizeOf38 W) (F.slot rfl)) (fun a F => ?_)
          refine sq_put (M := [Asn.blk g1 [.int .i64 0, .int .i64 0, .slice none 0 0] 40, Asn.blk g2 [.int .i64 x, .int .i64 y] 87, Asn.rd Kd.string _ A l.length l, Asn.blk g8 [.int .i64 x, .int .i64 y, .slice A2 ((acc ++ [(toS (k0, f0, t0, am0, nc0, ky0, vl0, rs0, ws0, 0))]).length) c2] 40, Asn.qu k33 33 (.slice A2 ((acc ++ [(toS (k0, f0, t0, am0, nc0, ky0, vl0, rs0, ws0, 0))]).length) c2) (acc ++ [(toS (k0, f0, t0, am0, nc0, ky0, vl0, rs0, ws0, 0))]) _, Asn.fk k33 _ (toS (k0, f0, t0, am0, nc0, ky0, vl0, rs0, ws0, 0)) [.int .i64 k0, .string f0, .string t0, .int .u64 am0, .int .u64 nc0, .string ky0, .string vl0, .slice A7 rs0.length c7, .slice A8 ws0.length c8], Asn.blk g10 [.int .i64 k0, .string f0, .string t0, .int .u64 am0, .int .u64 nc0, .string ky0, .string vl0, .slice A7 rs0.length c7, .slice A8 ws0.length c8] 33]) (o_n (.store 38 (.tmp 73) (.tmp 72)) 0 (by kernel_rfl)) trivial F (x_store H (k := 3) (cs' := [.int .i64 x, .int .i64 y, .slice A2 ((acc ++ [(toS (k0, f0, t0, am0, nc0, ky0, vl0, rs0, ws0, 0))]).length) c2]) rfl (Tryd.sizeOf38 W) (F.slot rfl) (F.slot rfl) rfl (Nat.le_of_ble_eq_true rfl) rfl rfl) ?_
          intro W H
          refine ⟨(fun _ => trivial), ?_⟩
          unfold wpSeq
          refine b_normal ?_
          refine t_normal ?_
          have H := H.front 5
          have H : St w (fun _ => False) (fun _ => False) [Asn.blk g1 [.int .i64 0, .int .i64 0, .slice none 0 0] 40, Asn.blk g2 [.int .i64 x, .int .i64 y] 87, Asn.rd Kd.string _ A l.length l, Asn.blk g8 [.int .i64 x, .int .i64 y, .slice A2 ((acc ++ [(toS (k0, f0, t0, am0, nc0, ky0, vl0, rs0, ws0, 0))]).length) c2] 40, Asn.qu k33 33 (.slice A2 ((acc ++ [(toS (k0, f0, t0, am0, nc0, ky0, vl0, rs0, ws0, 0))]).length) c2) (acc ++ [(toS (k0, f0, t0, am0, nc0, ky0, vl0, rs0, ws0, 0))]) _] W := H
          refine c_text (id := 21) (by kernel_rfl) [(0, 2), (1, 2)] (by kernel_rfl) ?_
          refine q2 (o_s 74 (.binOp .add 3 (.tmp 55) (.const (.int .i64 1)) 3) 3 (by kernel_rfl)) F (by decide) (v := .int .i64 (IntKind.i64.wrap ((j : Int) + 1))) (x_int (F.slot rfl) rfl rfl) (fun a F => ?_)
          refine q2 (o_s 55 (.move (.tmp 74)) 3 (by kernel_rfl)) F (by decide) (x_move (F.slot rfl)) (fun a F => ?_)
          unfold wpSeq
          refine t_normal ?_
          have F_ := F
          have F := F.at 55 rfl (v' := .int .i64 ((j + 1 : Nat) : Int)) (congrArg (Value.int .i64) ((wrap_i64 _ (by omega) (by omega)).trans (by omega)))
          have F := F.at 53 rfl (v' := .slice A l.length c) (by rw [hA])
          exact ⟨k - 1, by omega, j + 1, _, _, _, _, F.less _ (subc rfl (subc rfl (subc rfl (subc rfl (subc rfl (subc rfl (subc rfl (subc rfl (subc rfl (subc rfl (subc rfl (subc rfl (subc rfl (subc rfl (subc rfl (subc rfl (subc rfl (subc rfl (subc rfl (subc rfl (subc rfl (subc rfl (subc rfl (subc rfl (subc rfl sub0))))))))))))))))))))))))), H, (by omega), (by omega), (by simp [hacc]), HD⟩
      · have hb9d := of_decide_eq_false hb9
        have F := F.at 56 rfl (v' := .bool false) (congrArg Value.bool hb9)
        refine c_no (c := .tmp 56) (by kernel_rfl) (F.slot rfl) ?_
        refine c_exit (id := 2) (by kernel_rfl) ?_
        refine t_exit ?_
        refine t_exit ?_
        refine b_here ?_
        refine t_normal ?_
        refine c_seq (by kernel_rfl) ?_
        refine c_block (id := 4) (by kernel_rfl) ?_
        refine c_seq (by kernel_rfl) ?_
        refine c_text (id := 22) (by kernel_rfl) [(0, 2), (1, 2), (2, 2), (3, 2), (4, 2)] (by kernel_rfl) ?_
        refine q2 (o_s 76 (.move (.tmp 0)) 9 (by kernel_rfl)) F (by decide) (x_move (F.slot rfl)) (fun a F => ?_)
        refine q2 (o_s 77 (.call { callee := (.builtin .len), args := #[(.tmp 76)], argTypes := #[9] }) 3 (by kernel_rfl)) F (by decide) (v := .int .i64 (s.size : Int)) (x_lenS Tryd.underlying9 (F.slot rfl)) (fun a F => ?_)
        refine q2 (o_s 78 (.move (.tmp 10)) 3 (by kernel_rfl)) F (by decide) (x_move (F.slot rfl)) (fun a F => ?_)
        refine q2 (o_s 79 (.binOp .gtr 3 (.tmp 77) (.tmp 78) 3) 4 (by kernel_rfl)) F (by decide) (v := .bool (decide ((s.size : Int) > k1))) (x_int (F.slot rfl) (F.slot rfl) rfl) (fun a F => ?_)
        refine q2 (o_s 75 (.assign (.tmp 79)) 4 (by kernel_rfl)) F (by decide) (v := .bool (decide ((s.size : Int) > k1))) (x_assign (F.slot rfl)) (fun a F => ?_)
        unfold wpSeq
        refine t_normal ?_
        rcases bool_or (decide ((s.size : Int) > k1)) with hb12 | hb12
        · have hb12d := of_decide_eq_true hb12
          have F := F.at 75 rfl (v' := .bool true) (congrArg Value.bool hb12)
          refine c_yes (c := .tmp 75) (by kernel_rfl) (F.slot rfl) ?_
          refine c_seq (by kernel_rfl) ?_
          refine c_text (id := 23) (by kernel_rfl) [(0, 2), (1, 2), (2, 2)] (by kernel_rfl) ?_
          refine q2 (o_s 80 (.build 40 #[]) 40 (by kernel_rfl)) F (by decide) (v := .agg #[.int .i64 0, .int .i64 0, .slice none 0 0]) (by simp [ex, execOp, Instr.build, Tryd.zeroValue40, run_underlying Tryd.underlying40, Instr.fill, Value.cells, Tryd.sizeOf3, Tryd.sizeOf38]) (fun a F => ?_)
          refine sq_put (M := [Asn.blk g1 [.int .i64 0, .int .i64 0, .slice none 0 0] 40, Asn.blk g2 [.int .i64 x, .int .i64 y] 87, Asn.rd Kd.string _ A l.length l, Asn.blk g8 [.int .i64 x, .int .i64 y, .slice A1 acc.length c1] 40, Asn.qu k33 33 (.slice A1 acc.length c1) acc ok]) (o_n (.store 40 (.tmp 2) (.tmp 80)) 0 (by kernel_rfl)) trivial F (x_store H (k := 0) (cs' := [.int .i64 0, .int .i64 0, .slice none 0 0]) rfl (Tryd.sizeOf40 W) (F.slot rfl) (F.slot rfl) rfl (Nat.le_of_ble_eq_true rfl) rfl rfl) ?_
          intro W H
          refine ⟨(fun _ => trivial), ?_⟩
          refine q2 (o_s 3 (.assign (.const (.int .i64 6))) 24 (by kernel_rfl)) F (by decide) (v := .int .i64 6) (x_assign rfl) (fun a F => ?_)
          unfold wpSeq
          refine t_normal ?_
          refine c_ret (by kernel_rfl) ?_
          refine b_ret ?_
          refine t_ret ?_
          refine p_list (rs := [.cell 2 40, .tmp 3]) (vs := [.agg #[.int .i64 0, .int .i64 0, .slice none 0 0], .int .i64 6]) Tryd.results28 (by simp) F (Vals.cell' F rfl (H.blk 0 rfl) Tryd.underlying40 rfl (by kernel_rfl) (Vals.tmp' F rfl .nil)) ?_
          obtain rfl : j = l.length := by omega
          have hD : dall l = (acc, 0) := by rw [HD, List.drop_eq_nil_of_le (Nat.le_refl _)]; simp [dall]
          rw [HF, hD]
          rw [show bfin x y s k1 (acc, 0) = bnil 6 from (if_pos rfl).trans (if_pos (by omega))]
          exact ⟨none, 0, rfl, Nat.le_refl _, fun _ _ => Kd.C_nil _ _, H.ends⟩
        · have hb12d := of_decide_eq_false hb12
          have F := F.at 75 rfl (v' := .bool false) (congrArg Value.bool hb12)
          refine c_no (c := .tmp 75) (by kernel_rfl) (F.slot rfl) ?_
          refine c_seq (by kernel_rfl) ?_
          refine c_text (id := 24) (by kernel_rfl) [(0, 2), (1, 2), (2, 2), (3, 2)] (by kernel_rfl) ?_
          refine q2 (o_s 82 (.fieldAddr 40 (.tmp 12) 0) 0 (by kernel_rfl)) F (by decide) (v := .pointer (some ⟨g8, 0, none⟩)) (x_field0 Tryd.underlying40 rfl rfl (Tryd.sizeOf3 W) (F.slot rfl)) (fun a F => ?_)
          refine q2 (o_s 83 (.load 3 (.tmp 82)) 3 (by kernel_rfl)) F (by decide) (v := .int .i64 x) (x_load1 (Tryd.isAgg3 W) (F.slot rfl) (H.cell 3 rfl rfl)) (fun a F => ?_)
          refine q2 (o_s 84 (.binOp .gtr 3 (.tmp 83) (.const (.int .i64 6)) 3) 4 (by kernel_rfl)) F (by decide) (v := .bool (decide (x > (6 : Int)))) (x_int (F.slot rfl) rfl rfl) (fun a F => ?_)
          refine q2 (o_s 81 (.assign (.tmp 84)) 4 (by kernel_rfl)) F (by decide) (v := .bool (decide (x > (6 : Int)))) (x_assign (F.slot rfl)) (fun a F => ?_)
          unfold wpSeq
          refine t_normal ?_
          rcases bool_or (decide (x > (6 : Int))) with hb13 | hb13
          · have hb13d := of_decide_eq_true hb13
            have F := F.at 81 rfl (v' := .bool true) (congrArg Value.bool hb13)
            refine c_yes (c := .tmp 81) (by kernel_rfl) (F.slot rfl) ?_
            refine c_seq (by kernel_rfl) ?_
            refine c_text (id := 25) (by kernel_rfl) [(0, 2), (1, 2), (2, 2)] (by kernel_rfl) ?_
            refine q2 (o_s 85 (.build 40 #[]) 40 (by kernel_rfl)) F (by decide) (v := .agg #[.int .i64 0, .int .i64 0, .slice none 0 0]) (by simp [ex, execOp, Instr.build, Tryd.zeroValue40, run_underlying Tryd.underlying40, Instr.fill, Value.cells, Tryd.sizeOf3, Tryd.sizeOf38]) (fun a F => ?_)
            refine sq_put (M := [Asn.blk g1 [.int .i64 0, .int .i64 0, .slice none 0 0] 40, Asn.blk g2 [.int .i64 x, .int .i64 y] 87, Asn.rd Kd.string _ A l.length l, Asn.blk g8 [.int .i64 x, .int .i64 y, .slice A1 acc.length c1] 40, Asn.qu k33 33 (.slice A1 acc.length c1) acc ok]) (o_n (.store 40 (.tmp 2) (.tmp 85)) 0 (by kernel_rfl)) trivial F (x_store H (k := 0) (cs' := [.int .i64 0, .int .i64 0, .slice none 0 0]) rfl (Tryd.sizeOf40 W) (F.slot rfl) (F.slot rfl) rfl (Nat.le_of_ble_eq_true rfl) rfl rfl) ?_
            intro W H
            refine ⟨(fun _ => trivial), ?_⟩
            refine q2 (o_s 3 (.assign (.const (.int .i64 2))) 24 (by kernel_rfl)) F (by decide) (v := .int .i64 2) (x_assign rfl) (fun a F => ?_)
            unfold wpSeq
            refine t_normal ?_
            refine c_ret (by kernel_rfl) ?_
            refine b_ret ?_
            refine t_ret ?_
            refine p_list (rs := [.cell 2 40, .tmp 3]) (vs := [.agg #[.int .i64 0, .int .i64 0, .slice none 0 0], .int .i64 2]) Tryd.results28 (by simp) F (Vals.cell' F rfl (H.blk 0 rfl) Tryd.underlying40 rfl (by kernel_rfl) (Vals.tmp' F rfl .nil)) ?_
            obtain rfl : j = l.length := by omega
            have hD : dall l = (acc, 0) := by rw [HD, List.drop_eq_nil_of_le (Nat.le_refl _)]; simp [dall]
            rw [HF, hD]
            rw [show bfin x y s k1 (acc, 0) = bnil 2 from (if_pos rfl).trans ((if_neg (by omega)).trans (if_pos (by omega)))]
            exact ⟨none, 0, rfl, Nat.le_refl _, fun _ _ => Kd.C_nil _ _, H.ends⟩
          · have hb13d := of_decide_eq_false hb13
            have F := F.at 81 rfl (v' := .bool false) (congrArg Value.bool hb13)
            refine c_no (c := .tmp 81) (by kernel_rfl) (F.slot rfl) ?_
            refine c_skip (by kernel_rfl) ?_
            refine b_normal ?_
            refine t_normal ?_
            refine c_seq (by kernel_rfl) ?_
            refine c_seq (by kernel_rfl) ?_
            refine c_text (id := 26) (by kernel_rfl) [(0, 2), (1, 2), (2, 2)] (by kernel_rfl) ?_
            refine q2 (o_s 86 (.load 40 (.tmp 12)) 40 (by kernel_rfl)) F (by decide) (v := .agg #[.int .i64 x, .int .i64 y, .slice A1 acc.length c1]) (x_loadB (Tryd.isAgg40 W) [.int .i64 x, .int .i64 y, .slice A1 acc.length c1] (Tryd.sizeOf40 W) (F.slot rfl) (H.blk 3 rfl)) (fun a F => ?_)
            obtain ⟨z2, hz2⟩ : ∃ z, bchk x y acc = z := ⟨_, rfl⟩
            have HK := bchk_calls x y A1 c1 acc W (by omega) (H.qu 4 rfl).read.2.2 (H.qu 4 rfl).read.2.1
            rw [hz2] at HK
            refine sqc (o_s 87 (.call { callee := (.value (.func 33)), args := #[(.tmp 86)], argTypes := #[40] }) 24 (by kernel_rfl)) trivial F (by decide) (x_call Tryd.func33 (by kernel_rfl) rfl (args_1 (F.slot rfl))) (HK) ?_
            rintro e W ⟨rfl, hB⟩
            refine ⟨_, rfl, fun a F => ?_⟩
            have H := H.below hB
            refine ⟨(fun _ => trivial), ?_⟩
            refine q2 (o_s 17 (.assign (.tmp 87)) 24 (by kernel_rfl)) F (by decide) (v := .int .i64 z2) (x_assign (F.slot rfl)) (fun a F => ?_)
            unfold wpSeq
            refine t_normal ?_
            refine c_seq (by kernel_rfl) ?_
            refine c_text (id := 27) (by kernel_rfl) [(0, 2), (1, 2)] (by kernel_rfl) ?_
            refine q2 (o_s 88 (.move (.tmp 17)) 24 (by kernel_rfl)) F (by decide) (x_move (F.slot rfl)) (fun a F => ?_)
            refine q2 (o_s 89 (.binOp .neq 24 (.tmp 88) (.const (.int .i64 0)) 24) 4 (by kernel_rfl)) F (by decide) (v := .bool (z2 != (0 : Int))) (x_int (F.slot rfl) rfl rfl) (fun a F => ?_)
            unfold wpSeq
            refine t_normal ?_
            rcases bool_or (z2 != (0 : Int)) with hb14 | hb14
            · have F := F.at 89 rfl (v' := .bool true) (congrArg Value.bool hb14)
              refine c_yes (c := .tmp 89) (by kernel_rfl) (F.slot rfl) ?_
              refine c_seq (by kernel_rfl) ?_
              refine c_text (id := 28) (by kernel_rfl) [(0, 2), (1, 2), (2, 2), (3, 2)] (by kernel_rfl) ?_
              refine q2 (o_s 90 (.build 40 #[]) 40 (by kernel_rfl)) F (by decide) (v := .agg #[.int .i64 0, .int .i64 0, .slice none 0 0]) (by simp [ex, execOp, Instr.build, Tryd.zeroValue40, run_underlying Tryd.underlying40, Instr.fill, Value.cells, Tryd.sizeOf3, Tryd.sizeOf38]) (fun a F => ?_)
              refine q2 (o_s 91 (.move (.tmp 17)) 24 (by kernel_rfl)) F (by decide) (x_move (F.slot rfl)) (fun a F => ?_)
              refine sq_put (M := [Asn.blk g1 [.int .i64 0, .int .i64 0, .slice none 0 0] 40, Asn.blk g2 [.int .i64 x, .int .i64 y] 87, Asn.rd Kd.string _ A l.length l, Asn.blk g8 [.int .i64 x, .int .i64 y, .slice A1 acc.length c1] 40, Asn.qu k33 33 (.slice A1 acc.length c1) acc ok]) (o_n (.store 40 (.tmp 2) (.tmp 90)) 0 (by kernel_rfl)) trivial F (x_store H (k := 0) (cs' := [.int .i64 0, .int .i64 0, .slice none 0 0]) rfl (Tryd.sizeOf40 W) (F.slot rfl) (F.slot rfl) rfl (Nat.le_of_ble_eq_true rfl) rfl rfl) ?_
              intro W H
              refine ⟨(fun _ => trivial), ?_⟩
              refine q2 (o_s 3 (.assign (.tmp 91)) 24 (by kernel_rfl)) F (by decide) (v := .int .i64 z2) (x_assign (F.slot rfl)) (fun a F => ?_)
              unfold wpSeq
              refine t_normal ?_
              refine c_ret (by kernel_rfl) ?_
              refine t_ret ?_
              refine p_list (rs := [.cell 2 40, .tmp 3]) (vs := [.agg #[.int .i64 0, .int .i64 0, .slice none 0 0], .int .i64 z2]) Tryd.results28 (by simp) F (Vals.cell' F rfl (H.blk 0 rfl) Tryd.underlying40 rfl (by kernel_rfl) (Vals.tmp' F rfl .nil)) ?_
              obtain rfl : j = l.length := by omega
              have hD : dall l = (acc, 0) := by rw [HD, List.drop_eq_nil_of_le (Nat.le_refl _)]; simp [dall]
              rw [HF, hD]
              have hz : z2 ≠ 0 := by simpa using hb14
              rw [show bfin x y s k1 (acc, 0) = bnil z2 from (if_pos rfl).trans ((if_neg (by omega)).trans ((if_neg (by omega)).trans ((if_neg (by rw [hz2]; exact hz)).trans (by rw [hz2]))))]
              exact ⟨none, 0, rfl, Nat.le_refl _, fun _ _ => Kd.C_nil _ _, H.ends⟩
            · have F := F.at 89 rfl (v' := .bool false) (congrArg Value.bool hb14)
              refine c_no (c := .tmp 89) (by kernel_rfl) (F.slot rfl) ?_
              refine c_skip (by kernel_rfl) ?_
              refine t_normal ?_
              refine c_seq (by kernel_rfl) ?_
              refine c_text (id := 29) (by kernel_rfl) [(0, 2), (1, 2), (2, 2)] (by kernel_rfl) ?_
              refine q2 (o_s 92 (.load 40 (.tmp 12)) 40 (by kernel_rfl)) F (by decide) (v := .agg #[.int .i64 x, .int .i64 y, .slice A1 acc.length c1]) (x_loadB (Tryd.isAgg40 W) [.int .i64 x, .int .i64 y, .slice A1 acc.length c1] (Tryd.sizeOf40 W) (F.slot rfl) (H.blk 3 rfl)) (fun a F => ?_)
              refine sq_put (M := [Asn.blk g1 [.int .i64 x, .int .i64 y, .slice A1 acc.length c1] 40, Asn.blk g2 [.int .i64 x, .int .i64 y] 87, Asn.rd Kd.string _ A l.length l, Asn.blk g8 [.int .i64 x, .int .i64 y, .slice A1 acc.length c1] 40, Asn.qu k33 33 (.slice A1 acc.length c1) acc ok]) (o_n (.store 40 (.tmp 2) (.tmp 92)) 0 (by kernel_rfl)) trivial F (x_store H (k := 0) (cs' := [.int .i64 x, .int .i64 y, .slice A1 acc.length c1]) rfl (Tryd.sizeOf40 W) (F.slot rfl) (F.slot rfl) rfl (Nat.le_of_ble_eq_true rfl) rfl rfl) ?_
              intro W H
              refine ⟨(fun _ => trivial), ?_⟩
              refine q2 (o_s 3 (.assign (.const (.int .i64 0))) 24 (by kernel_rfl)) F (by decide) (v := .int .i64 0) (x_assign rfl) (fun a F => ?_)
              unfold wpSeq
              refine t_normal ?_
              refine c_ret (by kernel_rfl) ?_
              refine p_list (rs := [.cell 2 40, .tmp 3]) (vs := [.agg #[.int .i64 x, .int .i64 y, .slice A1 acc.length c1], .int .i64 0]) Tryd.results28 (by simp) F (Vals.cell' F rfl (H.blk 0 rfl) Tryd.underlying40 rfl (by kernel_rfl) (Vals.tmp' F rfl .nil)) ?_
              obtain rfl : j = l.length := by omega
              have hD : dall l = (acc, 0) := by rw [HD, List.drop_eq_nil_of_le (Nat.le_refl _)]; simp [dall]
              rw [HF, hD]
              have hz : z2 = 0 := by simpa using hb14
              rw [show bfin x y s k1 (acc, 0) = (x, y, acc, 0) from (if_pos rfl).trans ((if_neg (by omega)).trans ((if_neg (by omega)).trans (if_pos (hz2.trans hz))))]
              exact ⟨A1, c1, rfl, (H.qu 4 rfl).read.2.1, H.quFresh 4 rfl, H.ends⟩
end Go.Proofs.YtndicjikjcifaaaDoor

/- tuskref05.Decode. -/
namespace Go.Proofs.YtndicjikjcifaaaDoor
open Go.RowKit Go.Proofs.YtndicjikjcifaaaDoorW.PrintWords Go.Proofs.YtndicjikjcifaaaDoorW.PrintLast
set_option linter.unusedVariables false
set_option linter.unusedSimpArgs false
set_option maxRecDepth 100000
open PB (S33 k33)
end Go.Proofs.YtndicjikjcifaaaDoor

/- BatchReads. -/
namespace Go.Proofs.YtndicjikjcifaaaDoor
open Go.RowKit Go.Proofs.YtndicjikjcifaaaDoorW.PrintWords Go.Proofs.YtndicjikjcifaaaDoorW.PrintLast
set_option linter.unusedVariables false
set_option linter.unusedSimpArgs false
set_option maxRecDepth 100000
open PB (S33 k33)
theorem bdec_c {s : ByteArray} {w : World} (hs : s.size < 4611686018427387904) {a n : Int} {l : List S33} {er : Int} (hr : bdec s = (a, n, l, er)) : Calls Tryd.prog 28 #[.string s] w fun e w' => ∃ A c, e = .returned (.tuple #[.agg #[.int .i64 a, .int .i64 n, .slice A l.length c], .int .i64 er]) ∧ l.length ≤ c ∧ Foot (fun W => k33.C W A l.length l) w' (fun k => w.heap.size ≤ k ∧ k < w'.heap.size) ∧ Below w.heap.size w w' := by
  have := bdec_calls s w hs
  rw [hr] at this
  exact this
end Go.Proofs.YtndicjikjcifaaaDoor

/- What the laws' works() rests on; batch.Encode and batch.Decode of a batch that is right. -/
namespace Go.Proofs.YtndicjikjcifaaaDoor
open Go.RowKit Go.Proofs.YtndicjikjcifaaaDoorW.PrintWords Go.Proofs.YtndicjikjcifaaaDoorW.PrintLast
open PB (S33 k33)
set_option linter.unusedVariables false
set_option linter.unusedSimpArgs false
theorem benc_ok (au n : Int) (A : Option Addr) (c : Nat) (l : List S33) (w : World) (hr : k33.C w A l.length l) (hc : l.length ≤ c) (hp : ∀ t ∈ l, 0 ≤ t.f3 ∧ 0 ≤ t.f4) (hb : bchk au n l = 0) :
    Calls Tryd.prog 31 #[.agg #[.int .i64 au, .int .i64 n, .slice A l.length c]] w fun e w' => e = .returned (.tuple #[.string (bencB au n l), .int .i64 0]) ∧ Below w.heap.size w w' := by
  have h16 := (bchk_ok hb).2.2.2.2.2.1
  have := benc_calls' au n A c l w hr hc (by omega) hp
  rw [show benc au n l = (bencB au n l, 0) from if_pos hb] at this
  exact this
theorem bencB_size {au n : Int} {l : List S33} (hb : bchk au n l = 0) : (bencB au n l).size ≤ 30000 := by
  have := benc_size au n l
  rw [show benc au n l = (bencB au n l, 0) from if_pos hb] at this
  exact this
theorem bdec_ok {au n : Int} {l : List S33} (w : World) (hb : bchk au n l = 0) (hp : ∀ t ∈ l, 0 ≤ t.f3 ∧ 0 ≤ t.f4) :
    Calls Tryd.prog 28 #[.string (bencB au n l)] w fun e w' => ∃ A c, e = .returned (.tuple #[.agg #[.int .i64 au, .int .i64 n, .slice A l.length c], .int .i64 0]) ∧ l.length ≤ c ∧ Foot (fun W => k33.C W A l.length l) w' (fun k => w.heap.size ≤ k ∧ k < w'.heap.size) ∧ Below w.heap.size w w' :=
  bdec_c (by have := bencB_size hb; omega) (bdec_enc hb hp)
theorem pay_lims (n : Int) (h0 : 0 ≤ n) : 0 ≤ (payT n).f3 ∧ 0 ≤ (payT n).f4 := ⟨(by decide : (0 : Int) ≤ 5), h0⟩
def L3 : List S33 := (([] ++ [payT 1]) ++ [payT 2]) ++ [payT 3]
theorem L3_take : L3.take 2 = [payT 1, payT 2] := rfl
theorem L3_chk : bchk 1 (0 + 1) (L3.take 2) = 0 := by
  have h1 := ch_payT 1 (by decide)
  have h2 := ch_payT 2 (by decide)
  rw [L3_take]
  simp [bchk, bchL, h1, h2]
theorem L3_pos : ∀ t ∈ L3.take 2, 0 ≤ t.f3 ∧ 0 ≤ t.f4 := by
  rw [L3_take]
  intro t ht
  rcases List.mem_cons.1 ht with rfl | ht
  · exact pay_lims 1 (by decide)
  · rw [List.mem_singleton.1 ht]; exact pay_lims 2 (by decide)
theorem L3_len : ∀ t ∈ L3.take 2, LenT t := fun t ht => chT_len ((bchk_ok L3_chk).2.2.2.2.2.2 t ht)
end Go.Proofs.YtndicjikjcifaaaDoor

/- tusklaw05.works. -/
namespace Go.Proofs.YtndicjikjcifaaaDoor
open Go.RowKit Go.Proofs.YtndicjikjcifaaaDoorW.PrintWords Go.Proofs.YtndicjikjcifaaaDoorW.PrintLast
set_option linter.unusedVariables false
set_option linter.unusedSimpArgs false
set_option maxRecDepth 100000
open PB (S33 k33)
set_option maxHeartbeats 1000000 in
theorem bworks_calls (w : World) : Calls Tryd.prog 37 #[] w fun e W => e = .returned (.bool true) ∧ Below w.heap.size w W := by
  have hok : SealOk 1 2 3 := by unfold SealOk; omega
  refine c_enter2 (args := []) (S := (fun _ => False)) (R := (fun _ => True)) (M := []) Tryd.func37 (by kernel_rfl) 73 Tryd.ntmps37 (Nat.le_of_ble_eq_true rfl) (St.first w (fun _ => False) (fun _ => True)) (fun a W F H => ?_)
  have F := F.less [] sub0
  refine c_seq (by kernel_rfl) ?_
  refine c_text (id := 0) (by kernel_rfl) [(0, 2)] (by kernel_rfl) ?_
  refine q2 (o_s 0 (.assign (.const (.bool false))) 4 (by kernel_rfl)) F (by decide) (v := .bool false) (x_assign rfl) (fun a F => ?_)
  unfold wpSeq
  have H : St w (fun _ => False) (fun _ => True) [] W := H
  refine t_normal ?_
  refine c_seq (by kernel_rfl) ?_
  refine c_text (id := 1) (by kernel_rfl) [(0, 2), (1, 2), (2, 2), (3, 2), (4, 2), (5, 2)] (by kernel_rfl) ?_
  refine sqc (o_s 10 (.call { callee := (.value (.func 16)), args := #[(.const (.int .i64 1)), (.const (.int .i64 2)), (.const (.int .i64 3))], argTypes := #[3, 3, 3] }) 25 (by kernel_rfl)) trivial F (by decide) (x_call Tryd.func16 (by kernel_rfl) rfl (args_3 rfl rfl rfl)) ((new_calls 1 2 3 W).mono (fun _ _ h => h.is hok)) ?_
  rintro e W ⟨ga, rfl, hga, hbga, hB⟩
  refine ⟨_, rfl, fun a F => ?_⟩
  have H := H.newBlk hB hga hbga
  have H : St w (fun _ => False) (fun _ => True) [Asn.blk ga [.int .i64 1, .int .i64 2, .int .i64 3, .slice none 0 0, .int .i64 0, .int .i64 0] 72] W := H
  refine ⟨(fun _ => trivial), ?_⟩
  refine q2 (o_s 9 (.move (.tmp 10)) 25 (by kernel_rfl)) F (by decide) (x_move (F.slot rfl)) (fun a F => ?_)
  refine q2 (o_s 11 (.extract (.tmp 9) 0) 23 (by kernel_rfl)) F (by decide) (v := .pointer (some ⟨ga, 0, none⟩)) (x_extract (F.slot rfl) rfl) (fun a F => ?_)
  refine q2 (o_s 12 (.extract (.tmp 9) 1) 24 (by kernel_rfl)) F (by decide) (v := .int .i64 0) (x_extract (F.slot rfl) rfl) (fun a F => ?_)
  refine q2 (o_s 1 (.assign (.tmp 11)) 23 (by kernel_rfl)) F (by decide) (v := .pointer (some ⟨ga, 0, none⟩)) (x_assign (F.slot rfl)) (fun a F => ?_)
  refine q2 (o_s 2 (.assign (.tmp 12)) 24 (by kernel_rfl)) F (by decide) (v := .int .i64 0) (x_assign (F.slot rfl)) (fun a F => ?_)
  unfold wpSeq
  refine t_normal ?_
  refine c_seq (by kernel_rfl) ?_
  refine c_seq (by kernel_rfl) ?_
  refine c_text (id := 2) (by kernel_rfl) [(0, 2), (1, 2), (2, 2), (3, 2), (4, 2), (5, 2)] (by kernel_rfl) ?_
  refine q2 (o_s 13 (.move (.tmp 2)) 24 (by kernel_rfl)) F (by decide) (x_move (F.slot rfl)) (fun a F => ?_)
  refine q2 (o_s 14 (.binOp .neq 24 (.tmp 13) (.const (.int .i64 0)) 24) 4 (by kernel_rfl)) F (by decide) (v := .bool false) (x_int (F.slot rfl) rfl rfl) (fun a F => ?_)
  refine q2 (o_s 15 (.move (.tmp 14)) 4 (by kernel_rfl)) F (by decide) (x_move (F.slot rfl)) (fun a F => ?_)
  refine sq2 (W' := W) (o_g 16 (.move (.tmp 1)) 23 2 false (by kernel_rfl)) ⟨15, by kernel_rfl, rfl⟩ F (by decide) (v := .pointer (some ⟨ga, 0, none⟩)) (x_move (F.slot rfl)) (fun _ => trivial) (fun a F => ?_)
  refine sq2 (W' := W) (o_g 17 (.binOp .eql 23 (.tmp 16) (.const (.pointer none)) 23) 4 2 false (by kernel_rfl)) ⟨15, by kernel_rfl, rfl⟩ F (by decide) (v := .bool false) (x_bin (F.slot rfl) rfl rfl) (fun _ => trivial) (fun a F => ?_)
  refine q2 (o_s 18 (.pick (.tmp 15) (.const (.bool true)) (.tmp 17)) 4 (by kernel_rfl)) F (by decide) (v := .bool false) (x_pickF (F.slot rfl) (F.slot rfl)) (fun a F => ?_)
  unfold wpSeq
  refine t_normal ?_
  refine c_no (c := .tmp 18) (by kernel_rfl) (F.slot rfl) ?_
  refine c_skip (by kernel_rfl) ?_
  refine t_normal ?_
  refine c_seq (by kernel_rfl) ?_
  have H := H.quNil k33 33
  refine c_text (id := 4) (by kernel_rfl) [(0, 2), (1, 2), (2, 2)] (by kernel_rfl) ?_
  refine q2 (o_s 19 (.move (.tmp 1)) 23 (by kernel_rfl)) F (by decide) (x_move (F.slot rfl)) (fun a F => ?_)
  refine sqc (o_s 20 (.call { callee := (.value (.func 38)), args := #[(.const (.int .i64 1))], argTypes := #[3] }) 33 (by kernel_rfl)) trivial F (by decide) (x_call Tryd.func38 (by kernel_rfl) rfl (args_1 rfl)) (pay5_calls 1 (by decide) (by decide) W) ?_
  rintro e W ⟨B1, rfl, hF, hB⟩
  refine ⟨_, rfl, fun a F => ?_⟩
  have H := H.freshF hB _ _ hF (fun k hk => hk)
  have H : St w (fun _ => False) (fun _ => True) [Asn.blk ga [.int .i64 1, .int .i64 2, .int .i64 3, .slice none 0 0, .int .i64 0, .int .i64 0] 72, Asn.qu k33 33 (.slice none 0 0) ([] : List S33) (fun _ => False), Asn.fk k33 _ (payT 1) [.int .i64 ((payT 1).f0), .string ((payT 1).f1), .string ((payT 1).f2), .int .u64 ((payT 1).f3), .int .u64 ((payT 1).f4), .string ((payT 1).f5), .string ((payT 1).f6), .slice none ((payT 1).f7.length) 0, .slice B1 ((payT 1).f8.length) 2]] W := H
  refine ⟨(fun _ => trivial), ?_⟩
  have HS := H.select [0, 1, 2] [Asn.blk ga [.int .i64 1, .int .i64 2, .int .i64 3, .slice none 0 0, .int .i64 0, .int .i64 0] 72, Asn.qu k33 33 (.slice none 0 0) ([] : List S33) (fun _ => False), Asn.fk k33 _ (payT 1) [.int .i64 ((payT 1).f0), .string ((payT 1).f1), .string ((payT 1).f2), .int .u64 ((payT 1).f3), .int .u64 ((payT 1).f4), .string ((payT 1).f5), .string ((payT 1).f6), .slice none ((payT 1).f7.length) 0, .slice B1 ((payT 1).f8.length) 2]] rfl (by decide)
  refine sqc (o_s 21 (.call { callee := (.value (.func 18)), args := #[(.tmp 19), (.tmp 20)], argTypes := #[23, 33] }) 24 (by kernel_rfl)) trivial F (by decide) (x_call Tryd.func18 (by kernel_rfl) rfl (args_2 (F.slot rfl) (F.slot rfl))) ((add_calls ga 1 2 3 0 0 none 0 ([] : List S33) (fun _ => False) _ (payT 1) none B1 0 2 W (by decide) (by decide) HS).mono (fun _ _ h => h.in_ (ch_payT 1 (by decide)) (by decide))) ?_
  rintro e W ⟨rfl, Ap1, cp1, okp1, H1⟩
  refine ⟨_, rfl, fun a F => ?_⟩
  have H := H.back [0, 1, 2] [Asn.blk ga [.int .i64 1, .int .i64 2, .int .i64 3, .slice none 0 0, .int .i64 0, .int .i64 0] 72, Asn.qu k33 33 (.slice none 0 0) ([] : List S33) (fun _ => False), Asn.fk k33 _ (payT 1) [.int .i64 ((payT 1).f0), .string ((payT 1).f1), .string ((payT 1).f2), .int .u64 ((payT 1).f3), .int .u64 ((payT 1).f4), .string ((payT 1).f5), .string ((payT 1).f6), .slice none ((payT 1).f7.length) 0, .slice B1 ((payT 1).f8.length) 2]] rfl (by decide) [Asn.blk ga [.int .i64 1, .int .i64 2, .int .i64 3, .slice Ap1 ((([] : List S33) ++ [(payT 1)]).length) cp1, .int .i64 0, .int .i64 0] 72, Asn.qu k33 33 (.slice Ap1 ((([] : List S33) ++ [(payT 1)]).length) cp1) (([] : List S33) ++ [(payT 1)]) okp1, Asn.fk k33 _ (payT 1) [.int .i64 ((payT 1).f0), .string ((payT 1).f1), .string ((payT 1).f2), .int .u64 ((payT 1).f3), .int .u64 ((payT 1).f4), .string ((payT 1).f5), .string ((payT 1).f6), .slice none ((payT 1).f7.length) 0, .slice B1 ((payT 1).f8.length) 2]] [] rfl H1
  clear HS H1
  have H : St w (fun _ => False) (fun _ => True) [Asn.blk ga [.int .i64 1, .int .i64 2, .int .i64 3, .slice Ap1 ((([] : List S33) ++ [(payT 1)]).length) cp1, .int .i64 0, .int .i64 0] 72, Asn.qu k33 33 (.slice Ap1 ((([] : List S33) ++ [(payT 1)]).length) cp1) (([] : List S33) ++ [(payT 1)]) okp1, Asn.fk k33 _ (payT 1) [.int .i64 ((payT 1).f0), .string ((payT 1).f1), .string ((payT 1).f2), .int .u64 ((payT 1).f3), .int .u64 ((payT 1).f4), .string ((payT 1).f5), .string ((payT 1).f6), .slice none ((payT 1).f7.length) 0, .slice B1 ((payT 1).f8.length) 2]] W := H
  refine ⟨(fun _ => trivial), ?_⟩
  unfold wpSeq
  refine t_normal ?_
  refine c_seq (by kernel_rfl) ?_
  refine c_text (id := 5) (by kernel_rfl) [(0, 2), (1, 2), (2, 2)] (by kernel_rfl) ?_
  refine q2 (o_s 22 (.move (.tmp 1)) 23 (by kernel_rfl)) F (by decide) (x_move (F.slot rfl)) (fun a F => ?_)
  refine sqc (o_s 23 (.call { callee := (.value (.func 38)), args := #[(.const (.int .i64 2))], argTypes := #[3] }) 33 (by kernel_rfl)) trivial F (by decide) (x_call Tryd.func38 (by kernel_rfl) rfl (args_1 rfl)) (pay5_calls 2 (by decide) (by decide) W) ?_
  rintro e W ⟨B2, rfl, hF, hB⟩
  refine ⟨_, rfl, fun a F => ?_⟩
  have H := H.freshF hB _ _ hF (fun k hk => hk)
  have H : St w (fun _ => False) (fun _ => True) [Asn.blk ga [.int .i64 1, .int .i64 2, .int .i64 3, .slice Ap1 ((([] : List S33) ++ [(payT 1)]).length) cp1, .int .i64 0, .int .i64 0] 72, Asn.qu k33 33 (.slice Ap1 ((([] : List S33) ++ [(payT 1)]).length) cp1) (([] : List S33) ++ [(payT 1)]) okp1, Asn.fk k33 _ (payT 1) [.int .i64 ((payT 1).f0), .string ((payT 1).f1), .string ((payT 1).f2), .int .u64 ((payT 1).f3), .int .u64 ((payT 1).f4), .string ((payT 1).f5), .string ((payT 1).f6), .slice none ((payT 1).f7.length) 0, .slice B1 ((payT 1).f8.length) 2], Asn.fk k33 _ (payT 2) [.int .i64 ((payT 2).f0), .string ((payT 2).f1), .string ((payT 2).f2), .int .u64 ((payT 2).f3), .int .u64 ((payT 2).f4), .string ((payT 2).f5), .string ((payT 2).f6), .slice none ((payT 2).f7.length) 0, .slice B2 ((payT 2).f8.length) 2]] W := H
  refine ⟨(fun _ => trivial), ?_⟩
  have HS := H.select [0, 1, 3] [Asn.blk ga [.int .i64 1, .int .i64 2, .int .i64 3, .slice Ap1 ((([] : List S33) ++ [(payT 1)]).length) cp1, .int .i64 0, .int .i64 0] 72, Asn.qu k33 33 (.slice Ap1 ((([] : List S33) ++ [(payT 1)]).length) cp1) (([] : List S33) ++ [(payT 1)]) okp1, Asn.fk k33 _ (payT 2) [.int .i64 ((payT 2).f0), .string ((payT 2).f1), .string ((payT 2).f2), .int .u64 ((payT 2).f3), .int .u64 ((payT 2).f4), .string ((payT 2).f5), .string ((payT 2).f6), .slice none ((payT 2).f7.length) 0, .slice B2 ((payT 2).f8.length) 2]] rfl (by decide)
  refine sqc (o_s 24 (.call { callee := (.value (.func 18)), args := #[(.tmp 22), (.tmp 23)], argTypes := #[23, 33] }) 24 (by kernel_rfl)) trivial F (by decide) (x_call Tryd.func18 (by kernel_rfl) rfl (args_2 (F.slot rfl) (F.slot rfl))) ((add_calls ga 1 2 3 0 0 Ap1 cp1 (([] : List S33) ++ [(payT 1)]) okp1 _ (payT 2) none B2 0 2 W (by decide) (by decide) HS).mono (fun _ _ h => h.in_ (ch_payT 2 (by decide)) (by decide))) ?_
  rintro e W ⟨rfl, Ap2, cp2, okp2, H1⟩
  refine ⟨_, rfl, fun a F => ?_⟩
  have H := H.back [0, 1, 3] [Asn.blk ga [.int .i64 1, .int .i64 2, .int .i64 3, .slice Ap1 ((([] : List S33) ++ [(payT 1)]).length) cp1, .int .i64 0, .int .i64 0] 72, Asn.qu k33 33 (.slice Ap1 ((([] : List S33) ++ [(payT 1)]).length) cp1) (([] : List S33) ++ [(payT 1)]) okp1, Asn.fk k33 _ (payT 2) [.int .i64 ((payT 2).f0), .string ((payT 2).f1), .string ((payT 2).f2), .int .u64 ((payT 2).f3), .int .u64 ((payT 2).f4), .string ((payT 2).f5), .string ((payT 2).f6), .slice none ((payT 2).f7.length) 0, .slice B2 ((payT 2).f8.length) 2]] rfl (by decide) [Asn.blk ga [.int .i64 1, .int .i64 2, .int .i64 3, .slice Ap2 (((([] : List S33) ++ [(payT 1)]) ++ [(payT 2)]).length) cp2, .int .i64 0, .int .i64 0] 72, Asn.qu k33 33 (.slice Ap2 (((([] : List S33) ++ [(payT 1)]) ++ [(payT 2)]).length) cp2) ((([] : List S33) ++ [(payT 1)]) ++ [(payT 2)]) okp2, Asn.fk k33 _ (payT 2) [.int .i64 ((payT 2).f0), .string ((payT 2).f1), .string ((payT 2).f2), .int .u64 ((payT 2).f3), .int .u64 ((payT 2).f4), .string ((payT 2).f5), .string ((payT 2).f6), .slice none ((payT 2).f7.length) 0, .slice B2 ((payT 2).f8.length) 2]] [] rfl H1
  clear HS H1
  have H : St w (fun _ => False) (fun _ => True) [Asn.blk ga [.int .i64 1, .int .i64 2, .int .i64 3, .slice Ap2 (((([] : List S33) ++ [(payT 1)]) ++ [(payT 2)]).length) cp2, .int .i64 0, .int .i64 0] 72, Asn.qu k33 33 (.slice Ap2 (((([] : List S33) ++ [(payT 1)]) ++ [(payT 2)]).length) cp2) ((([] : List S33) ++ [(payT 1)]) ++ [(payT 2)]) okp2, Asn.fk k33 _ (payT 1) [.int .i64 ((payT 1).f0), .string ((payT 1).f1), .string ((payT 1).f2), .int .u64 ((payT 1).f3), .int .u64 ((payT 1).f4), .string ((payT 1).f5), .string ((payT 1).f6), .slice none ((payT 1).f7.length) 0, .slice B1 ((payT 1).f8.length) 2], Asn.fk k33 _ (payT 2) [.int .i64 ((payT 2).f0), .string ((payT 2).f1), .string ((payT 2).f2), .int .u64 ((payT 2).f3), .int .u64 ((payT 2).f4), .string ((payT 2).f5), .string ((payT 2).f6), .slice none ((payT 2).f7.length) 0, .slice B2 ((payT 2).f8.length) 2]] W := H
  refine ⟨(fun _ => trivial), ?_⟩
  unfold wpSeq
  refine t_normal ?_
  refine c_seq (by kernel_rfl) ?_
  refine c_text (id := 6) (by kernel_rfl) [(0, 2), (1, 2), (2, 2)] (by kernel_rfl) ?_
  refine q2 (o_s 25 (.move (.tmp 1)) 23 (by kernel_rfl)) F (by decide) (x_move (F.slot rfl)) (fun a F => ?_)
  refine sqc (o_s 26 (.call { callee := (.value (.func 38)), args := #[(.const (.int .i64 3))], argTypes := #[3] }) 33 (by kernel_rfl)) trivial F (by decide) (x_call Tryd.func38 (by kernel_rfl) rfl (args_1 rfl)) (pay5_calls 3 (by decide) (by decide) W) ?_
  rintro e W ⟨B3, rfl, hF, hB⟩
  refine ⟨_, rfl, fun a F => ?_⟩
  have H := H.freshF hB _ _ hF (fun k hk => hk)
  have H : St w (fun _ => False) (fun _ => True) [Asn.blk ga [.int .i64 1, .int .i64 2, .int .i64 3, .slice Ap2 (((([] : List S33) ++ [(payT 1)]) ++ [(payT 2)]).length) cp2, .int .i64 0, .int .i64 0] 72, Asn.qu k33 33 (.slice Ap2 (((([] : List S33) ++ [(payT 1)]) ++ [(payT 2)]).length) cp2) ((([] : List S33) ++ [(payT 1)]) ++ [(payT 2)]) okp2, Asn.fk k33 _ (payT 1) [.int .i64 ((payT 1).f0), .string ((payT 1).f1), .string ((payT 1).f2), .int .u64 ((payT 1).f3), .int .u64 ((payT 1).f4), .string ((payT 1).f5), .string ((payT 1).f6), .slice none ((payT 1).f7.length) 0, .slice B1 ((payT 1).f8.length) 2], Asn.fk k33 _ (payT 2) [.int .i64 ((payT 2).f0), .string ((payT 2).f1), .string ((payT 2).f2), .int .u64 ((payT 2).f3), .int .u64 ((payT 2).f4), .string ((payT 2).f5), .string ((payT 2).f6), .slice none ((payT 2).f7.length) 0, .slice B2 ((payT 2).f8.length) 2], Asn.fk k33 _ (payT 3) [.int .i64 ((payT 3).f0), .string ((payT 3).f1), .string ((payT 3).f2), .int .u64 ((payT 3).f3), .int .u64 ((payT 3).f4), .string ((payT 3).f5), .string ((payT 3).f6), .slice none ((payT 3).f7.length) 0, .slice B3 ((payT 3).f8.length) 2]] W := H
  refine ⟨(fun _ => trivial), ?_⟩
  have HS := H.select [0, 1, 4] [Asn.blk ga [.int .i64 1, .int .i64 2, .int .i64 3, .slice Ap2 (((([] : List S33) ++ [(payT 1)]) ++ [(payT 2)]).length) cp2, .int .i64 0, .int .i64 0] 72, Asn.qu k33 33 (.slice Ap2 (((([] : List S33) ++ [(payT 1)]) ++ [(payT 2)]).length) cp2) ((([] : List S33) ++ [(payT 1)]) ++ [(payT 2)]) okp2, Asn.fk k33 _ (payT 3) [.int .i64 ((payT 3).f0), .string ((payT 3).f1), .string ((payT 3).f2), .int .u64 ((payT 3).f3), .int .u64 ((payT 3).f4), .string ((payT 3).f5), .string ((payT 3).f6), .slice none ((payT 3).f7.length) 0, .slice B3 ((payT 3).f8.length) 2]] rfl (by decide)
  refine sqc (o_s 27 (.call { callee := (.value (.func 18)), args := #[(.tmp 25), (.tmp 26)], argTypes := #[23, 33] }) 24 (by kernel_rfl)) trivial F (by decide) (x_call Tryd.func18 (by kernel_rfl) rfl (args_2 (F.slot rfl) (F.slot rfl))) ((add_calls ga 1 2 3 0 0 Ap2 cp2 ((([] : List S33) ++ [(payT 1)]) ++ [(payT 2)]) okp2 _ (payT 3) none B3 0 2 W (by decide) (by decide) HS).mono (fun _ _ h => h.in_ (ch_payT 3 (by decide)) (by decide))) ?_
  rintro e W ⟨rfl, Ap3, cp3, okp3, H1⟩
  refine ⟨_, rfl, fun a F => ?_⟩
  have H := H.back [0, 1, 4] [Asn.blk ga [.int .i64 1, .int .i64 2, .int .i64 3, .slice Ap2 (((([] : List S33) ++ [(payT 1)]) ++ [(payT 2)]).length) cp2, .int .i64 0, .int .i64 0] 72, Asn.qu k33 33 (.slice Ap2 (((([] : List S33) ++ [(payT 1)]) ++ [(payT 2)]).length) cp2) ((([] : List S33) ++ [(payT 1)]) ++ [(payT 2)]) okp2, Asn.fk k33 _ (payT 3) [.int .i64 ((payT 3).f0), .string ((payT 3).f1), .string ((payT 3).f2), .int .u64 ((payT 3).f3), .int .u64 ((payT 3).f4), .string ((payT 3).f5), .string ((payT 3).f6), .slice none ((payT 3).f7.length) 0, .slice B3 ((payT 3).f8.length) 2]] rfl (by decide) [Asn.blk ga [.int .i64 1, .int .i64 2, .int .i64 3, .slice Ap3 ((((([] : List S33) ++ [(payT 1)]) ++ [(payT 2)]) ++ [(payT 3)]).length) cp3, .int .i64 0, .int .i64 0] 72, Asn.qu k33 33 (.slice Ap3 ((((([] : List S33) ++ [(payT 1)]) ++ [(payT 2)]) ++ [(payT 3)]).length) cp3) (((([] : List S33) ++ [(payT 1)]) ++ [(payT 2)]) ++ [(payT 3)]) okp3, Asn.fk k33 _ (payT 3) [.int .i64 ((payT 3).f0), .string ((payT 3).f1), .string ((payT 3).f2), .int .u64 ((payT 3).f3), .int .u64 ((payT 3).f4), .string ((payT 3).f5), .string ((payT 3).f6), .slice none ((payT 3).f7.length) 0, .slice B3 ((payT 3).f8.length) 2]] [] rfl H1
  clear HS H1
  have H : St w (fun _ => False) (fun _ => True) [Asn.blk ga [.int .i64 1, .int .i64 2, .int .i64 3, .slice Ap3 ((((([] : List S33) ++ [(payT 1)]) ++ [(payT 2)]) ++ [(payT 3)]).length) cp3, .int .i64 0, .int .i64 0] 72, Asn.qu k33 33 (.slice Ap3 ((((([] : List S33) ++ [(payT 1)]) ++ [(payT 2)]) ++ [(payT 3)]).length) cp3) (((([] : List S33) ++ [(payT 1)]) ++ [(payT 2)]) ++ [(payT 3)]) okp3, Asn.fk k33 _ (payT 1) [.int .i64 ((payT 1).f0), .string ((payT 1).f1), .string ((payT 1).f2), .int .u64 ((payT 1).f3), .int .u64 ((payT 1).f4), .string ((payT 1).f5), .string ((payT 1).f6), .slice none ((payT 1).f7.length) 0, .slice B1 ((payT 1).f8.length) 2], Asn.fk k33 _ (payT 2) [.int .i64 ((payT 2).f0), .string ((payT 2).f1), .string ((payT 2).f2), .int .u64 ((payT 2).f3), .int .u64 ((payT 2).f4), .string ((payT 2).f5), .string ((payT 2).f6), .slice none ((payT 2).f7.length) 0, .slice B2 ((payT 2).f8.length) 2], Asn.fk k33 _ (payT 3) [.int .i64 ((payT 3).f0), .string ((payT 3).f1), .string ((payT 3).f2), .int .u64 ((payT 3).f3), .int .u64 ((payT 3).f4), .string ((payT 3).f5), .string ((payT 3).f6), .slice none ((payT 3).f7.length) 0, .slice B3 ((payT 3).f8.length) 2]] W := H
  refine ⟨(fun _ => trivial), ?_⟩
  unfold wpSeq
  refine t_normal ?_
  refine c_seq (by kernel_rfl) ?_
  have H : St w (fun _ => False) (fun _ => True) [Asn.blk ga [.int .i64 1, .int .i64 2, .int .i64 3, .slice Ap3 L3.length cp3, .int .i64 0, .int .i64 0] 72, Asn.qu k33 33 (.slice Ap3 L3.length cp3) L3 okp3, Asn.fk k33 _ (payT 1) [.int .i64 ((payT 1).f0), .string ((payT 1).f1), .string ((payT 1).f2), .int .u64 ((payT 1).f3), .int .u64 ((payT 1).f4), .string ((payT 1).f5), .string ((payT 1).f6), .slice none ((payT 1).f7.length) 0, .slice B1 ((payT 1).f8.length) 2], Asn.fk k33 _ (payT 2) [.int .i64 ((payT 2).f0), .string ((payT 2).f1), .string ((payT 2).f2), .int .u64 ((payT 2).f3), .int .u64 ((payT 2).f4), .string ((payT 2).f5), .string ((payT 2).f6), .slice none ((payT 2).f7.length) 0, .slice B2 ((payT 2).f8.length) 2], Asn.fk k33 _ (payT 3) [.int .i64 ((payT 3).f0), .string ((payT 3).f1), .string ((payT 3).f2), .int .u64 ((payT 3).f3), .int .u64 ((payT 3).f4), .string ((payT 3).f5), .string ((payT 3).f6), .slice none ((payT 3).f7.length) 0, .slice B3 ((payT 3).f8.length) 2]] W := H
  refine c_text (id := 7) (by kernel_rfl) [(0, 2), (1, 2), (2, 2), (3, 2), (4, 2), (5, 2), (6, 2), (7, 2)] (by kernel_rfl) ?_
  refine q2 (o_s 29 (.move (.tmp 1)) 23 (by kernel_rfl)) F (by decide) (x_move (F.slot rfl)) (fun a F => ?_)
  have HS := H.select [0, 1] [Asn.blk ga [.int .i64 1, .int .i64 2, .int .i64 3, .slice Ap3 L3.length cp3, .int .i64 0, .int .i64 0] 72, Asn.qu k33 33 (.slice Ap3 L3.length cp3) L3 okp3] rfl (by decide)
  refine sqc (o_s 30 (.call { callee := (.value (.func 21)), args := #[(.tmp 29)], argTypes := #[23] }) 41 (by kernel_rfl)) trivial F (by decide) (x_call Tryd.func21 (by kernel_rfl) rfl (args_1 (F.slot rfl))) ((tick_calls ga 1 2 3 0 0 Ap3 cp3 L3 okp3 W (by decide) (by decide) (by decide) (by decide) (by decide) (by decide) (by decide) HS).mono (fun _ _ h => h.seal (by decide) (by decide) 2 (by decide))) ?_
  rintro e W ⟨rfl, H1⟩
  refine ⟨_, rfl, fun a F => ?_⟩
  have H := H.back [0, 1] [Asn.blk ga [.int .i64 1, .int .i64 2, .int .i64 3, .slice Ap3 L3.length cp3, .int .i64 0, .int .i64 0] 72, Asn.qu k33 33 (.slice Ap3 L3.length cp3) L3 okp3] rfl (by decide) [Asn.blk ga [.int .i64 1, .int .i64 2, .int .i64 3, .slice (cutA Ap3 cp3 2) ((L3.drop 2).length) (cp3 - 2), .int .i64 0, .int .i64 (0 + 1)] 72, Asn.qf k33 33 (.slice (cutA Ap3 cp3 2) (L3.drop 2).length (cp3 - 2)) (L3.drop 2) okp3 Ap3 (L3.take 2).length (L3.take 2)] [] rfl H1
  clear HS H1
  have H : St w (fun _ => False) (fun _ => True) [Asn.blk ga [.int .i64 1, .int .i64 2, .int .i64 3, .slice (cutA Ap3 cp3 2) ((L3.drop 2).length) (cp3 - 2), .int .i64 0, .int .i64 (0 + 1)] 72, Asn.qf k33 33 (.slice (cutA Ap3 cp3 2) (L3.drop 2).length (cp3 - 2)) (L3.drop 2) okp3 Ap3 (L3.take 2).length (L3.take 2), Asn.fk k33 _ (payT 1) [.int .i64 ((payT 1).f0), .string ((payT 1).f1), .string ((payT 1).f2), .int .u64 ((payT 1).f3), .int .u64 ((payT 1).f4), .string ((payT 1).f5), .string ((payT 1).f6), .slice none ((payT 1).f7.length) 0, .slice B1 ((payT 1).f8.length) 2], Asn.fk k33 _ (payT 2) [.int .i64 ((payT 2).f0), .string ((payT 2).f1), .string ((payT 2).f2), .int .u64 ((payT 2).f3), .int .u64 ((payT 2).f4), .string ((payT 2).f5), .string ((payT 2).f6), .slice none ((payT 2).f7.length) 0, .slice B2 ((payT 2).f8.length) 2], Asn.fk k33 _ (payT 3) [.int .i64 ((payT 3).f0), .string ((payT 3).f1), .string ((payT 3).f2), .int .u64 ((payT 3).f3), .int .u64 ((payT 3).f4), .string ((payT 3).f5), .string ((payT 3).f6), .slice none ((payT 3).f7.length) 0, .slice B3 ((payT 3).f8.length) 2]] W := H
  refine ⟨(fun _ => trivial), ?_⟩
  refine q2 (o_s 28 (.move (.tmp 30)) 41 (by kernel_rfl)) F (by decide) (x_move (F.slot rfl)) (fun a F => ?_)
  refine q2 (o_s 31 (.extract (.tmp 28) 0) 40 (by kernel_rfl)) F (by decide) (v := .agg #[.int .i64 1, .int .i64 (0 + 1), .slice Ap3 ((L3.take 2).length) 2]) (x_extract (F.slot rfl) rfl) (fun a F => ?_)
  refine q2 (o_s 32 (.extract (.tmp 28) 1) 4 (by kernel_rfl)) F (by decide) (v := .bool true) (x_extract (F.slot rfl) rfl) (fun a F => ?_)
  refine sq_new (o_s 3 (.alloc 40) 0 (by kernel_rfl)) trivial F (by decide) H [.int .i64 0, .int .i64 0, .slice none 0 0] 40 (x_alloc Tryd.zeroValue40 rfl) ?_
  intro g1 W a hg1 H F
  refine ⟨(fun _ => trivial), ?_⟩
  refine sq_put (M := [Asn.blk ga [.int .i64 1, .int .i64 2, .int .i64 3, .slice (cutA Ap3 cp3 2) ((L3.drop 2).length) (cp3 - 2), .int .i64 0, .int .i64 (0 + 1)] 72, Asn.qf k33 33 (.slice (cutA Ap3 cp3 2) (L3.drop 2).length (cp3 - 2)) (L3.drop 2) okp3 Ap3 (L3.take 2).length (L3.take 2), Asn.fk k33 _ (payT 1) [.int .i64 ((payT 1).f0), .string ((payT 1).f1), .string ((payT 1).f2), .int .u64 ((payT 1).f3), .int .u64 ((payT 1).f4), .string ((payT 1).f5), .string ((payT 1).f6), .slice none ((payT 1).f7.length) 0, .slice B1 ((payT 1).f8.length) 2], Asn.fk k33 _ (payT 2) [.int .i64 ((payT 2).f0), .string ((payT 2).f1), .string ((payT 2).f2), .int .u64 ((payT 2).f3), .int .u64 ((payT 2).f4), .string ((payT 2).f5), .string ((payT 2).f6), .slice none ((payT 2).f7.length) 0, .slice B2 ((payT 2).f8.length) 2], Asn.fk k33 _ (payT 3) [.int .i64 ((payT 3).f0), .string ((payT 3).f1), .string ((payT 3).f2), .int .u64 ((payT 3).f3), .int .u64 ((payT 3).f4), .string ((payT 3).f5), .string ((payT 3).f6), .slice none ((payT 3).f7.length) 0, .slice B3 ((payT 3).f8.length) 2], Asn.blk g1 [.int .i64 1, .int .i64 (0 + 1), .slice Ap3 ((L3.take 2).length) 2] 40]) (o_n (.store 40 (.tmp 3) (.tmp 31)) 0 (by kernel_rfl)) trivial F (x_store H (k := 5) (cs' := [.int .i64 1, .int .i64 (0 + 1), .slice Ap3 ((L3.take 2).length) 2]) rfl (Tryd.sizeOf40 W) (F.slot rfl) (F.slot rfl) rfl (Nat.le_of_ble_eq_true rfl) rfl rfl) ?_
  intro W H
  refine ⟨(fun _ => trivial), ?_⟩
  refine q2 (o_s 4 (.assign (.tmp 32)) 4 (by kernel_rfl)) F (by decide) (v := .bool true) (x_assign (F.slot rfl)) (fun a F => ?_)
  unfold wpSeq
  refine t_normal ?_
  refine c_seq (by kernel_rfl) ?_
  refine c_text (id := 8) (by kernel_rfl) [(0, 2), (1, 2), (2, 2), (3, 2), (4, 2), (5, 2), (6, 2)] (by kernel_rfl) ?_
  refine q2 (o_s 34 (.load 40 (.tmp 3)) 40 (by kernel_rfl)) F (by decide) (v := .agg #[.int .i64 1, .int .i64 (0 + 1), .slice Ap3 ((L3.take 2).length) 2]) (x_loadB (Tryd.isAgg40 W) [.int .i64 1, .int .i64 (0 + 1), .slice Ap3 ((L3.take 2).length) 2] (Tryd.sizeOf40 W) (F.slot rfl) (H.blk 5 rfl)) (fun a F => ?_)
  refine sqc (o_s 35 (.call { callee := (.value (.func 31)), args := #[(.tmp 34)], argTypes := #[40] }) 55 (by kernel_rfl)) trivial F (by decide) (x_call Tryd.func31 (by kernel_rfl) rfl (args_1 (F.slot rfl))) (benc_ok 1 (0 + 1) Ap3 2 (L3.take 2) W (H.qfRead 1 rfl) (by decide) L3_pos L3_chk) ?_
  rintro e W ⟨rfl, hB⟩
  refine ⟨_, rfl, fun a F => ?_⟩
  have H := H.below hB
  refine ⟨(fun _ => trivial), ?_⟩
  refine q2 (o_s 33 (.move (.tmp 35)) 55 (by kernel_rfl)) F (by decide) (x_move (F.slot rfl)) (fun a F => ?_)
  refine q2 (o_s 36 (.extract (.tmp 33) 0) 9 (by kernel_rfl)) F (by decide) (v := .string (bencB 1 (0 + 1) (L3.take 2))) (x_extract (F.slot rfl) rfl) (fun a F => ?_)
  refine q2 (o_s 37 (.extract (.tmp 33) 1) 24 (by kernel_rfl)) F (by decide) (v := .int .i64 0) (x_extract (F.slot rfl) rfl) (fun a F => ?_)
  refine q2 (o_s 5 (.assign (.tmp 36)) 9 (by kernel_rfl)) F (by decide) (v := .string (bencB 1 (0 + 1) (L3.take 2))) (x_assign (F.slot rfl)) (fun a F => ?_)
  refine q2 (o_s 6 (.assign (.tmp 37)) 24 (by kernel_rfl)) F (by decide) (v := .int .i64 0) (x_assign (F.slot rfl)) (fun a F => ?_)
  unfold wpSeq
  refine t_normal ?_
  refine c_seq (by kernel_rfl) ?_
  refine c_text (id := 9) (by kernel_rfl) [(0, 2), (1, 2), (2, 2), (3, 2), (4, 2), (5, 2), (6, 2), (7, 2)] (by kernel_rfl) ?_
  refine q2 (o_s 39 (.move (.tmp 5)) 9 (by kernel_rfl)) F (by decide) (x_move (F.slot rfl)) (fun a F => ?_)
  refine sqc (o_s 40 (.call { callee := (.value (.func 28)), args := #[(.tmp 39)], argTypes := #[9] }) 52 (by kernel_rfl)) trivial F (by decide) (x_call Tryd.func28 (by kernel_rfl) rfl (args_1 (F.slot rfl))) (bdec_ok W L3_chk L3_pos) ?_
  rintro e W ⟨Ad, cd, rfl, hcd, hF, hB⟩
  refine ⟨_, rfl, fun a F => ?_⟩
  have H := H.freshF hB _ _ hF (fun k hk => hk.1)
  have H : St w (fun _ => False) (fun _ => True) [Asn.blk ga [.int .i64 1, .int .i64 2, .int .i64 3, .slice (cutA Ap3 cp3 2) ((L3.drop 2).length) (cp3 - 2), .int .i64 0, .int .i64 (0 + 1)] 72, Asn.qf k33 33 (.slice (cutA Ap3 cp3 2) (L3.drop 2).length (cp3 - 2)) (L3.drop 2) okp3 Ap3 (L3.take 2).length (L3.take 2), Asn.fk k33 _ (payT 1) [.int .i64 ((payT 1).f0), .string ((payT 1).f1), .string ((payT 1).f2), .int .u64 ((payT 1).f3), .int .u64 ((payT 1).f4), .string ((payT 1).f5), .string ((payT 1).f6), .slice none ((payT 1).f7.length) 0, .slice B1 ((payT 1).f8.length) 2], Asn.fk k33 _ (payT 2) [.int .i64 ((payT 2).f0), .string ((payT 2).f1), .string ((payT 2).f2), .int .u64 ((payT 2).f3), .int .u64 ((payT 2).f4), .string ((payT 2).f5), .string ((payT 2).f6), .slice none ((payT 2).f7.length) 0, .slice B2 ((payT 2).f8.length) 2], Asn.fk k33 _ (payT 3) [.int .i64 ((payT 3).f0), .string ((payT 3).f1), .string ((payT 3).f2), .int .u64 ((payT 3).f3), .int .u64 ((payT 3).f4), .string ((payT 3).f5), .string ((payT 3).f6), .slice none ((payT 3).f7.length) 0, .slice B3 ((payT 3).f8.length) 2], Asn.blk g1 [.int .i64 1, .int .i64 (0 + 1), .slice Ap3 ((L3.take 2).length) 2] 40, Asn.rd k33 _ Ad ((L3.take 2).length) (L3.take 2)] W := H
  refine ⟨(fun _ => trivial), ?_⟩
  refine q2 (o_s 38 (.move (.tmp 40)) 52 (by kernel_rfl)) F (by decide) (x_move (F.slot rfl)) (fun a F => ?_)
  refine q2 (o_s 41 (.extract (.tmp 38) 0) 40 (by kernel_rfl)) F (by decide) (v := .agg #[.int .i64 1, .int .i64 (0 + 1), .slice Ad ((L3.take 2).length) cd]) (x_extract (F.slot rfl) rfl) (fun a F => ?_)
  refine q2 (o_s 42 (.extract (.tmp 38) 1) 24 (by kernel_rfl)) F (by decide) (v := .int .i64 0) (x_extract (F.slot rfl) rfl) (fun a F => ?_)
  refine sq_new (o_s 7 (.alloc 40) 0 (by kernel_rfl)) trivial F (by decide) H [.int .i64 0, .int .i64 0, .slice none 0 0] 40 (x_alloc Tryd.zeroValue40 rfl) ?_
  intro g2 W a hg2 H F
  refine ⟨(fun _ => trivial), ?_⟩
  refine sq_put (M := [Asn.blk ga [.int .i64 1, .int .i64 2, .int .i64 3, .slice (cutA Ap3 cp3 2) ((L3.drop 2).length) (cp3 - 2), .int .i64 0, .int .i64 (0 + 1)] 72, Asn.qf k33 33 (.slice (cutA Ap3 cp3 2) (L3.drop 2).length (cp3 - 2)) (L3.drop 2) okp3 Ap3 (L3.take 2).length (L3.take 2), Asn.fk k33 _ (payT 1) [.int .i64 ((payT 1).f0), .string ((payT 1).f1), .string ((payT 1).f2), .int .u64 ((payT 1).f3), .int .u64 ((payT 1).f4), .string ((payT 1).f5), .string ((payT 1).f6), .slice none ((payT 1).f7.length) 0, .slice B1 ((payT 1).f8.length) 2], Asn.fk k33 _ (payT 2) [.int .i64 ((payT 2).f0), .string ((payT 2).f1), .string ((payT 2).f2), .int .u64 ((payT 2).f3), .int .u64 ((payT 2).f4), .string ((payT 2).f5), .string ((payT 2).f6), .slice none ((payT 2).f7.length) 0, .slice B2 ((payT 2).f8.length) 2], Asn.fk k33 _ (payT 3) [.int .i64 ((payT 3).f0), .string ((payT 3).f1), .string ((payT 3).f2), .int .u64 ((payT 3).f3), .int .u64 ((payT 3).f4), .string ((payT 3).f5), .string ((payT 3).f6), .slice none ((payT 3).f7.length) 0, .slice B3 ((payT 3).f8.length) 2], Asn.blk g1 [.int .i64 1, .int .i64 (0 + 1), .slice Ap3 ((L3.take 2).length) 2] 40, Asn.rd k33 _ Ad ((L3.take 2).length) (L3.take 2), Asn.blk g2 [.int .i64 1, .int .i64 (0 + 1), .slice Ad ((L3.take 2).length) cd] 40]) (o_n (.store 40 (.tmp 7) (.tmp 41)) 0 (by kernel_rfl)) trivial F (x_store H (k := 7) (cs' := [.int .i64 1, .int .i64 (0 + 1), .slice Ad ((L3.take 2).length) cd]) rfl (Tryd.sizeOf40 W) (F.slot rfl) (F.slot rfl) rfl (Nat.le_of_ble_eq_true rfl) rfl rfl) ?_
  intro W H
  refine ⟨(fun _ => trivial), ?_⟩
  refine q2 (o_s 8 (.assign (.tmp 42)) 24 (by kernel_rfl)) F (by decide) (v := .int .i64 0) (x_assign (F.slot rfl)) (fun a F => ?_)
  unfold wpSeq
  refine t_normal ?_
  refine c_seq (by kernel_rfl) ?_
  refine c_text (id := 10) (by kernel_rfl) [(0, 2), (1, 2), (2, 2), (3, 2), (4, 2), (5, 2), (6, 2), (7, 2), (8, 2), (9, 2), (10, 2), (11, 2), (12, 2), (13, 2), (14, 2), (15, 2), (16, 2), (17, 2), (18, 2), (19, 2), (20, 2), (21, 2), (22, 2), (23, 2), (24, 2), (25, 2), (26, 2), (27, 2), (28, 2), (29, 2), (30, 2)] (by kernel_rfl) ?_
  refine q2 (o_s 43 (.move (.tmp 4)) 4 (by kernel_rfl)) F (by decide) (x_move (F.slot rfl)) (fun a F => ?_)
  refine q2 (o_s 44 (.move (.tmp 43)) 4 (by kernel_rfl)) F (by decide) (x_move (F.slot rfl)) (fun a F => ?_)
  refine sq2 (W' := W) (o_g 45 (.fieldAddr 40 (.tmp 3) 1) 0 1 true (by kernel_rfl)) ⟨44, by kernel_rfl, rfl⟩ F (by decide) (v := .pointer (some ⟨g1, 1, none⟩)) (x_field0 Tryd.underlying40 rfl rfl (Tryd.sizeOf3 W) (F.slot rfl)) (fun _ => trivial) (fun a F => ?_)
  refine sq2 (o_g 46 (.load 3 (.tmp 45)) 3 1 true (by kernel_rfl)) ⟨44, by kernel_rfl, rfl⟩ F (by decide) (v := .int .i64 (0 + 1)) (x_load1 (Tryd.isAgg3 W) (F.slot rfl) (H.cell 5 rfl rfl)) (fun _ => trivial) (fun a F => ?_)
  refine sq2 (W' := W) (o_g 47 (.binOp .eql 3 (.tmp 46) (.const (.int .i64 1)) 3) 4 1 true (by kernel_rfl)) ⟨44, by kernel_rfl, rfl⟩ F (by decide) (v := .bool ((0 + 1) == (1 : Int))) (x_int (F.slot rfl) rfl rfl) (fun _ => trivial) (fun a F => ?_)
  refine q2 (o_s 48 (.pick (.tmp 44) (.tmp 47) (.const (.bool false))) 4 (by kernel_rfl)) F (by decide) (v := .bool ((0 + 1) == (1 : Int))) (x_pickT (F.slot rfl) (F.slot rfl)) (fun a F => ?_)
  refine q2 (o_s 49 (.move (.tmp 48)) 4 (by kernel_rfl)) F (by decide) (x_move (F.slot rfl)) (fun a F => ?_)
  have hb3 : ((0 + 1) == (1 : Int)) = true := by decide
  have F := F.at 49 rfl (v' := .bool true) (congrArg Value.bool hb3)
  refine sq2 (W' := W) (o_g 50 (.fieldAddr 40 (.tmp 3) 2) 0 6 true (by kernel_rfl)) ⟨49, by kernel_rfl, rfl⟩ F (by decide) (v := .pointer (some ⟨g1, 2, none⟩)) (x_field0 Tryd.underlying40 rfl rfl (Tryd.sizeOf38 W) (F.slot rfl)) (fun _ => trivial) (fun a F => ?_)
  refine sq2 (o_g 51 (.load 38 (.tmp 50)) 38 6 true (by kernel_rfl)) ⟨49, by kernel_rfl, rfl⟩ F (by decide) (v := .slice Ap3 ((L3.take 2).length) 2) (x_load1 (Tryd.isAgg38 W) (F.slot rfl) (H.cell 5 rfl rfl)) (fun _ => trivial) (fun a F => ?_)
  refine sq2 (W' := W) (o_g 52 (.call { callee := (.builtin .len), args := #[(.tmp 51)], argTypes := #[38] }) 3 6 true (by kernel_rfl)) ⟨49, by kernel_rfl, rfl⟩ F (by decide) (v := .int .i64 ((L3.take 2).length : Int)) (x_lenL Tryd.underlying38 (F.slot rfl)) (fun _ => trivial) (fun a F => ?_)
  refine sq2 (W' := W) (o_g 53 (.binOp .eql 3 (.tmp 52) (.const (.int .i64 2)) 3) 4 6 true (by kernel_rfl)) ⟨49, by kernel_rfl, rfl⟩ F (by decide) (v := .bool (((L3.take 2).length : Int) == (2 : Int))) (x_int (F.slot rfl) rfl rfl) (fun _ => trivial) (fun a F => ?_)
  refine q2 (o_s 54 (.pick (.tmp 49) (.tmp 53) (.const (.bool false))) 4 (by kernel_rfl)) F (by decide) (v := .bool (((L3.take 2).length : Int) == (2 : Int))) (x_pickT (F.slot rfl) (F.slot rfl)) (fun a F => ?_)
  refine q2 (o_s 55 (.move (.tmp 54)) 4 (by kernel_rfl)) F (by decide) (x_move (F.slot rfl)) (fun a F => ?_)
  have hb4 : (((L3.take 2).length : Int) == (2 : Int)) = true := by decide
  have F := F.at 55 rfl (v' := .bool true) (congrArg Value.bool hb4)
  refine sq2 (W' := W) (o_g 56 (.move (.tmp 1)) 23 12 true (by kernel_rfl)) ⟨55, by kernel_rfl, rfl⟩ F (by decide) (v := .pointer (some ⟨ga, 0, none⟩)) (x_move (F.slot rfl)) (fun _ => trivial) (fun a F => ?_)
  have HS := H.select [0] [Asn.blk ga [.int .i64 1, .int .i64 2, .int .i64 3, .slice (cutA Ap3 cp3 2) ((L3.drop 2).length) (cp3 - 2), .int .i64 0, .int .i64 (0 + 1)] 72] rfl (by decide)
  refine sqc (o_g 57 (.call { callee := (.value (.func 24)), args := #[(.tmp 56)], argTypes := #[23] }) 3 12 true (by kernel_rfl)) ⟨55, by kernel_rfl, rfl⟩ F (by decide) (x_call Tryd.func24 (by kernel_rfl) rfl (args_1 (F.slot rfl))) (waits_calls ga 1 2 3 0 (0 + 1) (cutA Ap3 cp3 2) ((L3.drop 2).length) (cp3 - 2)  W HS) ?_
  rintro e W ⟨rfl, H1⟩
  refine ⟨_, rfl, fun a F => ?_⟩
  have H := H.back [0] [Asn.blk ga [.int .i64 1, .int .i64 2, .int .i64 3, .slice (cutA Ap3 cp3 2) ((L3.drop 2).length) (cp3 - 2), .int .i64 0, .int .i64 (0 + 1)] 72] rfl (by decide) [Asn.blk ga [.int .i64 1, .int .i64 2, .int .i64 3, .slice (cutA Ap3 cp3 2) ((L3.drop 2).length) (cp3 - 2), .int .i64 0, .int .i64 (0 + 1)] 72] [] rfl H1
  clear HS H1
  refine ⟨(fun _ => trivial), ?_⟩
  refine sq2 (W' := W) (o_g 58 (.binOp .eql 3 (.tmp 57) (.const (.int .i64 1)) 3) 4 12 true (by kernel_rfl)) ⟨55, by kernel_rfl, rfl⟩ F (by decide) (v := .bool (((L3.drop 2).length : Int) == (1 : Int))) (x_int (F.slot rfl) rfl rfl) (fun _ => trivial) (fun a F => ?_)
  refine q2 (o_s 59 (.pick (.tmp 55) (.tmp 58) (.const (.bool false))) 4 (by kernel_rfl)) F (by decide) (v := .bool (((L3.drop 2).length : Int) == (1 : Int))) (x_pickT (F.slot rfl) (F.slot rfl)) (fun a F => ?_)
  refine q2 (o_s 60 (.move (.tmp 59)) 4 (by kernel_rfl)) F (by decide) (x_move (F.slot rfl)) (fun a F => ?_)
  have hb5 : (((L3.drop 2).length : Int) == (1 : Int)) = true := by decide
  have F := F.at 60 rfl (v' := .bool true) (congrArg Value.bool hb5)
  refine sq2 (W' := W) (o_g 61 (.move (.tmp 6)) 24 17 true (by kernel_rfl)) ⟨60, by kernel_rfl, rfl⟩ F (by decide) (v := .int .i64 0) (x_move (F.slot rfl)) (fun _ => trivial) (fun a F => ?_)
  refine sq2 (W' := W) (o_g 62 (.binOp .eql 24 (.tmp 61) (.const (.int .i64 0)) 24) 4 17 true (by kernel_rfl)) ⟨60, by kernel_rfl, rfl⟩ F (by decide) (v := .bool true) (x_int (F.slot rfl) rfl rfl) (fun _ => trivial) (fun a F => ?_)
  refine q2 (o_s 63 (.pick (.tmp 60) (.tmp 62) (.const (.bool false))) 4 (by kernel_rfl)) F (by decide) (v := .bool true) (x_pickT (F.slot rfl) (F.slot rfl)) (fun a F => ?_)
  refine q2 (o_s 64 (.move (.tmp 63)) 4 (by kernel_rfl)) F (by decide) (x_move (F.slot rfl)) (fun a F => ?_)
  refine sq2 (W' := W) (o_g 65 (.move (.tmp 8)) 24 21 true (by kernel_rfl)) ⟨64, by kernel_rfl, rfl⟩ F (by decide) (v := .int .i64 0) (x_move (F.slot rfl)) (fun _ => trivial) (fun a F => ?_)
  refine sq2 (W' := W) (o_g 66 (.binOp .eql 24 (.tmp 65) (.const (.int .i64 0)) 24) 4 21 true (by kernel_rfl)) ⟨64, by kernel_rfl, rfl⟩ F (by decide) (v := .bool true) (x_int (F.slot rfl) rfl rfl) (fun _ => trivial) (fun a F => ?_)
  refine q2 (o_s 67 (.pick (.tmp 64) (.tmp 66) (.const (.bool false))) 4 (by kernel_rfl)) F (by decide) (v := .bool true) (x_pickT (F.slot rfl) (F.slot rfl)) (fun a F => ?_)
  refine q2 (o_s 68 (.move (.tmp 67)) 4 (by kernel_rfl)) F (by decide) (x_move (F.slot rfl)) (fun a F => ?_)
  refine sq2 (o_g 69 (.load 40 (.tmp 7)) 40 25 true (by kernel_rfl)) ⟨68, by kernel_rfl, rfl⟩ F (by decide) (v := .agg #[.int .i64 1, .int .i64 (0 + 1), .slice Ad ((L3.take 2).length) cd]) (x_loadB (Tryd.isAgg40 W) [.int .i64 1, .int .i64 (0 + 1), .slice Ad ((L3.take 2).length) cd] (Tryd.sizeOf40 W) (F.slot rfl) (H.blk 7 rfl)) (fun _ => trivial) (fun a F => ?_)
  refine sq2 (o_g 70 (.load 40 (.tmp 3)) 40 25 true (by kernel_rfl)) ⟨68, by kernel_rfl, rfl⟩ F (by decide) (v := .agg #[.int .i64 1, .int .i64 (0 + 1), .slice Ap3 ((L3.take 2).length) 2]) (x_loadB (Tryd.isAgg40 W) [.int .i64 1, .int .i64 (0 + 1), .slice Ap3 ((L3.take 2).length) 2] (Tryd.sizeOf40 W) (F.slot rfl) (H.blk 5 rfl)) (fun _ => trivial) (fun a F => ?_)
  refine sqc (o_g 71 (.call { callee := (.value (.func 23)), args := #[(.tmp 69), (.tmp 70)], argTypes := #[40, 40] }) 4 25 true (by kernel_rfl)) ⟨68, by kernel_rfl, rfl⟩ F (by decide) (x_call Tryd.func23 (by kernel_rfl) rfl (args_2 (F.slot rfl) (F.slot rfl))) (bsame_calls 1 (0 + 1) Ad Ap3 cd 2 (L3.take 2) W (by decide) L3_len (H.rd 6 rfl) hcd (H.qfRead 1 rfl) (by decide)) ?_
  rintro e W ⟨rfl, hB⟩
  refine ⟨_, rfl, fun a F => ?_⟩
  have H := H.below hB
  refine ⟨(fun _ => trivial), ?_⟩
  refine q2 (o_s 72 (.pick (.tmp 68) (.tmp 71) (.const (.bool false))) 4 (by kernel_rfl)) F (by decide) (v := .bool true) (x_pickT (F.slot rfl) (F.slot rfl)) (fun a F => ?_)
  refine q2 (o_s 0 (.assign (.tmp 72)) 4 (by kernel_rfl)) F (by decide) (v := .bool true) (x_assign (F.slot rfl)) (fun a F => ?_)
  unfold wpSeq
  have F := F.less [(0, .bool true), (10, .tuple #[.pointer (some ⟨ga, 0, none⟩), .int .i64 0]), (9, .tuple #[.pointer (some ⟨ga, 0, none⟩), .int .i64 0]), (11, .pointer (some ⟨ga, 0, none⟩)), (12, .int .i64 0), (1, .pointer (some ⟨ga, 0, none⟩)), (2, .int .i64 0), (13, .int .i64 0), (14, .bool false), (15, .bool false), (16, .pointer (some ⟨ga, 0, none⟩)), (17, .bool false), (18, .bool false), (19, .pointer (some ⟨ga, 0, none⟩)), (20, .agg #[.int .i64 ((payT 1).f0), .string ((payT 1).f1), .string ((payT 1).f2), .int .u64 ((payT 1).f3), .int .u64 ((payT 1).f4), .string ((payT 1).f5), .string ((payT 1).f6), .slice none ((payT 1).f7.length) 0, .slice B1 ((payT 1).f8.length) 2]), (22, .pointer (some ⟨ga, 0, none⟩)), (23, .agg #[.int .i64 ((payT 2).f0), .string ((payT 2).f1), .string ((payT 2).f2), .int .u64 ((payT 2).f3), .int .u64 ((payT 2).f4), .string ((payT 2).f5), .string ((payT 2).f6), .slice none ((payT 2).f7.length) 0, .slice B2 ((payT 2).f8.length) 2]), (25, .pointer (some ⟨ga, 0, none⟩)), (26, .agg #[.int .i64 ((payT 3).f0), .string ((payT 3).f1), .string ((payT 3).f2), .int .u64 ((payT 3).f3), .int .u64 ((payT 3).f4), .string ((payT 3).f5), .string ((payT 3).f6), .slice none ((payT 3).f7.length) 0, .slice B3 ((payT 3).f8.length) 2]), (29, .pointer (some ⟨ga, 0, none⟩)), (30, .tuple #[.agg #[.int .i64 1, .int .i64 (0 + 1), .slice Ap3 ((L3.take 2).length) 2], .bool true]), (28, .tuple #[.agg #[.int .i64 1, .int .i64 (0 + 1), .slice Ap3 ((L3.take 2).length) 2], .bool true]), (31, .agg #[.int .i64 1, .int .i64 (0 + 1), .slice Ap3 ((L3.take 2).length) 2]), (32, .bool true), (3, .pointer (some ⟨g1, 0, none⟩)), (34, .agg #[.int .i64 1, .int .i64 (0 + 1), .slice Ap3 ((L3.take 2).length) 2]), (35, .tuple #[.string (bencB 1 (0 + 1) (L3.take 2)), .int .i64 0]), (33, .tuple #[.string (bencB 1 (0 + 1) (L3.take 2)), .int .i64 0]), (36, .string (bencB 1 (0 + 1) (L3.take 2))), (37, .int .i64 0), (5, .string (bencB 1 (0 + 1) (L3.take 2))), (39, .string (bencB 1 (0 + 1) (L3.take 2))), (40, .tuple #[.agg #[.int .i64 1, .int .i64 (0 + 1), .slice Ad ((L3.take 2).length) cd], .int .i64 0]), (38, .tuple #[.agg #[.int .i64 1, .int .i64 (0 + 1), .slice Ad ((L3.take 2).length) cd], .int .i64 0]), (41, .agg #[.int .i64 1, .int .i64 (0 + 1), .slice Ad ((L3.take 2).length) cd]), (42, .int .i64 0), (7, .pointer (some ⟨g2, 0, none⟩))] (subc rfl (subc rfl (subc rfl (subc rfl (subc rfl (subc rfl (subc rfl (subc rfl (subc rfl (subc rfl (subc rfl (subc rfl (subc rfl (subc rfl (subc rfl (subc rfl (subc rfl (subc rfl (subc rfl (subc rfl (subc rfl (subc rfl (subc rfl (subc rfl (subc rfl (subc rfl (subc rfl (subc rfl (subc rfl (subc rfl (subc rfl (subc rfl (subc rfl (subc rfl (subc rfl (subc rfl (subc rfl sub0)))))))))))))))))))))))))))))))))))))
  refine t_normal ?_
  refine c_ret (by kernel_rfl) ?_
  refine p_tmp Tryd.results37 F rfl ?_
  exact ⟨rfl, H.ends⟩
end Go.Proofs.YtndicjikjcifaaaDoor

/- Numbers as the laws cut them down. -/
namespace Go.Proofs.YtndicjikjcifaaaDoor
open Go.RowKit Go.Proofs.YtndicjikjcifaaaDoorW.PrintWords Go.Proofs.YtndicjikjcifaaaDoorW.PrintLast
open PB (S33 k33)
set_option linter.unusedVariables false
set_option linter.unusedSimpArgs false
theorem cut_num (c x k : Int) (hc0 : 0 ≤ c) (hc1 : c ≤ 1000) (hk0 : 0 < k) (hk1 : k ≤ 1000) :
    ∃ z : Int, IntKind.i64.wrap (c + (IntKind.i64.wrap (Int.tmod (IntKind.u64.wrap x) k))) = z ∧ c ≤ z ∧ z ≤ c + k - 1 := by
  have h0 : 0 ≤ IntKind.u64.wrap x := by simp [IntKind.wrap, IntKind.bits, IntKind.signed]; omega
  refine ⟨_, rfl, ?_⟩
  rw [Int.tmod_eq_emod_of_nonneg h0]
  have h1 := Int.emod_nonneg (IntKind.u64.wrap x) (show k ≠ 0 by omega)
  have h2 := Int.emod_lt_of_pos (IntKind.u64.wrap x) hk0
  rw [wrap_i64 (IntKind.u64.wrap x % k) (by omega) (by omega), wrap_i64 _ (by omega) (by omega)]
  omega
end Go.Proofs.YtndicjikjcifaaaDoor

/- tusklaw05.Own: a batch's copy, and what it leads to. -/
namespace Go.Proofs.YtndicjikjcifaaaDoor
open Go.RowKit Go.Proofs.YtndicjikjcifaaaDoorW.PrintWords Go.Proofs.YtndicjikjcifaaaDoorW.PrintLast
open PB (S33 k33)
set_option linter.unusedVariables false
set_option linter.unusedSimpArgs false
def LenB (t : S33) : Prop := t.f7.length < 8796093022208 ∧ t.f8.length < 8796093022208
theorem bown4 (t : S33) (h : LenB t) : PB.tusklaw04_Own.f t.f0 t.f1 t.f2 t.f3 t.f4 t.f5 t.f6 t.f7 t.f8 = some (t.f0, t.f1, t.f2, t.f3, t.f4, t.f5, t.f6, t.f7, t.f8) := by
  simp [PB.tusklaw04_Own.f, h.1, h.2]
theorem bown_l (a n : Int) (l : List S33) (hl : l.length < 1034834473200) (hL : ∀ t ∈ l, LenB t) : ∀ d i K acc, i + d = l.length → d + 1 ≤ K → acc.length = i → PB.tusklaw05_Own.l0 K acc (i : Int) a n l = some (a, n, acc ++ l.drop i)
  | 0, i, K + 1, acc, hi, hK, ha => by
    rw [PB.tusklaw05_Own.l0, if_neg (by omega), List.drop_eq_nil_of_le (by omega), List.append_nil]
  | d + 1, i, K + 1, acc, hi, hK, ha => by
    have hw : wrap64 ((i : Int) + 1) = ((i + 1 : Nat) : Int) := by rw [w64 _ (by omega) (by omega)]; push_cast; rfl
    have ht := hL _ (rd_mem l i (by omega))
    rw [PB.tusklaw05_Own.l0, if_pos (by omega), if_pos (by omega), bown4 _ ht, Option.bind_some, if_pos (by omega), hw]
    rw [bown_l a n l hl hL d (i + 1) K _ (by omega) (by omega) (by simp [ha]), drop_rd l i (by omega)]
    simp
theorem bown_calls (a n : Int) (A : Option Addr) (c : Nat) (l : List S33) (w : World) (hl : l.length < 1034834473200) (hL : ∀ t ∈ l, LenB t) (hr : k33.C w A l.length l) (hc : l.length ≤ c) :
    Calls Tryd.prog 30 #[.agg #[.int .i64 a, .int .i64 n, .slice A l.length c]] w fun e w' => ∃ A' c', e = .returned (.agg #[.int .i64 a, .int .i64 n, .slice A' l.length c']) ∧ l.length ≤ c' ∧ Foot (fun W => k33.C W A' l.length l) w' (fun k => w.heap.size ≤ k) ∧ Below w.heap.size w w' := by
  refine (PB.tusklaw05_Own.calls (l.length + 1) a n A c l a n l w hr hc ?_).mono ?_
  · rw [PB.tusklaw05_Own.f]
    have := bown_l a n l hl hL l.length 0 (l.length + 1) [] (by omega) (by omega) rfl
    simpa using this
  · rintro e w' ⟨v, rfl, hS, hb⟩
    have hR := Kd.S_R hS
    obtain ⟨A', c', rfl, q1, q2⟩ := Kd.R_reads hR
    exact ⟨A', c', rfl, q1, Foot.mono (Kd.R_F (Kd.R_bound hR)) (fun k hk => hk.2.1), hb⟩
end Go.Proofs.YtndicjikjcifaaaDoor
