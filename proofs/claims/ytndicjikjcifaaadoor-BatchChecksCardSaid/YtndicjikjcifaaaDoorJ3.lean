/- Texts joined by wip/tools/slim2.py: PBx2, Batsame0, Same5, Batchk0, Bchkh, PBx3, PBx4, Batchk, Wlist, Txenc, Txneed, PFtx0, PFtx1, Txworks, Codeb, PRix0, PRix1, PRnx0, PRnx1, PSmx0, PSmx1, Txsame, POwx0, POwx1. -/
import Derived.Test.YtndicjikjcifaaaDoorJ1
import Derived.Test.YtndicjikjcifaaaDoorJ2
import Derived.Shelf.Strings.Builder1
import Derived.Shelf.Strings.OnBuilder
import Derived.Deep.RegionHeld3
import Derived.Shelf.Sort.Plain
import Derived.Shelf.Slices.CompactS
import Derived.Shelf.Slices.Turned
import Derived.Test.YtndicjikjcifaaaDoorProg
import Derived.Below
import Derived.Deep.Draws
import Derived.Deep.AppendLies
import Derived.Maps.AppendAt
import Derived.OwnWalk
import Derived.Laws.BytesArg
import Derived.Laws.MakeOwn
import Derived.Laws.OwnMore
import Derived.Deep.OwnRows
import Derived.Tactics
import Derived.Lib.ConvBytes
import Derived.Laws.Slices
import Derived.WalkKit
import Derived.KernelRfl
import Derived.RowKit3
import Derived.Deep.LoopGhost
import Derived.Deep.QuietTactic
import Derived.BigQuiet
import Derived.WideLaws
import Derived.Deep.DeepCutAuto
import Derived.Deep.CutBlock
import Derived.Laws.Rows
import Derived.Lib.AppendStr
import Derived.ArgAppend
import Derived.Laws.IdiomCopy
import Derived.OrdersHeld
import Derived.Laws.BitsLemmas
import Derived.RowKit
namespace Go.Proofs.YtndicjikjcifaaaDoor.PB
open Go.RowKit Go.Proofs.YtndicjikjcifaaaDoorW.PrintWords Go.Proofs.YtndicjikjcifaaaDoorW.PrintLast Go.Proofs.YtndicjikjcifaaaDoorW.PrintMore
attribute [local go_sem] max2_int min2_int max_two min_two max_three min_three max_four min_four   -- for this text's walks alone
set_option linter.unusedVariables false
set_option linter.unusedSimpArgs false
/-! ### tuskref01_Same: function 43 -/
def tuskref01_Same.l0 : Nat → List ByteArray → List ByteArray → Int → Option (Bool)
  | 0, _, _, _ => none
  | k + 1, x0, x1, x5 => if x5 < (x0.length : Int) then (if 0 ≤ x5 then (if x5 < (x1.length : Int) then (if (rdOf ByteArray.empty x0 x5).toList = (rdOf ByteArray.empty x1 x5).toList then (tuskref01_Same.l0 k x0 x1 (wrap64 (x5 + 1))) else (some false)) else (none)) else (none)) else (some true)
def tuskref01_Same.f (k : Nat) (l0 : List ByteArray) (l1 : List ByteArray) : Option (Bool) := if (l0.length : Int) = (l1.length : Int) then (tuskref01_Same.l0 k l0 l1 0) else (some false)
theorem tuskref01_Same.mono_l : ∀ k, (∀ y0 y1 y2, LeO (tuskref01_Same.l0 k y0 y1 y2) (tuskref01_Same.l0 (k + 1) y0 y1 y2))
  | 0 => fun _ _ _ r h => by simp [tuskref01_Same.l0] at h
  | k + 1 => by
    have ih0 := tuskref01_Same.mono_l k
    · intro y0 y1 y2
      unfold tuskref01_Same.l0
      repeat' first
      | (with_reducible exact ih0 _ _ _)
      | (with_reducible exact LeO.refl _)
      | (with_reducible exact LeO.none _)
      | (with_reducible refine LeO.ite ?_ ?_)
      | (with_reducible refine LeO.bind ?_ (fun _ => ?_))
      | exact ih0 _ _ _
      | exact LeO.none _
      | refine LeO.ite ?_ ?_
      | refine LeO.bind ?_ (fun _ => ?_)
theorem tuskref01_Same.mono : ∀ a0 a1 k, LeO (tuskref01_Same.f k a0 a1) (tuskref01_Same.f (k + 1) a0 a1) := by
  intro a0 a1 k
  have ih0 := tuskref01_Same.mono_l k
  unfold tuskref01_Same.f
  repeat' first
      | (with_reducible exact ih0 _ _ _)
      | (with_reducible exact LeO.refl _)
      | (with_reducible exact LeO.none _)
      | (with_reducible refine LeO.ite ?_ ?_)
      | (with_reducible refine LeO.bind ?_ (fun _ => ?_))
      | exact ih0 _ _ _
      | exact LeO.none _
      | refine LeO.ite ?_ ?_
      | refine LeO.bind ?_ (fun _ => ?_)
set_option maxHeartbeats 8000000 in
set_option maxRecDepth 100000 in
theorem tuskref01_Same.calls (k : Nat) (A0 : Option Addr) (c0 : Nat) (l0 : List ByteArray) (A1 : Option Addr) (c1 : Nat) (l1 : List ByteArray) (r : Bool) (w : World) (hr0 : Kd.C Kd.string w A0 l0.length l0) (hc0 : l0.length ≤ c0) (hr1 : Kd.C Kd.string w A1 l1.length l1) (hc1 : l1.length ≤ c1) (h : tuskref01_Same.f k l0 l1 = some r) :
    Calls Tryd.prog 43 #[.slice A0 l0.length c0, .slice A1 l1.length c1] w fun e w' => e = .returned (.bool r) ∧ Drawn0 w w' := by
  have HR0 := Aside0.mk hr0
  have HC0 := Aside0.mk hc0
  clear hr0 hc0
  have HR1 := Aside0.mk hr1
  have HC1 := Aside0.mk hc1
  clear hr1 hc1
  have H : (if (l0.length : Int) = (l1.length : Int) then (tuskref01_Same.l0 k l0 l1 0) else (some false)) = some r := h
  clear h
  by_cases c3 : (l0.length : Int) = (l1.length : Int)
  · rw [if_pos c3] at H
    have c3b0 : ((l0.length : Int) == (l1.length : Int)) = true := beq_iff_eq.mpr c3
    have c3b1 : ((l0.length : Int) != (l1.length : Int)) = false := bne_eq_false_iff_eq.mpr c3
    have c3b2 : (l0.length == l1.length) = true := by first | simpa using c3 | (simp at c3 ⊢; omega)
    clear c3
    have H' := Aside0.mk H
    clear H
    go_enter Tryd.func43, Tryd.ntmps43
    go_wp2
    repeat (go_quiet (fail); try go_wp2)
    go_loopg [5] k (fun kq v5 w' => ∃ (x5_1 : Int), v5 = .int .i64 x5_1 ∧ Aside0 (tuskref01_Same.l0 kq l0 l1 x5_1 = some r) ∧ Aside0 (kq ≤ k) ∧ Drawn0 w w')
    case atStart => exact ⟨(0), (by first | rfl | (simp; done) | (simp [*]; done)), H', ⟨Nat.le_refl _⟩, by repeat (first | exact Drawn0.refl _ | apply Drawn0.step)⟩
    case round =>
      clear H'
      try clear c1
      try clear p2
      try clear c3
      try clear c3b0
      try clear c3b1
      try clear c3b2
      obtain ⟨x5_1, rfl, HA, HK1, ⟨m1, rfl⟩⟩ := hrel
      cases gk with
      | zero => exact absurd HA.out (by simp [tuskref01_Same.l0])
      | succ k1 =>
        have H := HA.out
        clear HA
        simp only [tuskref01_Same.l0] at H
        by_cases c4 : x5_1 < (l0.length : Int)
        · rw [if_pos c4] at H
          have c4b0 : decide (x5_1 < (l0.length : Int)) = true := decide_eq_true c4
          clear c4
          by_cases c5 : 0 ≤ x5_1
          · rw [if_pos c5] at H
            have c5b0 : decide (0 ≤ x5_1) = true := decide_eq_true c5
            clear c5
            by_cases c6 : x5_1 < (l1.length : Int)
            · rw [if_pos c6] at H
              have c6b0 : decide (x5_1 < (l1.length : Int)) = true := decide_eq_true c6
              clear c6
              by_cases c7 : (rdOf ByteArray.empty l0 x5_1).toList = (rdOf ByteArray.empty l1 x5_1).toList
              · rw [if_pos c7] at H
                have c7b0 : ((rdOf ByteArray.empty l0 x5_1).toList == (rdOf ByteArray.empty l1 x5_1).toList) = true := beq_iff_eq.mpr c7
                have c7b1 : ((rdOf ByteArray.empty l0 x5_1).toList != (rdOf ByteArray.empty l1 x5_1).toList) = false := bne_eq_false_iff_eq.mpr c7
                clear c7
                have H' := Aside0.mk H
                clear H
                have p108 : 0 ≤ (x5_1 : Int) := of_decide_eq_true (by first | (with_reducible assumption) | assumption)
                have q108 : x5_1 < (l0.length : Int) := of_decide_eq_true (by first | (with_reducible assumption) | assumption)
                obtain ⟨ad108, e108, hx108_0⟩ := Kd.at_string HR0.out x5_1 p108 q108
                cases e108
                replace p108 := eq_true p108
                replace q108 := eq_true q108
                have p109 : 0 ≤ (x5_1 : Int) := of_decide_eq_true (by first | (with_reducible assumption) | assumption)
                have q109 : x5_1 < (l1.length : Int) := of_decide_eq_true (by first | (with_reducible assumption) | assumption)
                obtain ⟨ad109, e109, hx109_0⟩ := Kd.at_string HR1.out x5_1 p109 q109
                cases e109
                replace p109 := eq_true p109
                replace q109 := eq_true q109
                go_wp2
                repeat (go_quiet (fail); try go_wp2)
                go_roundg k1
                case measure => have := HK1.out; omega
                case rel => exact ⟨(wrap64 (x5_1 + 1)), (by first | rfl | (simp; done) | (simp [*]; done)), H', ⟨by have := HK1.out; omega⟩, by repeat (first | exact Drawn0.refl _ | apply Drawn0.step)⟩
              · rw [if_neg c7] at H
                have c7b0 : ((rdOf ByteArray.empty l0 x5_1).toList == (rdOf ByteArray.empty l1 x5_1).toList) = false := beq_eq_false_iff_ne.mpr c7
                have c7b1 : ((rdOf ByteArray.empty l0 x5_1).toList != (rdOf ByteArray.empty l1 x5_1).toList) = true := bne_iff_ne.mpr c7
                obtain rfl := Option.some.inj H
                have p108 : 0 ≤ (x5_1 : Int) := of_decide_eq_true (by first | (with_reducible assumption) | assumption)
                have q108 : x5_1 < (l0.length : Int) := of_decide_eq_true (by first | (with_reducible assumption) | assumption)
                obtain ⟨ad108, e108, hx108_0⟩ := Kd.at_string HR0.out x5_1 p108 q108
                cases e108
                replace p108 := eq_true p108
                replace q108 := eq_true q108
                have p109 : 0 ≤ (x5_1 : Int) := of_decide_eq_true (by first | (with_reducible assumption) | assumption)
                have q109 : x5_1 < (l1.length : Int) := of_decide_eq_true (by first | (with_reducible assumption) | assumption)
                obtain ⟨ad109, e109, hx109_0⟩ := Kd.at_string HR1.out x5_1 p109 q109
                cases e109
                replace p109 := eq_true p109
                replace q109 := eq_true q109
                go_wp2
                repeat (go_quiet (fail); try go_wp2)
                go_ret
                exact ⟨by first | rfl | (simp; done) | (simp [*]; done), by repeat (first | exact Drawn0.refl _ | apply Drawn0.step)⟩
            · rw [if_neg c6] at H
              exact absurd H (by simp)
          · rw [if_neg c5] at H
            exact absurd H (by simp)
        · rw [if_neg c4] at H
          have c4b0 : decide (x5_1 < (l0.length : Int)) = false := decide_eq_false c4
          clear c4
          obtain rfl := Option.some.inj H
          go_wp2
          repeat (go_quiet (fail); try go_wp2)
          go_ret
          exact ⟨by first | rfl | (simp; done) | (simp [*]; done), by repeat (first | exact Drawn0.refl _ | apply Drawn0.step)⟩
  · rw [if_neg c3] at H
    have c3b0 : ((l0.length : Int) == (l1.length : Int)) = false := beq_eq_false_iff_ne.mpr c3
    have c3b1 : ((l0.length : Int) != (l1.length : Int)) = true := bne_iff_ne.mpr c3
    have c3b2 : (l0.length == l1.length) = false := by first | simpa using c3 | (simp at c3 ⊢; omega)
    obtain rfl := Option.some.inj H
    go_enter Tryd.func43, Tryd.ntmps43
    go_wp2
    repeat (go_quiet (fail); try go_wp2)
    go_ret
    exact ⟨by first | rfl | (simp; done) | (simp [*]; done), by repeat (first | exact Drawn0.refl _ | apply Drawn0.step)⟩
/-! ### tuskref04_Same: function 27 -/
def tuskref04_Same.f (k : Nat) (a0_0 : Int) (a0_1 : ByteArray) (a0_2 : ByteArray) (a0_3 : Int) (a0_4 : Int) (a0_5 : ByteArray) (a0_6 : ByteArray) (l0_7 : List ByteArray) (l0_8 : List ByteArray) (a1_0 : Int) (a1_1 : ByteArray) (a1_2 : ByteArray) (a1_3 : Int) (a1_4 : Int) (a1_5 : ByteArray) (a1_6 : ByteArray) (l1_7 : List ByteArray) (l1_8 : List ByteArray) : Option (Bool) := if a0_0 = a1_0 then (if a0_1.toList = a1_1.toList then (if a0_2.toList = a1_2.toList then (if a0_3 = a1_3 then (if a0_4 = a1_4 then (if a0_5.toList = a1_5.toList then (if a0_6.toList = a1_6.toList then ((tuskref01_Same.f k l0_7 l1_7).bind fun t112 => (if t112 = true then ((tuskref01_Same.f k l0_8 l1_8).bind fun t113 => (some t113)) else (some false))) else (some false)) else (some false)) else (some false)) else (some false)) else (some false)) else (some false)) else (some false)
theorem tuskref04_Same.mono : ∀ a0 a1 a2 a3 a4 a5 a6 a7 a8 a9 a10 a11 a12 a13 a14 a15 a16 a17 k, LeO (tuskref04_Same.f k a0 a1 a2 a3 a4 a5 a6 a7 a8 a9 a10 a11 a12 a13 a14 a15 a16 a17) (tuskref04_Same.f (k + 1) a0 a1 a2 a3 a4 a5 a6 a7 a8 a9 a10 a11 a12 a13 a14 a15 a16 a17) := by
  intro a0 a1 a2 a3 a4 a5 a6 a7 a8 a9 a10 a11 a12 a13 a14 a15 a16 a17 k
  unfold tuskref04_Same.f
  repeat' first
      | (with_reducible exact tuskref01_Same.mono _ _ _)
      | (with_reducible exact LeO.refl _)
      | (with_reducible exact LeO.none _)
      | (with_reducible refine LeO.ite ?_ ?_)
      | (with_reducible refine LeO.bind ?_ (fun _ => ?_))
      | exact tuskref01_Same.mono _ _ _
      | exact LeO.none _
      | refine LeO.ite ?_ ?_
      | refine LeO.bind ?_ (fun _ => ?_)
end Go.Proofs.YtndicjikjcifaaaDoor.PB

/- tuskref01.Same of the same texts. -/
namespace Go.Proofs.YtndicjikjcifaaaDoor
open Go.RowKit Go.Proofs.YtndicjikjcifaaaDoorW.PrintWords Go.Proofs.YtndicjikjcifaaaDoorW.PrintLast
open PB (S33 k33)
set_option linter.unusedVariables false
set_option linter.unusedSimpArgs false
theorem bsame1_l (xs : List ByteArray) (hx : xs.length < 4611686018427387904) : ∀ d i K, i + d = xs.length → d + 1 ≤ K → PB.tuskref01_Same.l0 K xs xs i = some true
  | 0, i, 0, hi, hK => by omega
  | 0, i, K + 1, hi, hK => by rw [PB.tuskref01_Same.l0, if_neg (by omega)]
  | d + 1, i, 0, hi, hK => by omega
  | d + 1, i, K + 1, hi, hK => by
    have hw : wrap64 ((i : Int) + 1) = ((i + 1 : Nat) : Int) := by rw [w64 _ (by omega) (by omega)]; push_cast; rfl
    rw [PB.tuskref01_Same.l0, if_pos (by omega), if_pos (by omega), if_pos (by omega), if_pos rfl, hw]
    exact bsame1_l xs hx d (i + 1) K (by omega) (by omega)
theorem bsame1 (xs : List ByteArray) (hx : xs.length < 4611686018427387904) (K : Nat) (hK : xs.length + 1 ≤ K) : PB.tuskref01_Same.f K xs xs = some true := by
  rw [PB.tuskref01_Same.f, if_pos rfl]
  exact bsame1_l xs hx xs.length 0 K (by omega) hK
def LenT (t : S33) : Prop := t.f7.length < 4611686018427387904 ∧ t.f8.length < 4611686018427387904
end Go.Proofs.YtndicjikjcifaaaDoor

/- tuskref04.Same and tuskref05.Same of equal ones. -/
namespace Go.Proofs.YtndicjikjcifaaaDoor
open Go.RowKit Go.Proofs.YtndicjikjcifaaaDoorW.PrintWords Go.Proofs.YtndicjikjcifaaaDoorW.PrintLast
set_option linter.unusedVariables false
set_option linter.unusedSimpArgs false
set_option maxRecDepth 100000
open PB (S33 k33)
theorem k33_heap : Kd.Heap k33 := Kd.heap_iso _ (Kd.heap_pair (Kd.heap_int _) (Kd.heap_pair Kd.heap_string (Kd.heap_pair Kd.heap_string (Kd.heap_pair (Kd.heap_int _) (Kd.heap_pair (Kd.heap_int _) (Kd.heap_pair Kd.heap_string (Kd.heap_pair Kd.heap_string (Kd.heap_pair (Kd.heap_slice _ Kd.heap_string) (Kd.heap_slice _ Kd.heap_string)))))))))
theorem k33_parts {w : World} {t : S33} {A7 A8 : Option Addr} {c7 c8 : Nat} (h : k33.K w t (txc t A7 c7 A8 c8)) : t.f7.length ≤ c7 ∧ Kd.string.C w A7 t.f7.length t.f7 ∧ t.f8.length ≤ c8 ∧ Kd.string.C w A8 t.f8.length t.f8 := by
  obtain ⟨B7, d7, B8, d8, e, l7, g7, l8, g8⟩ := PB.k33_open h
  simp only [List.cons.injEq, Value.slice.injEq, true_and, and_true] at e
  obtain ⟨⟨rfl, rfl⟩, rfl, rfl⟩ := e
  exact ⟨l7, g7, l8, g8⟩
theorem k33_oldK {w : World} {t : S33} {cs : List Value} (h : k33.K w t cs) : Foot (fun W => k33.K W t cs) w (fun k => k < w.heap.size) := fun W' hW => k33_heap.K (fun k hk => hW k hk hk) h
theorem bsame1_calls (xs : List ByteArray) (A : Option Addr) (c : Nat) (A' : Option Addr) (c' : Nat) (w : World) (hx : xs.length < 4611686018427387904) (hr : Kd.string.C w A xs.length xs) (hc : xs.length ≤ c) (hr' : Kd.string.C w A' xs.length xs) (hc' : xs.length ≤ c') :
    Calls Tryd.prog 43 #[.slice A xs.length c, .slice A' xs.length c'] w fun e w' => e = .returned (.bool true) ∧ Below w.heap.size w w' :=
  (PB.tuskref01_Same.calls (xs.length + 1) A c xs A' c' xs true w hr hc hr' hc' (bsame1 xs hx _ (Nat.le_refl _))).mono fun e w' ⟨h1, ⟨⟨n, h2⟩⟩⟩ => ⟨h1, h2 ▸ pw_below_drewN (Below.refl _ _) n⟩
theorem same4_calls (t : S33) (A : Option Addr) (c : Nat) (B : Option Addr) (d : Nat) (A' : Option Addr) (c' : Nat) (B' : Option Addr) (d' : Nat) (w : World) (hL : LenT t) (h : k33.K w t (txc t A c B d)) (h' : k33.K w t [.int .i64 t.f0, .string t.f1, .string t.f2, .int .u64 t.f3, .int .u64 t.f4, .string t.f5, .string t.f6, .slice A' t.f7.length c', .slice B' t.f8.length d']) :
    Calls Tryd.prog 27 #[.agg (txc t A c B d).toArray, .agg #[.int .i64 t.f0, .string t.f1, .string t.f2, .int .u64 t.f3, .int .u64 t.f4, .string t.f5, .string t.f6, .slice A' t.f7.length c', .slice B' t.f8.length d']] w fun e w' => e = .returned (.bool true) ∧ Below w.heap.size w w' := by
  have H0 : St w (fun _ => False) (fun _ => True) [Asn.fk k33 (fun k => k < w.heap.size) t (txc t A c B d), Asn.fk k33 (fun k => k < w.heap.size) t [.int .i64 t.f0, .string t.f1, .string t.f2, .int .u64 t.f3, .int .u64 t.f4, .string t.f5, .string t.f6, .slice A' t.f7.length c', .slice B' t.f8.length d']] w := ((St.first w _ _).old _ (k33_oldK h) (fun B hB => by cases hB)).old _ (k33_oldK h') (fun B hB k hk => by rcases List.mem_singleton.1 hB with rfl; exact hk.elim)
  refine c_enter2 (args := [.agg (txc t A c B d).toArray, .agg #[.int .i64 t.f0, .string t.f1, .string t.f2, .int .u64 t.f3, .int .u64 t.f4, .string t.f5, .string t.f6, .slice A' t.f7.length c', .slice B' t.f8.length d']]) (S := (fun _ => False)) (R := (fun _ => True)) (M := [Asn.fk k33 (fun k => k < w.heap.size) t (txc t A c B d), Asn.fk k33 (fun k => k < w.heap.size) t [.int .i64 t.f0, .string t.f1, .string t.f2, .int .u64 t.f3, .int .u64 t.f4, .string t.f5, .string t.f6, .slice A' t.f7.length c', .slice B' t.f8.length d']]) Tryd.func27 (by kernel_rfl) 66 Tryd.ntmps27 (Nat.le_of_ble_eq_true rfl) (H0) (fun a W F H => ?_)
  have F := F.less [(0, .agg (txc t A c B d).toArray), (1, .agg #[.int .i64 t.f0, .string t.f1, .string t.f2, .int .u64 t.f3, .int .u64 t.f4, .string t.f5, .string t.f6, .slice A' t.f7.length c', .slice B' t.f8.length d'])] (subc rfl (subc rfl sub0))
  refine c_seq (by kernel_rfl) ?_
  refine c_text (id := 0) (by kernel_rfl) [(0, 2), (1, 2), (2, 2)] (by kernel_rfl) ?_
  refine sq_new (o_s 2 (.box 33 (.tmp 0)) 0 (by kernel_rfl)) trivial F (by decide) H (txc t A c B d) 33 (x_box (F.slot rfl) rfl) ?_
  intro g1 W a hg1 H F
  refine ⟨(fun _ => trivial), ?_⟩
  refine sq_new (o_s 3 (.box 33 (.tmp 1)) 0 (by kernel_rfl)) trivial F (by decide) H [.int .i64 t.f0, .string t.f1, .string t.f2, .int .u64 t.f3, .int .u64 t.f4, .string t.f5, .string t.f6, .slice A' t.f7.length c', .slice B' t.f8.length d'] 33 (x_box (F.slot rfl) rfl) ?_
  intro g2 W a hg2 H F
  refine ⟨(fun _ => trivial), ?_⟩
  refine q2 (o_s 4 (.assign (.const (.bool false))) 4 (by kernel_rfl)) F (by decide) (v := .bool false) (x_assign rfl) (fun a F => ?_)
  unfold wpSeq
  have H : St w (fun _ => False) (fun _ => True) [Asn.fk k33 (fun k => k < w.heap.size) t (txc t A c B d), Asn.fk k33 (fun k => k < w.heap.size) t [.int .i64 t.f0, .string t.f1, .string t.f2, .int .u64 t.f3, .int .u64 t.f4, .string t.f5, .string t.f6, .slice A' t.f7.length c', .slice B' t.f8.length d'], Asn.blk g1 (txc t A c B d) 33, Asn.blk g2 [.int .i64 t.f0, .string t.f1, .string t.f2, .int .u64 t.f3, .int .u64 t.f4, .string t.f5, .string t.f6, .slice A' t.f7.length c', .slice B' t.f8.length d'] 33] W := H
  refine t_normal ?_
  refine c_seq (by kernel_rfl) ?_
  refine c_text (id := 1) (by kernel_rfl) [(0, 2), (1, 2), (2, 2), (3, 2), (4, 2), (5, 2), (6, 2), (7, 2), (8, 2), (9, 2), (10, 2), (11, 2), (12, 2), (13, 2), (14, 2), (15, 2), (16, 2), (17, 2), (18, 2), (19, 2), (20, 2), (21, 2), (22, 2), (23, 2), (24, 2), (25, 2), (26, 2), (27, 2), (28, 2), (29, 2), (30, 2), (31, 2), (32, 2), (33, 2), (34, 2), (35, 2), (36, 2), (37, 2), (38, 2), (39, 2), (40, 2), (41, 2), (42, 2), (43, 2), (44, 2), (45, 2), (46, 2), (47, 2), (48, 2), (49, 2), (50, 2), (51, 2), (52, 2), (53, 2), (54, 2), (55, 2), (56, 2), (57, 2), (58, 2), (59, 2), (60, 2), (61, 2)] (by kernel_rfl) ?_
  refine q2 (o_s 5 (.fieldAddr 33 (.tmp 2) 0) 0 (by kernel_rfl)) F (by decide) (v := .pointer (some ⟨g1, 0, none⟩)) (x_field0 Tryd.underlying33 rfl rfl (Tryd.sizeOf3 W) (F.slot rfl)) (fun a F => ?_)
  refine q2 (o_s 6 (.load 3 (.tmp 5)) 3 (by kernel_rfl)) F (by decide) (v := .int .i64 t.f0) (x_load1 (Tryd.isAgg3 W) (F.slot rfl) (H.cell 2 rfl rfl)) (fun a F => ?_)
  refine q2 (o_s 7 (.fieldAddr 33 (.tmp 3) 0) 0 (by kernel_rfl)) F (by decide) (v := .pointer (some ⟨g2, 0, none⟩)) (x_field0 Tryd.underlying33 rfl rfl (Tryd.sizeOf3 W) (F.slot rfl)) (fun a F => ?_)
  refine q2 (o_s 8 (.load 3 (.tmp 7)) 3 (by kernel_rfl)) F (by decide) (v := .int .i64 t.f0) (x_load1 (Tryd.isAgg3 W) (F.slot rfl) (H.cell 3 rfl rfl)) (fun a F => ?_)
  refine q2 (o_s 9 (.binOp .eql 3 (.tmp 6) (.tmp 8) 3) 4 (by kernel_rfl)) F (by decide) (v := .bool (t.f0 == t.f0)) (x_int (F.slot rfl) (F.slot rfl) rfl) (fun a F => ?_)
  refine q2 (o_s 10 (.move (.tmp 9)) 4 (by kernel_rfl)) F (by decide) (x_move (F.slot rfl)) (fun a F => ?_)
  have hb3 : (t.f0 == t.f0) = true := by simp
  have F := F.at 10 rfl (v' := .bool true) (congrArg Value.bool hb3)
  refine sq2 (W' := W) (o_g 11 (.fieldAddr 33 (.tmp 2) 1) 0 5 true (by kernel_rfl)) ⟨10, by kernel_rfl, rfl⟩ F (by decide) (v := .pointer (some ⟨g1, 1, none⟩)) (x_field0 Tryd.underlying33 rfl rfl (Tryd.sizeOf9 W) (F.slot rfl)) (fun _ => trivial) (fun a F => ?_)
  refine sq2 (o_g 12 (.load 9 (.tmp 11)) 9 5 true (by kernel_rfl)) ⟨10, by kernel_rfl, rfl⟩ F (by decide) (v := .string t.f1) (x_load1 (Tryd.isAgg9 W) (F.slot rfl) (H.cell 2 rfl rfl)) (fun _ => trivial) (fun a F => ?_)
  refine sq2 (W' := W) (o_g 13 (.fieldAddr 33 (.tmp 3) 1) 0 5 true (by kernel_rfl)) ⟨10, by kernel_rfl, rfl⟩ F (by decide) (v := .pointer (some ⟨g2, 1, none⟩)) (x_field0 Tryd.underlying33 rfl rfl (Tryd.sizeOf9 W) (F.slot rfl)) (fun _ => trivial) (fun a F => ?_)
  refine sq2 (o_g 14 (.load 9 (.tmp 13)) 9 5 true (by kernel_rfl)) ⟨10, by kernel_rfl, rfl⟩ F (by decide) (v := .string t.f1) (x_load1 (Tryd.isAgg9 W) (F.slot rfl) (H.cell 3 rfl rfl)) (fun _ => trivial) (fun a F => ?_)
  refine sq2 (W' := W) (o_g 15 (.binOp .eql 9 (.tmp 12) (.tmp 14) 9) 4 5 true (by kernel_rfl)) ⟨10, by kernel_rfl, rfl⟩ F (by decide) (v := .bool (t.f1.toList == t.f1.toList)) (x_bin (F.slot rfl) (F.slot rfl) rfl) (fun _ => trivial) (fun a F => ?_)
  refine q2 (o_s 16 (.pick (.tmp 10) (.tmp 15) (.const (.bool false))) 4 (by kernel_rfl)) F (by decide) (v := .bool (t.f1.toList == t.f1.toList)) (x_pickT (F.slot rfl) (F.slot rfl)) (fun a F => ?_)
  refine q2 (o_s 17 (.move (.tmp 16)) 4 (by kernel_rfl)) F (by decide) (x_move (F.slot rfl)) (fun a F => ?_)
  have hb4 : (t.f1.toList == t.f1.toList) = true := by simp
  have F := F.at 17 rfl (v' := .bool true) (congrArg Value.bool hb4)
  refine sq2 (W' := W) (o_g 18 (.fieldAddr 33 (.tmp 2) 2) 0 12 true (by kernel_rfl)) ⟨17, by kernel_rfl, rfl⟩ F (by decide) (v := .pointer (some ⟨g1, 2, none⟩)) (x_field0 Tryd.underlying33 rfl rfl (Tryd.sizeOf9 W) (F.slot rfl)) (fun _ => trivial) (fun a F => ?_)
  refine sq2 (o_g 19 (.load 9 (.tmp 18)) 9 12 true (by kernel_rfl)) ⟨17, by kernel_rfl, rfl⟩ F (by decide) (v := .string t.f2) (x_load1 (Tryd.isAgg9 W) (F.slot rfl) (H.cell 2 rfl rfl)) (fun _ => trivial) (fun a F => ?_)
  refine sq2 (W' := W) (o_g 20 (.fieldAddr 33 (.tmp 3) 2) 0 12 true (by kernel_rfl)) ⟨17, by kernel_rfl, rfl⟩ F (by decide) (v := .pointer (some ⟨g2, 2, none⟩)) (x_field0 Tryd.underlying33 rfl rfl (Tryd.sizeOf9 W) (F.slot rfl)) (fun _ => trivial) (fun a F => ?_)
  refine sq2 (o_g 21 (.load 9 (.tmp 20)) 9 12 true (by kernel_rfl)) ⟨17, by kernel_rfl, rfl⟩ F (by decide) (v := .string t.f2) (x_load1 (Tryd.isAgg9 W) (F.slot rfl) (H.cell 3 rfl rfl)) (fun _ => trivial) (fun a F => ?_)
  refine sq2 (W' := W) (o_g 22 (.binOp .eql 9 (.tmp 19) (.tmp 21) 9) 4 12 true (by kernel_rfl)) ⟨17, by kernel_rfl, rfl⟩ F (by decide) (v := .bool (t.f2.toList == t.f2.toList)) (x_bin (F.slot rfl) (F.slot rfl) rfl) (fun _ => trivial) (fun a F => ?_)
  refine q2 (o_s 23 (.pick (.tmp 17) (.tmp 22) (.const (.bool false))) 4 (by kernel_rfl)) F (by decide) (v := .bool (t.f2.toList == t.f2.toList)) (x_pickT (F.slot rfl) (F.slot rfl)) (fun a F => ?_)
  refine q2 (o_s 24 (.move (.tmp 23)) 4 (by kernel_rfl)) F (by decide) (x_move (F.slot rfl)) (fun a F => ?_)
  have hb5 : (t.f2.toList == t.f2.toList) = true := by simp
  have F := F.at 24 rfl (v' := .bool true) (congrArg Value.bool hb5)
  refine sq2 (W' := W) (o_g 25 (.fieldAddr 33 (.tmp 2) 3) 0 19 true (by kernel_rfl)) ⟨24, by kernel_rfl, rfl⟩ F (by decide) (v := .pointer (some ⟨g1, 3, none⟩)) (x_field0 Tryd.underlying33 rfl rfl (Tryd.sizeOf30 W) (F.slot rfl)) (fun _ => trivial) (fun a F => ?_)
  refine sq2 (o_g 26 (.load 30 (.tmp 25)) 30 19 true (by kernel_rfl)) ⟨24, by kernel_rfl, rfl⟩ F (by decide) (v := .int .u64 t.f3) (x_load1 (Tryd.isAgg30 W) (F.slot rfl) (H.cell 2 rfl rfl)) (fun _ => trivial) (fun a F => ?_)
  refine sq2 (W' := W) (o_g 27 (.fieldAddr 33 (.tmp 3) 3) 0 19 true (by kernel_rfl)) ⟨24, by kernel_rfl, rfl⟩ F (by decide) (v := .pointer (some ⟨g2, 3, none⟩)) (x_field0 Tryd.underlying33 rfl rfl (Tryd.sizeOf30 W) (F.slot rfl)) (fun _ => trivial) (fun a F => ?_)
  refine sq2 (o_g 28 (.load 30 (.tmp 27)) 30 19 true (by kernel_rfl)) ⟨24, by kernel_rfl, rfl⟩ F (by decide) (v := .int .u64 t.f3) (x_load1 (Tryd.isAgg30 W) (F.slot rfl) (H.cell 3 rfl rfl)) (fun _ => trivial) (fun a F => ?_)
  refine sq2 (W' := W) (o_g 29 (.binOp .eql 30 (.tmp 26) (.tmp 28) 30) 4 19 true (by kernel_rfl)) ⟨24, by kernel_rfl, rfl⟩ F (by decide) (v := .bool (t.f3 == t.f3)) (x_int (F.slot rfl) (F.slot rfl) rfl) (fun _ => trivial) (fun a F => ?_)
  refine q2 (o_s 30 (.pick (.tmp 24) (.tmp 29) (.const (.bool false))) 4 (by kernel_rfl)) F (by decide) (v := .bool (t.f3 == t.f3)) (x_pickT (F.slot rfl) (F.slot rfl)) (fun a F => ?_)
  refine q2 (o_s 31 (.move (.tmp 30)) 4 (by kernel_rfl)) F (by decide) (x_move (F.slot rfl)) (fun a F => ?_)
  have hb6 : (t.f3 == t.f3) = true := by simp
  have F := F.at 31 rfl (v' := .bool true) (congrArg Value.bool hb6)
  refine sq2 (W' := W) (o_g 32 (.fieldAddr 33 (.tmp 2) 4) 0 26 true (by kernel_rfl)) ⟨31, by kernel_rfl, rfl⟩ F (by decide) (v := .pointer (some ⟨g1, 4, none⟩)) (x_field0 Tryd.underlying33 rfl rfl (Tryd.sizeOf30 W) (F.slot rfl)) (fun _ => trivial) (fun a F => ?_)
  refine sq2 (o_g 33 (.load 30 (.tmp 32)) 30 26 true (by kernel_rfl)) ⟨31, by kernel_rfl, rfl⟩ F (by decide) (v := .int .u64 t.f4) (x_load1 (Tryd.isAgg30 W) (F.slot rfl) (H.cell 2 rfl rfl)) (fun _ => trivial) (fun a F => ?_)
  refine sq2 (W' := W) (o_g 34 (.fieldAddr 33 (.tmp 3) 4) 0 26 true (by kernel_rfl)) ⟨31, by kernel_rfl, rfl⟩ F (by decide) (v := .pointer (some ⟨g2, 4, none⟩)) (x_field0 Tryd.underlying33 rfl rfl (Tryd.sizeOf30 W) (F.slot rfl)) (fun _ => trivial) (fun a F => ?_)
  refine sq2 (o_g 35 (.load 30 (.tmp 34)) 30 26 true (by kernel_rfl)) ⟨31, by kernel_rfl, rfl⟩ F (by decide) (v := .int .u64 t.f4) (x_load1 (Tryd.isAgg30 W) (F.slot rfl) (H.cell 3 rfl rfl)) (fun _ => trivial) (fun a F => ?_)
  refine sq2 (W' := W) (o_g 36 (.binOp .eql 30 (.tmp 33) (.tmp 35) 30) 4 26 true (by kernel_rfl)) ⟨31, by kernel_rfl, rfl⟩ F (by decide) (v := .bool (t.f4 == t.f4)) (x_int (F.slot rfl) (F.slot rfl) rfl) (fun _ => trivial) (fun a F => ?_)
  refine q2 (o_s 37 (.pick (.tmp 31) (.tmp 36) (.const (.bool false))) 4 (by kernel_rfl)) F (by decide) (v := .bool (t.f4 == t.f4)) (x_pickT (F.slot rfl) (F.slot rfl)) (fun a F => ?_)
  refine q2 (o_s 38 (.move (.tmp 37)) 4 (by kernel_rfl)) F (by decide) (x_move (F.slot rfl)) (fun a F => ?_)
  have hb7 : (t.f4 == t.f4) = true := by simp
  have F := F.at 38 rfl (v' := .bool true) (congrArg Value.bool hb7)
  refine sq2 (W' := W) (o_g 39 (.fieldAddr 33 (.tmp 2) 5) 0 33 true (by kernel_rfl)) ⟨38, by kernel_rfl, rfl⟩ F (by decide) (v := .pointer (some ⟨g1, 5, none⟩)) (x_field0 Tryd.underlying33 rfl rfl (Tryd.sizeOf9 W) (F.slot rfl)) (fun _ => trivial) (fun a F => ?_)
  refine sq2 (o_g 40 (.load 9 (.tmp 39)) 9 33 true (by kernel_rfl)) ⟨38, by kernel_rfl, rfl⟩ F (by decide) (v := .string t.f5) (x_load1 (Tryd.isAgg9 W) (F.slot rfl) (H.cell 2 rfl rfl)) (fun _ => trivial) (fun a F => ?_)
  refine sq2 (W' := W) (o_g 41 (.fieldAddr 33 (.tmp 3) 5) 0 33 true (by kernel_rfl)) ⟨38, by kernel_rfl, rfl⟩ F (by decide) (v := .pointer (some ⟨g2, 5, none⟩)) (x_field0 Tryd.underlying33 rfl rfl (Tryd.sizeOf9 W) (F.slot rfl)) (fun _ => trivial) (fun a F => ?_)
  refine sq2 (o_g 42 (.load 9 (.tmp 41)) 9 33 true (by kernel_rfl)) ⟨38, by kernel_rfl, rfl⟩ F (by decide) (v := .string t.f5) (x_load1 (Tryd.isAgg9 W) (F.slot rfl) (H.cell 3 rfl rfl)) (fun _ => trivial) (fun a F => ?_)
  refine sq2 (W' := W) (o_g 43 (.binOp .eql 9 (.tmp 40) (.tmp 42) 9) 4 33 true (by kernel_rfl)) ⟨38, by kernel_rfl, rfl⟩ F (by decide) (v := .bool (t.f5.toList == t.f5.toList)) (x_bin (F.slot rfl) (F.slot rfl) rfl) (fun _ => trivial) (fun a F => ?_)
  refine q2 (o_s 44 (.pick (.tmp 38) (.tmp 43) (.const (.bool false))) 4 (by kernel_rfl)) F (by decide) (v := .bool (t.f5.toList == t.f5.toList)) (x_pickT (F.slot rfl) (F.slot rfl)) (fun a F => ?_)
  refine q2 (o_s 45 (.move (.tmp 44)) 4 (by kernel_rfl)) F (by decide) (x_move (F.slot rfl)) (fun a F => ?_)
  have hb8 : (t.f5.toList == t.f5.toList) = true := by simp
  have F := F.at 45 rfl (v' := .bool true) (congrArg Value.bool hb8)
  refine sq2 (W' := W) (o_g 46 (.fieldAddr 33 (.tmp 2) 6) 0 40 true (by kernel_rfl)) ⟨45, by kernel_rfl, rfl⟩ F (by decide) (v := .pointer (some ⟨g1, 6, none⟩)) (x_field0 Tryd.underlying33 rfl rfl (Tryd.sizeOf9 W) (F.slot rfl)) (fun _ => trivial) (fun a F => ?_)
  refine sq2 (o_g 47 (.load 9 (.tmp 46)) 9 40 true (by kernel_rfl)) ⟨45, by kernel_rfl, rfl⟩ F (by decide) (v := .string t.f6) (x_load1 (Tryd.isAgg9 W) (F.slot rfl) (H.cell 2 rfl rfl)) (fun _ => trivial) (fun a F => ?_)
  refine sq2 (W' := W) (o_g 48 (.fieldAddr 33 (.tmp 3) 6) 0 40 true (by kernel_rfl)) ⟨45, by kernel_rfl, rfl⟩ F (by decide) (v := .pointer (some ⟨g2, 6, none⟩)) (x_field0 Tryd.underlying33 rfl rfl (Tryd.sizeOf9 W) (F.slot rfl)) (fun _ => trivial) (fun a F => ?_)
  refine sq2 (o_g 49 (.load 9 (.tmp 48)) 9 40 true (by kernel_rfl)) ⟨45, by kernel_rfl, rfl⟩ F (by decide) (v := .string t.f6) (x_load1 (Tryd.isAgg9 W) (F.slot rfl) (H.cell 3 rfl rfl)) (fun _ => trivial) (fun a F => ?_)
  refine sq2 (W' := W) (o_g 50 (.binOp .eql 9 (.tmp 47) (.tmp 49) 9) 4 40 true (by kernel_rfl)) ⟨45, by kernel_rfl, rfl⟩ F (by decide) (v := .bool (t.f6.toList == t.f6.toList)) (x_bin (F.slot rfl) (F.slot rfl) rfl) (fun _ => trivial) (fun a F => ?_)
  refine q2 (o_s 51 (.pick (.tmp 45) (.tmp 50) (.const (.bool false))) 4 (by kernel_rfl)) F (by decide) (v := .bool (t.f6.toList == t.f6.toList)) (x_pickT (F.slot rfl) (F.slot rfl)) (fun a F => ?_)
  refine q2 (o_s 52 (.move (.tmp 51)) 4 (by kernel_rfl)) F (by decide) (x_move (F.slot rfl)) (fun a F => ?_)
  have hb9 : (t.f6.toList == t.f6.toList) = true := by simp
  have F := F.at 52 rfl (v' := .bool true) (congrArg Value.bool hb9)
  refine sq2 (W' := W) (o_g 53 (.fieldAddr 33 (.tmp 2) 7) 0 47 true (by kernel_rfl)) ⟨52, by kernel_rfl, rfl⟩ F (by decide) (v := .pointer (some ⟨g1, 7, none⟩)) (x_field0 Tryd.underlying33 rfl rfl (Tryd.sizeOf31 W) (F.slot rfl)) (fun _ => trivial) (fun a F => ?_)
  refine sq2 (o_g 54 (.load 31 (.tmp 53)) 31 47 true (by kernel_rfl)) ⟨52, by kernel_rfl, rfl⟩ F (by decide) (v := .slice A t.f7.length c) (x_load1 (Tryd.isAgg31 W) (F.slot rfl) (H.cell 2 rfl rfl)) (fun _ => trivial) (fun a F => ?_)
  refine sq2 (W' := W) (o_g 55 (.fieldAddr 33 (.tmp 3) 7) 0 47 true (by kernel_rfl)) ⟨52, by kernel_rfl, rfl⟩ F (by decide) (v := .pointer (some ⟨g2, 7, none⟩)) (x_field0 Tryd.underlying33 rfl rfl (Tryd.sizeOf31 W) (F.slot rfl)) (fun _ => trivial) (fun a F => ?_)
  refine sq2 (o_g 56 (.load 31 (.tmp 55)) 31 47 true (by kernel_rfl)) ⟨52, by kernel_rfl, rfl⟩ F (by decide) (v := .slice A' t.f7.length c') (x_load1 (Tryd.isAgg31 W) (F.slot rfl) (H.cell 3 rfl rfl)) (fun _ => trivial) (fun a F => ?_)
  obtain ⟨l7, g7, l8, g8⟩ := k33_parts (H.rd 0 rfl)
  obtain ⟨m7, q7, m8, q8⟩ := k33_parts (H.rd 1 rfl)
  refine sqc (o_g 57 (.call { callee := (.value (.func 43)), args := #[(.tmp 54), (.tmp 56)], argTypes := #[31, 31] }) 4 47 true (by kernel_rfl)) ⟨52, by kernel_rfl, rfl⟩ F (by decide) (x_call Tryd.func43 (by kernel_rfl) rfl (args_2 (F.slot rfl) (F.slot rfl))) (bsame1_calls t.f7 A c A' c' W hL.1 g7 l7 q7 m7) ?_
  rintro e W ⟨rfl, hB⟩
  refine ⟨_, rfl, fun a F => ?_⟩
  have H := H.below hB
  refine ⟨(fun _ => trivial), ?_⟩
  refine q2 (o_s 58 (.pick (.tmp 52) (.tmp 57) (.const (.bool false))) 4 (by kernel_rfl)) F (by decide) (v := .bool true) (x_pickT (F.slot rfl) (F.slot rfl)) (fun a F => ?_)
  refine q2 (o_s 59 (.move (.tmp 58)) 4 (by kernel_rfl)) F (by decide) (x_move (F.slot rfl)) (fun a F => ?_)
  refine sq2 (W' := W) (o_g 60 (.fieldAddr 33 (.tmp 2) 8) 0 54 true (by kernel_rfl)) ⟨59, by kernel_rfl, rfl⟩ F (by decide) (v := .pointer (some ⟨g1, 8, none⟩)) (x_field0 Tryd.underlying33 rfl rfl (Tryd.sizeOf31 W) (F.slot rfl)) (fun _ => trivial) (fun a F => ?_)
  refine sq2 (o_g 61 (.load 31 (.tmp 60)) 31 54 true (by kernel_rfl)) ⟨59, by kernel_rfl, rfl⟩ F (by decide) (v := .slice B t.f8.length d) (x_load1 (Tryd.isAgg31 W) (F.slot rfl) (H.cell 2 rfl rfl)) (fun _ => trivial) (fun a F => ?_)
  refine sq2 (W' := W) (o_g 62 (.fieldAddr 33 (.tmp 3) 8) 0 54 true (by kernel_rfl)) ⟨59, by kernel_rfl, rfl⟩ F (by decide) (v := .pointer (some ⟨g2, 8, none⟩)) (x_field0 Tryd.underlying33 rfl rfl (Tryd.sizeOf31 W) (F.slot rfl)) (fun _ => trivial) (fun a F => ?_)
  refine sq2 (o_g 63 (.load 31 (.tmp 62)) 31 54 true (by kernel_rfl)) ⟨59, by kernel_rfl, rfl⟩ F (by decide) (v := .slice B' t.f8.length d') (x_load1 (Tryd.isAgg31 W) (F.slot rfl) (H.cell 3 rfl rfl)) (fun _ => trivial) (fun a F => ?_)
  obtain ⟨l7, g7, l8, g8⟩ := k33_parts (H.rd 0 rfl)
  obtain ⟨m7, q7, m8, q8⟩ := k33_parts (H.rd 1 rfl)
  refine sqc (o_g 64 (.call { callee := (.value (.func 43)), args := #[(.tmp 61), (.tmp 63)], argTypes := #[31, 31] }) 4 54 true (by kernel_rfl)) ⟨59, by kernel_rfl, rfl⟩ F (by decide) (x_call Tryd.func43 (by kernel_rfl) rfl (args_2 (F.slot rfl) (F.slot rfl))) (bsame1_calls t.f8 B d B' d' W hL.2 g8 l8 q8 m8) ?_
  rintro e W ⟨rfl, hB⟩
  refine ⟨_, rfl, fun a F => ?_⟩
  have H := H.below hB
  refine ⟨(fun _ => trivial), ?_⟩
  refine q2 (o_s 65 (.pick (.tmp 59) (.tmp 64) (.const (.bool false))) 4 (by kernel_rfl)) F (by decide) (v := .bool true) (x_pickT (F.slot rfl) (F.slot rfl)) (fun a F => ?_)
  refine q2 (o_s 4 (.assign (.tmp 65)) 4 (by kernel_rfl)) F (by decide) (v := .bool true) (x_assign (F.slot rfl)) (fun a F => ?_)
  unfold wpSeq
  have F := F.less [(0, .agg (txc t A c B d).toArray), (1, .agg #[.int .i64 t.f0, .string t.f1, .string t.f2, .int .u64 t.f3, .int .u64 t.f4, .string t.f5, .string t.f6, .slice A' t.f7.length c', .slice B' t.f8.length d']), (4, .bool true)] (subc rfl (subc rfl (subc rfl sub0)))
  refine t_normal ?_
  refine c_ret (by kernel_rfl) ?_
  refine p_tmp Tryd.results27 F rfl ?_
  exact ⟨rfl, H.ends⟩
theorem k33_oldC {w : World} {A : Option Addr} {n : Nat} {l : List S33} (h : k33.C w A n l) : Foot (fun W => k33.C W A n l) w (fun k => k < w.heap.size) := fun W' hW => k33_heap.C (fun k hk => hW k hk hk) h
theorem bsame_calls (au n : Int) (A A' : Option Addr) (c c' : Nat) (l : List S33) (w : World) (hl : l.length < 4611686018427387904) (hL : ∀ t ∈ l, LenT t) (hr : k33.C w A l.length l) (hc : l.length ≤ c) (hr' : k33.C w A' l.length l) (hc' : l.length ≤ c') :
    Calls Tryd.prog 23 #[.agg #[.int .i64 au, .int .i64 n, .slice A l.length c], .agg #[.int .i64 au, .int .i64 n, .slice A' l.length c']] w fun e w' => e = .returned (.bool true) ∧ Below w.heap.size w w' := by
  have H0 : St w (fun _ => False) (fun _ => True) [Asn.rd k33 (fun k => k < w.heap.size) A l.length l, Asn.rd k33 (fun k => k < w.heap.size) A' l.length l] w := ((St.first w _ _).old _ (k33_oldC hr) (fun B hB => by cases hB)).old _ (k33_oldC hr') (fun B hB k hk => by rcases List.mem_singleton.1 hB with rfl; exact hk.elim)
  refine c_enter2 (args := [.agg #[.int .i64 au, .int .i64 n, .slice A l.length c], .agg #[.int .i64 au, .int .i64 n, .slice A' l.length c']]) (S := (fun _ => False)) (R := (fun _ => True)) (M := [Asn.rd k33 (fun k => k < w.heap.size) A l.length l, Asn.rd k33 (fun k => k < w.heap.size) A' l.length l]) Tryd.func23 (by kernel_rfl) 46 Tryd.ntmps23 (Nat.le_of_ble_eq_true rfl) (H0) (fun a W F H => ?_)
  have F := F.less [(0, .agg #[.int .i64 au, .int .i64 n, .slice A l.length c]), (1, .agg #[.int .i64 au, .int .i64 n, .slice A' l.length c'])] (subc rfl (subc rfl sub0))
  refine c_seq (by kernel_rfl) ?_
  refine c_text (id := 0) (by kernel_rfl) [(0, 2), (1, 2), (2, 2)] (by kernel_rfl) ?_
  refine sq_new (o_s 2 (.box 40 (.tmp 0)) 0 (by kernel_rfl)) trivial F (by decide) H [.int .i64 au, .int .i64 n, .slice A l.length c] 40 (x_box (F.slot rfl) rfl) ?_
  intro g1 W a hg1 H F
  refine ⟨(fun _ => trivial), ?_⟩
  refine sq_new (o_s 3 (.box 40 (.tmp 1)) 0 (by kernel_rfl)) trivial F (by decide) H [.int .i64 au, .int .i64 n, .slice A' l.length c'] 40 (x_box (F.slot rfl) rfl) ?_
  intro g2 W a hg2 H F
  refine ⟨(fun _ => trivial), ?_⟩
  refine q2 (o_s 4 (.assign (.const (.bool false))) 4 (by kernel_rfl)) F (by decide) (v := .bool false) (x_assign rfl) (fun a F => ?_)
  unfold wpSeq
  have H : St w (fun _ => False) (fun _ => True) [Asn.rd k33 (fun k => k < w.heap.size) A l.length l, Asn.rd k33 (fun k => k < w.heap.size) A' l.length l, Asn.blk g1 [.int .i64 au, .int .i64 n, .slice A l.length c] 40, Asn.blk g2 [.int .i64 au, .int .i64 n, .slice A' l.length c'] 40] W := H
  refine t_normal ?_
  refine c_seq (by kernel_rfl) ?_
  refine c_seq (by kernel_rfl) ?_
  refine c_text (id := 1) (by kernel_rfl) [(0, 2), (1, 2), (2, 2), (3, 2), (4, 2), (5, 2), (6, 2), (7, 2), (8, 2), (9, 2), (10, 2), (11, 2), (12, 2), (13, 2), (14, 2), (15, 2), (16, 2), (17, 2), (18, 2), (19, 2), (20, 2)] (by kernel_rfl) ?_
  refine q2 (o_s 6 (.fieldAddr 40 (.tmp 2) 0) 0 (by kernel_rfl)) F (by decide) (v := .pointer (some ⟨g1, 0, none⟩)) (x_field0 Tryd.underlying40 rfl rfl (Tryd.sizeOf3 W) (F.slot rfl)) (fun a F => ?_)
  refine q2 (o_s 7 (.load 3 (.tmp 6)) 3 (by kernel_rfl)) F (by decide) (v := .int .i64 au) (x_load1 (Tryd.isAgg3 W) (F.slot rfl) (H.cell 2 rfl rfl)) (fun a F => ?_)
  refine q2 (o_s 8 (.fieldAddr 40 (.tmp 3) 0) 0 (by kernel_rfl)) F (by decide) (v := .pointer (some ⟨g2, 0, none⟩)) (x_field0 Tryd.underlying40 rfl rfl (Tryd.sizeOf3 W) (F.slot rfl)) (fun a F => ?_)
  refine q2 (o_s 9 (.load 3 (.tmp 8)) 3 (by kernel_rfl)) F (by decide) (v := .int .i64 au) (x_load1 (Tryd.isAgg3 W) (F.slot rfl) (H.cell 3 rfl rfl)) (fun a F => ?_)
  refine q2 (o_s 10 (.binOp .neq 3 (.tmp 7) (.tmp 9) 3) 4 (by kernel_rfl)) F (by decide) (v := .bool (au != au)) (x_int (F.slot rfl) (F.slot rfl) rfl) (fun a F => ?_)
  refine q2 (o_s 11 (.move (.tmp 10)) 4 (by kernel_rfl)) F (by decide) (x_move (F.slot rfl)) (fun a F => ?_)
  have hb3 : (au != au) = false := by simp
  have F := F.at 11 rfl (v' := .bool false) (congrArg Value.bool hb3)
  refine sq2 (W' := W) (o_g 12 (.fieldAddr 40 (.tmp 2) 1) 0 5 false (by kernel_rfl)) ⟨11, by kernel_rfl, rfl⟩ F (by decide) (v := .pointer (some ⟨g1, 1, none⟩)) (x_field0 Tryd.underlying40 rfl rfl (Tryd.sizeOf3 W) (F.slot rfl)) (fun _ => trivial) (fun a F => ?_)
  refine sq2 (o_g 13 (.load 3 (.tmp 12)) 3 5 false (by kernel_rfl)) ⟨11, by kernel_rfl, rfl⟩ F (by decide) (v := .int .i64 n) (x_load1 (Tryd.isAgg3 W) (F.slot rfl) (H.cell 2 rfl rfl)) (fun _ => trivial) (fun a F => ?_)
  refine sq2 (W' := W) (o_g 14 (.fieldAddr 40 (.tmp 3) 1) 0 5 false (by kernel_rfl)) ⟨11, by kernel_rfl, rfl⟩ F (by decide) (v := .pointer (some ⟨g2, 1, none⟩)) (x_field0 Tryd.underlying40 rfl rfl (Tryd.sizeOf3 W) (F.slot rfl)) (fun _ => trivial) (fun a F => ?_)
  refine sq2 (o_g 15 (.load 3 (.tmp 14)) 3 5 false (by kernel_rfl)) ⟨11, by kernel_rfl, rfl⟩ F (by decide) (v := .int .i64 n) (x_load1 (Tryd.isAgg3 W) (F.slot rfl) (H.cell 3 rfl rfl)) (fun _ => trivial) (fun a F => ?_)
  refine sq2 (W' := W) (o_g 16 (.binOp .neq 3 (.tmp 13) (.tmp 15) 3) 4 5 false (by kernel_rfl)) ⟨11, by kernel_rfl, rfl⟩ F (by decide) (v := .bool (n != n)) (x_int (F.slot rfl) (F.slot rfl) rfl) (fun _ => trivial) (fun a F => ?_)
  refine q2 (o_s 17 (.pick (.tmp 11) (.const (.bool true)) (.tmp 16)) 4 (by kernel_rfl)) F (by decide) (v := .bool (n != n)) (x_pickF (F.slot rfl) (F.slot rfl)) (fun a F => ?_)
  refine q2 (o_s 18 (.move (.tmp 17)) 4 (by kernel_rfl)) F (by decide) (x_move (F.slot rfl)) (fun a F => ?_)
  have hb4 : (n != n) = false := by simp
  have F := F.at 18 rfl (v' := .bool false) (congrArg Value.bool hb4)
  refine sq2 (W' := W) (o_g 19 (.fieldAddr 40 (.tmp 2) 2) 0 12 false (by kernel_rfl)) ⟨18, by kernel_rfl, rfl⟩ F (by decide) (v := .pointer (some ⟨g1, 2, none⟩)) (x_field0 Tryd.underlying40 rfl rfl (Tryd.sizeOf38 W) (F.slot rfl)) (fun _ => trivial) (fun a F => ?_)
  refine sq2 (o_g 20 (.load 38 (.tmp 19)) 38 12 false (by kernel_rfl)) ⟨18, by kernel_rfl, rfl⟩ F (by decide) (v := .slice A l.length c) (x_load1 (Tryd.isAgg38 W) (F.slot rfl) (H.cell 2 rfl rfl)) (fun _ => trivial) (fun a F => ?_)
  refine sq2 (W' := W) (o_g 21 (.call { callee := (.builtin .len), args := #[(.tmp 20)], argTypes := #[38] }) 3 12 false (by kernel_rfl)) ⟨18, by kernel_rfl, rfl⟩ F (by decide) (v := .int .i64 (l.length : Int)) (x_lenL Tryd.underlying38 (F.slot rfl)) (fun _ => trivial) (fun a F => ?_)
  refine sq2 (W' := W) (o_g 22 (.fieldAddr 40 (.tmp 3) 2) 0 12 false (by kernel_rfl)) ⟨18, by kernel_rfl, rfl⟩ F (by decide) (v := .pointer (some ⟨g2, 2, none⟩)) (x_field0 Tryd.underlying40 rfl rfl (Tryd.sizeOf38 W) (F.slot rfl)) (fun _ => trivial) (fun a F => ?_)
  refine sq2 (o_g 23 (.load 38 (.tmp 22)) 38 12 false (by kernel_rfl)) ⟨18, by kernel_rfl, rfl⟩ F (by decide) (v := .slice A' l.length c') (x_load1 (Tryd.isAgg38 W) (F.slot rfl) (H.cell 3 rfl rfl)) (fun _ => trivial) (fun a F => ?_)
  refine sq2 (W' := W) (o_g 24 (.call { callee := (.builtin .len), args := #[(.tmp 23)], argTypes := #[38] }) 3 12 false (by kernel_rfl)) ⟨18, by kernel_rfl, rfl⟩ F (by decide) (v := .int .i64 (l.length : Int)) (x_lenL Tryd.underlying38 (F.slot rfl)) (fun _ => trivial) (fun a F => ?_)
  refine sq2 (W' := W) (o_g 25 (.binOp .neq 3 (.tmp 21) (.tmp 24) 3) 4 12 false (by kernel_rfl)) ⟨18, by kernel_rfl, rfl⟩ F (by decide) (v := .bool ((l.length : Int) != (l.length : Int))) (x_int (F.slot rfl) (F.slot rfl) rfl) (fun _ => trivial) (fun a F => ?_)
  refine q2 (o_s 26 (.pick (.tmp 18) (.const (.bool true)) (.tmp 25)) 4 (by kernel_rfl)) F (by decide) (v := .bool ((l.length : Int) != (l.length : Int))) (x_pickF (F.slot rfl) (F.slot rfl)) (fun a F => ?_)
  unfold wpSeq
  refine t_normal ?_
  have hb5 : ((l.length : Int) != (l.length : Int)) = false := by simp
  have F := F.at 26 rfl (v' := .bool false) (congrArg Value.bool hb5)
  refine c_no (c := .tmp 26) (by kernel_rfl) (F.slot rfl) ?_
  refine c_skip (by kernel_rfl) ?_
  refine t_normal ?_
  refine c_seq (by kernel_rfl) ?_
  refine c_seq (by kernel_rfl) ?_
  refine c_text (id := 3) (by kernel_rfl) [(0, 2)] (by kernel_rfl) ?_
  refine q2 (o_s 5 (.assign (.const (.int .i64 0))) 3 (by kernel_rfl)) F (by decide) (v := .int .i64 0) (x_assign rfl) (fun a F => ?_)
  unfold wpSeq
  refine t_normal ?_
  refine c_block (id := 0) (by kernel_rfl) ?_
  refine c_loop (by kernel_rfl) (fun k a W => ∃ (i : Nat), Fr 46 [(0, .agg #[.int .i64 au, .int .i64 n, .slice A l.length c]), (1, .agg #[.int .i64 au, .int .i64 n, .slice A' l.length c']), (2, .pointer (some ⟨g1, 0, none⟩)), (3, .pointer (some ⟨g2, 0, none⟩)), (6, .pointer (some ⟨g1, 0, none⟩)), (7, .int .i64 au), (8, .pointer (some ⟨g2, 0, none⟩)), (9, .int .i64 au), (10, .bool (au != au)), (11, .bool false), (12, .pointer (some ⟨g1, 1, none⟩)), (13, .int .i64 n), (14, .pointer (some ⟨g2, 1, none⟩)), (15, .int .i64 n), (16, .bool (n != n)), (17, .bool (n != n)), (18, .bool false), (19, .pointer (some ⟨g1, 2, none⟩)), (20, .slice A l.length c), (21, .int .i64 (l.length : Int)), (22, .pointer (some ⟨g2, 2, none⟩)), (23, .slice A' l.length c'), (24, .int .i64 (l.length : Int)), (25, .bool ((l.length : Int) != (l.length : Int))), (26, .bool false), (5, .int .i64 (i : Int))] a ∧ St w (fun _ => False) (fun _ => True) [Asn.rd k33 (fun k => k < w.heap.size) A l.length l, Asn.rd k33 (fun k => k < w.heap.size) A' l.length l, Asn.blk g1 [.int .i64 au, .int .i64 n, .slice A l.length c] 40, Asn.blk g2 [.int .i64 au, .int .i64 n, .slice A' l.length c'] 40] W ∧ (k + i = l.length) ∧ (i ≤ l.length)) l.length ⟨0, F.less _ (subc rfl (subc rfl (subc rfl (subc rfl (subc rfl (subc rfl (subc rfl (subc rfl (subc rfl (subc rfl (subc rfl (subc rfl (subc rfl (subc rfl (subc rfl (subc rfl (subc rfl (subc rfl (subc rfl (subc rfl (subc rfl (subc rfl (subc rfl (subc rfl (subc rfl (subc rfl sub0)))))))))))))))))))))))))), H, (by omega), (Nat.zero_le _)⟩ ?_
  rintro k a W ⟨i, F, H, hki, hi⟩
  refine c_seq (by kernel_rfl) ?_
  refine c_seq (by kernel_rfl) ?_
  refine c_text (id := 4) (by kernel_rfl) [(0, 2), (1, 2), (2, 2), (3, 2), (4, 2)] (by kernel_rfl) ?_
  refine q2 (o_s 27 (.move (.tmp 5)) 3 (by kernel_rfl)) F (by decide) (x_move (F.slot rfl)) (fun a F => ?_)
  refine q2 (o_s 28 (.fieldAddr 40 (.tmp 2) 2) 0 (by kernel_rfl)) F (by decide) (v := .pointer (some ⟨g1, 2, none⟩)) (x_field0 Tryd.underlying40 rfl rfl (Tryd.sizeOf38 W) (F.slot rfl)) (fun a F => ?_)
  refine q2 (o_s 29 (.load 38 (.tmp 28)) 38 (by kernel_rfl)) F (by decide) (v := .slice A l.length c) (x_load1 (Tryd.isAgg38 W) (F.slot rfl) (H.cell 2 rfl rfl)) (fun a F => ?_)
  refine q2 (o_s 30 (.call { callee := (.builtin .len), args := #[(.tmp 29)], argTypes := #[38] }) 3 (by kernel_rfl)) F (by decide) (v := .int .i64 (l.length : Int)) (x_lenL Tryd.underlying38 (F.slot rfl)) (fun a F => ?_)
  refine q2 (o_s 31 (.binOp .lss 3 (.tmp 27) (.tmp 30) 3) 4 (by kernel_rfl)) F (by decide) (v := .bool (decide ((i : Int) < (l.length : Int)))) (x_int (F.slot rfl) (F.slot rfl) rfl) (fun a F => ?_)
  unfold wpSeq
  refine t_normal ?_
  rcases bool_or (decide ((i : Int) < (l.length : Int))) with hb6 | hb6
  · have hb6d := of_decide_eq_true hb6
    have F := F.at 31 rfl (v' := .bool true) (congrArg Value.bool hb6)
    refine c_yes (c := .tmp 31) (by kernel_rfl) (F.slot rfl) ?_
    refine c_skip (by kernel_rfl) ?_
    refine t_normal ?_
    refine c_seq (by kernel_rfl) ?_
    refine c_block (id := 1) (by kernel_rfl) ?_
    refine c_seq (by kernel_rfl) ?_
    have hil : i < l.length := by omega
    obtain ⟨u, hu⟩ : ∃ u, l[i]? = some u := ⟨_, List.getElem?_eq_getElem hil⟩
    obtain ⟨adu1, csu1, hAu1, hKu1, H⟩ := H.elem 0 rfl (by decide) i u hu
    obtain ⟨Au7, cu7, Au8, cu8, rfl, lu7, gu7, lu8, gu8⟩ := PB.k33_open hKu1
    have H : St w (fun _ => False) (fun _ => True) [Asn.rd k33 (fun k => k < w.heap.size) A l.length l, Asn.rd k33 (fun k => k < w.heap.size) A' l.length l, Asn.blk g1 [.int .i64 au, .int .i64 n, .slice A l.length c] 40, Asn.blk g2 [.int .i64 au, .int .i64 n, .slice A' l.length c'] 40, Asn.fk k33 (fun k => k < w.heap.size) u (txc u Au7 cu7 Au8 cu8), Asn.cl (adu1.add (i * 9)) (txc u Au7 cu7 Au8 cu8) (fun k => k < w.heap.size)] W := H
    obtain ⟨adu2, csu2, hAu2, hKu2, H⟩ := H.elem 1 rfl (by decide) i u hu
    obtain ⟨Av7, cv7, Av8, cv8, rfl, lv7, gv7, lv8, gv8⟩ := PB.k33_open hKu2
    have H : St w (fun _ => False) (fun _ => True) [Asn.rd k33 (fun k => k < w.heap.size) A l.length l, Asn.rd k33 (fun k => k < w.heap.size) A' l.length l, Asn.blk g1 [.int .i64 au, .int .i64 n, .slice A l.length c] 40, Asn.blk g2 [.int .i64 au, .int .i64 n, .slice A' l.length c'] 40, Asn.fk k33 (fun k => k < w.heap.size) u (txc u Au7 cu7 Au8 cu8), Asn.cl (adu1.add (i * 9)) (txc u Au7 cu7 Au8 cu8) (fun k => k < w.heap.size), Asn.fk k33 (fun k => k < w.heap.size) u (txc u Av7 cv7 Av8 cv8), Asn.cl (adu2.add (i * 9)) (txc u Av7 cv7 Av8 cv8) (fun k => k < w.heap.size)] W := H
    refine c_drawn (id := 6) (by kernel_rfl) (by kernel_rfl) (Vs [Asn.blk g1 [.int .i64 au, .int .i64 n, .slice A l.length c] 40, Asn.cl (adu1.add (i * 9)) (txc u Au7 cu7 Au8 cu8) (fun k => k < w.heap.size), Asn.blk g2 [.int .i64 au, .int .i64 n, .slice A' l.length c'] 40, Asn.cl (adu2.add (i * 9)) (txc u Av7 cv7 Av8 cv8) (fun k => k < w.heap.size)]) [0, 1, 0, 7, 15, 0, 32, 0, 224, 480, 1023, 2047] [] [(0, 0), (2, 0), (5, 0), (7, 0), (1, 1), (3, 0), (4, 1), (6, 1), (8, 0), (9, 1), (10, 2), (11, 0)] (by kernel_rfl) (fun _ _ d _ _ h => by cases d <;> exact h) (Vs.drew ⟨H.get 2 rfl, H.get 5 rfl, H.get 3 rfl, H.get 7 rfl, trivial⟩) ?_
    have H := H.drew
    generalize World.drew W = W at H ⊢
    refine q0 (o_s 34 (.fieldAddr 40 (.tmp 2) 2) 0 (by kernel_rfl)) F (by decide) (v := .pointer (some ⟨g1, 2, none⟩)) (fun W_ => x_field0 Tryd.underlying40 rfl rfl (Tryd.sizeOf38 W_) (F.slot rfl)) (fun a F => ?_)
    refine q0 (o_s 36 (.move (.tmp 5)) 3 (by kernel_rfl)) F (by decide) (fun W_ => x_move (F.slot rfl)) (fun a F => ?_)
    refine q0 (o_s 39 (.fieldAddr 40 (.tmp 3) 2) 0 (by kernel_rfl)) F (by decide) (v := .pointer (some ⟨g2, 2, none⟩)) (fun W_ => x_field0 Tryd.underlying40 rfl rfl (Tryd.sizeOf38 W_) (F.slot rfl)) (fun a F => ?_)
    refine q0 (o_s 41 (.move (.tmp 5)) 3 (by kernel_rfl)) F (by decide) (fun W_ => x_move (F.slot rfl)) (fun a F => ?_)
    refine q1 (o_s 35 (.load 38 (.tmp 34)) 38 (by kernel_rfl)) F (by decide) (⟨H.get 2 rfl, H.get 5 rfl, H.get 3 rfl, H.get 7 rfl, trivial⟩) (v := .slice A l.length c) (fun W_ hV => x_load1 (Tryd.isAgg38 W_) (F.slot rfl) (bcell hV.1 rfl)) (fun a F => ?_)
    refine q0 (o_s 37 (.indexAddr 38 (.tmp 35) (.tmp 36)) 0 (by kernel_rfl)) F (by decide) (v := .pointer (some (adu1.add (i * 9)))) (fun W_ => x_indexE Tryd.underlying38 (Tryd.sizeOf33 W_) (F.slot rfl) hAu1 (F.slot rfl) (by omega)) (fun a F => ?_)
    refine q1 (o_s 38 (.load 33 (.tmp 37)) 33 (by kernel_rfl)) F (by decide) (⟨H.get 2 rfl, H.get 5 rfl, H.get 3 rfl, H.get 7 rfl, trivial⟩) (v := .agg (txc u Au7 cu7 Au8 cu8).toArray) (fun W_ hV => x_loadN (Tryd.isAgg33 W_) (txc u Au7 cu7 Au8 cu8) (Tryd.sizeOf33 W_) (F.slot rfl) (clnz hV.2.1 _ rfl)) (fun a F => ?_)
    refine q1 (o_s 40 (.load 38 (.tmp 39)) 38 (by kernel_rfl)) F (by decide) (⟨H.get 2 rfl, H.get 5 rfl, H.get 3 rfl, H.get 7 rfl, trivial⟩) (v := .slice A' l.length c') (fun W_ hV => x_load1 (Tryd.isAgg38 W_) (F.slot rfl) (bcell hV.2.2.1 rfl)) (fun a F => ?_)
    refine q0 (o_s 42 (.indexAddr 38 (.tmp 40) (.tmp 41)) 0 (by kernel_rfl)) F (by decide) (v := .pointer (some (adu2.add (i * 9)))) (fun W_ => x_indexE Tryd.underlying38 (Tryd.sizeOf33 W_) (F.slot rfl) hAu2 (F.slot rfl) (by omega)) (fun a F => ?_)
    refine q1 (o_s 43 (.load 33 (.tmp 42)) 33 (by kernel_rfl)) F (by decide) (⟨H.get 2 rfl, H.get 5 rfl, H.get 3 rfl, H.get 7 rfl, trivial⟩) (v := .agg (txc u Av7 cv7 Av8 cv8).toArray) (fun W_ hV => x_loadN (Tryd.isAgg33 W_) (txc u Av7 cv7 Av8 cv8) (Tryd.sizeOf33 W_) (F.slot rfl) (clnz hV.2.2.2.1 _ rfl)) (fun a F => ?_)
    refine sqc (o_s 44 (.call { callee := (.value (.func 27)), args := #[(.tmp 38), (.tmp 43)], argTypes := #[33, 33] }) 4 (by kernel_rfl)) trivial F (by decide) (x_call Tryd.func27 (by kernel_rfl) rfl (args_2 (F.slot rfl) (F.slot rfl))) (same4_calls u Au7 cu7 Au8 cu8 Av7 cv7 Av8 cv8 W (hL u (List.mem_of_getElem? hu)) (H.rd 4 rfl) (H.rd 6 rfl)) ?_
    rintro e W ⟨rfl, hB⟩
    refine ⟨_, rfl, fun a F => ?_⟩
    have H := H.below hB
    refine ⟨(fun _ => ⟨H.get 2 rfl, H.get 5 rfl, H.get 3 rfl, H.get 7 rfl, trivial⟩), ?_⟩
    refine q0 (o_s 45 (.unOp .not 4 (.tmp 44)) 4 (by kernel_rfl)) F (by decide) (v := .bool false) (fun W_ => x_not (b := true) (F.slot rfl)) (fun a F => ?_)
    unfold wpSeq
    refine t_normal ?_
    refine c_no (c := .tmp 45) (by kernel_rfl) (F.slot rfl) ?_
    refine c_skip (by kernel_rfl) ?_
    refine b_normal ?_
    refine t_normal ?_
    refine c_text (id := 5) (by kernel_rfl) [(0, 2), (1, 2), (2, 2)] (by kernel_rfl) ?_
    refine q2 (o_s 32 (.move (.tmp 5)) 3 (by kernel_rfl)) F (by decide) (x_move (F.slot rfl)) (fun a F => ?_)
    refine q2 (o_s 33 (.binOp .add 3 (.tmp 32) (.const (.int .i64 1)) 3) 3 (by kernel_rfl)) F (by decide) (v := .int .i64 (IntKind.i64.wrap ((i : Int) + 1))) (x_int (F.slot rfl) rfl rfl) (fun a F => ?_)
    have F := F.conv (v' := .int .i64 ((i : Int) + 1)) (congrArg (Value.int .i64) (wrap_i64 _ (by omega) (by omega)))
    refine q2 (o_s 5 (.assign (.tmp 33)) 3 (by kernel_rfl)) F (by decide) (v := .int .i64 ((i : Int) + 1)) (x_assign (F.slot rfl)) (fun a F => ?_)
    unfold wpSeq
    refine t_normal ?_
    have F_ := F
    have H := H.front 4
    have F := F.at 5 rfl (v' := .int .i64 ((i + 1 : Nat) : Int)) (congrArg (Value.int .i64) (by omega))
    exact ⟨k - 1, by omega, i + 1, F.less _ (subc rfl (subc rfl (subc rfl (subc rfl (subc rfl (subc rfl (subc rfl (subc rfl (subc rfl (subc rfl (subc rfl (subc rfl (subc rfl (subc rfl (subc rfl (subc rfl (subc rfl (subc rfl (subc rfl (subc rfl (subc rfl (subc rfl (subc rfl (subc rfl (subc rfl (subc rfl sub0)))))))))))))))))))))))))), H, (by omega), (by omega)⟩
  · have hb6d := of_decide_eq_false hb6
    have F := F.at 31 rfl (v' := .bool false) (congrArg Value.bool hb6)
    refine c_no (c := .tmp 31) (by kernel_rfl) (F.slot rfl) ?_
    refine c_exit (id := 0) (by kernel_rfl) ?_
    refine t_exit ?_
    refine t_exit ?_
    refine b_here ?_
    refine t_normal ?_
    refine c_seq (by kernel_rfl) ?_
    refine c_text (id := 8) (by kernel_rfl) [(0, 2)] (by kernel_rfl) ?_
    refine q2 (o_s 4 (.assign (.const (.bool true))) 4 (by kernel_rfl)) F (by decide) (v := .bool true) (x_assign rfl) (fun a F => ?_)
    unfold wpSeq
    refine t_normal ?_
    refine c_ret (by kernel_rfl) ?_
    refine p_tmp Tryd.results23 F rfl ?_
    exact ⟨rfl, H.ends⟩
end Go.Proofs.YtndicjikjcifaaaDoor

/- What is wrong with a batch, in a plain form. -/
namespace Go.Proofs.YtndicjikjcifaaaDoor
open Go.RowKit Go.Proofs.YtndicjikjcifaaaDoorW.PrintWords Go.Proofs.YtndicjikjcifaaaDoorW.PrintLast
open PB (S33 k33)
set_option linter.unusedVariables false
set_option linter.unusedSimpArgs false
def chT (t : S33) : Int := ch t.f0 t.f1 t.f2 t.f3 t.f4 t.f5 t.f6 t.f7 t.f8
def bchL : List S33 → Int
  | [] => 0
  | t :: r => if chT t = 0 then bchL r else chT t
def bchk (a n : Int) (l : List S33) : Int :=
  if a < 0 ∨ 6 < a ∨ n < 1 ∨ 4611686018427387903 < n then 2 else if l.length = 0 then 12 else if 16 < l.length then 8 else bchL l
def LimT (t : S33) : Prop := Lim t.f1 t.f2 t.f5 t.f7 t.f8
end Go.Proofs.YtndicjikjcifaaaDoor

/- batch.Check. -/
namespace Go.Proofs.YtndicjikjcifaaaDoor
open Go.RowKit Go.Proofs.YtndicjikjcifaaaDoorW.PrintWords Go.Proofs.YtndicjikjcifaaaDoorW.PrintLast
set_option linter.unusedVariables false
set_option linter.unusedSimpArgs false
set_option maxRecDepth 100000
open PB (S33 k33)
set_option maxHeartbeats 1000000 in
theorem bchk_calls (au n : Int) (A : Option Addr) (c : Nat) (l : List S33) (w : World) (hl : l.length < 4611686018427387904) (hr : k33.C w A l.length l) (hc : l.length ≤ c) :
    Calls Tryd.prog 33 #[.agg #[.int .i64 au, .int .i64 n, .slice A l.length c]] w fun e w' => e = .returned (.int .i64 (bchk au n l)) ∧ Below w.heap.size w w' := by
  have H0 : St w (fun _ => False) (fun _ => True) [Asn.rd k33 (fun k => k < w.heap.size) A l.length l] w := (St.first w _ _).old _ (k33_oldC hr) (fun B hB => by cases hB)
  refine c_enter2 (args := [.agg #[.int .i64 au, .int .i64 n, .slice A l.length c]]) (S := (fun _ => False)) (R := (fun _ => True)) (M := [Asn.rd k33 (fun k => k < w.heap.size) A l.length l]) Tryd.func33 (by kernel_rfl) 48 Tryd.ntmps33 (Nat.le_of_ble_eq_true rfl) (H0) (fun a W F H => ?_)
  have F := F.less [(0, .agg #[.int .i64 au, .int .i64 n, .slice A l.length c])] (subc rfl sub0)
  refine c_seq (by kernel_rfl) ?_
  refine c_text (id := 0) (by kernel_rfl) [(0, 2), (1, 2)] (by kernel_rfl) ?_
  refine sq_new (o_s 1 (.box 40 (.tmp 0)) 0 (by kernel_rfl)) trivial F (by decide) H [.int .i64 au, .int .i64 n, .slice A l.length c] 40 (x_box (F.slot rfl) rfl) ?_
  intro g1 W a hg1 H F
  refine ⟨(fun _ => trivial), ?_⟩
  refine q2 (o_s 2 (.assign (.const (.int .i64 0))) 24 (by kernel_rfl)) F (by decide) (v := .int .i64 0) (x_assign rfl) (fun a F => ?_)
  unfold wpSeq
  have H : St w (fun _ => False) (fun _ => True) [Asn.rd k33 (fun k => k < w.heap.size) A l.length l, Asn.blk g1 [.int .i64 au, .int .i64 n, .slice A l.length c] 40] W := H
  refine t_normal ?_
  refine c_seq (by kernel_rfl) ?_
  refine c_seq (by kernel_rfl) ?_
  refine c_text (id := 1) (by kernel_rfl) [(0, 2), (1, 2), (2, 2), (3, 2)] (by kernel_rfl) ?_
  refine q2 (o_s 7 (.fieldAddr 40 (.tmp 1) 2) 0 (by kernel_rfl)) F (by decide) (v := .pointer (some ⟨g1, 2, none⟩)) (x_field0 Tryd.underlying40 rfl rfl (Tryd.sizeOf38 W) (F.slot rfl)) (fun a F => ?_)
  refine q2 (o_s 8 (.load 38 (.tmp 7)) 38 (by kernel_rfl)) F (by decide) (v := .slice A l.length c) (x_load1 (Tryd.isAgg38 W) (F.slot rfl) (H.cell 1 rfl rfl)) (fun a F => ?_)
  refine q2 (o_s 9 (.call { callee := (.builtin .len), args := #[(.tmp 8)], argTypes := #[38] }) 3 (by kernel_rfl)) F (by decide) (v := .int .i64 (l.length : Int)) (x_lenL Tryd.underlying38 (F.slot rfl)) (fun a F => ?_)
  refine q2 (o_s 3 (.assign (.tmp 9)) 3 (by kernel_rfl)) F (by decide) (v := .int .i64 (l.length : Int)) (x_assign (F.slot rfl)) (fun a F => ?_)
  unfold wpSeq
  refine t_normal ?_
  refine c_block (id := 0) (by kernel_rfl) ?_
  refine c_seq (by kernel_rfl) ?_
  refine c_text (id := 2) (by kernel_rfl) [(0, 2), (1, 2), (2, 2), (3, 2), (4, 2), (5, 2), (6, 2), (7, 2), (8, 2), (9, 2), (10, 2), (11, 2), (12, 2), (13, 2), (14, 2), (15, 2), (16, 2), (17, 2), (18, 2)] (by kernel_rfl) ?_
  refine q2 (o_s 11 (.fieldAddr 40 (.tmp 1) 0) 0 (by kernel_rfl)) F (by decide) (v := .pointer (some ⟨g1, 0, none⟩)) (x_field0 Tryd.underlying40 rfl rfl (Tryd.sizeOf3 W) (F.slot rfl)) (fun a F => ?_)
  refine q2 (o_s 12 (.load 3 (.tmp 11)) 3 (by kernel_rfl)) F (by decide) (v := .int .i64 au) (x_load1 (Tryd.isAgg3 W) (F.slot rfl) (H.cell 1 rfl rfl)) (fun a F => ?_)
  refine q2 (o_s 13 (.binOp .lss 3 (.tmp 12) (.const (.int .i64 0)) 3) 4 (by kernel_rfl)) F (by decide) (v := .bool (decide (au < (0 : Int)))) (x_int (F.slot rfl) rfl rfl) (fun a F => ?_)
  refine q2 (o_s 14 (.move (.tmp 13)) 4 (by kernel_rfl)) F (by decide) (x_move (F.slot rfl)) (fun a F => ?_)
  rcases bool_or (decide (au < (0 : Int))) with hb2 | hb2
  · have hb2d := of_decide_eq_true hb2
    have F := F.at 14 rfl (v' := .bool true) (congrArg Value.bool hb2)
    refine sqoff2 (e := 14) (o_g 15 (.fieldAddr 40 (.tmp 1) 0) 0 3 false (by kernel_rfl)) (by kernel_rfl) (.inl rfl) F (by decide) (trivial) (fun a F => ?_)
    refine sqoff2 (e := 14) (o_g 16 (.load 3 (.tmp 15)) 3 3 false (by kernel_rfl)) (by kernel_rfl) (.inl rfl) F (by decide) (trivial) (fun a F => ?_)
    refine sqoff2 (e := 14) (o_g 17 (.binOp .gtr 3 (.tmp 16) (.const (.int .i64 6)) 3) 4 3 false (by kernel_rfl)) (by kernel_rfl) (.inl rfl) F (by decide) (trivial) (fun a F => ?_)
    refine q2 (o_s 18 (.pick (.tmp 14) (.const (.bool true)) (.tmp 17)) 4 (by kernel_rfl)) F (by decide) (v := .bool true) (x_pickT (F.slot rfl) rfl) (fun a F => ?_)
    refine q2 (o_s 19 (.move (.tmp 18)) 4 (by kernel_rfl)) F (by decide) (x_move (F.slot rfl)) (fun a F => ?_)
    refine sqoff2 (e := 19) (o_g 20 (.fieldAddr 40 (.tmp 1) 1) 0 8 false (by kernel_rfl)) (by kernel_rfl) (.inl rfl) F (by decide) (trivial) (fun a F => ?_)
    refine sqoff2 (e := 19) (o_g 21 (.load 3 (.tmp 20)) 3 8 false (by kernel_rfl)) (by kernel_rfl) (.inl rfl) F (by decide) (trivial) (fun a F => ?_)
    refine sqoff2 (e := 19) (o_g 22 (.binOp .lss 3 (.tmp 21) (.const (.int .i64 1)) 3) 4 8 false (by kernel_rfl)) (by kernel_rfl) (.inl rfl) F (by decide) (trivial) (fun a F => ?_)
    refine q2 (o_s 23 (.pick (.tmp 19) (.const (.bool true)) (.tmp 22)) 4 (by kernel_rfl)) F (by decide) (v := .bool true) (x_pickT (F.slot rfl) rfl) (fun a F => ?_)
    refine q2 (o_s 24 (.move (.tmp 23)) 4 (by kernel_rfl)) F (by decide) (x_move (F.slot rfl)) (fun a F => ?_)
    refine sqoff2 (e := 24) (o_g 25 (.fieldAddr 40 (.tmp 1) 1) 0 13 false (by kernel_rfl)) (by kernel_rfl) (.inl rfl) F (by decide) (trivial) (fun a F => ?_)
    refine sqoff2 (e := 24) (o_g 26 (.load 3 (.tmp 25)) 3 13 false (by kernel_rfl)) (by kernel_rfl) (.inl rfl) F (by decide) (trivial) (fun a F => ?_)
    refine sqoff2 (e := 24) (o_g 27 (.binOp .gtr 3 (.tmp 26) (.const (.int .i64 4611686018427387903)) 3) 4 13 false (by kernel_rfl)) (by kernel_rfl) (.inl rfl) F (by decide) (trivial) (fun a F => ?_)
    refine q2 (o_s 28 (.pick (.tmp 24) (.const (.bool true)) (.tmp 27)) 4 (by kernel_rfl)) F (by decide) (v := .bool true) (x_pickT (F.slot rfl) rfl) (fun a F => ?_)
    refine q2 (o_s 10 (.assign (.tmp 28)) 4 (by kernel_rfl)) F (by decide) (v := .bool true) (x_assign (F.slot rfl)) (fun a F => ?_)
    unfold wpSeq
    refine t_normal ?_
    refine c_yes (c := .tmp 10) (by kernel_rfl) (F.slot rfl) ?_
    refine c_seq (by kernel_rfl) ?_
    refine c_text (id := 3) (by kernel_rfl) [(0, 2)] (by kernel_rfl) ?_
    refine q2 (o_s 2 (.assign (.const (.int .i64 2))) 24 (by kernel_rfl)) F (by decide) (v := .int .i64 2) (x_assign rfl) (fun a F => ?_)
    unfold wpSeq
    refine t_normal ?_
    refine c_ret (by kernel_rfl) ?_
    refine b_ret ?_
    refine t_ret ?_
    refine p_tmp Tryd.results33 F rfl ?_
    exact ⟨by unfold bchk; first | rw [if_pos (by omega)] | (rw [if_neg (by omega)]; first | rw [if_pos (by omega)] | rw [if_neg (by omega), if_pos (by omega)]), H.ends⟩
  · have hb2d := of_decide_eq_false hb2
    have F := F.at 14 rfl (v' := .bool false) (congrArg Value.bool hb2)
    refine sq2 (W' := W) (o_g 15 (.fieldAddr 40 (.tmp 1) 0) 0 3 false (by kernel_rfl)) ⟨14, by kernel_rfl, rfl⟩ F (by decide) (v := .pointer (some ⟨g1, 0, none⟩)) (x_field0 Tryd.underlying40 rfl rfl (Tryd.sizeOf3 W) (F.slot rfl)) (fun _ => trivial) (fun a F => ?_)
    refine sq2 (o_g 16 (.load 3 (.tmp 15)) 3 3 false (by kernel_rfl)) ⟨14, by kernel_rfl, rfl⟩ F (by decide) (v := .int .i64 au) (x_load1 (Tryd.isAgg3 W) (F.slot rfl) (H.cell 1 rfl rfl)) (fun _ => trivial) (fun a F => ?_)
    refine sq2 (W' := W) (o_g 17 (.binOp .gtr 3 (.tmp 16) (.const (.int .i64 6)) 3) 4 3 false (by kernel_rfl)) ⟨14, by kernel_rfl, rfl⟩ F (by decide) (v := .bool (decide (au > (6 : Int)))) (x_int (F.slot rfl) rfl rfl) (fun _ => trivial) (fun a F => ?_)
    refine q2 (o_s 18 (.pick (.tmp 14) (.const (.bool true)) (.tmp 17)) 4 (by kernel_rfl)) F (by decide) (v := .bool (decide (au > (6 : Int)))) (x_pickF (F.slot rfl) (F.slot rfl)) (fun a F => ?_)
    refine q2 (o_s 19 (.move (.tmp 18)) 4 (by kernel_rfl)) F (by decide) (x_move (F.slot rfl)) (fun a F => ?_)
    rcases bool_or (decide (au > (6 : Int))) with hb3 | hb3
    · have hb3d := of_decide_eq_true hb3
      have F := F.at 19 rfl (v' := .bool true) (congrArg Value.bool hb3)
      refine sqoff2 (e := 19) (o_g 20 (.fieldAddr 40 (.tmp 1) 1) 0 8 false (by kernel_rfl)) (by kernel_rfl) (.inl rfl) F (by decide) (trivial) (fun a F => ?_)
      refine sqoff2 (e := 19) (o_g 21 (.load 3 (.tmp 20)) 3 8 false (by kernel_rfl)) (by kernel_rfl) (.inl rfl) F (by decide) (trivial) (fun a F => ?_)
      refine sqoff2 (e := 19) (o_g 22 (.binOp .lss 3 (.tmp 21) (.const (.int .i64 1)) 3) 4 8 false (by kernel_rfl)) (by kernel_rfl) (.inl rfl) F (by decide) (trivial) (fun a F => ?_)
      refine q2 (o_s 23 (.pick (.tmp 19) (.const (.bool true)) (.tmp 22)) 4 (by kernel_rfl)) F (by decide) (v := .bool true) (x_pickT (F.slot rfl) rfl) (fun a F => ?_)
      refine q2 (o_s 24 (.move (.tmp 23)) 4 (by kernel_rfl)) F (by decide) (x_move (F.slot rfl)) (fun a F => ?_)
      refine sqoff2 (e := 24) (o_g 25 (.fieldAddr 40 (.tmp 1) 1) 0 13 false (by kernel_rfl)) (by kernel_rfl) (.inl rfl) F (by decide) (trivial) (fun a F => ?_)
      refine sqoff2 (e := 24) (o_g 26 (.load 3 (.tmp 25)) 3 13 false (by kernel_rfl)) (by kernel_rfl) (.inl rfl) F (by decide) (trivial) (fun a F => ?_)
      refine sqoff2 (e := 24) (o_g 27 (.binOp .gtr 3 (.tmp 26) (.const (.int .i64 4611686018427387903)) 3) 4 13 false (by kernel_rfl)) (by kernel_rfl) (.inl rfl) F (by decide) (trivial) (fun a F => ?_)
      refine q2 (o_s 28 (.pick (.tmp 24) (.const (.bool true)) (.tmp 27)) 4 (by kernel_rfl)) F (by decide) (v := .bool true) (x_pickT (F.slot rfl) rfl) (fun a F => ?_)
      refine q2 (o_s 10 (.assign (.tmp 28)) 4 (by kernel_rfl)) F (by decide) (v := .bool true) (x_assign (F.slot rfl)) (fun a F => ?_)
      unfold wpSeq
      refine t_normal ?_
      refine c_yes (c := .tmp 10) (by kernel_rfl) (F.slot rfl) ?_
      refine c_seq (by kernel_rfl) ?_
      refine c_text (id := 3) (by kernel_rfl) [(0, 2)] (by kernel_rfl) ?_
      refine q2 (o_s 2 (.assign (.const (.int .i64 2))) 24 (by kernel_rfl)) F (by decide) (v := .int .i64 2) (x_assign rfl) (fun a F => ?_)
      unfold wpSeq
      refine t_normal ?_
      refine c_ret (by kernel_rfl) ?_
      refine b_ret ?_
      refine t_ret ?_
      refine p_tmp Tryd.results33 F rfl ?_
      exact ⟨by unfold bchk; first | rw [if_pos (by omega)] | (rw [if_neg (by omega)]; first | rw [if_pos (by omega)] | rw [if_neg (by omega), if_pos (by omega)]), H.ends⟩
    · have hb3d := of_decide_eq_false hb3
      have F := F.at 19 rfl (v' := .bool false) (congrArg Value.bool hb3)
      refine sq2 (W' := W) (o_g 20 (.fieldAddr 40 (.tmp 1) 1) 0 8 false (by kernel_rfl)) ⟨19, by kernel_rfl, rfl⟩ F (by decide) (v := .pointer (some ⟨g1, 1, none⟩)) (x_field0 Tryd.underlying40 rfl rfl (Tryd.sizeOf3 W) (F.slot rfl)) (fun _ => trivial) (fun a F => ?_)
      refine sq2 (o_g 21 (.load 3 (.tmp 20)) 3 8 false (by kernel_rfl)) ⟨19, by kernel_rfl, rfl⟩ F (by decide) (v := .int .i64 n) (x_load1 (Tryd.isAgg3 W) (F.slot rfl) (H.cell 1 rfl rfl)) (fun _ => trivial) (fun a F => ?_)
      refine sq2 (W' := W) (o_g 22 (.binOp .lss 3 (.tmp 21) (.const (.int .i64 1)) 3) 4 8 false (by kernel_rfl)) ⟨19, by kernel_rfl, rfl⟩ F (by decide) (v := .bool (decide (n < (1 : Int)))) (x_int (F.slot rfl) rfl rfl) (fun _ => trivial) (fun a F => ?_)
      refine q2 (o_s 23 (.pick (.tmp 19) (.const (.bool true)) (.tmp 22)) 4 (by kernel_rfl)) F (by decide) (v := .bool (decide (n < (1 : Int)))) (x_pickF (F.slot rfl) (F.slot rfl)) (fun a F => ?_)
      refine q2 (o_s 24 (.move (.tmp 23)) 4 (by kernel_rfl)) F (by decide) (x_move (F.slot rfl)) (fun a F => ?_)
      rcases bool_or (decide (n < (1 : Int))) with hb4 | hb4
      · have hb4d := of_decide_eq_true hb4
        have F := F.at 24 rfl (v' := .bool true) (congrArg Value.bool hb4)
        refine sqoff2 (e := 24) (o_g 25 (.fieldAddr 40 (.tmp 1) 1) 0 13 false (by kernel_rfl)) (by kernel_rfl) (.inl rfl) F (by decide) (trivial) (fun a F => ?_)
        refine sqoff2 (e := 24) (o_g 26 (.load 3 (.tmp 25)) 3 13 false (by kernel_rfl)) (by kernel_rfl) (.inl rfl) F (by decide) (trivial) (fun a F => ?_)
        refine sqoff2 (e := 24) (o_g 27 (.binOp .gtr 3 (.tmp 26) (.const (.int .i64 4611686018427387903)) 3) 4 13 false (by kernel_rfl)) (by kernel_rfl) (.inl rfl) F (by decide) (trivial) (fun a F => ?_)
        refine q2 (o_s 28 (.pick (.tmp 24) (.const (.bool true)) (.tmp 27)) 4 (by kernel_rfl)) F (by decide) (v := .bool true) (x_pickT (F.slot rfl) rfl) (fun a F => ?_)
        refine q2 (o_s 10 (.assign (.tmp 28)) 4 (by kernel_rfl)) F (by decide) (v := .bool true) (x_assign (F.slot rfl)) (fun a F => ?_)
        unfold wpSeq
        refine t_normal ?_
        refine c_yes (c := .tmp 10) (by kernel_rfl) (F.slot rfl) ?_
        refine c_seq (by kernel_rfl) ?_
        refine c_text (id := 3) (by kernel_rfl) [(0, 2)] (by kernel_rfl) ?_
        refine q2 (o_s 2 (.assign (.const (.int .i64 2))) 24 (by kernel_rfl)) F (by decide) (v := .int .i64 2) (x_assign rfl) (fun a F => ?_)
        unfold wpSeq
        refine t_normal ?_
        refine c_ret (by kernel_rfl) ?_
        refine b_ret ?_
        refine t_ret ?_
        refine p_tmp Tryd.results33 F rfl ?_
        exact ⟨by unfold bchk; first | rw [if_pos (by omega)] | (rw [if_neg (by omega)]; first | rw [if_pos (by omega)] | rw [if_neg (by omega), if_pos (by omega)]), H.ends⟩
      · have hb4d := of_decide_eq_false hb4
        have F := F.at 24 rfl (v' := .bool false) (congrArg Value.bool hb4)
        refine sq2 (W' := W) (o_g 25 (.fieldAddr 40 (.tmp 1) 1) 0 13 false (by kernel_rfl)) ⟨24, by kernel_rfl, rfl⟩ F (by decide) (v := .pointer (some ⟨g1, 1, none⟩)) (x_field0 Tryd.underlying40 rfl rfl (Tryd.sizeOf3 W) (F.slot rfl)) (fun _ => trivial) (fun a F => ?_)
        refine sq2 (o_g 26 (.load 3 (.tmp 25)) 3 13 false (by kernel_rfl)) ⟨24, by kernel_rfl, rfl⟩ F (by decide) (v := .int .i64 n) (x_load1 (Tryd.isAgg3 W) (F.slot rfl) (H.cell 1 rfl rfl)) (fun _ => trivial) (fun a F => ?_)
        refine sq2 (W' := W) (o_g 27 (.binOp .gtr 3 (.tmp 26) (.const (.int .i64 4611686018427387903)) 3) 4 13 false (by kernel_rfl)) ⟨24, by kernel_rfl, rfl⟩ F (by decide) (v := .bool (decide (n > (4611686018427387903 : Int)))) (x_int (F.slot rfl) rfl rfl) (fun _ => trivial) (fun a F => ?_)
        refine q2 (o_s 28 (.pick (.tmp 24) (.const (.bool true)) (.tmp 27)) 4 (by kernel_rfl)) F (by decide) (v := .bool (decide (n > (4611686018427387903 : Int)))) (x_pickF (F.slot rfl) (F.slot rfl)) (fun a F => ?_)
        refine q2 (o_s 10 (.assign (.tmp 28)) 4 (by kernel_rfl)) F (by decide) (v := .bool (decide (n > (4611686018427387903 : Int)))) (x_assign (F.slot rfl)) (fun a F => ?_)
        unfold wpSeq
        refine t_normal ?_
        rcases bool_or (decide (n > (4611686018427387903 : Int))) with hb5 | hb5
        · have hb5d := of_decide_eq_true hb5
          have F := F.at 10 rfl (v' := .bool true) (congrArg Value.bool hb5)
          refine c_yes (c := .tmp 10) (by kernel_rfl) (F.slot rfl) ?_
          refine c_seq (by kernel_rfl) ?_
          refine c_text (id := 3) (by kernel_rfl) [(0, 2)] (by kernel_rfl) ?_
          refine q2 (o_s 2 (.assign (.const (.int .i64 2))) 24 (by kernel_rfl)) F (by decide) (v := .int .i64 2) (x_assign rfl) (fun a F => ?_)
          unfold wpSeq
          refine t_normal ?_
          refine c_ret (by kernel_rfl) ?_
          refine b_ret ?_
          refine t_ret ?_
          refine p_tmp Tryd.results33 F rfl ?_
          exact ⟨by unfold bchk; first | rw [if_pos (by omega)] | (rw [if_neg (by omega)]; first | rw [if_pos (by omega)] | rw [if_neg (by omega), if_pos (by omega)]), H.ends⟩
        · have hb5d := of_decide_eq_false hb5
          have F := F.at 10 rfl (v' := .bool false) (congrArg Value.bool hb5)
          refine c_no (c := .tmp 10) (by kernel_rfl) (F.slot rfl) ?_
          refine c_seq (by kernel_rfl) ?_
          refine c_text (id := 4) (by kernel_rfl) [(0, 2), (1, 2), (2, 2)] (by kernel_rfl) ?_
          refine q2 (o_s 30 (.move (.tmp 3)) 3 (by kernel_rfl)) F (by decide) (x_move (F.slot rfl)) (fun a F => ?_)
          refine q2 (o_s 31 (.binOp .eql 3 (.tmp 30) (.const (.int .i64 0)) 3) 4 (by kernel_rfl)) F (by decide) (v := .bool ((l.length : Int) == (0 : Int))) (x_int (F.slot rfl) rfl rfl) (fun a F => ?_)
          refine q2 (o_s 29 (.assign (.tmp 31)) 4 (by kernel_rfl)) F (by decide) (v := .bool ((l.length : Int) == (0 : Int))) (x_assign (F.slot rfl)) (fun a F => ?_)
          unfold wpSeq
          refine t_normal ?_
          rcases bool_or ((l.length : Int) == (0 : Int)) with hb6 | hb6
          · have hb6d := eq_of_beq hb6
            have F := F.at 29 rfl (v' := .bool true) (congrArg Value.bool hb6)
            refine c_yes (c := .tmp 29) (by kernel_rfl) (F.slot rfl) ?_
            refine c_seq (by kernel_rfl) ?_
            refine c_text (id := 5) (by kernel_rfl) [(0, 2)] (by kernel_rfl) ?_
            refine q2 (o_s 2 (.assign (.const (.int .i64 12))) 24 (by kernel_rfl)) F (by decide) (v := .int .i64 12) (x_assign rfl) (fun a F => ?_)
            unfold wpSeq
            refine t_normal ?_
            refine c_ret (by kernel_rfl) ?_
            refine b_ret ?_
            refine t_ret ?_
            refine p_tmp Tryd.results33 F rfl ?_
            exact ⟨by unfold bchk; first | rw [if_pos (by omega)] | (rw [if_neg (by omega)]; first | rw [if_pos (by omega)] | rw [if_neg (by omega), if_pos (by omega)]), H.ends⟩
          · have hb6d := ne_of_beq_false hb6
            have F := F.at 29 rfl (v' := .bool false) (congrArg Value.bool hb6)
            refine c_no (c := .tmp 29) (by kernel_rfl) (F.slot rfl) ?_
            refine c_seq (by kernel_rfl) ?_
            refine c_text (id := 6) (by kernel_rfl) [(0, 2), (1, 2), (2, 2)] (by kernel_rfl) ?_
            refine q2 (o_s 33 (.move (.tmp 3)) 3 (by kernel_rfl)) F (by decide) (x_move (F.slot rfl)) (fun a F => ?_)
            refine q2 (o_s 34 (.binOp .gtr 3 (.tmp 33) (.const (.int .i64 16)) 3) 4 (by kernel_rfl)) F (by decide) (v := .bool (decide ((l.length : Int) > (16 : Int)))) (x_int (F.slot rfl) rfl rfl) (fun a F => ?_)
            refine q2 (o_s 32 (.assign (.tmp 34)) 4 (by kernel_rfl)) F (by decide) (v := .bool (decide ((l.length : Int) > (16 : Int)))) (x_assign (F.slot rfl)) (fun a F => ?_)
            unfold wpSeq
            refine t_normal ?_
            rcases bool_or (decide ((l.length : Int) > (16 : Int))) with hb7 | hb7
            · have hb7d := of_decide_eq_true hb7
              have F := F.at 32 rfl (v' := .bool true) (congrArg Value.bool hb7)
              refine c_yes (c := .tmp 32) (by kernel_rfl) (F.slot rfl) ?_
              refine c_seq (by kernel_rfl) ?_
              refine c_text (id := 7) (by kernel_rfl) [(0, 2)] (by kernel_rfl) ?_
              refine q2 (o_s 2 (.assign (.const (.int .i64 8))) 24 (by kernel_rfl)) F (by decide) (v := .int .i64 8) (x_assign rfl) (fun a F => ?_)
              unfold wpSeq
              refine t_normal ?_
              refine c_ret (by kernel_rfl) ?_
              refine b_ret ?_
              refine t_ret ?_
              refine p_tmp Tryd.results33 F rfl ?_
              exact ⟨by unfold bchk; first | rw [if_pos (by omega)] | (rw [if_neg (by omega)]; first | rw [if_pos (by omega)] | rw [if_neg (by omega), if_pos (by omega)]), H.ends⟩
            · have hb7d := of_decide_eq_false hb7
              have F := F.at 32 rfl (v' := .bool false) (congrArg Value.bool hb7)
              refine c_no (c := .tmp 32) (by kernel_rfl) (F.slot rfl) ?_
              refine c_skip (by kernel_rfl) ?_
              refine b_normal ?_
              refine t_normal ?_
              refine c_seq (by kernel_rfl) ?_
              refine c_seq (by kernel_rfl) ?_
              refine c_text (id := 8) (by kernel_rfl) [(0, 2), (1, 2), (2, 2), (3, 2)] (by kernel_rfl) ?_
              refine q2 (o_s 35 (.fieldAddr 40 (.tmp 1) 2) 0 (by kernel_rfl)) F (by decide) (v := .pointer (some ⟨g1, 2, none⟩)) (x_field0 Tryd.underlying40 rfl rfl (Tryd.sizeOf38 W) (F.slot rfl)) (fun a F => ?_)
              refine q2 (o_s 36 (.load 38 (.tmp 35)) 38 (by kernel_rfl)) F (by decide) (v := .slice A l.length c) (x_load1 (Tryd.isAgg38 W) (F.slot rfl) (H.cell 1 rfl rfl)) (fun a F => ?_)
              refine q2 (o_s 37 (.call { callee := (.builtin .len), args := #[(.tmp 36)], argTypes := #[38] }) 3 (by kernel_rfl)) F (by decide) (v := .int .i64 (l.length : Int)) (x_lenL Tryd.underlying38 (F.slot rfl)) (fun a F => ?_)
              refine q2 (o_s 38 (.move (.const (.int .i64 0))) 3 (by kernel_rfl)) F (by decide) (v := .int .i64 0) (x_move rfl) (fun a F => ?_)
              unfold wpSeq
              refine t_normal ?_
              refine c_block (id := 1) (by kernel_rfl) ?_
              refine c_loop (by kernel_rfl) (fun k a W => ∃ (i : Nat), Fr 48 [(0, .agg #[.int .i64 au, .int .i64 n, .slice A l.length c]), (1, .pointer (some ⟨g1, 0, none⟩)), (7, .pointer (some ⟨g1, 2, none⟩)), (8, .slice A l.length c), (9, .int .i64 (l.length : Int)), (3, .int .i64 (l.length : Int)), (11, .pointer (some ⟨g1, 0, none⟩)), (12, .int .i64 au), (13, .bool (decide (au < (0 : Int)))), (14, .bool false), (15, .pointer (some ⟨g1, 0, none⟩)), (16, .int .i64 au), (17, .bool (decide (au > (6 : Int)))), (18, .bool (decide (au > (6 : Int)))), (19, .bool false), (20, .pointer (some ⟨g1, 1, none⟩)), (21, .int .i64 n), (22, .bool (decide (n < (1 : Int)))), (23, .bool (decide (n < (1 : Int)))), (24, .bool false), (25, .pointer (some ⟨g1, 1, none⟩)), (26, .int .i64 n), (27, .bool (decide (n > (4611686018427387903 : Int)))), (28, .bool (decide (n > (4611686018427387903 : Int)))), (10, .bool false), (30, .int .i64 (l.length : Int)), (31, .bool ((l.length : Int) == (0 : Int))), (29, .bool false), (33, .int .i64 (l.length : Int)), (34, .bool (decide ((l.length : Int) > (16 : Int)))), (32, .bool false), (35, .pointer (some ⟨g1, 2, none⟩)), (36, .slice A l.length c), (37, .int .i64 (l.length : Int)), (38, .int .i64 (i : Int))] a ∧ St w (fun _ => False) (fun _ => True) [Asn.rd k33 (fun k => k < w.heap.size) A l.length l, Asn.blk g1 [.int .i64 au, .int .i64 n, .slice A l.length c] 40] W ∧ (k + i = l.length) ∧ (i ≤ l.length) ∧ (bchk au n l = bchL (l.drop i))) l.length ⟨0, F.less _ (subc rfl (subc rfl (subc rfl (subc rfl (subc rfl (subc rfl (subc rfl (subc rfl (subc rfl (subc rfl (subc rfl (subc rfl (subc rfl (subc rfl (subc rfl (subc rfl (subc rfl (subc rfl (subc rfl (subc rfl (subc rfl (subc rfl (subc rfl (subc rfl (subc rfl (subc rfl (subc rfl (subc rfl (subc rfl (subc rfl (subc rfl (subc rfl (subc rfl (subc rfl (subc rfl sub0))))))))))))))))))))))))))))))))))), H, (by omega), (Nat.zero_le _), (by unfold bchk; rw [if_neg (by omega), if_neg (by omega), if_neg (by omega)]; rfl)⟩ ?_
              rintro k a W ⟨i, F, H, hki, hi, hch⟩
              refine c_seq (by kernel_rfl) ?_
              refine c_text (id := 9) (by kernel_rfl) [(0, 2)] (by kernel_rfl) ?_
              refine q2 (o_s 39 (.binOp .lss 3 (.tmp 38) (.tmp 37) 3) 0 (by kernel_rfl)) F (by decide) (v := .bool (decide ((i : Int) < (l.length : Int)))) (x_int (F.slot rfl) (F.slot rfl) rfl) (fun a F => ?_)
              unfold wpSeq
              refine t_normal ?_
              refine c_seq (by kernel_rfl) ?_
              rcases bool_or (decide ((i : Int) < (l.length : Int))) with hb8 | hb8
              · have hb8d := of_decide_eq_true hb8
                have F := F.at 39 rfl (v' := .bool true) (congrArg Value.bool hb8)
                refine c_yes (c := .tmp 39) (by kernel_rfl) (F.slot rfl) ?_
                refine c_skip (by kernel_rfl) ?_
                refine t_normal ?_
                refine c_seq (by kernel_rfl) ?_
                refine c_block (id := 2) (by kernel_rfl) ?_
                refine c_seq (by kernel_rfl) ?_
                have hil : i < l.length := by omega
                obtain ⟨t, htt⟩ : ∃ t_, (l)[i]? = some t_ := ⟨_, List.getElem?_eq_getElem (by omega)⟩
                obtain ⟨adt, cst, hAt, hKt, H⟩ := H.elem 0 rfl (by decide) i t htt
                obtain ⟨A7, c7, A8, c8, rfl, l7, g7, l8, g8⟩ := PB.k33_open hKt
                have H : St w (fun _ => False) (fun _ => True) [Asn.rd k33 (fun k => k < w.heap.size) A l.length l, Asn.blk g1 [.int .i64 au, .int .i64 n, .slice A l.length c] 40, Asn.fk k33 (fun k => k < w.heap.size) t (txc t A7 c7 A8 c8), Asn.cl (adt.add (i * 9)) (txc t A7 c7 A8 c8) (fun k => k < w.heap.size)] W := H
                have hdr : l.drop i = t :: l.drop (i + 1) := by rw [List.drop_eq_getElem_cons hil]; congr 1; exact Option.some.inj ((List.getElem?_eq_getElem hil).symm.trans htt)
                obtain ⟨z, hz⟩ : ∃ z, chT t = z := ⟨_, rfl⟩
                refine c_text (id := 10) (by kernel_rfl) [(0, 2), (1, 2), (2, 2), (3, 2)] (by kernel_rfl) ?_
                refine q2 (o_s 40 (.indexAddr 38 (.tmp 36) (.tmp 38)) 0 (by kernel_rfl)) F (by decide) (v := .pointer (some (adt.add (i * 9)))) (x_indexE Tryd.underlying38 (Tryd.sizeOf33 W) (F.slot rfl) hAt (F.slot rfl) (by omega)) (fun a F => ?_)
                refine q2 (o_s 41 (.load 33 (.tmp 40)) 33 (by kernel_rfl)) F (by decide) (v := .agg (txc t A7 c7 A8 c8).toArray) (x_loadN (Tryd.isAgg33 W) (txc t A7 c7 A8 c8) (Tryd.sizeOf33 W) (F.slot rfl) (clnz (H.get 3 rfl) _ rfl)) (fun a F => ?_)
                refine sq_new (o_s 5 (.alloc 33) 0 (by kernel_rfl)) trivial F (by decide) H [.int .i64 0, .string ⟨#[]⟩, .string ⟨#[]⟩, .int .u64 0, .int .u64 0, .string ⟨#[]⟩, .string ⟨#[]⟩, .slice none 0 0, .slice none 0 0] 33 (x_alloc Tryd.zeroValue33 rfl) ?_
                intro g9 W a hg9 H F
                refine ⟨(fun _ => trivial), ?_⟩
                refine sq_put (M := [Asn.rd k33 (fun k => k < w.heap.size) A l.length l, Asn.blk g1 [.int .i64 au, .int .i64 n, .slice A l.length c] 40, Asn.fk k33 (fun k => k < w.heap.size) t (txc t A7 c7 A8 c8), Asn.cl (adt.add (i * 9)) (txc t A7 c7 A8 c8) (fun k => k < w.heap.size), Asn.blk g9 (txc t A7 c7 A8 c8) 33]) (o_n (.store 33 (.tmp 5) (.tmp 41)) 0 (by kernel_rfl)) trivial F (x_store H (k := 4) (cs' := (txc t A7 c7 A8 c8)) rfl (Tryd.sizeOf33 W) (F.slot rfl) (F.slot rfl) rfl (Nat.le_of_ble_eq_true rfl) rfl rfl) ?_
                intro W H
                refine ⟨(fun _ => trivial), ?_⟩
                unfold wpSeq
                refine t_normal ?_
                refine c_seq (by kernel_rfl) ?_
                refine c_text (id := 11) (by kernel_rfl) [(0, 2), (1, 2), (2, 2)] (by kernel_rfl) ?_
                refine q2 (o_s 42 (.load 33 (.tmp 5)) 33 (by kernel_rfl)) F (by decide) (v := .agg (txc t A7 c7 A8 c8).toArray) (x_loadB (Tryd.isAgg33 W) (txc t A7 c7 A8 c8) (Tryd.sizeOf33 W) (F.slot rfl) (H.blk 4 rfl)) (fun a F => ?_)
                obtain ⟨l7, g7, l8, g8⟩ := k33_parts (H.rd 2 rfl)
                refine sqc (o_s 43 (.call { callee := (.value (.func 41)), args := #[(.tmp 42)], argTypes := #[33] }) 24 (by kernel_rfl)) trivial F (by decide) (x_call Tryd.func41 (by kernel_rfl) rfl (args_1 (F.slot rfl))) (tx_Check.calls t.f0 t.f1 t.f2 t.f3 t.f4 t.f5 t.f6 A7 c7 t.f7 A8 c8 t.f8 z W g7 l7 g8 l8 (congrArg some hz)) ?_
                rintro e W ⟨rfl, hB⟩
                refine ⟨_, rfl, fun a F => ?_⟩
                have H := H.below hB
                refine ⟨(fun _ => trivial), ?_⟩
                refine q2 (o_s 6 (.assign (.tmp 43)) 24 (by kernel_rfl)) F (by decide) (v := .int .i64 z) (x_assign (F.slot rfl)) (fun a F => ?_)
                unfold wpSeq
                refine t_normal ?_
                refine c_seq (by kernel_rfl) ?_
                refine c_text (id := 12) (by kernel_rfl) [(0, 2), (1, 2)] (by kernel_rfl) ?_
                refine q2 (o_s 44 (.move (.tmp 6)) 24 (by kernel_rfl)) F (by decide) (x_move (F.slot rfl)) (fun a F => ?_)
                refine q2 (o_s 45 (.binOp .neq 24 (.tmp 44) (.const (.int .i64 0)) 24) 4 (by kernel_rfl)) F (by decide) (v := .bool (z != (0 : Int))) (x_int (F.slot rfl) rfl rfl) (fun a F => ?_)
                unfold wpSeq
                refine t_normal ?_
                rcases bool_or (z != (0 : Int)) with hb10 | hb10
                · have F := F.at 45 rfl (v' := .bool true) (congrArg Value.bool hb10)
                  refine c_yes (c := .tmp 45) (by kernel_rfl) (F.slot rfl) ?_
                  refine c_seq (by kernel_rfl) ?_
                  refine c_text (id := 13) (by kernel_rfl) [(0, 2), (1, 2)] (by kernel_rfl) ?_
                  refine q2 (o_s 46 (.move (.tmp 6)) 24 (by kernel_rfl)) F (by decide) (x_move (F.slot rfl)) (fun a F => ?_)
                  refine q2 (o_s 2 (.assign (.tmp 46)) 24 (by kernel_rfl)) F (by decide) (v := .int .i64 z) (x_assign (F.slot rfl)) (fun a F => ?_)
                  unfold wpSeq
                  refine t_normal ?_
                  refine c_ret (by kernel_rfl) ?_
                  refine b_ret ?_
                  refine t_ret ?_
                  refine t_ret ?_
                  refine b_ret ?_
                  refine t_ret ?_
                  refine p_tmp Tryd.results33 F rfl ?_
                  exact ⟨by rw [hch, hdr, bchL, if_neg (fun e => by have := hz.symm.trans e; simp [this] at hb10), hz], H.ends⟩
                · have F := F.at 45 rfl (v' := .bool false) (congrArg Value.bool hb10)
                  refine c_no (c := .tmp 45) (by kernel_rfl) (F.slot rfl) ?_
                  refine c_skip (by kernel_rfl) ?_
                  refine b_normal ?_
                  refine t_normal ?_
                  refine c_text (id := 14) (by kernel_rfl) [(0, 2), (1, 2)] (by kernel_rfl) ?_
                  refine q2 (o_s 47 (.binOp .add 3 (.tmp 38) (.const (.int .i64 1)) 3) 3 (by kernel_rfl)) F (by decide) (v := .int .i64 (IntKind.i64.wrap ((i : Int) + 1))) (x_int (F.slot rfl) rfl rfl) (fun a F => ?_)
                  have F := F.conv (v' := .int .i64 ((i : Int) + 1)) (congrArg (Value.int .i64) (wrap_i64 _ (by omega) (by omega)))
                  refine q2 (o_s 38 (.move (.tmp 47)) 3 (by kernel_rfl)) F (by decide) (x_move (F.slot rfl)) (fun a F => ?_)
                  unfold wpSeq
                  refine t_normal ?_
                  have F_ := F
                  have H := H.front 2
                  have F := F.at 38 rfl (v' := .int .i64 ((i + 1 : Nat) : Int)) (congrArg (Value.int .i64) (by omega))
                  exact ⟨k - 1, by omega, i + 1, F.less _ (subc rfl (subc rfl (subc rfl (subc rfl (subc rfl (subc rfl (subc rfl (subc rfl (subc rfl (subc rfl (subc rfl (subc rfl (subc rfl (subc rfl (subc rfl (subc rfl (subc rfl (subc rfl (subc rfl (subc rfl (subc rfl (subc rfl (subc rfl (subc rfl (subc rfl (subc rfl (subc rfl (subc rfl (subc rfl (subc rfl (subc rfl (subc rfl (subc rfl (subc rfl (subc rfl sub0))))))))))))))))))))))))))))))))))), H, (by omega), (by omega), (hch.trans (by rw [hdr, bchL, if_pos (hz.trans (by simpa using hb10))]))⟩
              · have hb8d := of_decide_eq_false hb8
                have F := F.at 39 rfl (v' := .bool false) (congrArg Value.bool hb8)
                refine c_no (c := .tmp 39) (by kernel_rfl) (F.slot rfl) ?_
                refine c_exit (id := 1) (by kernel_rfl) ?_
                refine t_exit ?_
                refine t_exit ?_
                refine b_here ?_
                refine t_normal ?_
                refine c_seq (by kernel_rfl) ?_
                refine c_text (id := 15) (by kernel_rfl) [(0, 2)] (by kernel_rfl) ?_
                refine q2 (o_s 2 (.assign (.const (.int .i64 0))) 24 (by kernel_rfl)) F (by decide) (v := .int .i64 0) (x_assign rfl) (fun a F => ?_)
                unfold wpSeq
                refine t_normal ?_
                refine c_ret (by kernel_rfl) ?_
                refine p_tmp Tryd.results33 F rfl ?_
                exact ⟨by rw [hch, List.drop_eq_nil_of_le (by omega)]; rfl, H.ends⟩
end Go.Proofs.YtndicjikjcifaaaDoor

namespace Go.Proofs.YtndicjikjcifaaaDoor.PB
open Go.RowKit Go.Proofs.YtndicjikjcifaaaDoorW.PrintWords Go.Proofs.YtndicjikjcifaaaDoorW.PrintLast Go.Proofs.YtndicjikjcifaaaDoorW.PrintMore
attribute [local go_sem] max2_int min2_int max_two min_two max_three min_three max_four min_four   -- for this text's walks alone
set_option linter.unusedVariables false
set_option linter.unusedSimpArgs false
/-! ### tuskref05_Same: function 23 -/
mutual
def tuskref05_Same.j0 : Nat → Bool → Int → Int → List (S33) → Int → Int → List (S33) → Option (Bool)
  | 0, _, _, _, _, _, _, _ => none
  | k + 1, x26, x115000, x115001, x115002, x116000, x116001, x116002 => if x26 = true then (some false) else (tuskref05_Same.l0 k 0 x115000 x115001 x115002 x116000 x116001 x116002)
def tuskref05_Same.l0 : Nat → Int → Int → Int → List (S33) → Int → Int → List (S33) → Option (Bool)
  | 0, _, _, _, _, _, _, _ => none
  | k + 1, x5, x115000, x115001, x115002, x116000, x116001, x116002 => if x5 < (x115002.length : Int) then (if 0 ≤ x5 then (if x5 < (x116002.length : Int) then ((tuskref04_Same.f k ((rd_T33 x115002 x5).f0) ((rd_T33 x115002 x5).f1) ((rd_T33 x115002 x5).f2) ((rd_T33 x115002 x5).f3) ((rd_T33 x115002 x5).f4) ((rd_T33 x115002 x5).f5) ((rd_T33 x115002 x5).f6) ((rd_T33 x115002 x5).f7) ((rd_T33 x115002 x5).f8) ((rd_T33 x116002 x5).f0) ((rd_T33 x116002 x5).f1) ((rd_T33 x116002 x5).f2) ((rd_T33 x116002 x5).f3) ((rd_T33 x116002 x5).f4) ((rd_T33 x116002 x5).f5) ((rd_T33 x116002 x5).f6) ((rd_T33 x116002 x5).f7) ((rd_T33 x116002 x5).f8)).bind fun t118 => (if t118 = true then (tuskref05_Same.l0 k (wrap64 (x5 + 1)) x115000 x115001 x115002 x116000 x116001 x116002) else (some false))) else (none)) else (none)) else (some true)
end
def tuskref05_Same.f (k : Nat) (a0_0 : Int) (a0_1 : Int) (l0_2 : List (S33)) (a1_0 : Int) (a1_1 : Int) (l1_2 : List (S33)) : Option (Bool) := if a0_0 = a1_0 then (if a0_1 = a1_1 then (tuskref05_Same.j0 k ((l0_2.length : Int) != (l1_2.length : Int)) a0_0 a0_1 l0_2 a1_0 a1_1 l1_2) else (tuskref05_Same.j0 k true a0_0 a0_1 l0_2 a1_0 a1_1 l1_2)) else (tuskref05_Same.j0 k true a0_0 a0_1 l0_2 a1_0 a1_1 l1_2)
theorem tuskref05_Same.mono_l : ∀ k, (∀ y0 y1 y2 y3 y4 y5 y6, LeO (tuskref05_Same.j0 k y0 y1 y2 y3 y4 y5 y6) (tuskref05_Same.j0 (k + 1) y0 y1 y2 y3 y4 y5 y6)) ∧ (∀ y0 y1 y2 y3 y4 y5 y6, LeO (tuskref05_Same.l0 k y0 y1 y2 y3 y4 y5 y6) (tuskref05_Same.l0 (k + 1) y0 y1 y2 y3 y4 y5 y6))
  | 0 => ⟨fun _ _ _ _ _ _ _ r h => by simp [tuskref05_Same.j0] at h, fun _ _ _ _ _ _ _ r h => by simp [tuskref05_Same.l0] at h⟩
  | k + 1 => by
    obtain ⟨ih0, ih1⟩ := tuskref05_Same.mono_l k
    refine ⟨?_, ?_⟩
    · intro y0 y1 y2 y3 y4 y5 y6
      unfold tuskref05_Same.j0
      repeat' first
      | (with_reducible exact ih0 _ _ _ _ _ _ _)
      | (with_reducible exact ih1 _ _ _ _ _ _ _)
      | (with_reducible exact tuskref04_Same.mono _ _ _ _ _ _ _ _ _ _ _ _ _ _ _ _ _ _ _)
      | (with_reducible exact LeO.refl _)
      | (with_reducible exact LeO.none _)
      | (with_reducible refine LeO.ite ?_ ?_)
      | (with_reducible refine LeO.bind ?_ (fun _ => ?_))
      | exact ih0 _ _ _ _ _ _ _
      | exact ih1 _ _ _ _ _ _ _
      | exact tuskref04_Same.mono _ _ _ _ _ _ _ _ _ _ _ _ _ _ _ _ _ _ _
      | exact LeO.none _
      | refine LeO.ite ?_ ?_
      | refine LeO.bind ?_ (fun _ => ?_)
    · intro y0 y1 y2 y3 y4 y5 y6
      unfold tuskref05_Same.l0
      repeat' first
      | (with_reducible exact ih0 _ _ _ _ _ _ _)
      | (with_reducible exact ih1 _ _ _ _ _ _ _)
      | (with_reducible exact tuskref04_Same.mono _ _ _ _ _ _ _ _ _ _ _ _ _ _ _ _ _ _ _)
      | (with_reducible exact LeO.refl _)
      | (with_reducible exact LeO.none _)
      | (with_reducible refine LeO.ite ?_ ?_)
      | (with_reducible refine LeO.bind ?_ (fun _ => ?_))
      | exact ih0 _ _ _ _ _ _ _
      | exact ih1 _ _ _ _ _ _ _
      | exact tuskref04_Same.mono _ _ _ _ _ _ _ _ _ _ _ _ _ _ _ _ _ _ _
      | exact LeO.none _
      | refine LeO.ite ?_ ?_
      | refine LeO.bind ?_ (fun _ => ?_)
theorem tuskref05_Same.mono : ∀ a0 a1 a2 a3 a4 a5 k, LeO (tuskref05_Same.f k a0 a1 a2 a3 a4 a5) (tuskref05_Same.f (k + 1) a0 a1 a2 a3 a4 a5) := by
  intro a0 a1 a2 a3 a4 a5 k
  obtain ⟨ih0, ih1⟩ := tuskref05_Same.mono_l k
  unfold tuskref05_Same.f
  repeat' first
      | (with_reducible exact ih0 _ _ _ _ _ _ _)
      | (with_reducible exact ih1 _ _ _ _ _ _ _)
      | (with_reducible exact tuskref04_Same.mono _ _ _ _ _ _ _ _ _ _ _ _ _ _ _ _ _ _ _)
      | (with_reducible exact LeO.refl _)
      | (with_reducible exact LeO.none _)
      | (with_reducible refine LeO.ite ?_ ?_)
      | (with_reducible refine LeO.bind ?_ (fun _ => ?_))
      | exact ih0 _ _ _ _ _ _ _
      | exact ih1 _ _ _ _ _ _ _
      | exact tuskref04_Same.mono _ _ _ _ _ _ _ _ _ _ _ _ _ _ _ _ _ _ _
      | exact LeO.none _
      | refine LeO.ite ?_ ?_
      | refine LeO.bind ?_ (fun _ => ?_)
/-! ### tusklaw04_Own: function 19 -/
def tusklaw04_Own.f (a0_0 : Int) (a0_1 : ByteArray) (a0_2 : ByteArray) (a0_3 : Int) (a0_4 : Int) (a0_5 : ByteArray) (a0_6 : ByteArray) (l0_7 : List ByteArray) (l0_8 : List ByteArray) : Option (Int × ByteArray × ByteArray × Int × Int × ByteArray × ByteArray × List ByteArray × List ByteArray) := (some (([] : List ByteArray) : List ByteArray)).bind fun y121 => (if y121.length + l0_7.length < 8796093022208 then ((some (([] : List ByteArray) : List ByteArray)).bind fun y127 => (if y127.length + l0_8.length < 8796093022208 then (some (a0_0, a0_1, a0_2, a0_3, a0_4, a0_5, a0_6, (y121 ++ l0_7), (y127 ++ l0_8))) else (none))) else (none))
set_option maxHeartbeats 8000000 in
set_option maxRecDepth 100000 in
theorem tusklaw04_Own.calls (a0_0 : Int) (a0_1 : ByteArray) (a0_2 : ByteArray) (a0_3 : Int) (a0_4 : Int) (a0_5 : ByteArray) (a0_6 : ByteArray) (A0_7 : Option Addr) (c0_7 : Nat) (l0_7 : List ByteArray) (A0_8 : Option Addr) (c0_8 : Nat) (l0_8 : List ByteArray) (r1 : Int) (r2 : ByteArray) (r3 : ByteArray) (r4 : Int) (r5 : Int) (r6 : ByteArray) (r7 : ByteArray) (r8 : List ByteArray) (r9 : List ByteArray) (w : World) (hr0_7 : Kd.C Kd.string w A0_7 l0_7.length l0_7) (hc0_7 : l0_7.length ≤ c0_7) (hr0_8 : Kd.C Kd.string w A0_8 l0_8.length l0_8) (hc0_8 : l0_8.length ≤ c0_8) (h : tusklaw04_Own.f a0_0 a0_1 a0_2 a0_3 a0_4 a0_5 a0_6 l0_7 l0_8 = some (r1, r2, r3, r4, r5, r6, r7, r8, r9)) :
    Calls Tryd.prog 19 #[.agg #[.int .i64 a0_0, .string a0_1, .string a0_2, .int .u64 a0_3, .int .u64 a0_4, .string a0_5, .string a0_6, .slice A0_7 l0_7.length c0_7, .slice A0_8 l0_8.length c0_8]] w fun e w' => ∃ v7_ v8_ : Value, e = .returned (.agg #[.int .i64 r1, .string r2, .string r3, .int .u64 r4, .int .u64 r5, .string r6, .string r7, v7_, v8_]) ∧ Kd.R Kd.string 9 w' w.heap.size (fun k_ => some k_ ≠ (v8_ : Value).ownBlock) v7_ r8 ∧ Kd.R Kd.string 9 w' w.heap.size (fun k_ => some k_ ≠ (v7_ : Value).ownBlock) v8_ r9 ∧ Below w.heap.size w w' := by
  have hu33 := Tryd.underlying33
  have HR0_7 := Aside0.mk hr0_7
  have HC0_7 := Aside0.mk hc0_7
  clear hr0_7 hc0_7
  have HR0_8 := Aside0.mk hr0_8
  have HC0_8 := Aside0.mk hc0_8
  clear hr0_8 hc0_8
  have HB := Aside0.mk (Below.refl w.heap.size w)
  have H : ((some (([] : List ByteArray) : List ByteArray)).bind fun y121 => (if y121.length + l0_7.length < 8796093022208 then ((some (([] : List ByteArray) : List ByteArray)).bind fun y127 => (if y127.length + l0_8.length < 8796093022208 then (some (a0_0, a0_1, a0_2, a0_3, a0_4, a0_5, a0_6, (y121 ++ l0_7), (y127 ++ l0_8))) else (none))) else (none))) = some (r1, r2, r3, r4, r5, r6, r7, r8, r9) := h
  clear h
  obtain ⟨y121, hy121⟩ : ∃ y_ : List ByteArray, y_ = (([] : List ByteArray)) := ⟨_, rfl⟩
  replace H : (if y121.length + l0_7.length < 8796093022208 then ((some (([] : List ByteArray) : List ByteArray)).bind fun y127 => (if y127.length + l0_8.length < 8796093022208 then (some (a0_0, a0_1, a0_2, a0_3, a0_4, a0_5, a0_6, (y121 ++ l0_7), (y127 ++ l0_8))) else (none))) else (none)) = some (r1, r2, r3, r4, r5, r6, r7, r8, r9) := by first | (rw [hy121]; with_reducible exact H) | (have H2_ := (Option.bind_some _ _).symm.trans H; rw [hy121]; with_reducible exact H2_) | (have H2_ := (Option.bind_some _ _).symm.trans H; with_reducible exact H2_) | with_reducible exact H | (rw [hy121]; exact H) | exact H
  have Ny121 := Aside0.mk hy121
  clear hy121
  by_cases c2 : y121.length + l0_7.length < 8796093022208
  · rw [if_pos c2] at H
    have LMc2 := Aside0.mk c2
    clear c2
    obtain ⟨y124, hy124⟩ : ∃ y_ : List ByteArray, y_ = (y121 ++ l0_7) := ⟨_, rfl⟩
    replace H : ((some (([] : List ByteArray) : List ByteArray)).bind fun y127 => (if y127.length + l0_8.length < 8796093022208 then (some (a0_0, a0_1, a0_2, a0_3, a0_4, a0_5, a0_6, y124, (y127 ++ l0_8))) else (none))) = some (r1, r2, r3, r4, r5, r6, r7, r8, r9) := by first | (rw [hy124]; with_reducible exact H) | (have H2_ := (Option.bind_some _ _).symm.trans H; rw [hy124]; with_reducible exact H2_) | (have H2_ := (Option.bind_some _ _).symm.trans H; with_reducible exact H2_) | with_reducible exact H | (rw [hy124]; exact H) | exact H
    have Ny124 := Aside0.mk hy124
    clear hy124
    obtain ⟨y127, hy127⟩ : ∃ y_ : List ByteArray, y_ = (([] : List ByteArray)) := ⟨_, rfl⟩
    replace H : (if y127.length + l0_8.length < 8796093022208 then (some (a0_0, a0_1, a0_2, a0_3, a0_4, a0_5, a0_6, y124, (y127 ++ l0_8))) else (none)) = some (r1, r2, r3, r4, r5, r6, r7, r8, r9) := by first | (rw [hy127]; with_reducible exact H) | (have H2_ := (Option.bind_some _ _).symm.trans H; rw [hy127]; with_reducible exact H2_) | (have H2_ := (Option.bind_some _ _).symm.trans H; with_reducible exact H2_) | with_reducible exact H | (rw [hy127]; exact H) | exact H
    have Ny127 := Aside0.mk hy127
    clear hy127
    by_cases c3 : y127.length + l0_8.length < 8796093022208
    · rw [if_pos c3] at H
      have LMc3 := Aside0.mk c3
      clear c3
      obtain ⟨y130, hy130⟩ : ∃ y_ : List ByteArray, y_ = (y127 ++ l0_8) := ⟨_, rfl⟩
      replace H : (some (a0_0, a0_1, a0_2, a0_3, a0_4, a0_5, a0_6, y124, y130)) = some (r1, r2, r3, r4, r5, r6, r7, r8, r9) := by first | (rw [hy130]; with_reducible exact H) | (have H2_ := (Option.bind_some _ _).symm.trans H; rw [hy130]; with_reducible exact H2_) | (have H2_ := (Option.bind_some _ _).symm.trans H; with_reducible exact H2_) | with_reducible exact H | (rw [hy130]; exact H) | exact H
      have Ny130 := Aside0.mk hy130
      clear hy130
      simp only [Option.some.injEq, Prod.mk.injEq] at H
      obtain ⟨rfl, rfl, rfl, rfl, rfl, rfl, rfl, rfl, rfl⟩ := H
      go_enter Tryd.func19, Tryd.ntmps19
      go_wp2_with (first | ((with_reducible refine gate_dst (N := 1) rfl ?_); refine box_event ?hg (N := 1) ?hd (cs := #[.int .i64 a0_0, .string a0_1, .string a0_2, .int .u64 a0_3, .int .u64 a0_4, .string a0_5, .string a0_6, .slice A0_7 l0_7.length c0_7, .slice A0_8 l0_8.length c0_8]) (t := 33) ?hr ?_; (case hd => rfl); (case hg => rfl); (case hr => first | (go_simp; done) | (go_simp; rfl)); intro gb119 hg w4 hbox hb; have n0_ := Aside0.mk (below_step (by repeat (first | (with_reducible first | exact HB.out | apply below_alloc | apply pw_below_drewN | apply below_drew1) | exact HB.out)) hb); have n1_ := Aside0.mk (hbox); have n2_ := Aside0.mk ((by rw [hg]; exact (below_size (by repeat (first | (with_reducible first | exact HB.out | apply below_alloc | apply pw_below_drewN | apply below_drew1) | exact HB.out))) : w.heap.size ≤ gb119)); have n3_ := Aside0.mk ((by rw [hg]; exact (below_size (by repeat (first | (with_reducible first | exact HB.out | apply below_alloc | apply pw_below_drewN | apply below_drew1) | exact HB.out))) : w.heap.size ≤ gb119)); clear HB; have HB := n0_; have BK119 := n1_; have GW119 := n2_; have GE119 := n3_; clear n0_ n1_ n2_ n3_; clear hb hbox hg) | ((with_reducible refine gate_dst (N := 2) rfl ?_); refine box_event ?hg (N := 2) ?hd (cs := #[.int .i64 0, .string (⟨#[]⟩ : ByteArray), .string (⟨#[]⟩ : ByteArray), .int .u64 0, .int .u64 0, .string (⟨#[]⟩ : ByteArray), .string (⟨#[]⟩ : ByteArray), .slice none 0 0, .slice none 0 0]) (t := 33) ?hr ?_; (case hd => rfl); (case hg => rfl); (case hr => first | (go_simp; done) | (go_simp; rfl)); intro gb120 hg w5 hbox hb; have n0_ := Aside0.mk (blk_below (g := gb119) (o := .cells #[.int .i64 a0_0, .string a0_1, .string a0_2, .int .u64 a0_3, .int .u64 a0_4, .string a0_5, .string a0_6, .slice A0_7 l0_7.length c0_7, .slice A0_8 l0_8.length c0_8] 33 (0, 0)) (by (with_reducible repeat (first | refine blk_drewN ?_ _ | refine blk_drew ?_ | refine blk_alloc ?_ _)); exact BK119.out) hb); have n1_ := Aside0.mk (below_step (by repeat (first | (with_reducible first | exact HB.out | apply below_alloc | apply pw_below_drewN | apply below_drew1 | refine below_set ?_ GE119.out) | exact HB.out)) hb); have n2_ := Aside0.mk (hbox); have n3_ := Aside0.mk ((by rw [hg]; exact (below_size (by repeat (first | (with_reducible first | exact HB.out | apply below_alloc | apply pw_below_drewN | apply below_drew1 | refine below_set ?_ GE119.out) | exact HB.out))) : w.heap.size ≤ gb120)); have n4_ := Aside0.mk ((by rw [hg]; exact (below_size (by repeat (first | (with_reducible first | exact HB.out | apply below_alloc | apply pw_below_drewN | apply below_drew1 | refine below_set ?_ GE119.out) | exact HB.out))) : w.heap.size ≤ gb120)); have n5_ := Aside0.mk ((by rw [hg]; exact Nat.ne_of_lt (blk_lt (g := gb119) (o := .cells #[.int .i64 a0_0, .string a0_1, .string a0_2, .int .u64 a0_3, .int .u64 a0_4, .string a0_5, .string a0_6, .slice A0_7 l0_7.length c0_7, .slice A0_8 l0_8.length c0_8] 33 (0, 0)) (by (with_reducible repeat (first | refine blk_drewN ?_ _ | refine blk_drew ?_ | refine blk_alloc ?_ _)); exact BK119.out)) : gb119 ≠ gb120)); have n6_ := Aside0.mk ((by rw [hg]; exact Nat.ne_of_gt (blk_lt (g := gb119) (o := .cells #[.int .i64 a0_0, .string a0_1, .string a0_2, .int .u64 a0_3, .int .u64 a0_4, .string a0_5, .string a0_6, .slice A0_7 l0_7.length c0_7, .slice A0_8 l0_8.length c0_8] 33 (0, 0)) (by (with_reducible repeat (first | refine blk_drewN ?_ _ | refine blk_drew ?_ | refine blk_alloc ?_ _)); exact BK119.out)) : gb120 ≠ gb119)); clear BK119; clear HB; have BK119 := n0_; have HB := n1_; have BK120 := n2_; have GW120 := n3_; have GE120 := n4_; have NB119_120 := n5_; have NB120_119 := n6_; clear n0_ n1_ n2_ n3_ n4_ n5_ n6_; clear hb hbox hg) | ((with_reducible refine gate_dst (N := 3) rfl ?_); refine Kd.R_lit Kd.string _ 9 ?hg (N := 3) ?hd (xs := ([] : List ByteArray)) (inner := []) (ok := fun _ => True) (okp := fun _ => True) ?hr ?hp (fun _ hk => hk) trivial (Below.refl _ _) (Nat.le_refl _) (by simp) ?_; (case hd => rfl); (case hg => rfl); (case hr => first | (go_simp; done) | (go_simp; rfl)); (case hp => exact (Reps.none _ _)); intro v122 w6 ho7 hb hg_ hnew_; clear hg_ hnew_; (first | rw [← Ny121.out] at ho7 | (simp only [Int.reduceToNat] at ho7; rw [← Ny121.out] at ho7)); have n0_ := Aside0.mk (Kd.R_lower ho7 (below_size (by repeat (first | (with_reducible first | exact HB.out | apply below_alloc | apply pw_below_drewN | apply below_drew1 | refine below_set ?_ GE119.out | refine below_set ?_ GE120.out) | exact HB.out)))); have n1_ := Aside0.mk (blk_below (g := gb119) (o := .cells #[.int .i64 a0_0, .string a0_1, .string a0_2, .int .u64 a0_3, .int .u64 a0_4, .string a0_5, .string a0_6, .slice A0_7 l0_7.length c0_7, .slice A0_8 l0_8.length c0_8] 33 (0, 0)) (by (with_reducible repeat (first | refine blk_drewN ?_ _ | refine blk_drew ?_ | refine blk_alloc ?_ _)); exact BK119.out) hb); have n2_ := Aside0.mk (blk_below (g := gb120) (o := .cells #[.int .i64 0, .string (⟨#[]⟩ : ByteArray), .string (⟨#[]⟩ : ByteArray), .int .u64 0, .int .u64 0, .string (⟨#[]⟩ : ByteArray), .string (⟨#[]⟩ : ByteArray), .slice none 0 0, .slice none 0 0] 33 (0, 0)) (by (with_reducible repeat (first | refine blk_drewN ?_ _ | refine blk_drew ?_ | refine blk_alloc ?_ _)); exact BK120.out) hb); have n3_ := Aside0.mk (below_step (by repeat (first | (with_reducible first | exact HB.out | apply below_alloc | apply pw_below_drewN | apply below_drew1 | refine below_set ?_ GE119.out | refine below_set ?_ GE120.out) | exact HB.out)) hb); clear BK119; clear BK120; clear HB; have HO123 := n0_; have BK119 := n1_; have BK120 := n2_; have HB := n3_; clear n0_ n1_ n2_ n3_; clear hb ho7; have hnb8 := NB119_120.out; have hnc8 := NB120_119.out; have hcz9_0 : w6.cell? ⟨gb119, 0, none⟩ = some (.int .i64 a0_0) := (blk_cell BK119.out 0).trans rfl; have hcz9_1 : w6.cell? ⟨gb119, 1, none⟩ = some (.string a0_1) := (blk_cell BK119.out 1).trans rfl; have hcz9_2 : w6.cell? ⟨gb119, 2, none⟩ = some (.string a0_2) := (blk_cell BK119.out 2).trans rfl; have hcz9_3 : w6.cell? ⟨gb119, 3, none⟩ = some (.int .u64 a0_3) := (blk_cell BK119.out 3).trans rfl; have hcz9_4 : w6.cell? ⟨gb119, 4, none⟩ = some (.int .u64 a0_4) := (blk_cell BK119.out 4).trans rfl; have hcz9_5 : w6.cell? ⟨gb119, 5, none⟩ = some (.string a0_5) := (blk_cell BK119.out 5).trans rfl; have hcz9_6 : w6.cell? ⟨gb119, 6, none⟩ = some (.string a0_6) := (blk_cell BK119.out 6).trans rfl; have hcz9_7 : w6.cell? ⟨gb119, 7, none⟩ = some (.slice A0_7 l0_7.length c0_7) := (blk_cell BK119.out 7).trans rfl; have hcz9_8 : w6.cell? ⟨gb119, 8, none⟩ = some (.slice A0_8 l0_8.length c0_8) := (blk_cell BK119.out 8).trans rfl; have hfz9_0 := blk_frozen BK119.out 0; have hfz9_1 := blk_frozen BK119.out 1; have hfz9_2 := blk_frozen BK119.out 2; have hfz9_3 := blk_frozen BK119.out 3; have hfz9_4 := blk_frozen BK119.out 4; have hfz9_5 := blk_frozen BK119.out 5; have hfz9_6 := blk_frozen BK119.out 6; have hfz9_7 := blk_frozen BK119.out 7; have hfz9_8 := blk_frozen BK119.out 8) | ((with_reducible refine gate_builtin (b := .append) (xs := #[.tmp 3, .tmp 5]) rfl ?_); at_builtin; refine Kd.R_append_rows Kd.string (w0 := w) w.heap.size rfl (.tmp 3) (.tmp 5) 31 9 (.string ⟨#[]⟩) 16 rfl Tryd.underlying31 info9 rfl (by decide) (by omega) v122 y121 l0_7 _ _ _ (fun _ => True) (fun _ => False) rfl rfl ?aO ?aR (fun _ _ h => h) (fun _ h => h.elim) ?aF ?aB ?aS ?aL ?_; (case aR => repeat (first | exact (Kd.C_below HR0_7.out HB.out) | (with_reducible refine Kd.C_alloc ?_ _) | (with_reducible refine Kd.C_drewN ?_ _) | (with_reducible refine Kd.C_drew ?_))); (case aB => exact (by repeat (first | (with_reducible first | exact HB.out | apply below_alloc | apply pw_below_drewN | apply below_drew1 | refine below_set ?_ GE119.out | refine below_set ?_ GE120.out) | exact HB.out))); (case aF => exact (fun _ _ => trivial)); (case aO => exact (by (with_reducible repeat (first | apply Kd.R_alloc | apply Kd.R_drewN | apply Kd.R_drew)); exact HO123.out)); (case aS => exact (below_size (by repeat (first | (with_reducible first | exact HB.out | apply below_alloc | apply pw_below_drewN | apply below_drew1 | refine below_set ?_ GE119.out | refine below_set ?_ GE120.out) | exact HB.out)))); (case aL => have := LMc2.out; omega); intro v125 w10 ho hb hg hat; rw [← Ny124.out] at ho; have n0_ := Aside0.mk (blk_grown (g := gb119) (o := .cells #[.int .i64 a0_0, .string a0_1, .string a0_2, .int .u64 a0_3, .int .u64 a0_4, .string a0_5, .string a0_6, .slice A0_7 l0_7.length c0_7, .slice A0_8 l0_8.length c0_8] 33 (0, 0)) (by (with_reducible repeat (first | refine blk_drewN ?_ _ | refine blk_drew ?_ | refine blk_alloc ?_ _)); exact BK119.out) hg (Kd.R_ne HO123.out BK119.out (by decide))); have n1_ := Aside0.mk (blk_grown (g := gb120) (o := .cells #[.int .i64 0, .string (⟨#[]⟩ : ByteArray), .string (⟨#[]⟩ : ByteArray), .int .u64 0, .int .u64 0, .string (⟨#[]⟩ : ByteArray), .string (⟨#[]⟩ : ByteArray), .slice none 0 0, .slice none 0 0] 33 (0, 0)) (by (with_reducible repeat (first | refine blk_drewN ?_ _ | refine blk_drew ?_ | refine blk_alloc ?_ _)); exact BK120.out) hg (Kd.R_ne HO123.out BK120.out (by decide))); have n2_ := Aside0.mk (hb); have n3_ := Aside0.mk (ho); clear BK119; clear BK120; clear HB; clear HO123; have BK119 := n0_; have BK120 := n1_; have HB := n2_; have HO126 := n3_; clear n0_ n1_ n2_ n3_; clear ho hb hg hat; obtain ⟨Ao11, co11, eo11⟩ := Kd.R_slice HO126.out; subst eo11; have hcz12_0 : w10.cell? ⟨gb119, 0, none⟩ = some (.int .i64 a0_0) := (blk_cell BK119.out 0).trans rfl; have hcz12_1 : w10.cell? ⟨gb119, 1, none⟩ = some (.string a0_1) := (blk_cell BK119.out 1).trans rfl; have hcz12_2 : w10.cell? ⟨gb119, 2, none⟩ = some (.string a0_2) := (blk_cell BK119.out 2).trans rfl; have hcz12_3 : w10.cell? ⟨gb119, 3, none⟩ = some (.int .u64 a0_3) := (blk_cell BK119.out 3).trans rfl; have hcz12_4 : w10.cell? ⟨gb119, 4, none⟩ = some (.int .u64 a0_4) := (blk_cell BK119.out 4).trans rfl; have hcz12_5 : w10.cell? ⟨gb119, 5, none⟩ = some (.string a0_5) := (blk_cell BK119.out 5).trans rfl; have hcz12_6 : w10.cell? ⟨gb119, 6, none⟩ = some (.string a0_6) := (blk_cell BK119.out 6).trans rfl; have hcz12_7 : w10.cell? ⟨gb119, 7, none⟩ = some (.slice A0_7 l0_7.length c0_7) := (blk_cell BK119.out 7).trans rfl; have hcz12_8 : w10.cell? ⟨gb119, 8, none⟩ = some (.slice A0_8 l0_8.length c0_8) := (blk_cell BK119.out 8).trans rfl; have hfz12_0 := blk_frozen BK119.out 0; have hfz12_1 := blk_frozen BK119.out 1; have hfz12_2 := blk_frozen BK119.out 2; have hfz12_3 := blk_frozen BK119.out 3; have hfz12_4 := blk_frozen BK119.out 4; have hfz12_5 := blk_frozen BK119.out 5; have hfz12_6 := blk_frozen BK119.out 6; have hfz12_7 := blk_frozen BK119.out 7; have hfz12_8 := blk_frozen BK119.out 8) | ((with_reducible refine gate_dst (N := 8) rfl ?_); refine Kd.R_lit Kd.string _ 9 ?hg (N := 8) ?hd (xs := ([] : List ByteArray)) (inner := []) (ok := fun _ => True) (okp := fun _ => True) ?hr ?hp (fun _ hk => hk) trivial (Below.refl _ _) (Nat.le_refl _) (by simp) ?_; (case hd => rfl); (case hg => rfl); (case hr => first | (go_simp; done) | (go_simp; rfl)); (case hp => exact (Reps.none _ _)); intro v128 w13 ho14 hb hg_ hnew_; clear hg_ hnew_; (first | rw [← Ny127.out] at ho14 | (simp only [Int.reduceToNat] at ho14; rw [← Ny127.out] at ho14)); have n0_ := Aside0.mk (Kd.R_elder' (by (with_reducible repeat (first | apply Kd.R_alloc | apply Kd.R_drewN | apply Kd.R_drew)); exact (Kd.R_mono (Kd.R_far (p := ⟨gb119, 7, none⟩) (Kd.R_types HO126.out BK119.out (by decide)) (fun _ hk => hk.2) (.slice Ao11 y124.length co11)) (fun _ h_ => h_.1))) (Kd.R_base ho14) hb); have n1_ := Aside0.mk (Kd.R_lower (Kd.R_new' ho14 (Kd.R_lt (by (with_reducible repeat (first | apply Kd.R_alloc | apply Kd.R_drewN | apply Kd.R_drew)); exact (Kd.R_mono (Kd.R_far (p := ⟨gb119, 7, none⟩) (Kd.R_types HO126.out BK119.out (by decide)) (fun _ hk => hk.2) (.slice Ao11 y124.length co11)) (fun _ h_ => h_.1))))) (below_size (by repeat (first | (with_reducible first | exact HB.out | apply below_alloc | apply pw_below_drewN | apply below_drew1 | refine below_set ?_ GE119.out | refine below_set ?_ GE120.out) | exact HB.out)))); have n2_ := Aside0.mk (blk_below (g := gb119) (o := .cells #[.int .i64 a0_0, .string a0_1, .string a0_2, .int .u64 a0_3, .int .u64 a0_4, .string a0_5, .string a0_6, .slice Ao11 y124.length co11, .slice A0_8 l0_8.length c0_8] 33 (0, 0)) (by (with_reducible repeat (first | refine blk_drewN ?_ _ | refine blk_drew ?_ | refine blk_alloc ?_ _)); refine blk_put (cs := #[.int .i64 a0_0, .string a0_1, .string a0_2, .int .u64 a0_3, .int .u64 a0_4, .string a0_5, .string a0_6, .slice A0_7 l0_7.length c0_7, .slice A0_8 l0_8.length c0_8]) ?_ 7 _ rfl; (with_reducible repeat (first | refine blk_drewN ?_ _ | refine blk_drew ?_ | refine blk_alloc ?_ _)); exact BK119.out) hb); have n3_ := Aside0.mk (blk_below (g := gb120) (o := .cells #[.int .i64 0, .string (⟨#[]⟩ : ByteArray), .string (⟨#[]⟩ : ByteArray), .int .u64 0, .int .u64 0, .string (⟨#[]⟩ : ByteArray), .string (⟨#[]⟩ : ByteArray), .slice none 0 0, .slice none 0 0] 33 (0, 0)) (by (with_reducible repeat (first | refine blk_drewN ?_ _ | refine blk_drew ?_ | refine blk_alloc ?_ _)); refine blk_far ?_ NB120_119.out _; (with_reducible repeat (first | refine blk_drewN ?_ _ | refine blk_drew ?_ | refine blk_alloc ?_ _)); exact BK120.out) hb); have n4_ := Aside0.mk (below_step (by repeat (first | (with_reducible first | exact HB.out | apply below_alloc | apply pw_below_drewN | apply below_drew1 | refine below_set ?_ GE119.out | refine below_set ?_ GE120.out) | exact HB.out)) hb); clear HO126; clear BK119; clear BK120; clear HB; have HO126 := n0_; have HO129 := n1_; have BK119 := n2_; have BK120 := n3_; have HB := n4_; clear n0_ n1_ n2_ n3_ n4_; clear hb ho14; have hcz15_0 : w13.cell? ⟨gb119, 0, none⟩ = some (.int .i64 a0_0) := (blk_cell BK119.out 0).trans rfl; have hcz15_1 : w13.cell? ⟨gb119, 1, none⟩ = some (.string a0_1) := (blk_cell BK119.out 1).trans rfl; have hcz15_2 : w13.cell? ⟨gb119, 2, none⟩ = some (.string a0_2) := (blk_cell BK119.out 2).trans rfl; have hcz15_3 : w13.cell? ⟨gb119, 3, none⟩ = some (.int .u64 a0_3) := (blk_cell BK119.out 3).trans rfl; have hcz15_4 : w13.cell? ⟨gb119, 4, none⟩ = some (.int .u64 a0_4) := (blk_cell BK119.out 4).trans rfl; have hcz15_5 : w13.cell? ⟨gb119, 5, none⟩ = some (.string a0_5) := (blk_cell BK119.out 5).trans rfl; have hcz15_6 : w13.cell? ⟨gb119, 6, none⟩ = some (.string a0_6) := (blk_cell BK119.out 6).trans rfl; have hcz15_7 : w13.cell? ⟨gb119, 7, none⟩ = some (.slice Ao11 y124.length co11) := (blk_cell BK119.out 7).trans rfl; have hcz15_8 : w13.cell? ⟨gb119, 8, none⟩ = some (.slice A0_8 l0_8.length c0_8) := (blk_cell BK119.out 8).trans rfl; have hfz15_0 := blk_frozen BK119.out 0; have hfz15_1 := blk_frozen BK119.out 1; have hfz15_2 := blk_frozen BK119.out 2; have hfz15_3 := blk_frozen BK119.out 3; have hfz15_4 := blk_frozen BK119.out 4; have hfz15_5 := blk_frozen BK119.out 5; have hfz15_6 := blk_frozen BK119.out 6; have hfz15_7 := blk_frozen BK119.out 7; have hfz15_8 := blk_frozen BK119.out 8) | ((with_reducible refine gate_builtin (b := .append) (xs := #[.tmp 8, .tmp 10]) rfl ?_); at_builtin; refine Kd.R_append_rows Kd.string (w0 := w) w.heap.size rfl (.tmp 8) (.tmp 10) 31 9 (.string ⟨#[]⟩) 16 rfl Tryd.underlying31 info9 rfl (by decide) (by omega) v128 y127 l0_8 _ _ _ (fun k_ => some k_ ≠ (.slice Ao11 y124.length co11 : Value).ownBlock) (fun _ => False) rfl rfl ?aO ?aR (fun _ _ h => h) (fun _ h => h.elim) ?aF ?aB ?aS ?aL ?_; (case aR => repeat (first | exact (Kd.C_below HR0_8.out HB.out) | (with_reducible refine Kd.C_alloc ?_ _) | (with_reducible refine Kd.C_drewN ?_ _) | (with_reducible refine Kd.C_drew ?_))); (case aB => exact (by repeat (first | (with_reducible first | exact HB.out | apply below_alloc | apply pw_below_drewN | apply below_drew1 | refine below_set ?_ GE119.out | refine below_set ?_ GE120.out) | exact HB.out))); (case aF => exact (fun k_ hk => Kd.fresh' (Kd.R_lt (by (with_reducible repeat (first | apply Kd.R_alloc | apply Kd.R_drewN | apply Kd.R_drew)); exact HO126.out)) k_ hk)); (case aO => exact (by (with_reducible repeat (first | apply Kd.R_alloc | apply Kd.R_drewN | apply Kd.R_drew)); exact Kd.R_mono HO129.out (fun _ hk => hk.2))); (case aS => exact (below_size (by repeat (first | (with_reducible first | exact HB.out | apply below_alloc | apply pw_below_drewN | apply below_drew1 | refine below_set ?_ GE119.out | refine below_set ?_ GE120.out) | exact HB.out)))); (case aL => have := LMc3.out; omega); intro v131 w16 ho hb hg hat; rw [← Ny130.out] at ho; have n0_ := Aside0.mk (blk_grown (g := gb119) (o := .cells #[.int .i64 a0_0, .string a0_1, .string a0_2, .int .u64 a0_3, .int .u64 a0_4, .string a0_5, .string a0_6, .slice Ao11 y124.length co11, .slice A0_8 l0_8.length c0_8] 33 (0, 0)) (by (with_reducible repeat (first | refine blk_drewN ?_ _ | refine blk_drew ?_ | refine blk_alloc ?_ _)); exact BK119.out) hg (Kd.R_ne HO129.out BK119.out (by decide))); have n1_ := Aside0.mk (blk_grown (g := gb120) (o := .cells #[.int .i64 0, .string (⟨#[]⟩ : ByteArray), .string (⟨#[]⟩ : ByteArray), .int .u64 0, .int .u64 0, .string (⟨#[]⟩ : ByteArray), .string (⟨#[]⟩ : ByteArray), .slice none 0 0, .slice none 0 0] 33 (0, 0)) (by (with_reducible repeat (first | refine blk_drewN ?_ _ | refine blk_drew ?_ | refine blk_alloc ?_ _)); exact BK120.out) hg (Kd.R_ne HO129.out BK120.out (by decide))); have n2_ := Aside0.mk (Kd.R_after (ok := (fun _ => True)) (by (with_reducible repeat (first | apply Kd.R_alloc | apply Kd.R_drewN | apply Kd.R_drew)); exact HO126.out) hg hat); have n3_ := Aside0.mk (hb); have n4_ := Aside0.mk (ho); clear BK119; clear BK120; clear HO126; clear HB; clear HO129; have BK119 := n0_; have BK120 := n1_; have HO126 := n2_; have HB := n3_; have HO132 := n4_; clear n0_ n1_ n2_ n3_ n4_; clear ho hb hg hat; obtain ⟨Ao17, co17, eo17⟩ := Kd.R_slice HO132.out; subst eo17; have hcz18_0 : w16.cell? ⟨gb119, 0, none⟩ = some (.int .i64 a0_0) := (blk_cell BK119.out 0).trans rfl; have hcz18_1 : w16.cell? ⟨gb119, 1, none⟩ = some (.string a0_1) := (blk_cell BK119.out 1).trans rfl; have hcz18_2 : w16.cell? ⟨gb119, 2, none⟩ = some (.string a0_2) := (blk_cell BK119.out 2).trans rfl; have hcz18_3 : w16.cell? ⟨gb119, 3, none⟩ = some (.int .u64 a0_3) := (blk_cell BK119.out 3).trans rfl; have hcz18_4 : w16.cell? ⟨gb119, 4, none⟩ = some (.int .u64 a0_4) := (blk_cell BK119.out 4).trans rfl; have hcz18_5 : w16.cell? ⟨gb119, 5, none⟩ = some (.string a0_5) := (blk_cell BK119.out 5).trans rfl; have hcz18_6 : w16.cell? ⟨gb119, 6, none⟩ = some (.string a0_6) := (blk_cell BK119.out 6).trans rfl; have hcz18_7 : w16.cell? ⟨gb119, 7, none⟩ = some (.slice Ao11 y124.length co11) := (blk_cell BK119.out 7).trans rfl; have hcz18_8 : w16.cell? ⟨gb119, 8, none⟩ = some (.slice A0_8 l0_8.length c0_8) := (blk_cell BK119.out 8).trans rfl; have hfz18_0 := blk_frozen BK119.out 0; have hfz18_1 := blk_frozen BK119.out 1; have hfz18_2 := blk_frozen BK119.out 2; have hfz18_3 := blk_frozen BK119.out 3; have hfz18_4 := blk_frozen BK119.out 4; have hfz18_5 := blk_frozen BK119.out 5; have hfz18_6 := blk_frozen BK119.out 6; have hfz18_7 := blk_frozen BK119.out 7; have hfz18_8 := blk_frozen BK119.out 8; have hcz19_0 : w16.cell? ⟨gb120, 0, none⟩ = some (.int .i64 0) := (blk_cell BK120.out 0).trans rfl; have hcz19_1 : w16.cell? ⟨gb120, 1, none⟩ = some (.string (⟨#[]⟩ : ByteArray)) := (blk_cell BK120.out 1).trans rfl; have hcz19_2 : w16.cell? ⟨gb120, 2, none⟩ = some (.string (⟨#[]⟩ : ByteArray)) := (blk_cell BK120.out 2).trans rfl; have hcz19_3 : w16.cell? ⟨gb120, 3, none⟩ = some (.int .u64 0) := (blk_cell BK120.out 3).trans rfl; have hcz19_4 : w16.cell? ⟨gb120, 4, none⟩ = some (.int .u64 0) := (blk_cell BK120.out 4).trans rfl; have hcz19_5 : w16.cell? ⟨gb120, 5, none⟩ = some (.string (⟨#[]⟩ : ByteArray)) := (blk_cell BK120.out 5).trans rfl; have hcz19_6 : w16.cell? ⟨gb120, 6, none⟩ = some (.string (⟨#[]⟩ : ByteArray)) := (blk_cell BK120.out 6).trans rfl; have hcz19_7 : w16.cell? ⟨gb120, 7, none⟩ = some (.slice none 0 0) := (blk_cell BK120.out 7).trans rfl; have hcz19_8 : w16.cell? ⟨gb120, 8, none⟩ = some (.slice none 0 0) := (blk_cell BK120.out 8).trans rfl; have hfz19_0 := blk_frozen BK120.out 0; have hfz19_1 := blk_frozen BK120.out 1; have hfz19_2 := blk_frozen BK120.out 2; have hfz19_3 := blk_frozen BK120.out 3; have hfz19_4 := blk_frozen BK120.out 4; have hfz19_5 := blk_frozen BK120.out 5; have hfz19_6 := blk_frozen BK120.out 6; have hfz19_7 := blk_frozen BK120.out 7; have hfz19_8 := blk_frozen BK120.out 8))
      refine bodyPost_ret (results_cell_row rfl _ _ gb120 33 #[.int .i64 a0_0, .string a0_1, .string a0_2, .int .u64 a0_3, .int .u64 a0_4, .string a0_5, .string a0_6, .slice Ao11 y124.length co11, .slice Ao17 y130.length co17] (0, 0) _ rfl (by (with_reducible repeat (first | refine blk_drewN ?_ _ | refine blk_drew ?_ | refine blk_alloc ?_ _)); refine blk_put (cs := #[.int .i64 a0_0, .string a0_1, .string a0_2, .int .u64 a0_3, .int .u64 a0_4, .string a0_5, .string a0_6, .slice Ao11 y124.length co11, .slice none 0 0]) ?_ 8 _ rfl; (with_reducible repeat (first | refine blk_drewN ?_ _ | refine blk_drew ?_ | refine blk_alloc ?_ _)); refine blk_put (cs := #[.int .i64 a0_0, .string a0_1, .string a0_2, .int .u64 a0_3, .int .u64 a0_4, .string a0_5, .string a0_6, .slice none 0 0, .slice none 0 0]) ?_ 7 _ rfl; (with_reducible repeat (first | refine blk_drewN ?_ _ | refine blk_drew ?_ | refine blk_alloc ?_ _)); refine blk_put (cs := #[.int .i64 a0_0, .string a0_1, .string a0_2, .int .u64 a0_3, .int .u64 a0_4, .string a0_5, .string (⟨#[]⟩ : ByteArray), .slice none 0 0, .slice none 0 0]) ?_ 6 _ rfl; (with_reducible repeat (first | refine blk_drewN ?_ _ | refine blk_drew ?_ | refine blk_alloc ?_ _)); refine blk_put (cs := #[.int .i64 a0_0, .string a0_1, .string a0_2, .int .u64 a0_3, .int .u64 a0_4, .string (⟨#[]⟩ : ByteArray), .string (⟨#[]⟩ : ByteArray), .slice none 0 0, .slice none 0 0]) ?_ 5 _ rfl; (with_reducible repeat (first | refine blk_drewN ?_ _ | refine blk_drew ?_ | refine blk_alloc ?_ _)); refine blk_put (cs := #[.int .i64 a0_0, .string a0_1, .string a0_2, .int .u64 a0_3, .int .u64 0, .string (⟨#[]⟩ : ByteArray), .string (⟨#[]⟩ : ByteArray), .slice none 0 0, .slice none 0 0]) ?_ 4 _ rfl; (with_reducible repeat (first | refine blk_drewN ?_ _ | refine blk_drew ?_ | refine blk_alloc ?_ _)); refine blk_put (cs := #[.int .i64 a0_0, .string a0_1, .string a0_2, .int .u64 0, .int .u64 0, .string (⟨#[]⟩ : ByteArray), .string (⟨#[]⟩ : ByteArray), .slice none 0 0, .slice none 0 0]) ?_ 3 _ rfl; (with_reducible repeat (first | refine blk_drewN ?_ _ | refine blk_drew ?_ | refine blk_alloc ?_ _)); refine blk_put (cs := #[.int .i64 a0_0, .string a0_1, .string (⟨#[]⟩ : ByteArray), .int .u64 0, .int .u64 0, .string (⟨#[]⟩ : ByteArray), .string (⟨#[]⟩ : ByteArray), .slice none 0 0, .slice none 0 0]) ?_ 2 _ rfl; (with_reducible repeat (first | refine blk_drewN ?_ _ | refine blk_drew ?_ | refine blk_alloc ?_ _)); refine blk_put (cs := #[.int .i64 a0_0, .string (⟨#[]⟩ : ByteArray), .string (⟨#[]⟩ : ByteArray), .int .u64 0, .int .u64 0, .string (⟨#[]⟩ : ByteArray), .string (⟨#[]⟩ : ByteArray), .slice none 0 0, .slice none 0 0]) ?_ 1 _ rfl; (with_reducible repeat (first | refine blk_drewN ?_ _ | refine blk_drew ?_ | refine blk_alloc ?_ _)); refine blk_put (cs := #[.int .i64 0, .string (⟨#[]⟩ : ByteArray), .string (⟨#[]⟩ : ByteArray), .int .u64 0, .int .u64 0, .string (⟨#[]⟩ : ByteArray), .string (⟨#[]⟩ : ByteArray), .slice none 0 0, .slice none 0 0]) ?_ 0 _ rfl; (with_reducible repeat (first | refine blk_drewN ?_ _ | refine blk_drew ?_ | refine blk_alloc ?_ _)); refine blk_far ?_ NB120_119.out _; (with_reducible repeat (first | refine blk_drewN ?_ _ | refine blk_drew ?_ | refine blk_alloc ?_ _)); exact BK120.out) Tryd.underlying33 rfl (by kernel_rfl)) rfl ?_
      exact ⟨_, _, by first | rfl | (simp [errW_none, errW_some] <;> rfl) | (simp [*, errW_none, errW_some] <;> rfl), by (with_reducible repeat (first | apply Kd.R_alloc | apply Kd.R_drewN | apply Kd.R_drew)); exact Kd.R_mono (Kd.R_far (p := ⟨gb120, 8, none⟩) (Kd.R_far (p := ⟨gb120, 7, none⟩) (Kd.R_far (p := ⟨gb120, 6, none⟩) (Kd.R_far (p := ⟨gb120, 5, none⟩) (Kd.R_far (p := ⟨gb120, 4, none⟩) (Kd.R_far (p := ⟨gb120, 3, none⟩) (Kd.R_far (p := ⟨gb120, 2, none⟩) (Kd.R_far (p := ⟨gb120, 1, none⟩) (Kd.R_far (p := ⟨gb120, 0, none⟩) (Kd.R_far (p := ⟨gb119, 8, none⟩) (Kd.R_types (Kd.R_types HO126.out BK119.out (by decide)) BK120.out (by decide)) (fun _ hk => hk.1.2) (.slice Ao17 y130.length co17)) (fun _ hk => hk.2) (.int .i64 a0_0)) (fun _ hk => hk.2) (.string a0_1)) (fun _ hk => hk.2) (.string a0_2)) (fun _ hk => hk.2) (.int .u64 a0_3)) (fun _ hk => hk.2) (.int .u64 a0_4)) (fun _ hk => hk.2) (.string a0_5)) (fun _ hk => hk.2) (.string a0_6)) (fun _ hk => hk.2) (.slice Ao11 y124.length co11)) (fun _ hk => hk.2) (.slice Ao17 y130.length co17)) (fun _ hk => hk.1.1.2), by (with_reducible repeat (first | apply Kd.R_alloc | apply Kd.R_drewN | apply Kd.R_drew)); exact Kd.R_mono (Kd.R_far (p := ⟨gb120, 8, none⟩) (Kd.R_far (p := ⟨gb120, 7, none⟩) (Kd.R_far (p := ⟨gb120, 6, none⟩) (Kd.R_far (p := ⟨gb120, 5, none⟩) (Kd.R_far (p := ⟨gb120, 4, none⟩) (Kd.R_far (p := ⟨gb120, 3, none⟩) (Kd.R_far (p := ⟨gb120, 2, none⟩) (Kd.R_far (p := ⟨gb120, 1, none⟩) (Kd.R_far (p := ⟨gb120, 0, none⟩) (Kd.R_far (p := ⟨gb119, 8, none⟩) (Kd.R_types (Kd.R_types HO132.out BK119.out (by decide)) BK120.out (by decide)) (fun _ hk => hk.1.2) (.slice Ao17 y130.length co17)) (fun _ hk => hk.2) (.int .i64 a0_0)) (fun _ hk => hk.2) (.string a0_1)) (fun _ hk => hk.2) (.string a0_2)) (fun _ hk => hk.2) (.int .u64 a0_3)) (fun _ hk => hk.2) (.int .u64 a0_4)) (fun _ hk => hk.2) (.string a0_5)) (fun _ hk => hk.2) (.string a0_6)) (fun _ hk => hk.2) (.slice Ao11 y124.length co11)) (fun _ hk => hk.2) (.slice Ao17 y130.length co17)) (fun _ hk => hk.1.1), by repeat (first | (with_reducible first | exact HB.out | apply below_alloc | apply pw_below_drewN | apply below_drew1 | refine below_set ?_ GE119.out | refine below_set ?_ GE120.out) | exact HB.out)⟩
    · rw [if_neg c3] at H
      exact absurd H (by simp)
  · rw [if_neg c2] at H
    exact absurd H (by simp)
end Go.Proofs.YtndicjikjcifaaaDoor.PB

namespace Go.Proofs.YtndicjikjcifaaaDoor.PB
open Go.RowKit Go.Proofs.YtndicjikjcifaaaDoorW.PrintWords Go.Proofs.YtndicjikjcifaaaDoorW.PrintLast Go.Proofs.YtndicjikjcifaaaDoorW.PrintMore
attribute [local go_sem] max2_int min2_int max_two min_two max_three min_three max_four min_four   -- for this text's walks alone
set_option linter.unusedVariables false
set_option linter.unusedSimpArgs false
/-! ### tusklaw05_Own: function 30 -/
def tusklaw05_Own.l0 : Nat → List (S33) → Int → Int → Int → List (S33) → Option (Int × Int × (List (S33)))
  | 0, _, _, _, _, _ => none
  | k + 1, x3, x4, x134000, x134001, x134002 => if x4 < (x134002.length : Int) then (if 0 ≤ x4 then ((tusklaw04_Own.f ((rd_T33 x134002 x4).f0) ((rd_T33 x134002 x4).f1) ((rd_T33 x134002 x4).f2) ((rd_T33 x134002 x4).f3) ((rd_T33 x134002 x4).f4) ((rd_T33 x134002 x4).f5) ((rd_T33 x134002 x4).f6) ((rd_T33 x134002 x4).f7) ((rd_T33 x134002 x4).f8)).bind fun bt136 => (if x3.length < 1034834473200 then (tusklaw05_Own.l0 k (x3 ++ [(⟨bt136.1, bt136.2.1, bt136.2.2.1, bt136.2.2.2.1, bt136.2.2.2.2.1, bt136.2.2.2.2.2.1, bt136.2.2.2.2.2.2.1, bt136.2.2.2.2.2.2.2.1, bt136.2.2.2.2.2.2.2.2⟩ : S33)]) (wrap64 (x4 + 1)) x134000 x134001 x134002) else (none))) else (none)) else (some (x134000, x134001, x3))
def tusklaw05_Own.f (k : Nat) (a0_0 : Int) (a0_1 : Int) (l0_2 : List (S33)) : Option (Int × Int × (List (S33))) := tusklaw05_Own.l0 k ([] : List (S33)) 0 a0_0 a0_1 l0_2
theorem tusklaw05_Own.mono_l : ∀ k, (∀ y0 y1 y2 y3 y4, LeO (tusklaw05_Own.l0 k y0 y1 y2 y3 y4) (tusklaw05_Own.l0 (k + 1) y0 y1 y2 y3 y4))
  | 0 => fun _ _ _ _ _ r h => by simp [tusklaw05_Own.l0] at h
  | k + 1 => by
    have ih0 := tusklaw05_Own.mono_l k
    · intro y0 y1 y2 y3 y4
      unfold tusklaw05_Own.l0
      repeat' first
      | (with_reducible exact ih0 _ _ _ _ _)
      | (with_reducible exact LeO.refl _)
      | (with_reducible exact LeO.none _)
      | (with_reducible refine LeO.ite ?_ ?_)
      | (with_reducible refine LeO.bind ?_ (fun _ => ?_))
      | exact ih0 _ _ _ _ _
      | exact LeO.none _
      | refine LeO.ite ?_ ?_
      | refine LeO.bind ?_ (fun _ => ?_)
theorem tusklaw05_Own.mono : ∀ a0 a1 a2 k, LeO (tusklaw05_Own.f k a0 a1 a2) (tusklaw05_Own.f (k + 1) a0 a1 a2) := by
  intro a0 a1 a2 k
  have ih0 := tusklaw05_Own.mono_l k
  unfold tusklaw05_Own.f
  repeat' first
      | (with_reducible exact ih0 _ _ _ _ _)
      | (with_reducible exact LeO.refl _)
      | (with_reducible exact LeO.none _)
      | (with_reducible refine LeO.ite ?_ ?_)
      | (with_reducible refine LeO.bind ?_ (fun _ => ?_))
      | exact ih0 _ _ _ _ _
      | exact LeO.none _
      | refine LeO.ite ?_ ?_
      | refine LeO.bind ?_ (fun _ => ?_)
end Go.Proofs.YtndicjikjcifaaaDoor.PB

/- What is wrong with a batch: both answers in one plain form. -/
namespace Go.Proofs.YtndicjikjcifaaaDoor
open Go.RowKit Go.Proofs.YtndicjikjcifaaaDoorW.PrintWords Go.Proofs.YtndicjikjcifaaaDoorW.PrintLast
open PB (S33 k33)
set_option linter.unusedVariables false
set_option linter.unusedSimpArgs false
theorem drop_rd (l : List S33) (j : Nat) (hj : j < l.length) : l.drop j = PB.rd_T33 l (j : Int) :: l.drop (j + 1) := by
  rw [List.drop_eq_getElem_cons hj]
  congr 1
  simp [PB.rd_T33, hj]
theorem rd_mem (l : List S33) (j : Nat) (hj : j < l.length) : PB.rd_T33 l (j : Int) ∈ l := by
  have : PB.rd_T33 l (j : Int) = l[j] := by simp [PB.rd_T33, hj]
  rw [this]
  exact List.getElem_mem hj
theorem rbchk_l (a n : Int) (l : List S33) (hl : l.length < 4611686018427387904) (hL : ∀ t ∈ l, LimT t) : ∀ d i K, i + d = l.length → d + 1 ≤ K → PB.tuskref05_Check.l0 K (i : Int) a n l = some (bchL (l.drop i))
  | 0, i, K, hi, hK => by
    obtain ⟨K, rfl⟩ : ∃ k, K = k + 1 := ⟨K - 1, by omega⟩
    rw [PB.tuskref05_Check.l0, if_neg (by omega), List.drop_eq_nil_of_le (by omega), bchL]
  | d + 1, i, K, hi, hK => by
    obtain ⟨K, rfl⟩ : ∃ k, K = k + 1 := ⟨K - 1, by omega⟩
    have ih := rbchk_l a n l hl hL d (i + 1) K (by omega) (by omega)
    rw [PB.tuskref05_Check.l0, if_pos (by omega), if_pos (by omega), drop_rd l i (by omega), bchL]
    have e : wrap64 ((i : Int) + 1) = ((i + 1 : Nat) : Int) := by rw [wrap64]; omega
    rw [show tuskref04_Check.f _ _ _ _ _ _ _ _ _ = some (chT (PB.rd_T33 l i)) from if_pos (hL _ (rd_mem l i (by omega))), Option.bind_some, e, ih]
    split <;> rfl
theorem rbchk_eq (a n : Int) (l : List S33) (hl : l.length < 4611686018427387904) (hL : ∀ t ∈ l, LimT t) : PB.tuskref05_Check.f (l.length + 2) a n l = some (bchk a n l) := by
  have h0 := rbchk_l a n l hl hL l.length 0 (l.length + 1) (by omega) (by omega)
  have hj : ∀ b, PB.tuskref05_Check.j0 (l.length + 2) b a n l = some (if b = true then 2 else if l.length = 0 then 12 else if 16 < l.length then 8 else bchL l) := by
    intro b
    rw [PB.tuskref05_Check.j0]
    rw [show ((0 : Nat) : Int) = 0 from rfl, List.drop_zero] at h0
    rw [h0]
    by_cases hb : b = true
    · simp [hb]
    · by_cases h1 : l.length = 0
      · simp [hb, h1]
      · by_cases h2 : 16 < l.length
        · rw [if_neg hb, if_neg (by omega), if_pos (by omega), if_neg hb, if_neg h1, if_pos h2]
        · rw [if_neg hb, if_neg (by omega), if_neg (by omega), if_neg hb, if_neg h1, if_neg h2]
  rw [PB.tuskref05_Check.f]
  simp only [hj, bchk]
  repeat' split
  all_goals first | rfl | omega | (simp_all; done) | (simp_all; omega)
theorem rbchk_calls (a n : Int) (A : Option Addr) (c : Nat) (l : List S33) (w : World) (hl : l.length < 4611686018427387904) (hL : ∀ t ∈ l, LimT t) (hr : k33.C w A l.length l) (hc : l.length ≤ c) :
    Calls Tryd.prog 34 #[.agg #[.int .i64 a, .int .i64 n, .slice A l.length c]] w fun e w' => e = .returned (.int .i64 (bchk a n l)) ∧ Below w.heap.size w w' :=
  PB.tuskref05_Check.calls (l.length + 2) a n A c l (bchk a n l) w hr hc (rbchk_eq a n l hl hL)
end Go.Proofs.YtndicjikjcifaaaDoor

/- wire.List: texts as bytes, through a strings.Builder. -/
namespace Go.Proofs
open Go.Shelf
def Tryd.lays166_ren : Go.Shelf.Ren := ⟨fun | 166 => 84 | 240 => 96 | 276 => 122 | n => n, fun | 0 => 0 | 3 => 3 | 4 => 4 | 5 => 5 | 9 => 9 | 20 => 20 | 37 => 104 | 70 => 106 | 72 => 108 | 75 => 110 | 80 => 79 | 164 => 151 | n => n, fun n => n⟩
theorem Tryd.lays166 : Lays.n166 Tryd.prog Tryd.lays166_ren := {
  mixed := by kernel_rfl
  f166 := Tryd.func84.trans (congrArg some (by kernel_rfl))
  f240 := Tryd.func96.trans (congrArg some (by kernel_rfl))
  f276 := Tryd.func122.trans (congrArg some (by kernel_rfl))
  t0 := Tryd.underlying0
  a0 := Tryd.isAgg0
  z0 := Tryd.sizeOf0
  v0 := Tryd.zeroValue0
  t3 := Tryd.underlying3
  a3 := Tryd.isAgg3
  z3 := Tryd.sizeOf3
  v3 := Tryd.zeroValue3
  t4 := Tryd.underlying4
  a4 := Tryd.isAgg4
  z4 := Tryd.sizeOf4
  v4 := Tryd.zeroValue4
  t9 := Tryd.underlying9
  a9 := Tryd.isAgg9
  z9 := Tryd.sizeOf9
  v9 := Tryd.zeroValue9
  t20 := Tryd.underlying20
  a20 := Tryd.isAgg20
  z20 := Tryd.sizeOf20
  v20 := Tryd.zeroValue20
  t37 := Tryd.underlying104
  a37 := Tryd.isAgg104
  z37 := Tryd.sizeOf104
  v37 := Tryd.zeroValue104
  t70 := Tryd.underlying106
  a70 := Tryd.isAgg106
  z70 := Tryd.sizeOf106
  v70 := Tryd.zeroValue106
  t72 := Tryd.underlying108
  a72 := Tryd.isAgg108
  z72 := Tryd.sizeOf108
  v72 := Tryd.zeroValue108
  t75 := Tryd.underlying110
  a75 := Tryd.isAgg110
  z75 := Tryd.sizeOf110
  v75 := Tryd.zeroValue110
  t164 := Tryd.underlying151
  a164 := Tryd.isAgg151
  z164 := Tryd.sizeOf151
  v164 := Tryd.zeroValue151 }
theorem Tryd.Builder_Extra_166 : Builder.Extra Tryd.prog Tryd.lays166_ren := {
  sizeBuilder := by kernel_rfl
  liesBuilder := by kernel_rfl
  t5 := Tryd.underlying5
  a5 := Tryd.isAgg5
  z5 := Tryd.sizeOf5
  v5 := Tryd.zeroValue5
  infoByte := by kernel_rfl
  cellsByte := by kernel_rfl
  sizeByte := by kernel_rfl
  neB5 := by decide }
theorem Tryd.Builder_Extra_169 : Builder.Extra Tryd.prog Tryd.lays169_ren := {
  sizeBuilder := by kernel_rfl
  liesBuilder := by kernel_rfl
  t5 := Tryd.underlying5
  a5 := Tryd.isAgg5
  z5 := Tryd.sizeOf5
  v5 := Tryd.zeroValue5
  infoByte := by kernel_rfl
  cellsByte := by kernel_rfl
  sizeByte := by kernel_rfl
  neB5 := by decide }
end Go.Proofs
namespace Go.Proofs.YtndicjikjcifaaaDoor
open Go.RowKit Go.Shelf Go.Lib Go.Proofs.YtndicjikjcifaaaDoorW.PrintWords Go.Proofs.YtndicjikjcifaaaDoorW.PrintLast
set_option linter.unusedVariables false
set_option linter.unusedSimpArgs false
def ib (n : Int) : ByteArray := if n < 0 ∨ n > 4611686018427387903 then ⟨#[]⟩ else strOfNums (vints n.toNat)
def tb (s : ByteArray) : ByteArray := ib s.size ++ s
def tbs : List ByteArray → List UInt8
  | [] => []
  | x :: r => (tb x).data.toList ++ tbs r
def lbL (xs : List ByteArray) : List UInt8 := (ib xs.length).data.toList ++ tbs xs
def lb (xs : List ByteArray) : ByteArray := ⟨(lbL xs).toArray⟩
theorem tbs_append (a b : List ByteArray) : tbs (a ++ b) = tbs a ++ tbs b := by
  induction a with
  | nil => rfl
  | cons x r ih => simp [tbs, ih]
theorem text_calls (x : ByteArray) (w : World) (h : (tb x).size ≤ 9223372036854775807) :
    Calls Tryd.prog 68 #[.string x] w fun e w' => e = .returned (.string (tb x)) ∧ Below w.heap.size w w' := by
  refine PWi.wire_Text.calls x (tb x) w ?_
  rw [PWi.wire_Text.f, show wire_Int.f (x.size : Int) = some (ib x.size) from rfl, Option.bind_some, if_pos]
  · rfl
  · have : (tb x).size = (ib x.size).size + x.size := ByteArray.size_append
    omega
theorem int_calls (n : Int) (w : World) : Calls Tryd.prog 62 #[.int .i64 n] w fun e w' => e = .returned (.string (ib n)) ∧ Below w.heap.size w w' :=
  wire_Int.calls n (ib n) w rfl
theorem write_calls (B b : Nat) (l : List UInt8) (s : ByteArray) (w : World) (h : Lib.IsBuilder 108 5 B b (Lib.byteCells l) w) (hlen : l.length + s.size ≤ 140737488355328) (hBw : B ≤ w.heap.size) :
    Calls Tryd.prog 84 #[.pointer (some ⟨b, 0, none⟩), .string s] w fun e w' => e = .returned (.tuple #[.int .i64 s.size, .nilIface]) ∧ Lib.IsBuilder 108 5 B b (Lib.byteCells (l ++ s.data.toList)) w' ∧ Below B w w' := by
  have := Any.Builder_WriteString Tryd.lays166 Tryd.Builder_Extra_166 B b (Lib.byteCells l) s w h (by rw [Lib.byteCells_length]; exact hlen) hBw
  refine this.mono fun e w' h => ⟨h.1, .inr ?_, h.2.2⟩
  have e1 : Lib.byteCells l ++ Lib.strCells s = Lib.byteCells (l ++ s.data.toList) := by simp [Lib.byteCells, Lib.strCells]
  rw [← e1]
  exact h.2.1
theorem string_calls (B b : Nat) (l : List UInt8) (w : World) (h : Lib.IsBuilder 108 5 B b (Lib.byteCells l) w) (hBw : B ≤ w.heap.size) :
    Calls Tryd.prog 85 #[.pointer (some ⟨b, 0, none⟩)] w fun e w' => e = .returned (.string ⟨l.toArray⟩) ∧ Below B w w' :=
  Any.Builder_String_any Tryd.lays169 Tryd.Builder_Extra_169 B b l w h hBw
theorem builder_below {B b : Nat} {l : List UInt8} {w w' : World} (h : Lib.IsBuilder 108 5 B b (Lib.byteCells l) w) (hb : Below w.heap.size w w') : Lib.IsBuilder 108 5 B b (Lib.byteCells l) w' := by
  have go : ∀ p, Lib.BuilderAt 108 5 B b p (Lib.byteCells l) w → Lib.BuilderAt 108 5 B b p (Lib.byteCells l) w' := by
    rintro p ⟨hB, v, hv, hown, hne⟩
    refine ⟨hB, v, (hb.block b (blk_lt hv)).trans hv, ?_, hne⟩
    refine own_move hown fun k hk => ?_
    obtain ⟨cells, hc⟩ := own_typed hown k hk
    exact hb.block k (blk_lt hc)
  exact h.elim (fun h => .inl (go _ h)) (fun h => .inr (go _ h))
theorem builder_new (w : World) : Lib.IsBuilder 108 5 w.heap.size w.heap.size (Lib.byteCells []) (w.alloc (.cells #[.pointer none, .slice none 0 0] 108)) :=
  .inl ⟨Nat.le_refl _, _, blk_new _ _, ⟨rfl, .inl ⟨rfl, rfl⟩⟩, by simp [Value.ownBlock]⟩
theorem tbs_len (xs : List ByteArray) (j : Nat) (hj : j < xs.length) : (tbs (xs.take j)).length + (tb (rdOf ByteArray.empty xs (j : Int))).size ≤ (tbs xs).length := by
  have e : xs = xs.take j ++ (rdOf ByteArray.empty xs (j : Int) :: xs.drop (j + 1)) := by
    have hd : xs.drop j = rdOf ByteArray.empty xs (j : Int) :: xs.drop (j + 1) := by
      rw [List.drop_eq_getElem_cons hj]
      congr 1
      simp [rdOf, hj]
    rw [← hd, List.take_append_drop]
  conv => rhs; rw [e]
  rw [tbs_append, tbs, List.length_append, List.length_append]
  have : (tb (rdOf ByteArray.empty xs (j : Int))).data.toList.length = (tb (rdOf ByteArray.empty xs (j : Int))).size := by rw [Array.length_toList]; rfl
  omega
theorem tbs_take (xs : List ByteArray) (j : Nat) (hj : j < xs.length) : tbs (xs.take (j + 1)) = tbs (xs.take j) ++ (tb (rdOf ByteArray.empty xs (j : Int))).data.toList := by
  have : xs.take (j + 1) = xs.take j ++ [rdOf ByteArray.empty xs (j : Int)] := by
    rw [List.take_succ_eq_append_getElem hj]
    congr 2
    simp [rdOf, hj]
  rw [this, tbs_append]
  simp [tbs]
set_option maxHeartbeats 8000000 in
set_option maxRecDepth 100000 in
theorem list_calls (A : Option Addr) (c : Nat) (xs : List ByteArray) (w : World) (hr : Kd.C Kd.string w A xs.length xs) (hc : xs.length ≤ c) (hb : (lbL xs).length ≤ 140737488355328) :
    Calls Tryd.prog 63 #[.slice A xs.length c] w fun e w' => e = .returned (.string (lb xs)) ∧ Below w.heap.size w w' := by
  have HR := Lib.hid hr
  have HL := Lib.hid (show (ib xs.length).size + (tbs xs).length ≤ 140737488355328 by
    have : (lbL xs).length = (ib xs.length).size + (tbs xs).length := by rw [lbL, List.length_append]; rfl
    omega)
  have HF := Lib.hid (show lb xs = ⟨((ib xs.length).data.toList ++ tbs xs).toArray⟩ from rfl)
  clear hr hb
  go_enter Tryd.func63, Tryd.ntmps63
  have HN := Lib.hid (builder_new w)
  have HB := Lib.hid ((Below.refl w.heap.size w).alloc (Nat.le_refl _) (.cells #[.pointer none, .slice none 0 0] 108))
  go_wp2_with (first
    | (go_at_call 62
       go_must (refine (int_calls _ _).mono ?_)
       rintro e w2 ⟨rfl, hB⟩
       have HN := Lib.hid (builder_below HN.out hB)
       have HB := Lib.hid (below_then HB.out HB.out.size hB)
       clear hB)
    | (go_at_call 84
       go_must (refine (write_calls w.heap.size w.heap.size [] (ib xs.length) _ HN.out (by have := HL.out; simp only [List.length_nil]; omega) HB.out.size).mono ?_)
       rintro e w2 ⟨rfl, hI, hB⟩
       have HN := Lib.hid hI
       have HB := Lib.hid (HB.out.trans hB)
       clear hB hI))
  have HN := Lib.hid (show Lib.IsBuilder 108 5 w.heap.size w.heap.size (Lib.byteCells ((ib xs.length).data.toList ++ tbs (xs.take 0))) w2 by simpa [tbs] using HN.out)
  have hl : xs.length < 9223372036854775808 := by have := Kd.C_max HR.out; omega
  go_loopg [5, 12, 13, 14, 15, 16, 17, 18, 19] xs.length (fun q v5 v12 v13 v14 v15 v16 v17 v18 v19 wr => ∃ j : Nat, v12 = .int .i64 j ∧ j ≤ xs.length ∧ q + j = xs.length ∧ Hid (Below w.heap.size w wr) ∧ Hid (Lib.IsBuilder 108 5 w.heap.size w.heap.size (Lib.byteCells ((ib xs.length).data.toList ++ tbs (xs.take j))) wr))
  case atStart => exact ⟨0, rfl, by omega, by omega, HB, HN⟩
  case round =>
    clear HN HB
    obtain ⟨j, rfl, hj, hq, HB, HN⟩ := hrel
    rcases Nat.eq_or_lt_of_le hj with hj | hj
    · have e2 : decide ((j : Int) < (xs.length : Int)) = false := by simp; omega
      subst hj
      go_wp2_with (first
        | (go_at_call 85
           go_must (refine (string_calls w.heap.size w.heap.size _ _ HN.out HB.out.size).mono ?_)
           rintro e w2 ⟨rfl, hB⟩
           have HB := Lib.hid (HB.out.trans hB)
           clear hB))
      go_ret
      exact ⟨by rw [HF.out]; rfl, HB.out⟩
    · have e2 : decide ((j : Int) < (xs.length : Int)) = true := by simp; omega
      have p1 := eq_true (show 0 ≤ (j : Int) by omega)
      have q1 := eq_true (show (j : Int) < (xs.length : Int) by omega)
      obtain ⟨ad, rfl, hx⟩ := Kd.at_string HR.out j (by omega) (by omega)
      have hx : wr.cell? (ad.add j) = some (.string (rdOf ByteArray.empty xs (j : Int))) := (HB.out.cell (World.block_lt_of_cell? w _ hx)).trans hx
      have hw : IntKind.i64.wrap ((j : Int) + 1) = ((j + 1 : Nat) : Int) := by rw [IntKind.wrap_i64]; omega
      have HT := Lib.hid (tbs_take xs j hj)
      have HS := Lib.hid (tbs_len xs j hj)
      go_wp2_with (first
        | (go_at_call 68
           go_must (refine (text_calls _ _ (by have := HS.out; have := HL.out; omega)).mono ?_)
           rintro e w2 ⟨rfl, hB⟩
           have HN := Lib.hid (builder_below HN.out hB)
           have HB := Lib.hid (below_then HB.out HB.out.size hB)
           clear hB)
        | (go_at_call 84
           go_must (refine (write_calls w.heap.size w.heap.size _ _ _ HN.out (by have := HS.out; have := HL.out; rw [List.length_append, Array.length_toList]; have e : (ib xs.length).data.size = (ib xs.length).size := rfl; omega) HB.out.size).mono ?_)
           rintro e w2 ⟨rfl, hI, hB⟩
           have HN := Lib.hid hI
           have HB := Lib.hid (HB.out.trans hB)
           clear hB hI))
      go_roundg (xs.length - (j + 1))
      case measure => omega
      case rel => exact ⟨j + 1, by simp, by omega, by omega, HB, by rw [HT.out, ← List.append_assoc]; exact HN⟩
def wire_List.f (l0 : List ByteArray) : Option ByteArray := if (lbL l0).length ≤ 140737488355328 then some (lb l0) else none
theorem wire_List.calls (A0 : Option Addr) (c0 : Nat) (l0 : List ByteArray) (r : ByteArray) (w : World) (hr0 : Kd.C Kd.string w A0 l0.length l0) (hc0 : l0.length ≤ c0) (h : wire_List.f l0 = some r) :
    Calls Tryd.prog 63 #[.slice A0 l0.length c0] w fun e w' => e = .returned (.string r) ∧ Below w.heap.size w w' := by
  unfold wire_List.f at h
  split at h
  · obtain rfl := Option.some.inj h
    exact list_calls A0 c0 l0 w hr0 hc0 (by assumption)
  · cases h
end Go.Proofs.YtndicjikjcifaaaDoor

/- tx.Encode: a transaction's bytes. -/
namespace Go.Proofs
open Go.Shelf
theorem Tryd.Builder_Extra_156 : Builder.Extra Tryd.prog Tryd.lays156_ren := {
  sizeBuilder := by kernel_rfl
  liesBuilder := by kernel_rfl
  t5 := Tryd.underlying5
  a5 := Tryd.isAgg5
  z5 := Tryd.sizeOf5
  v5 := Tryd.zeroValue5
  infoByte := by kernel_rfl
  cellsByte := by kernel_rfl
  sizeByte := by kernel_rfl
  neB5 := by decide }
end Go.Proofs
namespace Go.Proofs.YtndicjikjcifaaaDoor
open Go.RowKit Go.Shelf Go.Lib Go.Proofs.YtndicjikjcifaaaDoorW.PrintWords Go.Proofs.YtndicjikjcifaaaDoorW.PrintLast
set_option linter.unusedVariables false
set_option linter.unusedSimpArgs false
theorem join_calls (bk c : Nat) (xs : List ByteArray) (w : World) (hcells : ∀ (j : Nat) x, xs[j]? = some x → w.cell? ⟨bk, 0 + j, none⟩ = some (.string x))
    (hbk : bk < w.heap.size) (hN : xs.length ≤ 140737488355328) (hcap : xs.length ≤ c) (hlen : (Lib.join (xs.map (·.data.toList)) []).length ≤ 140737488355328) :
    Calls Tryd.prog 69 #[.slice (some ⟨bk, 0, none⟩) xs.length c, .string ⟨#[]⟩] w fun e w' => e = .returned (.string ⟨(Lib.join (xs.map (·.data.toList)) []).toArray⟩) ∧ Below w.heap.size w w' :=
  Any.strings_Join Tryd.lays156 Tryd.Builder_Extra_156 bk 0 c xs ⟨#[]⟩ w hcells hbk hN hcap hlen
theorem vints_len : ∀ k n, n < 128 ^ (k + 1) → (vints n).length ≤ k + 1
  | 0, n, h => by
    rw [vints, dif_pos (by omega)]
    simp
  | k + 1, n, h => by
    rw [vints]
    split
    · simp
    · have := vints_len k (n / 128) (by rw [Nat.pow_succ] at h; omega)
      simp only [List.length_cons]
      omega
theorem ib_size (n : Int) : (ib n).size ≤ 9 := by
  unfold ib
  split
  · exact Nat.zero_le _
  · have h1 := vints_len 8 n.toNat (by omega)
    have h2 : (strOfNums (vints n.toNat)).size = (vints n.toNat).length := by simp [strOfNums, ByteArray.size]
    omega
theorem tb_size (x : ByteArray) : (tb x).size ≤ 9 + x.size := by
  have := ib_size x.size
  have e : (tb x).size = (ib x.size).size + x.size := ByteArray.size_append
  omega
theorem tbs_size (M : Nat) : ∀ xs : List ByteArray, (∀ x ∈ xs, x.size ≤ M) → (tbs xs).length ≤ xs.length * (9 + M)
  | [], _ => Nat.zero_le _
  | x :: r, h => by
    have h1 := tbs_size M r (fun y hy => h y (by simp [hy]))
    have h2 := tb_size x
    have h3 := h x (by simp)
    have e : (tb x).data.toList.length = (tb x).size := by rw [Array.length_toList]; rfl
    rw [tbs, List.length_append, List.length_cons, Nat.succ_mul]
    omega
theorem lb_size (M : Nat) (xs : List ByteArray) (h : ∀ x ∈ xs, x.size ≤ M) : (lbL xs).length ≤ 9 + xs.length * (9 + M) := by
  have h1 := tbs_size M xs h
  have h2 := ib_size xs.length
  have e : (ib xs.length).data.toList.length = (ib xs.length).size := by rw [Array.length_toList]; rfl
  rw [lbL, List.length_append]
  omega
theorem nm_size {s : ByteArray} (h : nm s = true) : s.size ≤ 32 := by
  have := of_decide_eq_true h
  exact this.2.1
theorem ky_size {s : ByteArray} (h : ky s = true) : s.size ≤ 34 := by
  unfold ky at h
  rw [Bool.and_eq_true, Bool.and_eq_true] at h
  have h1 := nm_size h.2
  rw [ByteArray.size_extract] at h1
  omega
theorem join_nil : ∀ l : List (List UInt8), Lib.join l [] = l.flatten
  | [] => rfl
  | [a] => by simp [Lib.join, List.intercalate]
  | a :: b :: r => by
    have := join_nil (b :: r)
    simp [Lib.join, List.intercalate, List.intersperse] at this ⊢
    exact this
theorem keL_size : ∀ p xs, keL p xs = 0 → ∀ x ∈ xs, x.size ≤ 34
  | _, [], _, x, hx => by simp at hx
  | p, s :: r, h, x, hx => by
    unfold keL at h
    cases hk : ky s with
    | false => rw [if_pos hk] at h; cases h
    | true =>
      rw [if_neg (by simp [hk])] at h
      have h2 : keL (some s) r = 0 := by
        cases p with
        | none => simpa using h
        | some q =>
          cases hl : lts q s with
          | false => simp [hl] at h
          | true => simpa [hl] using h
      rcases List.mem_cons.1 hx with rfl | hx
      · exact ky_size hk
      · exact keL_size _ _ h2 x hx
theorem ke_zero {xs : List ByteArray} (h : ke xs = 0) : xs.length ≤ 8 ∧ ∀ x ∈ xs, x.size ≤ 34 := by
  unfold ke at h
  split at h
  · exact ⟨by assumption, keL_size _ _ h⟩
  · cases h
theorem empty_size {s : ByteArray} (h : s.toList.isEmpty = true) : s.size = 0 := by
  rw [Lib.toList_data, List.isEmpty_iff] at h
  have : s.data.toList.length = 0 := by rw [h]; rfl
  rw [Array.length_toList] at this
  exact this
structure Fine (k : Int) (f t : ByteArray) (am nc : Int) (ky' vl : ByteArray) (rs ws : List ByteArray) : Prop where
  k : k = 1 ∨ k = 2
  f : f.size ≤ 32
  t : t.size ≤ 32
  am : am ≤ 4611686018427387903
  nc : nc ≤ 4611686018427387903
  ky : ky'.size ≤ 32
  vl : vl.size ≤ 64
  rs : ke rs = 0
  ws : ke ws = 0
theorem ch_fine {k : Int} {f t : ByteArray} {am nc : Int} {ky' vl : ByteArray} {rs ws : List ByteArray} (h : ch k f t am nc ky' vl rs ws = 0) : Fine k f t am nc ky' vl rs ws := by
  have hF : chF k f t ky' vl am = 0 := by
    unfold ch at h
    split at h
    · assumption
    · exact absurd h (by assumption)
  have hR : chR am nc rs ws = 0 := by rw [ch, if_pos hF] at h; exact h
  have hk : (am ≤ 4611686018427387903 ∧ nc ≤ 4611686018427387903) ∧ ke rs = 0 ∧ ke ws = 0 := by
    unfold chR at hR
    split at hR
    · split at hR
      · exact ⟨by assumption, by assumption, hR⟩
      · exact absurd hR (by assumption)
    · cases hR
  unfold chF at hF
  split at hF
  · split at hF
    · rename_i h1 h2
      simp only [Bool.and_eq_true] at h2
      have e1 := empty_size h2.1.2
      have e2 := empty_size h2.2
      exact ⟨.inl h1, nm_size h2.1.1.1, nm_size h2.1.1.2, hk.1.1, hk.1.2, by omega, by omega, hk.2.1, hk.2.2⟩
    · cases hF
  · split at hF
    · split at hF
      · rename_i h1 h2 h3
        simp only [Bool.and_eq_true, decide_eq_true_eq] at h3
        have e1 := empty_size h3.1.2
        exact ⟨.inr h2, nm_size h3.1.1.1.1, by omega, hk.1.1, hk.1.2, nm_size h3.1.1.1.2, h3.1.1.2, hk.2.1, hk.2.2⟩
      · cases hF
    · cases hF
def encL (k : Int) (f t : ByteArray) (am nc : Int) (ky' vl : ByteArray) (rs ws : List ByteArray) : List ByteArray := [ib k, tb f, tb t, ib am, ib nc, tb ky', tb vl, lb rs, lb ws]
def encB (k : Int) (f t : ByteArray) (am nc : Int) (ky' vl : ByteArray) (rs ws : List ByteArray) : ByteArray := ⟨(Lib.join ((encL k f t am nc ky' vl rs ws).map (·.data.toList)) []).toArray⟩
def enc (k : Int) (f t : ByteArray) (am nc : Int) (ky' vl : ByteArray) (rs ws : List ByteArray) : ByteArray × Int :=
  if ch k f t am nc ky' vl rs ws = 0 then (encB k f t am nc ky' vl rs ws, 0) else (⟨#[]⟩, ch k f t am nc ky' vl rs ws)
def EP (r : ByteArray × Int) (w : World) (e : Ending) (w' : World) : Prop := e = .returned (.tuple #[.string r.1, .int .i64 r.2]) ∧ Below w.heap.size w w'
set_option maxHeartbeats 8000000 in
set_option maxRecDepth 100000 in
theorem enc_no (k : Int) (f t : ByteArray) (am nc : Int) (ky' vl : ByteArray) (A B : Option Addr) (c d : Nat) (rs ws : List ByteArray) (w : World) (x : Int) (hx : ch k f t am nc ky' vl rs ws = x) (h0 : x ≠ 0)
    (hr : Kd.C Kd.string w A rs.length rs) (hc : rs.length ≤ c) (hs : Kd.C Kd.string w B ws.length ws) (hd : ws.length ≤ d) :
    Calls Tryd.prog 39 #[.agg #[.int .i64 k, .string f, .string t, .int .u64 am, .int .u64 nc, .string ky', .string vl, .slice A rs.length c, .slice B ws.length d]] w
      fun e w' => EP (⟨#[]⟩, x) w e w' := by
  have HR := Lib.hid hr
  have HC := Lib.hid hc
  have HS := Lib.hid hs
  have HD := Lib.hid hd
  clear hr hc hs hd
  have hx2 : (x != 0) = true := by simpa using h0
  have hch := Lib.hid (fun W hw => chk_calls k f t am nc ky' vl A B c d rs ws W (Kd.C_below HR.out hw) HC.out (Kd.C_below HS.out hw) HD.out)
  rw [hx] at hch
  go_enter Tryd.func39, Tryd.ntmps39
  have HX := Lib.hid (Bq.first w #[.int .i64 k, .string f, .string t, .int .u64 am, .int .u64 nc, .string ky', .string vl, .slice A rs.length c, .slice B ws.length d])
  go_wp2_with (first
    | (go_at_call 41
       go_must (refine (hch.out _ HX.out.low).mono ?_)
       rintro e w2 ⟨rfl, hB⟩
       have HX := Lib.hid (HX.out.step hB)
       clear hB))
  go_ret2
  exact ⟨rfl, HX.out.low⟩
set_option maxHeartbeats 8000000 in
set_option maxRecDepth 100000 in
theorem enc_ok (k : Int) (f t : ByteArray) (am nc : Int) (ky' vl : ByteArray) (A B : Option Addr) (c d : Nat) (rs ws : List ByteArray) (w : World) (hx : ch k f t am nc ky' vl rs ws = 0)
    (hr : Kd.C Kd.string w A rs.length rs) (hc : rs.length ≤ c) (hs : Kd.C Kd.string w B ws.length ws) (hd : ws.length ≤ d) (ha : 0 ≤ am) (hn : 0 ≤ nc) :
    Calls Tryd.prog 39 #[.agg #[.int .i64 k, .string f, .string t, .int .u64 am, .int .u64 nc, .string ky', .string vl, .slice A rs.length c, .slice B ws.length d]] w
      fun e w' => EP (encB k f t am nc ky' vl rs ws, 0) w e w' := by
  have hf := ch_fine hx
  have HR := Lib.hid hr
  have HC := Lib.hid hc
  have HS := Lib.hid hs
  have HD := Lib.hid hd
  have hr1 := ke_zero hf.rs
  have hs1 := ke_zero hf.ws
  have L1 := lb_size 34 rs hr1.2
  have L2 := lb_size 34 ws hs1.2
  have S1 : (lb rs).size = (lbL rs).length := by simp [lb, ByteArray.size]
  have S2 : (lb ws).size = (lbL ws).length := by simp [lb, ByteArray.size]
  have L1 : (lbL rs).length ≤ 353 := by have := hr1.1; omega
  have L2 : (lbL ws).length ≤ 353 := by have := hs1.1; omega
  have T1 := tb_size f
  have T2 := tb_size t
  have T3 := tb_size ky'
  have T4 := tb_size vl
  have Q1 := hf.f
  have Q2 := hf.t
  have Q3 := hf.ky
  have Q4 := hf.vl
  have HT := Lib.hid (show (tb f).size ≤ 9223372036854775807 ∧ (tb t).size ≤ 9223372036854775807 ∧ (tb ky').size ≤ 9223372036854775807 ∧ (tb vl).size ≤ 9223372036854775807 from ⟨by omega, by omega, by omega, by omega⟩)
  have HL := Lib.hid (show (lbL rs).length ≤ 140737488355328 ∧ (lbL ws).length ≤ 140737488355328 from ⟨by omega, by omega⟩)
  have HJ := Lib.hid (show (Lib.join ((encL k f t am nc ky' vl rs ws).map (·.data.toList)) []).length ≤ 140737488355328 by
    have I1 := ib_size k
    have I2 := ib_size am
    have I3 := ib_size nc
    have e : ∀ s : ByteArray, s.data.toList.length = s.size := fun s => by rw [Array.length_toList]; rfl
    rw [join_nil]
    simp only [encL, List.map_cons, List.map_nil, List.flatten_cons, List.flatten_nil, List.length_append, e, List.length_nil]
    omega)
  have wa : IntKind.i64.wrap am = am := by have := hf.am; rw [IntKind.wrap_i64]; omega
  have wn : IntKind.i64.wrap nc = nc := by have := hf.nc; rw [IntKind.wrap_i64]; omega
  have hch := Lib.hid (fun W hw => chk_calls k f t am nc ky' vl A B c d rs ws W (Kd.C_below HR.out hw) HC.out (Kd.C_below HS.out hw) HD.out)
  rw [hx] at hch
  clear hr hc hs hd hx ha hn hf hr1 hs1 L1 L2 T1 T2 T3 T4 Q1 Q2 Q3 Q4 S1 S2
  go_enter Tryd.func39, Tryd.ntmps39
  have HX := Lib.hid (Bq.first w #[.int .i64 k, .string f, .string t, .int .u64 am, .int .u64 nc, .string ky', .string vl, .slice A rs.length c, .slice B ws.length d])
  go_wp2_with (first
    | (go_at_call 41
       go_must (refine (hch.out _ HX.out.low).mono ?_)
       rintro e w2 ⟨rfl, hB⟩
       have HX := Lib.hid (HX.out.step hB)
       clear hB))
  have hq : ∀ W, Bq w #[.int .i64 k, .string f, .string t, .int .u64 am, .int .u64 nc, .string ky', .string vl, .slice A rs.length c, .slice B ws.length d] W →
      Bq w #[.int .i64 k, .string f, .string t, .int .u64 am, .int .u64 nc, .string ky', .string vl, .slice A rs.length c, .slice B ws.length d] W ∧
      W.cell? ⟨w.heap.size, 0, none⟩ = some (.int .i64 k) ∧ W.cell? ⟨w.heap.size, 1, none⟩ = some (.string f) ∧ W.cell? ⟨w.heap.size, 2, none⟩ = some (.string t) ∧ W.cell? ⟨w.heap.size, 3, none⟩ = some (.int .u64 am) ∧ W.cell? ⟨w.heap.size, 4, none⟩ = some (.int .u64 nc) ∧ W.cell? ⟨w.heap.size, 5, none⟩ = some (.string ky') ∧ W.cell? ⟨w.heap.size, 6, none⟩ = some (.string vl) ∧ W.cell? ⟨w.heap.size, 7, none⟩ = some (.slice A rs.length c) ∧ W.cell? ⟨w.heap.size, 8, none⟩ = some (.slice B ws.length d) :=
    fun W h => ⟨h, blk_cell h.box 0, blk_cell h.box 1, blk_cell h.box 2, blk_cell h.box 3, blk_cell h.box 4, blk_cell h.box 5, blk_cell h.box 6, blk_cell h.box 7, blk_cell h.box 8⟩
  have hq0 := hq _ HX.out
  have hq := Lib.hid hq
  obtain ⟨B0, q0, q1, q2, q3, q4, q5, q6, q7, q8⟩ := hq0
  go_region_held3 (fun W => Bq w #[.int .i64 k, .string f, .string t, .int .u64 am, .int .u64 nc, .string ky', .string vl, .slice A rs.length c, .slice B ws.length d] W ∧
      W.cell? ⟨w.heap.size, 0, none⟩ = some (.int .i64 k) ∧ W.cell? ⟨w.heap.size, 1, none⟩ = some (.string f) ∧ W.cell? ⟨w.heap.size, 2, none⟩ = some (.string t) ∧ W.cell? ⟨w.heap.size, 3, none⟩ = some (.int .u64 am) ∧ W.cell? ⟨w.heap.size, 4, none⟩ = some (.int .u64 nc) ∧ W.cell? ⟨w.heap.size, 5, none⟩ = some (.string ky') ∧ W.cell? ⟨w.heap.size, 6, none⟩ = some (.string vl) ∧ W.cell? ⟨w.heap.size, 7, none⟩ = some (.slice A rs.length c) ∧ W.cell? ⟨w.heap.size, 8, none⟩ = some (.slice B ws.length d))
    (first
      | exact hq.out _ HX.out
      | exact hq.out _ (HX.out.step ((Below.refl _ _).drew))
      | exact hq.out _ (HX.out.step ((Below.refl _ _).alloc (Nat.le_refl _) _)))
    (first
      | (go_at_call 62; refine (int_calls _ _).mono ?_; rintro e w2 ⟨rfl, hB⟩; first | have HX := Lib.hid (HX.out.step hB) | have HX := Lib.hid ((HX.out.step ((Below.refl _ _).drew)).step hB))
      | (go_at_call 68; first | with_reducible refine (text_calls f _ HT.out.1).mono ?_ | with_reducible refine (text_calls t _ HT.out.2.1).mono ?_ | with_reducible refine (text_calls ky' _ HT.out.2.2.1).mono ?_ | with_reducible refine (text_calls vl _ HT.out.2.2.2).mono ?_
         rintro e w2 ⟨rfl, hB⟩; first | have HX := Lib.hid (HX.out.step hB) | have HX := Lib.hid ((HX.out.step ((Below.refl _ _).drew)).step hB))
      | (go_at_call 63; first | with_reducible refine Calls.mono (list_calls A c rs _ ?_ HC.out HL.out.1) ?_ | with_reducible refine Calls.mono (list_calls B d ws _ ?_ HD.out HL.out.2) ?_
         · first | exact Kd.C_below HR.out (Bq.low (And.left (by assumption))) | exact Kd.C_below HS.out (Bq.low (And.left (by assumption)))
         rintro e w2 ⟨rfl, hB⟩; first | have HX := Lib.hid (HX.out.step hB) | have HX := Lib.hid ((HX.out.step ((Below.refl _ _).drew)).step hB)))
  have hbl := blk_new w2 (.cells #[.string (ib k), .string (tb f), .string (tb t), .string (ib am), .string (ib nc), .string (tb ky'), .string (tb vl), .string (lb rs), .string (lb ws)] 9)
  have HA := Lib.hid ((Below.refl w2.heap.size w2).alloc (Nat.le_refl _) (.cells #[.string (ib k), .string (tb f), .string (tb t), .string (ib am), .string (ib nc), .string (tb ky'), .string (tb vl), .string (lb rs), .string (lb ws)] 9))
  have HX := Lib.hid (HX.out.step HA.out)
  generalize w2.alloc (.cells #[.string (ib k), .string (tb f), .string (tb t), .string (ib am), .string (ib nc), .string (tb ky'), .string (tb vl), .string (lb rs), .string (lb ws)] 9) = W at hbl HX ⊢
  have hcell := Lib.hid (show ∀ (j : Nat) x, (encL k f t am nc ky' vl rs ws)[j]? = some x → W.cell? ⟨w2.heap.size, 0 + j, none⟩ = some (.string x) by
    intro j x hx
    rw [Nat.zero_add]
    refine (blk_cell hbl j).trans ?_
    have e : (#[.string (ib k), .string (tb f), .string (tb t), .string (ib am), .string (ib nc), .string (tb ky'), .string (tb vl), .string (lb rs), .string (lb ws)] : Array Value) = ((encL k f t am nc ky' vl rs ws).map Value.string).toArray := rfl
    rw [e, List.getElem?_toArray, List.getElem?_map, hx]
    rfl)
  have hlt := Lib.hid (blk_lt hbl)
  clear hbl
  go_wp2_with (first
    | (go_at_call 69
       go_must (refine (join_calls w2.heap.size 9 (encL k f t am nc ky' vl rs ws) W hcell.out hlt.out (by simp [encL]) (by simp [encL]) HJ.out).mono ?_)
       rintro e w3 ⟨rfl, hB⟩
       have HX := Lib.hid (HX.out.step hB)
       clear hB))
  go_ret2
  exact ⟨rfl, HX.out.low⟩
theorem enc_calls (k : Int) (f t : ByteArray) (am nc : Int) (ky' vl : ByteArray) (A B : Option Addr) (c d : Nat) (rs ws : List ByteArray) (w : World)
    (hr : Kd.C Kd.string w A rs.length rs) (hc : rs.length ≤ c) (hs : Kd.C Kd.string w B ws.length ws) (hd : ws.length ≤ d) (ha : 0 ≤ am) (hn : 0 ≤ nc) :
    Calls Tryd.prog 39 #[.agg #[.int .i64 k, .string f, .string t, .int .u64 am, .int .u64 nc, .string ky', .string vl, .slice A rs.length c, .slice B ws.length d]] w
      fun e w' => EP (enc k f t am nc ky' vl rs ws) w e w' := by
  unfold enc
  split
  · exact enc_ok k f t am nc ky' vl A B c d rs ws w (by assumption) hr hc hs hd ha hn
  · exact enc_no k f t am nc ky' vl A B c d rs ws w _ rfl (by assumption) hr hc hs hd
end Go.Proofs.YtndicjikjcifaaaDoor

/- tx.Needs, tx.Fits. -/
namespace Go.Proofs
open Go.Shelf
end Go.Proofs
namespace Go.Proofs.YtndicjikjcifaaaDoor
open Go.RowKit Go.Shelf Go.Lib Go.Sort Go.Proofs.YtndicjikjcifaaaDoorW.PrintWords Go.Proofs.YtndicjikjcifaaaDoorW.PrintLast
set_option linter.unusedVariables false
set_option linter.unusedSimpArgs false
def mn (x y : ByteArray) : ByteArray := if lts y x = true then y else x
def mx (x y : ByteArray) : ByteArray := if lts y x = true then x else y
def one2 (x y : ByteArray) : List ByteArray := if x.toList = y.toList then [x] else [x, y]
def nA (f : ByteArray) : ByteArray := ⟨#[97, 58]⟩ ++ f
def nK (f : ByteArray) : ByteArray := ⟨#[107, 58]⟩ ++ f
def nB (k : Int) (t ky' : ByteArray) : ByteArray := if k = 2 then nK ky' else nA t
def need (k : Int) (f t : ByteArray) (am nc : Int) (ky' vl : ByteArray) (rs ws : List ByteArray) : List ByteArray :=
  if ch k f t am nc ky' vl rs ws = 0 then one2 (mn (nA f) (nB k t ky')) (mx (nA f) (nB k t ky')) else []
def tx_Needs.f (k : Int) (f t : ByteArray) (am nc : Int) (ky' vl : ByteArray) (rs ws : List ByteArray) : Option (List ByteArray) := some (need k f t am nc ky' vl rs ws)
end Go.Proofs.YtndicjikjcifaaaDoor

namespace Go.Proofs.YtndicjikjcifaaaDoor.PFt
open Go.RowKit Go.Proofs.YtndicjikjcifaaaDoorW.PrintWords Go.Proofs.YtndicjikjcifaaaDoorW.PrintLast Go.Proofs.YtndicjikjcifaaaDoorW.PrintMore
attribute [local go_sem] max2_int min2_int max_two min_two max_three min_three max_four min_four   -- for this text's walks alone
set_option linter.unusedVariables false
set_option linter.unusedSimpArgs false
def errW : Option Int → Value
  | none => .nilIface
  | some c => .iface 0 (.int .i64 c)
theorem errW_none : errW none = .nilIface := rfl
theorem errW_some (c : Int) : errW (some c) = .iface 0 (.int .i64 c) := rfl
-- the values' own types
/-! #### struct type 33 -/
structure S33 where
  f0 : Int
  f1 : ByteArray
  f2 : ByteArray
  f3 : Int
  f4 : Int
  f5 : ByteArray
  f6 : ByteArray
  f7 : (List ByteArray)
  f8 : (List ByteArray)
def z33 : S33 := ⟨(0 : Int), (⟨#[]⟩ : ByteArray), (⟨#[]⟩ : ByteArray), (0 : Int), (0 : Int), (⟨#[]⟩ : ByteArray), (⟨#[]⟩ : ByteArray), ([] : List ByteArray), ([] : List ByteArray)⟩
def k33 : Kd S33 := Kd.iso (Kd.pair (Kd.int .i64) (Kd.pair Kd.string (Kd.pair Kd.string (Kd.pair (Kd.int .u64) (Kd.pair (Kd.int .u64) (Kd.pair Kd.string (Kd.pair Kd.string (Kd.pair (Kd.slice 9 Kd.string) (Kd.slice 9 Kd.string))))))))) (fun x : S33 => (x.f0, x.f1, x.f2, x.f3, x.f4, x.f5, x.f6, x.f7, x.f8))
theorem k33_open {w : World} {x : S33} {cs : List Value} (h : k33.K w x cs) : ∃ A7 c7 A8 c8, cs = [.int .i64 x.f0, .string x.f1, .string x.f2, .int .u64 x.f3, .int .u64 x.f4, .string x.f5, .string x.f6, .slice A7 x.f7.length c7, .slice A8 x.f8.length c8] ∧ x.f7.length ≤ c7 ∧ Kd.string.C w A7 x.f7.length x.f7 ∧ x.f8.length ≤ c8 ∧ Kd.string.C w A8 x.f8.length x.f8 := by
  obtain ⟨_, _, rfl, rfl, ⟨_, _, rfl, rfl, ⟨_, _, rfl, rfl, ⟨_, _, rfl, rfl, ⟨_, _, rfl, rfl, ⟨_, _, rfl, rfl, ⟨_, _, rfl, rfl, ⟨_, _, rfl, ⟨A7, c7, rfl, l7, g7⟩, ⟨A8, c8, rfl, l8, g8⟩⟩⟩⟩⟩⟩⟩⟩⟩ := h
  exact ⟨A7, c7, A8, c8, rfl, l7, g7, l8, g8⟩
theorem k33_mk (w : World) (x : S33) {A7 : Option Addr} {c7 : Nat} (l7 : x.f7.length ≤ c7) (g7 : Kd.string.C w A7 x.f7.length x.f7) {A8 : Option Addr} {c8 : Nat} (l8 : x.f8.length ≤ c8) (g8 : Kd.string.C w A8 x.f8.length x.f8) : k33.K w x [.int .i64 x.f0, .string x.f1, .string x.f2, .int .u64 x.f3, .int .u64 x.f4, .string x.f5, .string x.f6, .slice A7 x.f7.length c7, .slice A8 x.f8.length c8] := ⟨[.int .i64 x.f0], [.string x.f1, .string x.f2, .int .u64 x.f3, .int .u64 x.f4, .string x.f5, .string x.f6, .slice A7 x.f7.length c7, .slice A8 x.f8.length c8], rfl, rfl, ⟨[.string x.f1], [.string x.f2, .int .u64 x.f3, .int .u64 x.f4, .string x.f5, .string x.f6, .slice A7 x.f7.length c7, .slice A8 x.f8.length c8], rfl, rfl, ⟨[.string x.f2], [.int .u64 x.f3, .int .u64 x.f4, .string x.f5, .string x.f6, .slice A7 x.f7.length c7, .slice A8 x.f8.length c8], rfl, rfl, ⟨[.int .u64 x.f3], [.int .u64 x.f4, .string x.f5, .string x.f6, .slice A7 x.f7.length c7, .slice A8 x.f8.length c8], rfl, rfl, ⟨[.int .u64 x.f4], [.string x.f5, .string x.f6, .slice A7 x.f7.length c7, .slice A8 x.f8.length c8], rfl, rfl, ⟨[.string x.f5], [.string x.f6, .slice A7 x.f7.length c7, .slice A8 x.f8.length c8], rfl, rfl, ⟨[.string x.f6], [.slice A7 x.f7.length c7, .slice A8 x.f8.length c8], rfl, rfl, ⟨[.slice A7 x.f7.length c7], [.slice A8 x.f8.length c8], rfl, ⟨A7, c7, rfl, l7, g7⟩, ⟨A8, c8, rfl, l8, g8⟩⟩⟩⟩⟩⟩⟩⟩⟩
def rd_T33 (xs : List S33) (i : Int) : S33 := xs.getD i.toNat z33
theorem at_T33 {w : World} {A : Option Addr} {n : Nat} {xs : List S33} (h : Kd.C k33 w A n xs) (i : Int) (h0 : 0 ≤ i) (h1 : i < n) : ∃ ad A7 c7 A8 c8, A = some ad ∧ w.cell? (ad.add (i.toNat * 9)) = some (.int .i64 (rd_T33 xs i).f0) ∧ w.cell? ⟨(ad.add (i.toNat * 9)).block, (ad.add (i.toNat * 9)).off + 1, none⟩ = some (.string (rd_T33 xs i).f1) ∧ w.cell? ⟨(ad.add (i.toNat * 9)).block, (ad.add (i.toNat * 9)).off + 2, none⟩ = some (.string (rd_T33 xs i).f2) ∧ w.cell? ⟨(ad.add (i.toNat * 9)).block, (ad.add (i.toNat * 9)).off + 3, none⟩ = some (.int .u64 (rd_T33 xs i).f3) ∧ w.cell? ⟨(ad.add (i.toNat * 9)).block, (ad.add (i.toNat * 9)).off + 4, none⟩ = some (.int .u64 (rd_T33 xs i).f4) ∧ w.cell? ⟨(ad.add (i.toNat * 9)).block, (ad.add (i.toNat * 9)).off + 5, none⟩ = some (.string (rd_T33 xs i).f5) ∧ w.cell? ⟨(ad.add (i.toNat * 9)).block, (ad.add (i.toNat * 9)).off + 6, none⟩ = some (.string (rd_T33 xs i).f6) ∧ w.cell? ⟨(ad.add (i.toNat * 9)).block, (ad.add (i.toNat * 9)).off + 7, none⟩ = some (.slice A7 (rd_T33 xs i).f7.length c7) ∧ w.cell? ⟨(ad.add (i.toNat * 9)).block, (ad.add (i.toNat * 9)).off + 8, none⟩ = some (.slice A8 (rd_T33 xs i).f8.length c8) ∧ (rd_T33 xs i).f7.length ≤ c7 ∧ Kd.string.C w A7 (rd_T33 xs i).f7.length (rd_T33 xs i).f7 ∧ (rd_T33 xs i).f8.length ≤ c8 ∧ Kd.string.C w A8 (rd_T33 xs i).f8.length (rd_T33 xs i).f8 := by
  obtain ⟨ad, c, e, _, hK, hc0⟩ := Kd.C_get h z33 i h0 h1
  have hc : ∀ j u, c[j]? = some u → w.cell? (ad.add (i.toNat * 9 + j)) = some u := hc0
  obtain ⟨A7, c7, A8, c8, rfl, l7, g7, l8, g8⟩ := k33_open hK
  exact ⟨ad, A7, c7, A8, c8, e, hc 0 _ rfl, by rw [← add_field _ _ 1 (by omega)]; exact hc 1 _ rfl, by rw [← add_field _ _ 2 (by omega)]; exact hc 2 _ rfl, by rw [← add_field _ _ 3 (by omega)]; exact hc 3 _ rfl, by rw [← add_field _ _ 4 (by omega)]; exact hc 4 _ rfl, by rw [← add_field _ _ 5 (by omega)]; exact hc 5 _ rfl, by rw [← add_field _ _ 6 (by omega)]; exact hc 6 _ rfl, by rw [← add_field _ _ 7 (by omega)]; exact hc 7 _ rfl, by rw [← add_field _ _ 8 (by omega)]; exact hc 8 _ rfl, l7, g7, l8, g8⟩
end Go.Proofs.YtndicjikjcifaaaDoor.PFt

namespace Go.Proofs.YtndicjikjcifaaaDoor.PFt
open Go.RowKit Go.Proofs.YtndicjikjcifaaaDoorW.PrintWords Go.Proofs.YtndicjikjcifaaaDoorW.PrintLast Go.Proofs.YtndicjikjcifaaaDoorW.PrintMore
attribute [local go_sem] max2_int min2_int max_two min_two max_three min_three max_four min_four   -- for this text's walks alone
set_option linter.unusedVariables false
set_option linter.unusedSimpArgs false
/-! ### tx_Needs: function 44 -/
-- IMPORT Derived.Test.YtndicjikjcifaaaDoorTxneed
/-! ### slices_Index_string_string: function 95 -/
def slices_Index_string_string.l0 : Nat → List ByteArray → ByteArray → Int → Int → Option (Int)
  | 0, _, _, _, _ => none
  | k + 1, x0, x1, x7, x8 => if x8 < x7 then (if 0 ≤ x8 then (if x8 < (x0.length : Int) then (if x1.toList = (rdOf ByteArray.empty x0 x8).toList then (some x8) else (slices_Index_string_string.l0 k x0 x1 x7 (wrap64 (x8 + 1)))) else (none)) else (none)) else (some (-1))
def slices_Index_string_string.f (k : Nat) (l0 : List ByteArray) (a1 : ByteArray) : Option (Int) := slices_Index_string_string.l0 k l0 a1 (l0.length : Int) 0
theorem slices_Index_string_string.mono_l : ∀ k, (∀ y0 y1 y2 y3, LeO (slices_Index_string_string.l0 k y0 y1 y2 y3) (slices_Index_string_string.l0 (k + 1) y0 y1 y2 y3))
  | 0 => fun _ _ _ _ r h => by simp [slices_Index_string_string.l0] at h
  | k + 1 => by
    have ih0 := slices_Index_string_string.mono_l k
    · intro y0 y1 y2 y3
      unfold slices_Index_string_string.l0
      repeat' first
      | (with_reducible exact ih0 _ _ _ _)
      | (with_reducible exact LeO.refl _)
      | (with_reducible exact LeO.none _)
      | (with_reducible refine LeO.ite ?_ ?_)
      | (with_reducible refine LeO.bind ?_ (fun _ => ?_))
      | exact ih0 _ _ _ _
      | exact LeO.none _
      | refine LeO.ite ?_ ?_
      | refine LeO.bind ?_ (fun _ => ?_)
theorem slices_Index_string_string.mono : ∀ a0 a1 k, LeO (slices_Index_string_string.f k a0 a1) (slices_Index_string_string.f (k + 1) a0 a1) := by
  intro a0 a1 k
  have ih0 := slices_Index_string_string.mono_l k
  unfold slices_Index_string_string.f
  repeat' first
      | (with_reducible exact ih0 _ _ _ _)
      | (with_reducible exact LeO.refl _)
      | (with_reducible exact LeO.none _)
      | (with_reducible refine LeO.ite ?_ ?_)
      | (with_reducible refine LeO.bind ?_ (fun _ => ?_))
      | exact ih0 _ _ _ _
      | exact LeO.none _
      | refine LeO.ite ?_ ?_
      | refine LeO.bind ?_ (fun _ => ?_)
/-! ### slices_Contains_string_string: function 76 -/
def slices_Contains_string_string.f (k : Nat) (l0 : List ByteArray) (a1 : ByteArray) : Option (Bool) := (slices_Index_string_string.f k l0 a1).bind fun t102 => (some (decide (t102 ≥ 0)))
theorem slices_Contains_string_string.mono : ∀ a0 a1 k, LeO (slices_Contains_string_string.f k a0 a1) (slices_Contains_string_string.f (k + 1) a0 a1) := by
  intro a0 a1 k
  unfold slices_Contains_string_string.f
  repeat' first
      | (with_reducible exact slices_Index_string_string.mono _ _ _)
      | (with_reducible exact LeO.refl _)
      | (with_reducible exact LeO.none _)
      | (with_reducible refine LeO.ite ?_ ?_)
      | (with_reducible refine LeO.bind ?_ (fun _ => ?_))
      | exact slices_Index_string_string.mono _ _ _
      | exact LeO.none _
      | refine LeO.ite ?_ ?_
      | refine LeO.bind ?_ (fun _ => ?_)
/-! ### tx_Fits: function 46 -/
def tx_Fits.l0 : Nat → List ByteArray → List ByteArray → Int → Int → Int → ByteArray → ByteArray → Int → Int → ByteArray → ByteArray → List ByteArray → List ByteArray → Option (Bool)
  | 0, _, _, _, _, _, _, _, _, _, _, _, _, _ => none
  | k + 1, x3, x8, x9, x10, x104000, x104001, x104002, x104003, x104004, x104005, x104006, x104007, x104008 => if x10 < x9 then (if 0 ≤ x10 then (if x10 < (x8.length : Int) then ((slices_Contains_string_string.f k x104008 (rdOf ByteArray.empty x8 x10)).bind fun t108 => (if t108 = true then (tx_Fits.l0 k x3 x8 x9 (wrap64 (x10 + 1)) x104000 x104001 x104002 x104003 x104004 x104005 x104006 x104007 x104008) else (some false))) else (none)) else (none)) else (some (decide ((x3.length : Int) > 0)))
def tx_Fits.f (k : Nat) (a0_0 : Int) (a0_1 : ByteArray) (a0_2 : ByteArray) (a0_3 : Int) (a0_4 : Int) (a0_5 : ByteArray) (a0_6 : ByteArray) (l0_7 : List ByteArray) (l0_8 : List ByteArray) : Option (Bool) := (tx_Needs.f a0_0 a0_1 a0_2 a0_3 a0_4 a0_5 a0_6 l0_7 l0_8).bind fun t104 => (tx_Fits.l0 k t104 t104 (t104.length : Int) 0 a0_0 a0_1 a0_2 a0_3 a0_4 a0_5 a0_6 l0_7 l0_8)
theorem tx_Fits.mono_l : ∀ k, (∀ y0 y1 y2 y3 y4 y5 y6 y7 y8 y9 y10 y11 y12, LeO (tx_Fits.l0 k y0 y1 y2 y3 y4 y5 y6 y7 y8 y9 y10 y11 y12) (tx_Fits.l0 (k + 1) y0 y1 y2 y3 y4 y5 y6 y7 y8 y9 y10 y11 y12))
  | 0 => fun _ _ _ _ _ _ _ _ _ _ _ _ _ r h => by simp [tx_Fits.l0] at h
  | k + 1 => by
    have ih0 := tx_Fits.mono_l k
    · intro y0 y1 y2 y3 y4 y5 y6 y7 y8 y9 y10 y11 y12
      unfold tx_Fits.l0
      repeat' first
      | (with_reducible exact ih0 _ _ _ _ _ _ _ _ _ _ _ _ _)
      | (with_reducible exact slices_Contains_string_string.mono _ _ _)
      | (with_reducible exact LeO.refl _)
      | (with_reducible exact LeO.none _)
      | (with_reducible refine LeO.ite ?_ ?_)
      | (with_reducible refine LeO.bind ?_ (fun _ => ?_))
      | exact ih0 _ _ _ _ _ _ _ _ _ _ _ _ _
      | exact slices_Contains_string_string.mono _ _ _
      | exact LeO.none _
      | refine LeO.ite ?_ ?_
      | refine LeO.bind ?_ (fun _ => ?_)
theorem tx_Fits.mono : ∀ a0 a1 a2 a3 a4 a5 a6 a7 a8 k, LeO (tx_Fits.f k a0 a1 a2 a3 a4 a5 a6 a7 a8) (tx_Fits.f (k + 1) a0 a1 a2 a3 a4 a5 a6 a7 a8) := by
  intro a0 a1 a2 a3 a4 a5 a6 a7 a8 k
  have ih0 := tx_Fits.mono_l k
  unfold tx_Fits.f
  repeat' first
      | (with_reducible exact ih0 _ _ _ _ _ _ _ _ _ _ _ _ _)
      | (with_reducible exact slices_Contains_string_string.mono _ _ _)
      | (with_reducible exact LeO.refl _)
      | (with_reducible exact LeO.none _)
      | (with_reducible refine LeO.ite ?_ ?_)
      | (with_reducible refine LeO.bind ?_ (fun _ => ?_))
      | exact ih0 _ _ _ _ _ _ _ _ _ _ _ _ _
      | exact slices_Contains_string_string.mono _ _ _
      | exact LeO.none _
      | refine LeO.ite ?_ ?_
      | refine LeO.bind ?_ (fun _ => ?_)
end Go.Proofs.YtndicjikjcifaaaDoor.PFt

/- tx.Fits: what is needed is declared. -/
namespace Go.Proofs.YtndicjikjcifaaaDoor
open Go.RowKit Go.Shelf Go.Lib Go.Proofs.YtndicjikjcifaaaDoorW.PrintWords Go.Proofs.YtndicjikjcifaaaDoorW.PrintLast
open Go.Proofs.YtndicjikjcifaaaDoor.PFt
set_option linter.unusedVariables false
set_option linter.unusedSimpArgs false
end Go.Proofs.YtndicjikjcifaaaDoor
/- tusklaw04.pay, works: one transaction that is as it should be. -/
namespace Go.Proofs.YtndicjikjcifaaaDoor
open Go.RowKit Go.Shelf Go.Lib Go.Proofs.YtndicjikjcifaaaDoorW.PrintWords Go.Proofs.YtndicjikjcifaaaDoorW.PrintLast
set_option linter.unusedVariables false
set_option linter.unusedSimpArgs false
end Go.Proofs.YtndicjikjcifaaaDoor

/- Numbers, texts and lists as bytes: what is written is read; what is read was written so. -/
namespace Go.Proofs.YtndicjikjcifaaaDoor
open Go.RowKit Go.Shelf Go.Lib Go.Proofs.YtndicjikjcifaaaDoorW.PrintWords Go.Proofs.YtndicjikjcifaaaDoorW.PrintLast
set_option linter.unusedVariables false
set_option linter.unusedSimpArgs false
theorem ib_eq {n : Int} (h0 : 0 ≤ n) (h1 : n ≤ 4611686018427387903) : ib n = strOfNums (vints n.toNat) := by
  rw [ib, if_neg (by omega)]
theorem ba_eq {a b : ByteArray} (h : a.data.toList = b.data.toList) : a = b := ByteArray.ext (Array.toList_inj.1 h)
theorem ba_app (a b : ByteArray) : (a ++ b).data.toList = a.data.toList ++ b.data.toList := by simp
theorem ba_assoc (a b c : ByteArray) : a ++ b ++ c = a ++ (b ++ c) := ByteArray.append_assoc
def tbsB (xs : List ByteArray) : ByteArray := ⟨(tbs xs).toArray⟩
theorem tbsB_nil : tbsB [] = ⟨#[]⟩ := rfl
theorem tbsB_cons (x : ByteArray) (xs : List ByteArray) : tbsB (x :: xs) = tb x ++ tbsB xs := by
  apply ba_eq
  rw [ba_app]
  rfl
theorem lb_eq (xs : List ByteArray) : lb xs = ib xs.length ++ tbsB xs := by
  apply ba_eq
  rw [ba_app]
  rfl
theorem ba_nil' (a : ByteArray) : a ++ (⟨#[]⟩ : ByteArray) = a := by
  apply ba_eq
  rw [ba_app]
  exact List.append_nil _
theorem encB_eq (k : Int) (f t : ByteArray) (am nc : Int) (ky' vl : ByteArray) (rs ws : List ByteArray) :
    encB k f t am nc ky' vl rs ws = ib k ++ (tb f ++ (tb t ++ (ib am ++ (ib nc ++ (tb ky' ++ (tb vl ++ (lb rs ++ lb ws))))))) := by
  apply ba_eq
  simp only [ba_app]
  unfold encB
  rw [join_nil]
  simp [encL]
end Go.Proofs.YtndicjikjcifaaaDoor

namespace Go.Proofs.YtndicjikjcifaaaDoor.PRi
open Go.RowKit Go.Proofs.YtndicjikjcifaaaDoorW.PrintWords Go.Proofs.YtndicjikjcifaaaDoorW.PrintLast Go.Proofs.YtndicjikjcifaaaDoorW.PrintMore
attribute [local go_sem] max2_int min2_int max_two min_two max_three min_three max_four min_four   -- for this text's walks alone
set_option linter.unusedVariables false
set_option linter.unusedSimpArgs false
def errW : Option Int → Value
  | none => .nilIface
  | some c => .iface 0 (.int .i64 c)
theorem errW_none : errW none = .nilIface := rfl
theorem errW_some (c : Int) : errW (some c) = .iface 0 (.int .i64 c) := rfl
-- the values' own types
end Go.Proofs.YtndicjikjcifaaaDoor.PRi

namespace Go.Proofs.YtndicjikjcifaaaDoor.PRi
open Go.RowKit Go.Proofs.YtndicjikjcifaaaDoorW.PrintWords Go.Proofs.YtndicjikjcifaaaDoorW.PrintLast Go.Proofs.YtndicjikjcifaaaDoorW.PrintMore
attribute [local go_sem] max2_int min2_int max_two min_two max_three min_three max_four min_four   -- for this text's walks alone
set_option linter.unusedVariables false
set_option linter.unusedSimpArgs false
/-! ### tuskref01_Int: function 64 -/
mutual
def tuskref01_Int.j0 : Nat → Int → Bool → Option (ByteArray)
  | 0, _, _ => none
  | k + 1, x0, x8 => if x8 = true then (some (⟨#[]⟩ : ByteArray)) else (if x0 < 128 then (some (strOfNums (([(x0) % 256] : List Int)))) else ((some (([(wrap64 (128 + (Int.tmod x0 128))) % 256] : List Int) : List Int)).bind fun y104 => ((tuskref01_Int.f k (wrap64 (Int.tdiv x0 128))).bind fun t107 => (if (strOfNums y104).size + t107.size ≤ 9223372036854775807 then (some ((strOfNums y104) ++ t107)) else (none)))))
def tuskref01_Int.f : Nat → Int → Option (ByteArray)
  | 0, _ => none
  | k + 1, a0 => if a0 < 0 then (tuskref01_Int.j0 k a0 true) else (tuskref01_Int.j0 k a0 (decide (a0 > 4611686018427387903)))
end
theorem tuskref01_Int.mono_l : ∀ k, (∀ y0, LeO (tuskref01_Int.f k y0) (tuskref01_Int.f (k + 1) y0)) ∧ (∀ y0 y1, LeO (tuskref01_Int.j0 k y0 y1) (tuskref01_Int.j0 (k + 1) y0 y1))
  | 0 => ⟨fun _ r h => by simp [tuskref01_Int.f] at h, fun _ _ r h => by simp [tuskref01_Int.j0] at h⟩
  | k + 1 => by
    obtain ⟨ih0, ih1⟩ := tuskref01_Int.mono_l k
    refine ⟨?_, ?_⟩
    · intro y0
      unfold tuskref01_Int.f
      repeat' first
      | (with_reducible exact ih0 _)
      | (with_reducible exact ih1 _ _)
      | (with_reducible exact LeO.refl _)
      | (with_reducible exact LeO.none _)
      | (with_reducible refine LeO.ite ?_ ?_)
      | (with_reducible refine LeO.bind ?_ (fun _ => ?_))
      | exact ih0 _
      | exact ih1 _ _
      | exact LeO.none _
      | refine LeO.ite ?_ ?_
      | refine LeO.bind ?_ (fun _ => ?_)
    · intro y0 y1
      unfold tuskref01_Int.j0
      repeat' first
      | (with_reducible exact ih0 _)
      | (with_reducible exact ih1 _ _)
      | (with_reducible exact LeO.refl _)
      | (with_reducible exact LeO.none _)
      | (with_reducible refine LeO.ite ?_ ?_)
      | (with_reducible refine LeO.bind ?_ (fun _ => ?_))
      | exact ih0 _
      | exact ih1 _ _
      | exact LeO.none _
      | refine LeO.ite ?_ ?_
      | refine LeO.bind ?_ (fun _ => ?_)
theorem tuskref01_Int.mono : ∀ a0 k, LeO (tuskref01_Int.f k a0) (tuskref01_Int.f (k + 1) a0) := by
  intro a0 k
  obtain ⟨ih0, ih1⟩ := tuskref01_Int.mono_l k
  exact ih0 a0
def tuskref01_Int.T5 : Bool × List (List Nat × List Nat) := (true, [([], []), ([0], [0]), ([1], [1]), ([2], [2]), ([3], [3]), ([4], [4]), ([], []), ([6], [6]), ([7], [7]), ([5, 8], [5, 8]), ([9, 8, 0, 1, 2, 3, 4, 5, 6, 7, 8, 9], [9])])
def tuskref01_Int.B5 : List Nat := [0, 1, 3, 7, 15, 31, 0, 64, 192, 511, 1023]
theorem tuskref01_Int.tab5 : rtab .any (opsOf Tryd.f64 5) = tuskref01_Int.T5 := by kernel_rfl
theorem tuskref01_Int.bits5 : waitsOk tuskref01_Int.T5.2 tuskref01_Int.B5 = true := by kernel_rfl
set_option maxHeartbeats 8000000 in
set_option maxRecDepth 100000 in
theorem tuskref01_Int.calls (k : Nat) : ∀ (a0 : Int) (r : ByteArray) (w : World) (h : tuskref01_Int.f k a0 = some r),
    Calls Tryd.prog 64 #[.int .i64 a0] w fun e w' => e = .returned (.string r) ∧ Below w.heap.size w w' := by
  induction k using Nat.strongRecOn with
  | _ k ih =>
  intro a0 r w h
  cases k with
  | zero => exact absurd h (by simp [tuskref01_Int.f])
  | succ k =>
  simp only [tuskref01_Int.f] at h
  have HB := Aside0.mk (Below.refl w.heap.size w)
  have H : (if a0 < 0 then (tuskref01_Int.j0 k a0 true) else (tuskref01_Int.j0 k a0 (decide (a0 > 4611686018427387903)))) = some r := h
  clear h
  have HC2 := Aside0.mk H
  clear H
  go_enter Tryd.func64, Tryd.ntmps64
  go_upto_region 1 with (fail)
  go_cut [8] (fun v8 wc => ∃ (kq : Nat) (x8_1 : Bool), v8 = .bool x8_1 ∧ Aside0 (tuskref01_Int.j0 kq a0 x8_1 = some r) ∧ Aside0 (kq ≤ k) ∧ Aside0 (Below w.heap.size w wc))
  case first =>
    have H := HC2.out
    clear HC2
    by_cases c3 : a0 < 0
    · rw [if_pos c3] at H
      have c3b0 : decide (a0 < 0) = true := decide_eq_true c3
      clear c3
      (first | rw [c3b0] | (simp only [i64_w, i32_w]; rw [c3b0]) | skip)
      have H' := Aside0.mk H
      clear H
      go_wp2
      go_meet
      case rel => exact ⟨_, (true), (by first | rfl | (simp; done) | (simp [*]; done)), H', ⟨by first | omega | exact Nat.le_refl _⟩, ⟨by repeat (first | (with_reducible first | exact HB.out | apply below_alloc | apply pw_below_drewN | apply below_drew1) | exact HB.out)⟩⟩
    · rw [if_neg c3] at H
      have c3b0 : decide (a0 < 0) = false := decide_eq_false c3
      clear c3
      (first | rw [c3b0] | (simp only [i64_w, i32_w]; rw [c3b0]) | skip)
      have H' := Aside0.mk H
      clear H
      go_wp2
      go_meet
      case rel => exact ⟨_, (decide (a0 > 4611686018427387903)), (by first | rfl | (simp; done) | (simp [*]; done)), H', ⟨by first | omega | exact Nat.le_refl _⟩, ⟨by repeat (first | (with_reducible first | exact HB.out | apply below_alloc | apply pw_below_drewN | apply below_drew1) | exact HB.out)⟩⟩
  case rest =>
    clear HC2
    try clear p2
    try clear c3
    try clear c3b0
    obtain ⟨kq, x8_1, rfl, HA, HJ1, HB⟩ := hcut
    cases kq with
    | zero => exact absurd HA.out (by simp [tuskref01_Int.j0])
    | succ kj1 =>
      have H := HA.out
      clear HA
      simp only [tuskref01_Int.j0] at H
      by_cases c4 : x8_1 = true
      · subst c4
        have H1 : (some (⟨#[]⟩ : ByteArray)) = some r := by rw [if_pos rfl] at H; exact H
        clear H
        have H := H1
        clear H1
        obtain rfl := Option.some.inj H
        go_wp2
        go_ret
        exact ⟨by first | rfl | (simp [errW_none, errW_some] <;> rfl) | (simp [*, errW_none, errW_some] <;> rfl), by repeat (first | (with_reducible first | exact HB.out | apply below_alloc | apply pw_below_drewN | apply below_drew1) | exact HB.out)⟩
      · replace c4 := Bool.eq_false_iff.mpr c4
        subst c4
        have H1 : (if a0 < 128 then (some (strOfNums (([(a0) % 256] : List Int)))) else ((some (([(wrap64 (128 + (Int.tmod a0 128))) % 256] : List Int) : List Int)).bind fun y104 => ((tuskref01_Int.f kj1 (wrap64 (Int.tdiv a0 128))).bind fun t107 => (if (strOfNums y104).size + t107.size ≤ 9223372036854775807 then (some ((strOfNums y104) ++ t107)) else (none))))) = some r := by rw [if_neg (show ¬ (false = true) by decide)] at H; exact H
        clear H
        have H := H1
        clear H1
        by_cases c5 : a0 < 128
        · rw [if_pos c5] at H
          have c5b0 : decide (a0 < 128) = true := decide_eq_true c5
          clear c5
          obtain ⟨y101, hy101⟩ : ∃ y_ : List Int, y_ = (([(a0) % 256] : List Int)) := ⟨_, rfl⟩
          replace H : (some (strOfNums y101)) = some r := by first | (rw [hy101]; with_reducible exact H) | (have H2_ := (Option.bind_some _ _).symm.trans H; rw [hy101]; with_reducible exact H2_) | (have H2_ := (Option.bind_some _ _).symm.trans H; with_reducible exact H2_) | with_reducible exact H | (rw [hy101]; exact H) | exact H
          have Ny101 := Aside0.mk hy101
          clear hy101
          obtain rfl := Option.some.inj H
          go_wp2_with (first | ((with_reducible refine gate_dst (N := 13) rfl ?_); refine Kd.R_lit (Kd.int .u8) _ 5 ?hg (N := 13) ?hd (xs := ([(a0) % 256] : List Int)) (inner := [.int .u8 ((a0) % 256)]) (ok := fun _ => True) (okp := fun _ => True) ?hr ?hp (fun _ hk => hk) trivial (Below.refl _ _) (Nat.le_refl _) (by simp) ?_; (case hd => rfl); (case hg => rfl); (case hr => first | (go_simp; done) | (go_simp; rfl)); (case hp => exact (Reps.one (show Kd.M (Kd.int .u8) _ _ _ ((a0) % 256) [.int .u8 ((a0) % 256)] from rfl) (Reps.none _ _))); intro v102 w6 ho7 hb hg_ hnew_; clear hg_ hnew_; (first | rw [← Ny101.out] at ho7 | (simp only [Int.reduceToNat] at ho7; rw [← Ny101.out] at ho7)); have n0_ := Aside0.mk (Kd.R_lower ho7 (below_size (by repeat (first | (with_reducible first | exact HB.out | apply below_alloc | apply pw_below_drewN | apply below_drew1) | exact HB.out)))); have n1_ := Aside0.mk (below_step (by repeat (first | (with_reducible first | exact HB.out | apply below_alloc | apply pw_below_drewN | apply below_drew1) | exact HB.out)) hb); clear HB; have HO103 := n0_; have HB := n1_; clear n0_ n1_; clear hb ho7; have hcv8 := own_string (P := Tryd.prog) Tryd.underlying104 Tryd.underlying5 Tryd.underlying9 (Kd.own_of_R HO103.out)))
          go_ret
          exact ⟨by first | rfl | (simp [errW_none, errW_some] <;> rfl) | (simp [*, errW_none, errW_some] <;> rfl), by repeat (first | (with_reducible first | exact HB.out | apply below_alloc | apply pw_below_drewN | apply below_drew1) | exact HB.out)⟩
        · rw [if_neg c5] at H
          have c5b0 : decide (a0 < 128) = false := decide_eq_false c5
          clear c5
          obtain ⟨y104, hy104⟩ : ∃ y_ : List Int, y_ = (([(wrap64 (128 + (Int.tmod a0 128))) % 256] : List Int)) := ⟨_, rfl⟩
          replace H : ((tuskref01_Int.f kj1 (wrap64 (Int.tdiv a0 128))).bind fun t107 => (if (strOfNums y104).size + t107.size ≤ 9223372036854775807 then (some ((strOfNums y104) ++ t107)) else (none))) = some r := by first | (rw [hy104]; with_reducible exact H) | (have H2_ := (Option.bind_some _ _).symm.trans H; rw [hy104]; with_reducible exact H2_) | (have H2_ := (Option.bind_some _ _).symm.trans H; with_reducible exact H2_) | with_reducible exact H | (rw [hy104]; exact H) | exact H
          have Ny104 := Aside0.mk hy104
          clear hy104
          replace H := Option.bind_eq_some_iff.mp H
          obtain ⟨t107, A90, H⟩ := H
          replace H : (if (strOfNums y104).size + t107.size ≤ 9223372036854775807 then (some ((strOfNums y104) ++ t107)) else (none)) = some r := H
          have A9 := Aside0.mk A90
          clear A90
          by_cases c10 : (strOfNums y104).size + t107.size ≤ 9223372036854775807
          · rw [if_pos c10] at H
            have c10b0 := eq_true c10
            have c10b1 : decide ((strOfNums y104).size + t107.size ≤ 9223372036854775807) = true := decide_eq_true c10
            try have c10b2 : (9223372036854775807 < (strOfNums y104).size + t107.size) = False := eq_false (Nat.not_lt.2 c10)
            obtain rfl := Option.some.inj H
            try go_wp2
            have n0_ := Aside0.mk (below_drew1 HB.out)
            clear HB
            have HB := n0_
            clear n0_
            refine start_ (n := 11) (S := fun w' => True) (ds := []) #[false, false, false, false, false, false, false, false, false, false, false] (by kernel_rfl) rfl rfl trivial (fun hHeld => ?_); refine with_tabW tuskref01_Int.tab5 tuskref01_Int.bits5 (fun HT_ HW_ => ?_)
            generalize wc.drew = w11 at HB hHeld ⊢
            refine pure_ (i := 0) (N := some 15) (v := ?_) (a' := ?_) #[true, false, false, false, false, false, false, false, false, false, false] rfl rfl (any_of HT_.out (by kernel_rfl)) (fun _ _ _ h => h) (Or.inl ⟨by rfl, ?_⟩) ?_ ?_
            rotate_left
            · intro w'
              go_simp
              with_reducible rfl
            rotate_left
            · simp only [Act.put, List.setIfInBounds_toArray, List.set_cons_zero, List.set_cons_succ, i64_w, i32_w]
              rfl
            refine pure_ (i := 1) (N := some 16) (v := ?_) (a' := ?_) #[true, true, false, false, false, false, false, false, false, false, false] rfl rfl (any_of HT_.out (by kernel_rfl)) (fun _ _ _ h => h) (Or.inl ⟨by rfl, ?_⟩) ?_ ?_
            rotate_left
            · intro w'
              go_simp
              with_reducible rfl
            rotate_left
            · simp only [Act.put, List.setIfInBounds_toArray, List.set_cons_zero, List.set_cons_succ, i64_w, i32_w]
              rfl
            refine pure_ (i := 2) (N := some 17) (v := ?_) (a' := ?_) #[true, true, true, false, false, false, false, false, false, false, false] rfl rfl (any_of HT_.out (by kernel_rfl)) (fun _ _ _ h => h) (Or.inl ⟨by rfl, ?_⟩) ?_ ?_
            rotate_left
            · intro w'
              go_simp
              with_reducible rfl
            rotate_left
            · simp only [Act.put, List.setIfInBounds_toArray, List.set_cons_zero, List.set_cons_succ, i64_w, i32_w]
              rfl
            refine pure_ (i := 3) (N := some 18) (v := ?_) (a' := ?_) #[true, true, true, true, false, false, false, false, false, false, false] rfl rfl (any_of HT_.out (by kernel_rfl)) (fun _ _ _ h => h) (Or.inl ⟨by rfl, ?_⟩) ?_ ?_
            rotate_left
            · intro w'
              go_simp
              with_reducible rfl
            rotate_left
            · simp only [Act.put, List.setIfInBounds_toArray, List.set_cons_zero, List.set_cons_succ, i64_w, i32_w]
              rfl
            refine pure_ (i := 6) (N := some 21) (v := ?_) (a' := ?_) #[true, true, true, true, false, false, true, false, false, false, false] rfl rfl (any_of HT_.out (by kernel_rfl)) (fun _ _ _ h => h) (Or.inl ⟨by rfl, ?_⟩) ?_ ?_
            rotate_left
            · intro w'
              go_simp
              with_reducible rfl
            rotate_left
            · simp only [Act.put, List.setIfInBounds_toArray, List.set_cons_zero, List.set_cons_succ, i64_w, i32_w]
              rfl
            refine pure_ (i := 7) (N := some 22) (v := ?_) (a' := ?_) #[true, true, true, true, false, false, true, true, false, false, false] rfl rfl (any_of HT_.out (by kernel_rfl)) (fun _ _ _ h => h) (Or.inl ⟨by rfl, ?_⟩) ?_ ?_
            rotate_left
            · intro w'
              go_simp
              with_reducible rfl
            rotate_left
            · simp only [Act.put, List.setIfInBounds_toArray, List.set_cons_zero, List.set_cons_succ, i64_w, i32_w]
              rfl
            refine join_ (σ := Value) 2 #[true, true, true, true, true, true, true, true, true, false, false] (fun s_ => [(19, s_), (20, .string (strOfNums y104)), (23, .string t107)]) (fun s_ w' => (Kd.R (Kd.int .u8) 5 w' w.heap.size (fun _ => True) s_ y104) ∧ (Below w.heap.size w w')) ?_ ?_
            rotate_left
            · intro hCont
              refine two_ (i := 4) (j := 8) (Ni := some 19) (Nj := some 23) #[true, true, true, true, true, false, true, true, false, false, false] #[true, true, true, true, false, false, true, true, true, false, false] rfl rfl rfl rfl (two_of HT_.out (by kernel_rfl)) (by decide) (by decide) (fun K hK => ?_) (fun K hK => ?_)
              · skip
                refine Kd.R_lit_step (Kd.int .u8) _ 5 ?hg (N := 19) ?hd (xs := ([(wrap64 (128 + (Int.tmod a0 128))) % 256] : List Int)) (inner := [.int .u8 ((wrap64 (128 + (Int.tmod a0 128))) % 256)]) (ok := fun _ => True) (okp := fun _ => True) ?hr ?hp (fun _ hk => hk) trivial (Below.refl _ _) (Nat.le_refl _) (by simp) ?_; (case hd => rfl); (case hg => rfl); (case hr => first | (go_simp; done) | (go_simp; rfl)); (case hp => exact (Reps.one (show Kd.M (Kd.int .u8) _ _ _ ((wrap64 (128 + (Int.tmod a0 128))) % 256) [.int .u8 ((wrap64 (128 + (Int.tmod a0 128))) % 256)] from rfl) (Reps.none _ _)))
                intro v105 w12 ho13 hb hg_ hnew_
                clear hg_ hnew_
                (first | rw [← Ny104.out] at ho13 | (simp only [Int.reduceToNat] at ho13; rw [← Ny104.out] at ho13))
                have n0_ := Aside0.mk (Kd.R_lower ho13 (below_size (by repeat (first | (with_reducible first | exact HB.out | apply below_alloc | apply pw_below_drewN | apply below_drew1) | exact HB.out))))
                have n1_ := Aside0.mk (below_step (by repeat (first | (with_reducible first | exact HB.out | apply below_alloc | apply pw_below_drewN | apply below_drew1) | exact HB.out)) hb)
                clear HB
                have HO106 := n0_
                have HB := n1_
                clear n0_ n1_
                clear hb ho13
                refine hK.out _ _ trivial (fun hHeld => ?_)
                clear hK K
                refine norm_ (a' := ?_) ?_ ?_
                rotate_left
                · show Act.put _ (some 19) _ = _
                  simp only [Act.put, List.setIfInBounds_toArray, List.set_cons_zero, List.set_cons_succ, i64_w, i32_w]
                  rfl
                refine two_ (i := 5) (j := 8) (Ni := some 20) (Nj := some 23) #[true, true, true, true, true, true, true, true, false, false, false] #[true, true, true, true, true, false, true, true, true, false, false] rfl rfl rfl rfl (two_of HT_.out (by kernel_rfl)) (by decide) (by decide) (fun K hK => ?_) (fun K hK => ?_)
                · skip
                  have hcv14 := own_string (P := Tryd.prog) Tryd.underlying104 Tryd.underlying5 Tryd.underlying9 (Kd.own_of_R HO106.out)
                  refine value_ (w1 := ?_) (v := ?_) (by rfl) rfl ?_ ?_
                  rotate_left 2
                  · go_simp
                    constructor
                    · rfl
                    · rfl
                  clear hcv14
                  refine hK.out _ _ trivial (fun hHeld => ?_)
                  clear hK K
                  refine norm_ (a' := ?_) ?_ ?_
                  rotate_left
                  · show Act.put _ (some 20) _ = _
                    simp only [Act.put, List.setIfInBounds_toArray, List.set_cons_zero, List.set_cons_succ, i64_w, i32_w]
                    rfl
                  refine one_ (i := 8) (N := some 23) #[true, true, true, true, true, true, true, true, true, false, false] rfl rfl (one_of HT_.out (by kernel_rfl)) (by decide) (fun K hK => ?_)
                  refine goes_ Tryd.func64 (by kernel_rfl) rfl #[.int .i64 (wrap64 (Int.tdiv a0 128))] (by rfl) rfl rfl (by (try simp only [List.map_toArray, List.map_cons, List.map_nil]); first | done | rfl | (simp only [List.length_drop, List.length_take]; rfl)) ?_
                  with_reducible refine (ih kj1 (by have := HJ1.out; omega) (wrap64 (Int.tdiv a0 128)) t107 _ A9.out).mono ?_
                  rintro e w15 ⟨rfl, hb⟩
                  refine ⟨_, rfl, ?_⟩
                  have n0_ := Aside0.mk (Kd.R_below (by (with_reducible repeat (first | apply Kd.R_alloc | apply Kd.R_drewN | apply Kd.R_drew)); exact HO106.out) hb)
                  have n1_ := Aside0.mk (below_step (by repeat (first | (with_reducible first | exact HB.out | apply below_alloc | apply pw_below_drewN | apply below_drew1) | exact HB.out)) hb)
                  clear HO106
                  clear HB
                  have HO106 := n0_
                  have HB := n1_
                  clear n0_ n1_
                  (try clear hb)
                  (try clear hb2)
                  (try clear hk)
                  (try clear hi)
                  refine hK.out _ _ trivial (fun hHeld => ?_)
                  clear hK K
                  refine norm_ (a' := ?_) ?_ ?_
                  rotate_left
                  · show Act.put _ (some 23) _ = _
                    simp only [Act.put, List.setIfInBounds_toArray, List.set_cons_zero, List.set_cons_succ, i64_w, i32_w]
                    rfl
                  exact norm_ (by simp only [putAll, Act.put, List.setIfInBounds_toArray, List.set_cons_zero, List.set_cons_succ]) (hCont (v105) _ ⟨(by (with_reducible repeat (first | apply Kd.R_alloc | apply Kd.R_drewN | apply Kd.R_drew)); exact HO106.out), (by repeat (first | (with_reducible first | exact HB.out | apply below_alloc | apply pw_below_drewN | apply below_drew1) | exact HB.out))⟩)
                · skip
                  refine goes_ Tryd.func64 (by kernel_rfl) rfl #[.int .i64 (wrap64 (Int.tdiv a0 128))] (by rfl) rfl rfl (by (try simp only [List.map_toArray, List.map_cons, List.map_nil]); first | done | rfl | (simp only [List.length_drop, List.length_take]; rfl)) ?_
                  with_reducible refine (ih kj1 (by have := HJ1.out; omega) (wrap64 (Int.tdiv a0 128)) t107 _ A9.out).mono ?_
                  rintro e w14 ⟨rfl, hb⟩
                  refine ⟨_, rfl, ?_⟩
                  have n0_ := Aside0.mk (Kd.R_below (by (with_reducible repeat (first | apply Kd.R_alloc | apply Kd.R_drewN | apply Kd.R_drew)); exact HO106.out) hb)
                  have n1_ := Aside0.mk (below_step (by repeat (first | (with_reducible first | exact HB.out | apply below_alloc | apply pw_below_drewN | apply below_drew1) | exact HB.out)) hb)
                  clear HO106
                  clear HB
                  have HO106 := n0_
                  have HB := n1_
                  clear n0_ n1_
                  (try clear hb)
                  (try clear hb2)
                  (try clear hk)
                  (try clear hi)
                  refine hK.out _ _ trivial (fun hHeld => ?_)
                  clear hK K
                  refine norm_ (a' := ?_) ?_ ?_
                  rotate_left
                  · show Act.put _ (some 23) _ = _
                    simp only [Act.put, List.setIfInBounds_toArray, List.set_cons_zero, List.set_cons_succ, i64_w, i32_w]
                    rfl
                  refine one_ (i := 5) (N := some 20) #[true, true, true, true, true, true, true, true, true, false, false] rfl rfl (one_of HT_.out (by kernel_rfl)) (by decide) (fun K hK => ?_)
                  have hcv15 := own_string (P := Tryd.prog) Tryd.underlying104 Tryd.underlying5 Tryd.underlying9 (Kd.own_of_R HO106.out)
                  refine value_ (w1 := ?_) (v := ?_) (by rfl) rfl ?_ ?_
                  rotate_left 2
                  · go_simp
                    constructor
                    · rfl
                    · rfl
                  clear hcv15
                  refine hK.out _ _ trivial (fun hHeld => ?_)
                  clear hK K
                  refine norm_ (a' := ?_) ?_ ?_
                  rotate_left
                  · show Act.put _ (some 20) _ = _
                    simp only [Act.put, List.setIfInBounds_toArray, List.set_cons_zero, List.set_cons_succ, i64_w, i32_w]
                    rfl
                  exact norm_ (by simp only [putAll, Act.put, List.setIfInBounds_toArray, List.set_cons_zero, List.set_cons_succ]) (hCont (v105) _ ⟨(by (with_reducible repeat (first | apply Kd.R_alloc | apply Kd.R_drewN | apply Kd.R_drew)); exact HO106.out), (by repeat (first | (with_reducible first | exact HB.out | apply below_alloc | apply pw_below_drewN | apply below_drew1) | exact HB.out))⟩)
              · skip
                refine goes_ Tryd.func64 (by kernel_rfl) rfl #[.int .i64 (wrap64 (Int.tdiv a0 128))] (by rfl) rfl rfl (by (try simp only [List.map_toArray, List.map_cons, List.map_nil]); first | done | rfl | (simp only [List.length_drop, List.length_take]; rfl)) ?_
                with_reducible refine (ih kj1 (by have := HJ1.out; omega) (wrap64 (Int.tdiv a0 128)) t107 _ A9.out).mono ?_
                rintro e w12 ⟨rfl, hb⟩
                refine ⟨_, rfl, ?_⟩
                have n0_ := Aside0.mk (below_step (by repeat (first | (with_reducible first | exact HB.out | apply below_alloc | apply pw_below_drewN | apply below_drew1) | exact HB.out)) hb)
                clear HB
                have HB := n0_
                clear n0_
                (try clear hb)
                (try clear hb2)
                (try clear hk)
                (try clear hi)
                refine hK.out _ _ trivial (fun hHeld => ?_)
                clear hK K
                refine norm_ (a' := ?_) ?_ ?_
                rotate_left
                · show Act.put _ (some 23) _ = _
                  simp only [Act.put, List.setIfInBounds_toArray, List.set_cons_zero, List.set_cons_succ, i64_w, i32_w]
                  rfl
                refine one_ (i := 4) (N := some 19) #[true, true, true, true, true, false, true, true, true, false, false] rfl rfl (one_of HT_.out (by kernel_rfl)) (by decide) (fun K hK => ?_)
                refine Kd.R_lit_step (Kd.int .u8) _ 5 ?hg (N := 19) ?hd (xs := ([(wrap64 (128 + (Int.tmod a0 128))) % 256] : List Int)) (inner := [.int .u8 ((wrap64 (128 + (Int.tmod a0 128))) % 256)]) (ok := fun _ => True) (okp := fun _ => True) ?hr ?hp (fun _ hk => hk) trivial (Below.refl _ _) (Nat.le_refl _) (by simp) ?_; (case hd => rfl); (case hg => rfl); (case hr => first | (go_simp; done) | (go_simp; rfl)); (case hp => exact (Reps.one (show Kd.M (Kd.int .u8) _ _ _ ((wrap64 (128 + (Int.tmod a0 128))) % 256) [.int .u8 ((wrap64 (128 + (Int.tmod a0 128))) % 256)] from rfl) (Reps.none _ _)))
                intro v105 w13 ho14 hb hg_ hnew_
                clear hg_ hnew_
                (first | rw [← Ny104.out] at ho14 | (simp only [Int.reduceToNat] at ho14; rw [← Ny104.out] at ho14))
                have n0_ := Aside0.mk (Kd.R_lower ho14 (below_size (by repeat (first | (with_reducible first | exact HB.out | apply below_alloc | apply pw_below_drewN | apply below_drew1) | exact HB.out))))
                have n1_ := Aside0.mk (below_step (by repeat (first | (with_reducible first | exact HB.out | apply below_alloc | apply pw_below_drewN | apply below_drew1) | exact HB.out)) hb)
                clear HB
                have HO106 := n0_
                have HB := n1_
                clear n0_ n1_
                clear hb ho14
                refine hK.out _ _ trivial (fun hHeld => ?_)
                clear hK K
                refine norm_ (a' := ?_) ?_ ?_
                rotate_left
                · show Act.put _ (some 19) _ = _
                  simp only [Act.put, List.setIfInBounds_toArray, List.set_cons_zero, List.set_cons_succ, i64_w, i32_w]
                  rfl
                refine one_ (i := 5) (N := some 20) #[true, true, true, true, true, true, true, true, true, false, false] rfl rfl (one_of HT_.out (by kernel_rfl)) (by decide) (fun K hK => ?_)
                have hcv15 := own_string (P := Tryd.prog) Tryd.underlying104 Tryd.underlying5 Tryd.underlying9 (Kd.own_of_R HO106.out)
                refine value_ (w1 := ?_) (v := ?_) (by rfl) rfl ?_ ?_
                rotate_left 2
                · go_simp
                  constructor
                  · rfl
                  · rfl
                clear hcv15
                refine hK.out _ _ trivial (fun hHeld => ?_)
                clear hK K
                refine norm_ (a' := ?_) ?_ ?_
                rotate_left
                · show Act.put _ (some 20) _ = _
                  simp only [Act.put, List.setIfInBounds_toArray, List.set_cons_zero, List.set_cons_succ, i64_w, i32_w]
                  rfl
                exact norm_ (by simp only [putAll, Act.put, List.setIfInBounds_toArray, List.set_cons_zero, List.set_cons_succ]) (hCont (v105) _ ⟨(by (with_reducible repeat (first | apply Kd.R_alloc | apply Kd.R_drewN | apply Kd.R_drew)); exact HO106.out), (by repeat (first | (with_reducible first | exact HB.out | apply below_alloc | apply pw_below_drewN | apply below_drew1) | exact HB.out))⟩)
            rintro v105 w16 ⟨h0_, h1_⟩
            have n0_ : Aside0 (Kd.R (Kd.int .u8) 5 w16 w.heap.size (fun _ => True) v105 y104) := ⟨h0_⟩
            have n1_ : Aside0 (Below w.heap.size w w16) := ⟨h1_⟩
            clear HB
            clear h0_ h1_
            have HO106 := n0_
            have HB := n1_
            clear n0_ n1_
            have hHeld := trivial
            refine norm_ (a' := ?_) ?_ ?_
            rotate_left
            · simp only [putAll, Act.put, List.setIfInBounds_toArray, List.set_cons_zero, List.set_cons_succ]
              rfl
            refine pure_ (i := 9) (N := some 24) (v := ?_) (a' := ?_) #[true, true, true, true, true, true, true, true, true, true, false] rfl rfl (any_of HT_.out (by kernel_rfl)) (fun _ _ _ h => h) (Or.inl ⟨by rfl, ?_⟩) ?_ ?_
            rotate_left
            · intro w'
              go_simp
              with_reducible rfl
            rotate_left
            · simp only [Act.put, List.setIfInBounds_toArray, List.set_cons_zero, List.set_cons_succ, i64_w, i32_w]
              rfl
            refine pure_ (i := 10) (N := some 2) (v := ?_) (a' := ?_) #[true, true, true, true, true, true, true, true, true, true, true] rfl rfl (any_of HT_.out (by kernel_rfl)) (fun _ _ _ h => h) (Or.inl ⟨by rfl, ?_⟩) ?_ ?_
            rotate_left
            · intro w'
              go_simp
              with_reducible rfl
            rotate_left
            · simp only [Act.put, List.setIfInBounds_toArray, List.set_cons_zero, List.set_cons_succ, i64_w, i32_w]
              rfl
            refine done_ (done_of HT_.out (by kernel_rfl)) ?_
            try go_wp2
            go_ret
            exact ⟨by first | rfl | (simp [errW_none, errW_some] <;> rfl) | (simp [*, errW_none, errW_some] <;> rfl), by repeat (first | (with_reducible first | exact HB.out | apply below_alloc | apply pw_below_drewN | apply below_drew1) | exact HB.out)⟩
          · rw [if_neg c10] at H
            exact absurd H (by simp)
/-! ### tuskref01_Text: function 70 -/
def tuskref01_Text.f (k : Nat) (a0 : ByteArray) : Option (ByteArray) := (tuskref01_Int.f k (a0.size : Int)).bind fun t108 => (if t108.size + a0.size ≤ 9223372036854775807 then (some (t108 ++ a0)) else (none))
theorem tuskref01_Text.mono : ∀ a0 k, LeO (tuskref01_Text.f k a0) (tuskref01_Text.f (k + 1) a0) := by
  intro a0 k
  unfold tuskref01_Text.f
  repeat' first
      | (with_reducible exact tuskref01_Int.mono _ _)
      | (with_reducible exact LeO.refl _)
      | (with_reducible exact LeO.none _)
      | (with_reducible refine LeO.ite ?_ ?_)
      | (with_reducible refine LeO.bind ?_ (fun _ => ?_))
      | exact tuskref01_Int.mono _ _
      | exact LeO.none _
      | refine LeO.ite ?_ ?_
      | refine LeO.bind ?_ (fun _ => ?_)
set_option maxHeartbeats 8000000 in
set_option maxRecDepth 100000 in
theorem tuskref01_Text.calls (k : Nat) (a0 : ByteArray) (r : ByteArray) (w : World) (h : tuskref01_Text.f k a0 = some r) :
    Calls Tryd.prog 70 #[.string a0] w fun e w' => e = .returned (.string r) ∧ Below w.heap.size w w' := by
  have HB := Aside0.mk (Below.refl w.heap.size w)
  have H : ((tuskref01_Int.f k (a0.size : Int)).bind fun t108 => (if t108.size + a0.size ≤ 9223372036854775807 then (some (t108 ++ a0)) else (none))) = some r := h
  clear h
  replace H := Option.bind_eq_some_iff.mp H
  obtain ⟨t108, A20, H⟩ := H
  replace H : (if t108.size + a0.size ≤ 9223372036854775807 then (some (t108 ++ a0)) else (none)) = some r := H
  have A2 := Aside0.mk A20
  clear A20
  by_cases c3 : t108.size + a0.size ≤ 9223372036854775807
  · rw [if_pos c3] at H
    have c3b0 := eq_true c3
    have c3b1 : decide (t108.size + a0.size ≤ 9223372036854775807) = true := decide_eq_true c3
    try have c3b2 : (9223372036854775807 < t108.size + a0.size) = False := eq_false (Nat.not_lt.2 c3)
    obtain rfl := Option.some.inj H
    go_enter Tryd.func70, Tryd.ntmps70
    go_wp2_with (first | ((with_reducible refine gate_callee (f := 64) rfl ?_); refine goesL_ (some 5) rfl rfl Tryd.func64 (by kernel_rfl) rfl #[.int .i64 (a0.size : Int)] rfl (by (try simp only [List.map_toArray, List.map_cons, List.map_nil]); first | done | rfl | (simp only [List.length_drop, List.length_take]; rfl)) ?_; (with_reducible refine (tuskref01_Int.calls k (a0.size : Int) t108 _ A2.out).mono ?_); rintro e w4 ⟨rfl, hb⟩; refine ⟨_, rfl, ?_⟩; have n0_ := Aside0.mk (below_step (by repeat (first | (with_reducible first | exact HB.out | apply below_alloc | apply pw_below_drewN | apply below_drew1) | exact HB.out)) hb); clear HB; have HB := n0_; clear n0_; (try clear hb); (try clear hb2); (try clear hk); (try clear hi)))
    go_ret
    exact ⟨by first | rfl | (simp [errW_none, errW_some] <;> rfl) | (simp [*, errW_none, errW_some] <;> rfl), by repeat (first | (with_reducible first | exact HB.out | apply below_alloc | apply pw_below_drewN | apply below_drew1) | exact HB.out)⟩
  · rw [if_neg c3] at H
    exact absurd H (by simp)
/-! ### tuskref01_List: function 65 -/
def tuskref01_List.l0 : Nat → List ByteArray → ByteArray → Int → Option (ByteArray)
  | 0, _, _, _ => none
  | k + 1, x0, x3, x4 => if x4 < (x0.length : Int) then (if 0 ≤ x4 then ((tuskref01_Text.f k (rdOf ByteArray.empty x0 x4)).bind fun t111 => (if x3.size + t111.size ≤ 9223372036854775807 then (tuskref01_List.l0 k x0 (x3 ++ t111) (wrap64 (x4 + 1))) else (none))) else (none)) else (some x3)
def tuskref01_List.f (k : Nat) (l0 : List ByteArray) : Option (ByteArray) := (tuskref01_Int.f k (l0.length : Int)).bind fun t109 => (tuskref01_List.l0 k l0 t109 0)
theorem tuskref01_List.mono_l : ∀ k, (∀ y0 y1 y2, LeO (tuskref01_List.l0 k y0 y1 y2) (tuskref01_List.l0 (k + 1) y0 y1 y2))
  | 0 => fun _ _ _ r h => by simp [tuskref01_List.l0] at h
  | k + 1 => by
    have ih0 := tuskref01_List.mono_l k
    · intro y0 y1 y2
      unfold tuskref01_List.l0
      repeat' first
      | (with_reducible exact ih0 _ _ _)
      | (with_reducible exact tuskref01_Int.mono _ _)
      | (with_reducible exact tuskref01_Text.mono _ _)
      | (with_reducible exact LeO.refl _)
      | (with_reducible exact LeO.none _)
      | (with_reducible refine LeO.ite ?_ ?_)
      | (with_reducible refine LeO.bind ?_ (fun _ => ?_))
      | exact ih0 _ _ _
      | exact tuskref01_Int.mono _ _
      | exact tuskref01_Text.mono _ _
      | exact LeO.none _
      | refine LeO.ite ?_ ?_
      | refine LeO.bind ?_ (fun _ => ?_)
theorem tuskref01_List.mono : ∀ a0 k, LeO (tuskref01_List.f k a0) (tuskref01_List.f (k + 1) a0) := by
  intro a0 k
  have ih0 := tuskref01_List.mono_l k
  unfold tuskref01_List.f
  repeat' first
      | (with_reducible exact ih0 _ _ _)
      | (with_reducible exact tuskref01_Int.mono _ _)
      | (with_reducible exact tuskref01_Text.mono _ _)
      | (with_reducible exact LeO.refl _)
      | (with_reducible exact LeO.none _)
      | (with_reducible refine LeO.ite ?_ ?_)
      | (with_reducible refine LeO.bind ?_ (fun _ => ?_))
      | exact ih0 _ _ _
      | exact tuskref01_Int.mono _ _
      | exact tuskref01_Text.mono _ _
      | exact LeO.none _
      | refine LeO.ite ?_ ?_
      | refine LeO.bind ?_ (fun _ => ?_)
set_option maxHeartbeats 8000000 in
set_option maxRecDepth 100000 in
theorem tuskref01_List.calls (k : Nat) (A0 : Option Addr) (c0 : Nat) (l0 : List ByteArray) (r : ByteArray) (w : World) (hr0 : Kd.C Kd.string w A0 l0.length l0) (hc0 : l0.length ≤ c0) (h : tuskref01_List.f k l0 = some r) :
    Calls Tryd.prog 65 #[.slice A0 l0.length c0] w fun e w' => e = .returned (.string r) ∧ Below w.heap.size w w' := by
  have HR0 := Aside0.mk hr0
  have HC0 := Aside0.mk hc0
  clear hr0 hc0
  have HB := Aside0.mk (Below.refl w.heap.size w)
  have H : ((tuskref01_Int.f k (l0.length : Int)).bind fun t109 => (tuskref01_List.l0 k l0 t109 0)) = some r := h
  clear h
  replace H := Option.bind_eq_some_iff.mp H
  obtain ⟨t109, A20, H⟩ := H
  replace H : (tuskref01_List.l0 k l0 t109 0) = some r := H
  have A2 := Aside0.mk A20
  clear A20
  have H' := Aside0.mk H
  clear H
  go_enter Tryd.func65, Tryd.ntmps65
  go_wp2_with (first | ((with_reducible refine gate_callee (f := 64) rfl ?_); refine goesL_ (some 7) rfl rfl Tryd.func64 (by kernel_rfl) rfl #[.int .i64 (l0.length : Int)] rfl (by (try simp only [List.map_toArray, List.map_cons, List.map_nil]); first | done | rfl | (simp only [List.length_drop, List.length_take]; rfl)) ?_; (with_reducible refine (tuskref01_Int.calls k (l0.length : Int) t109 _ A2.out).mono ?_); rintro e w3 ⟨rfl, hb⟩; refine ⟨_, rfl, ?_⟩; have n0_ := Aside0.mk (below_step (by repeat (first | (with_reducible first | exact HB.out | apply below_alloc | apply pw_below_drewN | apply below_drew1) | exact HB.out)) hb); clear HB; have HB := n0_; clear n0_; (try clear hb); (try clear hb2); (try clear hk); (try clear hi)))
  go_loopg [3, 4] k (fun kq v3 v4 w' => ∃ (x3_1 : ByteArray) (x4_1 : Int), v3 = .string x3_1 ∧ v4 = .int .i64 x4_1 ∧ Aside0 (tuskref01_List.l0 kq l0 x3_1 x4_1 = some r) ∧ Aside0 (kq ≤ k) ∧ Aside0 (Below w.heap.size w w'))
  case atStart => exact ⟨(t109), (0), (by first | rfl | (simp; done) | (simp [*]; done)), (by first | rfl | (simp; done) | (simp [*]; done)), H', ⟨Nat.le_refl _⟩, ⟨by repeat (first | (with_reducible first | exact HB.out | apply below_alloc | apply pw_below_drewN | apply below_drew1) | exact HB.out)⟩⟩
  case round =>
    clear H'
    try clear p2
    obtain ⟨x3_1, x4_1, rfl, rfl, HA, HK1, HB⟩ := hrel
    cases gk with
    | zero => exact absurd HA.out (by simp [tuskref01_List.l0])
    | succ k1 =>
      have H := HA.out
      clear HA
      simp only [tuskref01_List.l0] at H
      by_cases c4 : x4_1 < (l0.length : Int)
      · rw [if_pos c4] at H
        have c4b0 : decide (x4_1 < (l0.length : Int)) = true := decide_eq_true c4
        clear c4
        by_cases c5 : 0 ≤ x4_1
        · rw [if_pos c5] at H
          have c5b0 : decide (0 ≤ x4_1) = true := decide_eq_true c5
          clear c5
          replace H := Option.bind_eq_some_iff.mp H
          obtain ⟨t111, A60, H⟩ := H
          replace H : (if x3_1.size + t111.size ≤ 9223372036854775807 then (tuskref01_List.l0 k1 l0 (x3_1 ++ t111) (wrap64 (x4_1 + 1))) else (none)) = some r := H
          have A6 := Aside0.mk A60
          clear A60
          by_cases c7 : x3_1.size + t111.size ≤ 9223372036854775807
          · rw [if_pos c7] at H
            have c7b0 := eq_true c7
            have c7b1 : decide (x3_1.size + t111.size ≤ 9223372036854775807) = true := decide_eq_true c7
            try have c7b2 : (9223372036854775807 < x3_1.size + t111.size) = False := eq_false (Nat.not_lt.2 c7)
            have H' := Aside0.mk H
            clear H
            have p110 : 0 ≤ (x4_1 : Int) := of_decide_eq_true (by first | (with_reducible assumption) | assumption)
            have q110 : x4_1 < (l0.length : Int) := of_decide_eq_true (by first | (with_reducible assumption) | assumption)
            obtain ⟨ad110, e110, hx110_0⟩ := Kd.at_string HR0.out x4_1 p110 q110
            cases e110
            replace hx110_0 := (HB.out.cell (World.block_lt_of_cell? w _ hx110_0)).trans hx110_0
            replace p110 := eq_true p110
            replace q110 := eq_true q110
            go_wp2_with (first | ((with_reducible refine gate_callee (f := 70) rfl ?_); refine goesL_ (some 19) rfl rfl Tryd.func70 (by kernel_rfl) rfl #[.string (rdOf ByteArray.empty l0 x4_1)] rfl (by (try simp only [List.map_toArray, List.map_cons, List.map_nil]); first | done | rfl | (simp only [List.length_drop, List.length_take]; rfl)) ?_; (with_reducible refine (tuskref01_Text.calls k1 (rdOf ByteArray.empty l0 x4_1) t111 _ A6.out).mono ?_); rintro e w8 ⟨rfl, hb⟩; refine ⟨_, rfl, ?_⟩; have n0_ := Aside0.mk (below_step (by repeat (first | (with_reducible first | exact HB.out | apply below_alloc | apply pw_below_drewN | apply below_drew1) | exact HB.out)) hb); clear HB; have HB := n0_; clear n0_; (try clear hb); (try clear hb2); (try clear hk); (try clear hi)))
            go_roundg k1
            case measure => have := HK1.out; omega
            case rel => exact ⟨(x3_1 ++ t111), (wrap64 (x4_1 + 1)), (by first | rfl | (simp; done) | (simp [*]; done)), (by first | rfl | (simp; done) | (simp [*]; done)), H', ⟨by have := HK1.out; omega⟩, ⟨by repeat (first | (with_reducible first | exact HB.out | apply below_alloc | apply pw_below_drewN | apply below_drew1) | exact HB.out)⟩⟩
          · rw [if_neg c7] at H
            exact absurd H (by simp)
        · rw [if_neg c5] at H
          exact absurd H (by simp)
      · rw [if_neg c4] at H
        have c4b0 : decide (x4_1 < (l0.length : Int)) = false := decide_eq_false c4
        clear c4
        obtain rfl := Option.some.inj H
        go_wp2
        go_ret
        exact ⟨by first | rfl | (simp [errW_none, errW_some] <;> rfl) | (simp [*, errW_none, errW_some] <;> rfl), by repeat (first | (with_reducible first | exact HB.out | apply below_alloc | apply pw_below_drewN | apply below_drew1) | exact HB.out)⟩
end Go.Proofs.YtndicjikjcifaaaDoor.PRi

namespace Go.Proofs.YtndicjikjcifaaaDoor.PRn
open Go.RowKit Go.Proofs.YtndicjikjcifaaaDoorW.PrintWords Go.Proofs.YtndicjikjcifaaaDoorW.PrintLast Go.Proofs.YtndicjikjcifaaaDoorW.PrintMore
attribute [local go_sem] max2_int min2_int max_two min_two max_three min_three max_four min_four   -- for this text's walks alone
set_option linter.unusedVariables false
set_option linter.unusedSimpArgs false
def errW : Option Int → Value
  | none => .nilIface
  | some c => .iface 0 (.int .i64 c)
theorem errW_none : errW none = .nilIface := rfl
theorem errW_some (c : Int) : errW (some c) = .iface 0 (.int .i64 c) := rfl
theorem info9 : (Tryd.prog.info? 9).map (fun i => (i.zero, i.size, i.bytes)) = some (some (.string ⟨#[]⟩), 1, 16) := by kernel_rfl
-- the values' own types
/-! #### struct type 33 -/
structure S33 where
  f0 : Int
  f1 : ByteArray
  f2 : ByteArray
  f3 : Int
  f4 : Int
  f5 : ByteArray
  f6 : ByteArray
  f7 : (List ByteArray)
  f8 : (List ByteArray)
def z33 : S33 := ⟨(0 : Int), (⟨#[]⟩ : ByteArray), (⟨#[]⟩ : ByteArray), (0 : Int), (0 : Int), (⟨#[]⟩ : ByteArray), (⟨#[]⟩ : ByteArray), ([] : List ByteArray), ([] : List ByteArray)⟩
def k33 : Kd S33 := Kd.iso (Kd.pair (Kd.int .i64) (Kd.pair Kd.string (Kd.pair Kd.string (Kd.pair (Kd.int .u64) (Kd.pair (Kd.int .u64) (Kd.pair Kd.string (Kd.pair Kd.string (Kd.pair (Kd.slice 9 Kd.string) (Kd.slice 9 Kd.string))))))))) (fun x : S33 => (x.f0, x.f1, x.f2, x.f3, x.f4, x.f5, x.f6, x.f7, x.f8))
theorem k33_open {w : World} {x : S33} {cs : List Value} (h : k33.K w x cs) : ∃ A7 c7 A8 c8, cs = [.int .i64 x.f0, .string x.f1, .string x.f2, .int .u64 x.f3, .int .u64 x.f4, .string x.f5, .string x.f6, .slice A7 x.f7.length c7, .slice A8 x.f8.length c8] ∧ x.f7.length ≤ c7 ∧ Kd.string.C w A7 x.f7.length x.f7 ∧ x.f8.length ≤ c8 ∧ Kd.string.C w A8 x.f8.length x.f8 := by
  obtain ⟨_, _, rfl, rfl, ⟨_, _, rfl, rfl, ⟨_, _, rfl, rfl, ⟨_, _, rfl, rfl, ⟨_, _, rfl, rfl, ⟨_, _, rfl, rfl, ⟨_, _, rfl, rfl, ⟨_, _, rfl, ⟨A7, c7, rfl, l7, g7⟩, ⟨A8, c8, rfl, l8, g8⟩⟩⟩⟩⟩⟩⟩⟩⟩ := h
  exact ⟨A7, c7, A8, c8, rfl, l7, g7, l8, g8⟩
theorem k33_mk (w : World) (x : S33) {A7 : Option Addr} {c7 : Nat} (l7 : x.f7.length ≤ c7) (g7 : Kd.string.C w A7 x.f7.length x.f7) {A8 : Option Addr} {c8 : Nat} (l8 : x.f8.length ≤ c8) (g8 : Kd.string.C w A8 x.f8.length x.f8) : k33.K w x [.int .i64 x.f0, .string x.f1, .string x.f2, .int .u64 x.f3, .int .u64 x.f4, .string x.f5, .string x.f6, .slice A7 x.f7.length c7, .slice A8 x.f8.length c8] := ⟨[.int .i64 x.f0], [.string x.f1, .string x.f2, .int .u64 x.f3, .int .u64 x.f4, .string x.f5, .string x.f6, .slice A7 x.f7.length c7, .slice A8 x.f8.length c8], rfl, rfl, ⟨[.string x.f1], [.string x.f2, .int .u64 x.f3, .int .u64 x.f4, .string x.f5, .string x.f6, .slice A7 x.f7.length c7, .slice A8 x.f8.length c8], rfl, rfl, ⟨[.string x.f2], [.int .u64 x.f3, .int .u64 x.f4, .string x.f5, .string x.f6, .slice A7 x.f7.length c7, .slice A8 x.f8.length c8], rfl, rfl, ⟨[.int .u64 x.f3], [.int .u64 x.f4, .string x.f5, .string x.f6, .slice A7 x.f7.length c7, .slice A8 x.f8.length c8], rfl, rfl, ⟨[.int .u64 x.f4], [.string x.f5, .string x.f6, .slice A7 x.f7.length c7, .slice A8 x.f8.length c8], rfl, rfl, ⟨[.string x.f5], [.string x.f6, .slice A7 x.f7.length c7, .slice A8 x.f8.length c8], rfl, rfl, ⟨[.string x.f6], [.slice A7 x.f7.length c7, .slice A8 x.f8.length c8], rfl, rfl, ⟨[.slice A7 x.f7.length c7], [.slice A8 x.f8.length c8], rfl, ⟨A7, c7, rfl, l7, g7⟩, ⟨A8, c8, rfl, l8, g8⟩⟩⟩⟩⟩⟩⟩⟩⟩
def rd_T33 (xs : List S33) (i : Int) : S33 := xs.getD i.toNat z33
theorem at_T33 {w : World} {A : Option Addr} {n : Nat} {xs : List S33} (h : Kd.C k33 w A n xs) (i : Int) (h0 : 0 ≤ i) (h1 : i < n) : ∃ ad A7 c7 A8 c8, A = some ad ∧ w.cell? (ad.add (i.toNat * 9)) = some (.int .i64 (rd_T33 xs i).f0) ∧ w.cell? ⟨(ad.add (i.toNat * 9)).block, (ad.add (i.toNat * 9)).off + 1, none⟩ = some (.string (rd_T33 xs i).f1) ∧ w.cell? ⟨(ad.add (i.toNat * 9)).block, (ad.add (i.toNat * 9)).off + 2, none⟩ = some (.string (rd_T33 xs i).f2) ∧ w.cell? ⟨(ad.add (i.toNat * 9)).block, (ad.add (i.toNat * 9)).off + 3, none⟩ = some (.int .u64 (rd_T33 xs i).f3) ∧ w.cell? ⟨(ad.add (i.toNat * 9)).block, (ad.add (i.toNat * 9)).off + 4, none⟩ = some (.int .u64 (rd_T33 xs i).f4) ∧ w.cell? ⟨(ad.add (i.toNat * 9)).block, (ad.add (i.toNat * 9)).off + 5, none⟩ = some (.string (rd_T33 xs i).f5) ∧ w.cell? ⟨(ad.add (i.toNat * 9)).block, (ad.add (i.toNat * 9)).off + 6, none⟩ = some (.string (rd_T33 xs i).f6) ∧ w.cell? ⟨(ad.add (i.toNat * 9)).block, (ad.add (i.toNat * 9)).off + 7, none⟩ = some (.slice A7 (rd_T33 xs i).f7.length c7) ∧ w.cell? ⟨(ad.add (i.toNat * 9)).block, (ad.add (i.toNat * 9)).off + 8, none⟩ = some (.slice A8 (rd_T33 xs i).f8.length c8) ∧ (rd_T33 xs i).f7.length ≤ c7 ∧ Kd.string.C w A7 (rd_T33 xs i).f7.length (rd_T33 xs i).f7 ∧ (rd_T33 xs i).f8.length ≤ c8 ∧ Kd.string.C w A8 (rd_T33 xs i).f8.length (rd_T33 xs i).f8 := by
  obtain ⟨ad, c, e, _, hK, hc0⟩ := Kd.C_get h z33 i h0 h1
  have hc : ∀ j u, c[j]? = some u → w.cell? (ad.add (i.toNat * 9 + j)) = some u := hc0
  obtain ⟨A7, c7, A8, c8, rfl, l7, g7, l8, g8⟩ := k33_open hK
  exact ⟨ad, A7, c7, A8, c8, e, hc 0 _ rfl, by rw [← add_field _ _ 1 (by omega)]; exact hc 1 _ rfl, by rw [← add_field _ _ 2 (by omega)]; exact hc 2 _ rfl, by rw [← add_field _ _ 3 (by omega)]; exact hc 3 _ rfl, by rw [← add_field _ _ 4 (by omega)]; exact hc 4 _ rfl, by rw [← add_field _ _ 5 (by omega)]; exact hc 5 _ rfl, by rw [← add_field _ _ 6 (by omega)]; exact hc 6 _ rfl, by rw [← add_field _ _ 7 (by omega)]; exact hc 7 _ rfl, by rw [← add_field _ _ 8 (by omega)]; exact hc 8 _ rfl, l7, g7, l8, g8⟩
end Go.Proofs.YtndicjikjcifaaaDoor.PRn

namespace Go.Proofs.YtndicjikjcifaaaDoor.PRn
open Go.RowKit Go.Proofs.YtndicjikjcifaaaDoorW.PrintWords Go.Proofs.YtndicjikjcifaaaDoorW.PrintLast Go.Proofs.YtndicjikjcifaaaDoorW.PrintMore
attribute [local go_sem] max2_int min2_int max_two min_two max_three min_three max_four min_four   -- for this text's walks alone
set_option linter.unusedVariables false
set_option linter.unusedSimpArgs false
/-! ### tuskref04_Check: function 42 -/
-- IMPORT Derived.Test.YtndicjikjcifaaaDoorRefchk
/-! ### tuskref04_Needs: function 45 -/
def tuskref04_Needs.j0 : Nat → ByteArray → ByteArray → Option (List ByteArray)
  | 0, _, _ => none
  | k + 1, x3, x4 => if x3.toList = x4.toList then (some (([x3] : List ByteArray))) else (if (Op.bytesLess x3.toList x4.toList) = true then (some (([x3, x4] : List ByteArray))) else (some (([x4, x3] : List ByteArray))))
def tuskref04_Needs.f (k : Nat) (a0_0 : Int) (a0_1 : ByteArray) (a0_2 : ByteArray) (a0_3 : Int) (a0_4 : Int) (a0_5 : ByteArray) (a0_6 : ByteArray) (l0_7 : List ByteArray) (l0_8 : List ByteArray) : Option (List ByteArray) := (tuskref04_Check.f a0_0 a0_1 a0_2 a0_3 a0_4 a0_5 a0_6 l0_7 l0_8).bind fun t102 => (if t102 = 0 then (if 2 + a0_1.size ≤ 9223372036854775807 then (if 2 + a0_2.size ≤ 9223372036854775807 then (if a0_0 = 2 then (if 2 + a0_5.size ≤ 9223372036854775807 then (tuskref04_Needs.j0 k ((⟨#[97, 58]⟩ : ByteArray) ++ a0_1) ((⟨#[107, 58]⟩ : ByteArray) ++ a0_5)) else (none)) else (tuskref04_Needs.j0 k ((⟨#[97, 58]⟩ : ByteArray) ++ a0_1) ((⟨#[97, 58]⟩ : ByteArray) ++ a0_2))) else (none)) else (none)) else (some ([] : List ByteArray)))
theorem tuskref04_Needs.mono_l : ∀ k, (∀ y0 y1, LeO (tuskref04_Needs.j0 k y0 y1) (tuskref04_Needs.j0 (k + 1) y0 y1))
  | 0 => fun _ _ r h => by simp [tuskref04_Needs.j0] at h
  | k + 1 => by
    have ih0 := tuskref04_Needs.mono_l k
    · intro y0 y1
      unfold tuskref04_Needs.j0
      repeat' first
      | (with_reducible exact ih0 _ _)
      | (with_reducible exact LeO.refl _)
      | (with_reducible exact LeO.none _)
      | (with_reducible refine LeO.ite ?_ ?_)
      | (with_reducible refine LeO.bind ?_ (fun _ => ?_))
      | exact ih0 _ _
      | exact LeO.none _
      | refine LeO.ite ?_ ?_
      | refine LeO.bind ?_ (fun _ => ?_)
theorem tuskref04_Needs.mono : ∀ a0 a1 a2 a3 a4 a5 a6 a7 a8 k, LeO (tuskref04_Needs.f k a0 a1 a2 a3 a4 a5 a6 a7 a8) (tuskref04_Needs.f (k + 1) a0 a1 a2 a3 a4 a5 a6 a7 a8) := by
  intro a0 a1 a2 a3 a4 a5 a6 a7 a8 k
  have ih0 := tuskref04_Needs.mono_l k
  unfold tuskref04_Needs.f
  repeat' first
      | (with_reducible exact ih0 _ _)
      | (with_reducible exact LeO.refl _)
      | (with_reducible exact LeO.none _)
      | (with_reducible refine LeO.ite ?_ ?_)
      | (with_reducible refine LeO.bind ?_ (fun _ => ?_))
      | exact ih0 _ _
      | exact LeO.none _
      | refine LeO.ite ?_ ?_
      | refine LeO.bind ?_ (fun _ => ?_)
/-! ### tuskref04_Has: function 77 -/
def tuskref04_Has.l0 : Nat → List ByteArray → ByteArray → Int → Option (Bool)
  | 0, _, _, _ => none
  | k + 1, x0, x1, x5 => if x5 < (x0.length : Int) then (if 0 ≤ x5 then (if (rdOf ByteArray.empty x0 x5).toList = x1.toList then (some true) else (tuskref04_Has.l0 k x0 x1 (wrap64 (x5 + 1)))) else (none)) else (some false)
def tuskref04_Has.f (k : Nat) (l0 : List ByteArray) (a1 : ByteArray) : Option (Bool) := tuskref04_Has.l0 k l0 a1 0
theorem tuskref04_Has.mono_l : ∀ k, (∀ y0 y1 y2, LeO (tuskref04_Has.l0 k y0 y1 y2) (tuskref04_Has.l0 (k + 1) y0 y1 y2))
  | 0 => fun _ _ _ r h => by simp [tuskref04_Has.l0] at h
  | k + 1 => by
    have ih0 := tuskref04_Has.mono_l k
    · intro y0 y1 y2
      unfold tuskref04_Has.l0
      repeat' first
      | (with_reducible exact ih0 _ _ _)
      | (with_reducible exact LeO.refl _)
      | (with_reducible exact LeO.none _)
      | (with_reducible refine LeO.ite ?_ ?_)
      | (with_reducible refine LeO.bind ?_ (fun _ => ?_))
      | exact ih0 _ _ _
      | exact LeO.none _
      | refine LeO.ite ?_ ?_
      | refine LeO.bind ?_ (fun _ => ?_)
theorem tuskref04_Has.mono : ∀ a0 a1 k, LeO (tuskref04_Has.f k a0 a1) (tuskref04_Has.f (k + 1) a0 a1) := by
  intro a0 a1 k
  have ih0 := tuskref04_Has.mono_l k
  unfold tuskref04_Has.f
  repeat' first
      | (with_reducible exact ih0 _ _ _)
      | (with_reducible exact LeO.refl _)
      | (with_reducible exact LeO.none _)
      | (with_reducible refine LeO.ite ?_ ?_)
      | (with_reducible refine LeO.bind ?_ (fun _ => ?_))
      | exact ih0 _ _ _
      | exact LeO.none _
      | refine LeO.ite ?_ ?_
      | refine LeO.bind ?_ (fun _ => ?_)
/-! ### tuskref04_Fits: function 47 -/
def tuskref04_Fits.l0 : Nat → List ByteArray → Int → Int → ByteArray → ByteArray → Int → Int → ByteArray → ByteArray → List ByteArray → List ByteArray → Option (Bool)
  | 0, _, _, _, _, _, _, _, _, _, _, _ => none
  | k + 1, x3, x4, x114000, x114001, x114002, x114003, x114004, x114005, x114006, x114007, x114008 => if x4 < (x3.length : Int) then (if 0 ≤ x4 then ((tuskref04_Has.f k x114008 (rdOf ByteArray.empty x3 x4)).bind fun t118 => (if t118 = true then (tuskref04_Fits.l0 k x3 (wrap64 (x4 + 1)) x114000 x114001 x114002 x114003 x114004 x114005 x114006 x114007 x114008) else (some false))) else (none)) else (some (decide ((x3.length : Int) > 0)))
def tuskref04_Fits.f (k : Nat) (a0_0 : Int) (a0_1 : ByteArray) (a0_2 : ByteArray) (a0_3 : Int) (a0_4 : Int) (a0_5 : ByteArray) (a0_6 : ByteArray) (l0_7 : List ByteArray) (l0_8 : List ByteArray) : Option (Bool) := (tuskref04_Needs.f k a0_0 a0_1 a0_2 a0_3 a0_4 a0_5 a0_6 l0_7 l0_8).bind fun t114 => (tuskref04_Fits.l0 k t114 0 a0_0 a0_1 a0_2 a0_3 a0_4 a0_5 a0_6 l0_7 l0_8)
theorem tuskref04_Fits.mono_l : ∀ k, (∀ y0 y1 y2 y3 y4 y5 y6 y7 y8 y9 y10, LeO (tuskref04_Fits.l0 k y0 y1 y2 y3 y4 y5 y6 y7 y8 y9 y10) (tuskref04_Fits.l0 (k + 1) y0 y1 y2 y3 y4 y5 y6 y7 y8 y9 y10))
  | 0 => fun _ _ _ _ _ _ _ _ _ _ _ r h => by simp [tuskref04_Fits.l0] at h
  | k + 1 => by
    have ih0 := tuskref04_Fits.mono_l k
    · intro y0 y1 y2 y3 y4 y5 y6 y7 y8 y9 y10
      unfold tuskref04_Fits.l0
      repeat' first
      | (with_reducible exact ih0 _ _ _ _ _ _ _ _ _ _ _)
      | (with_reducible exact tuskref04_Has.mono _ _ _)
      | (with_reducible exact tuskref04_Needs.mono _ _ _ _ _ _ _ _ _ _)
      | (with_reducible exact LeO.refl _)
      | (with_reducible exact LeO.none _)
      | (with_reducible refine LeO.ite ?_ ?_)
      | (with_reducible refine LeO.bind ?_ (fun _ => ?_))
      | exact ih0 _ _ _ _ _ _ _ _ _ _ _
      | exact tuskref04_Has.mono _ _ _
      | exact tuskref04_Needs.mono _ _ _ _ _ _ _ _ _ _
      | exact LeO.none _
      | refine LeO.ite ?_ ?_
      | refine LeO.bind ?_ (fun _ => ?_)
theorem tuskref04_Fits.mono : ∀ a0 a1 a2 a3 a4 a5 a6 a7 a8 k, LeO (tuskref04_Fits.f k a0 a1 a2 a3 a4 a5 a6 a7 a8) (tuskref04_Fits.f (k + 1) a0 a1 a2 a3 a4 a5 a6 a7 a8) := by
  intro a0 a1 a2 a3 a4 a5 a6 a7 a8 k
  have ih0 := tuskref04_Fits.mono_l k
  unfold tuskref04_Fits.f
  repeat' first
      | (with_reducible exact ih0 _ _ _ _ _ _ _ _ _ _ _)
      | (with_reducible exact tuskref04_Has.mono _ _ _)
      | (with_reducible exact tuskref04_Needs.mono _ _ _ _ _ _ _ _ _ _)
      | (with_reducible exact LeO.refl _)
      | (with_reducible exact LeO.none _)
      | (with_reducible refine LeO.ite ?_ ?_)
      | (with_reducible refine LeO.bind ?_ (fun _ => ?_))
      | exact ih0 _ _ _ _ _ _ _ _ _ _ _
      | exact tuskref04_Has.mono _ _ _
      | exact tuskref04_Needs.mono _ _ _ _ _ _ _ _ _ _
      | exact LeO.none _
      | refine LeO.ite ?_ ?_
      | refine LeO.bind ?_ (fun _ => ?_)
end Go.Proofs.YtndicjikjcifaaaDoor.PRn

namespace Go.Proofs.YtndicjikjcifaaaDoor.PSm
open Go.RowKit Go.Proofs.YtndicjikjcifaaaDoorW.PrintWords Go.Proofs.YtndicjikjcifaaaDoorW.PrintLast Go.Proofs.YtndicjikjcifaaaDoorW.PrintMore
attribute [local go_sem] max2_int min2_int max_two min_two max_three min_three max_four min_four   -- for this text's walks alone
set_option linter.unusedVariables false
set_option linter.unusedSimpArgs false
def errW : Option Int → Value
  | none => .nilIface
  | some c => .iface 0 (.int .i64 c)
theorem errW_none : errW none = .nilIface := rfl
theorem errW_some (c : Int) : errW (some c) = .iface 0 (.int .i64 c) := rfl
-- the values' own types
end Go.Proofs.YtndicjikjcifaaaDoor.PSm

namespace Go.Proofs.YtndicjikjcifaaaDoor.PSm
open Go.RowKit Go.Proofs.YtndicjikjcifaaaDoorW.PrintWords Go.Proofs.YtndicjikjcifaaaDoorW.PrintLast Go.Proofs.YtndicjikjcifaaaDoorW.PrintMore
attribute [local go_sem] max2_int min2_int max_two min_two max_three min_three max_four min_four   -- for this text's walks alone
set_option linter.unusedVariables false
set_option linter.unusedSimpArgs false
/-! ### tuskref01_Same: function 43 -/
def tuskref01_Same.l0 : Nat → List ByteArray → List ByteArray → Int → Option (Bool)
  | 0, _, _, _ => none
  | k + 1, x0, x1, x5 => if x5 < (x0.length : Int) then (if 0 ≤ x5 then (if x5 < (x1.length : Int) then (if (rdOf ByteArray.empty x0 x5).toList = (rdOf ByteArray.empty x1 x5).toList then (tuskref01_Same.l0 k x0 x1 (wrap64 (x5 + 1))) else (some false)) else (none)) else (none)) else (some true)
def tuskref01_Same.f (k : Nat) (l0 : List ByteArray) (l1 : List ByteArray) : Option (Bool) := if (l0.length : Int) = (l1.length : Int) then (tuskref01_Same.l0 k l0 l1 0) else (some false)
theorem tuskref01_Same.mono_l : ∀ k, (∀ y0 y1 y2, LeO (tuskref01_Same.l0 k y0 y1 y2) (tuskref01_Same.l0 (k + 1) y0 y1 y2))
  | 0 => fun _ _ _ r h => by simp [tuskref01_Same.l0] at h
  | k + 1 => by
    have ih0 := tuskref01_Same.mono_l k
    · intro y0 y1 y2
      unfold tuskref01_Same.l0
      repeat' first
      | (with_reducible exact ih0 _ _ _)
      | (with_reducible exact LeO.refl _)
      | (with_reducible exact LeO.none _)
      | (with_reducible refine LeO.ite ?_ ?_)
      | (with_reducible refine LeO.bind ?_ (fun _ => ?_))
      | exact ih0 _ _ _
      | exact LeO.none _
      | refine LeO.ite ?_ ?_
      | refine LeO.bind ?_ (fun _ => ?_)
theorem tuskref01_Same.mono : ∀ a0 a1 k, LeO (tuskref01_Same.f k a0 a1) (tuskref01_Same.f (k + 1) a0 a1) := by
  intro a0 a1 k
  have ih0 := tuskref01_Same.mono_l k
  unfold tuskref01_Same.f
  repeat' first
      | (with_reducible exact ih0 _ _ _)
      | (with_reducible exact LeO.refl _)
      | (with_reducible exact LeO.none _)
      | (with_reducible refine LeO.ite ?_ ?_)
      | (with_reducible refine LeO.bind ?_ (fun _ => ?_))
      | exact ih0 _ _ _
      | exact LeO.none _
      | refine LeO.ite ?_ ?_
      | refine LeO.bind ?_ (fun _ => ?_)
set_option maxHeartbeats 8000000 in
set_option maxRecDepth 100000 in
theorem tuskref01_Same.calls (k : Nat) (A0 : Option Addr) (c0 : Nat) (l0 : List ByteArray) (A1 : Option Addr) (c1 : Nat) (l1 : List ByteArray) (r : Bool) (w : World) (hr0 : Kd.C Kd.string w A0 l0.length l0) (hc0 : l0.length ≤ c0) (hr1 : Kd.C Kd.string w A1 l1.length l1) (hc1 : l1.length ≤ c1) (h : tuskref01_Same.f k l0 l1 = some r) :
    Calls Tryd.prog 43 #[.slice A0 l0.length c0, .slice A1 l1.length c1] w fun e w' => e = .returned (.bool r) ∧ Drawn0 w w' := by
  have HR0 := Aside0.mk hr0
  have HC0 := Aside0.mk hc0
  clear hr0 hc0
  have HR1 := Aside0.mk hr1
  have HC1 := Aside0.mk hc1
  clear hr1 hc1
  have H : (if (l0.length : Int) = (l1.length : Int) then (tuskref01_Same.l0 k l0 l1 0) else (some false)) = some r := h
  clear h
  by_cases c3 : (l0.length : Int) = (l1.length : Int)
  · rw [if_pos c3] at H
    have c3b0 : ((l0.length : Int) == (l1.length : Int)) = true := beq_iff_eq.mpr c3
    have c3b1 : ((l0.length : Int) != (l1.length : Int)) = false := bne_eq_false_iff_eq.mpr c3
    have c3b2 : (l0.length == l1.length) = true := by first | simpa using c3 | (simp at c3 ⊢; omega)
    clear c3
    have H' := Aside0.mk H
    clear H
    go_enter Tryd.func43, Tryd.ntmps43
    go_wp2
    repeat (go_quiet (fail); try go_wp2)
    go_loopg [5] k (fun kq v5 w' => ∃ (x5_1 : Int), v5 = .int .i64 x5_1 ∧ Aside0 (tuskref01_Same.l0 kq l0 l1 x5_1 = some r) ∧ Aside0 (kq ≤ k) ∧ Drawn0 w w')
    case atStart => exact ⟨(0), (by first | rfl | (simp; done) | (simp [*]; done)), H', ⟨Nat.le_refl _⟩, by repeat (first | exact Drawn0.refl _ | apply Drawn0.step)⟩
    case round =>
      clear H'
      try clear c1
      try clear p2
      try clear c3
      try clear c3b0
      try clear c3b1
      try clear c3b2
      obtain ⟨x5_1, rfl, HA, HK1, ⟨m1, rfl⟩⟩ := hrel
      cases gk with
      | zero => exact absurd HA.out (by simp [tuskref01_Same.l0])
      | succ k1 =>
        have H := HA.out
        clear HA
        simp only [tuskref01_Same.l0] at H
        by_cases c4 : x5_1 < (l0.length : Int)
        · rw [if_pos c4] at H
          have c4b0 : decide (x5_1 < (l0.length : Int)) = true := decide_eq_true c4
          clear c4
          by_cases c5 : 0 ≤ x5_1
          · rw [if_pos c5] at H
            have c5b0 : decide (0 ≤ x5_1) = true := decide_eq_true c5
            clear c5
            by_cases c6 : x5_1 < (l1.length : Int)
            · rw [if_pos c6] at H
              have c6b0 : decide (x5_1 < (l1.length : Int)) = true := decide_eq_true c6
              clear c6
              by_cases c7 : (rdOf ByteArray.empty l0 x5_1).toList = (rdOf ByteArray.empty l1 x5_1).toList
              · rw [if_pos c7] at H
                have c7b0 : ((rdOf ByteArray.empty l0 x5_1).toList == (rdOf ByteArray.empty l1 x5_1).toList) = true := beq_iff_eq.mpr c7
                have c7b1 : ((rdOf ByteArray.empty l0 x5_1).toList != (rdOf ByteArray.empty l1 x5_1).toList) = false := bne_eq_false_iff_eq.mpr c7
                clear c7
                have H' := Aside0.mk H
                clear H
                have p101 : 0 ≤ (x5_1 : Int) := of_decide_eq_true (by first | (with_reducible assumption) | assumption)
                have q101 : x5_1 < (l0.length : Int) := of_decide_eq_true (by first | (with_reducible assumption) | assumption)
                obtain ⟨ad101, e101, hx101_0⟩ := Kd.at_string HR0.out x5_1 p101 q101
                cases e101
                replace p101 := eq_true p101
                replace q101 := eq_true q101
                have p102 : 0 ≤ (x5_1 : Int) := of_decide_eq_true (by first | (with_reducible assumption) | assumption)
                have q102 : x5_1 < (l1.length : Int) := of_decide_eq_true (by first | (with_reducible assumption) | assumption)
                obtain ⟨ad102, e102, hx102_0⟩ := Kd.at_string HR1.out x5_1 p102 q102
                cases e102
                replace p102 := eq_true p102
                replace q102 := eq_true q102
                go_wp2
                repeat (go_quiet (fail); try go_wp2)
                go_roundg k1
                case measure => have := HK1.out; omega
                case rel => exact ⟨(wrap64 (x5_1 + 1)), (by first | rfl | (simp; done) | (simp [*]; done)), H', ⟨by have := HK1.out; omega⟩, by repeat (first | exact Drawn0.refl _ | apply Drawn0.step)⟩
              · rw [if_neg c7] at H
                have c7b0 : ((rdOf ByteArray.empty l0 x5_1).toList == (rdOf ByteArray.empty l1 x5_1).toList) = false := beq_eq_false_iff_ne.mpr c7
                have c7b1 : ((rdOf ByteArray.empty l0 x5_1).toList != (rdOf ByteArray.empty l1 x5_1).toList) = true := bne_iff_ne.mpr c7
                obtain rfl := Option.some.inj H
                have p101 : 0 ≤ (x5_1 : Int) := of_decide_eq_true (by first | (with_reducible assumption) | assumption)
                have q101 : x5_1 < (l0.length : Int) := of_decide_eq_true (by first | (with_reducible assumption) | assumption)
                obtain ⟨ad101, e101, hx101_0⟩ := Kd.at_string HR0.out x5_1 p101 q101
                cases e101
                replace p101 := eq_true p101
                replace q101 := eq_true q101
                have p102 : 0 ≤ (x5_1 : Int) := of_decide_eq_true (by first | (with_reducible assumption) | assumption)
                have q102 : x5_1 < (l1.length : Int) := of_decide_eq_true (by first | (with_reducible assumption) | assumption)
                obtain ⟨ad102, e102, hx102_0⟩ := Kd.at_string HR1.out x5_1 p102 q102
                cases e102
                replace p102 := eq_true p102
                replace q102 := eq_true q102
                go_wp2
                repeat (go_quiet (fail); try go_wp2)
                go_ret
                exact ⟨by first | rfl | (simp; done) | (simp [*]; done), by repeat (first | exact Drawn0.refl _ | apply Drawn0.step)⟩
            · rw [if_neg c6] at H
              exact absurd H (by simp)
          · rw [if_neg c5] at H
            exact absurd H (by simp)
        · rw [if_neg c4] at H
          have c4b0 : decide (x5_1 < (l0.length : Int)) = false := decide_eq_false c4
          clear c4
          obtain rfl := Option.some.inj H
          go_wp2
          repeat (go_quiet (fail); try go_wp2)
          go_ret
          exact ⟨by first | rfl | (simp; done) | (simp [*]; done), by repeat (first | exact Drawn0.refl _ | apply Drawn0.step)⟩
  · rw [if_neg c3] at H
    have c3b0 : ((l0.length : Int) == (l1.length : Int)) = false := beq_eq_false_iff_ne.mpr c3
    have c3b1 : ((l0.length : Int) != (l1.length : Int)) = true := bne_iff_ne.mpr c3
    have c3b2 : (l0.length == l1.length) = false := by first | simpa using c3 | (simp at c3 ⊢; omega)
    obtain rfl := Option.some.inj H
    go_enter Tryd.func43, Tryd.ntmps43
    go_wp2
    repeat (go_quiet (fail); try go_wp2)
    go_ret
    exact ⟨by first | rfl | (simp; done) | (simp [*]; done), by repeat (first | exact Drawn0.refl _ | apply Drawn0.step)⟩
/-! ### tuskref04_Same: function 27 -/
def tuskref04_Same.f (k : Nat) (a0_0 : Int) (a0_1 : ByteArray) (a0_2 : ByteArray) (a0_3 : Int) (a0_4 : Int) (a0_5 : ByteArray) (a0_6 : ByteArray) (l0_7 : List ByteArray) (l0_8 : List ByteArray) (a1_0 : Int) (a1_1 : ByteArray) (a1_2 : ByteArray) (a1_3 : Int) (a1_4 : Int) (a1_5 : ByteArray) (a1_6 : ByteArray) (l1_7 : List ByteArray) (l1_8 : List ByteArray) : Option (Bool) := if a0_0 = a1_0 then (if a0_1.toList = a1_1.toList then (if a0_2.toList = a1_2.toList then (if a0_3 = a1_3 then (if a0_4 = a1_4 then (if a0_5.toList = a1_5.toList then (if a0_6.toList = a1_6.toList then ((tuskref01_Same.f k l0_7 l1_7).bind fun t105 => (if t105 = true then ((tuskref01_Same.f k l0_8 l1_8).bind fun t106 => (some t106)) else (some false))) else (some false)) else (some false)) else (some false)) else (some false)) else (some false)) else (some false)) else (some false)
theorem tuskref04_Same.mono : ∀ a0 a1 a2 a3 a4 a5 a6 a7 a8 a9 a10 a11 a12 a13 a14 a15 a16 a17 k, LeO (tuskref04_Same.f k a0 a1 a2 a3 a4 a5 a6 a7 a8 a9 a10 a11 a12 a13 a14 a15 a16 a17) (tuskref04_Same.f (k + 1) a0 a1 a2 a3 a4 a5 a6 a7 a8 a9 a10 a11 a12 a13 a14 a15 a16 a17) := by
  intro a0 a1 a2 a3 a4 a5 a6 a7 a8 a9 a10 a11 a12 a13 a14 a15 a16 a17 k
  unfold tuskref04_Same.f
  repeat' first
      | (with_reducible exact tuskref01_Same.mono _ _ _)
      | (with_reducible exact LeO.refl _)
      | (with_reducible exact LeO.none _)
      | (with_reducible refine LeO.ite ?_ ?_)
      | (with_reducible refine LeO.bind ?_ (fun _ => ?_))
      | exact tuskref01_Same.mono _ _ _
      | exact LeO.none _
      | refine LeO.ite ?_ ?_
      | refine LeO.bind ?_ (fun _ => ?_)
end Go.Proofs.YtndicjikjcifaaaDoor.PSm

/- tuskref04.Same, and tx.Encode by its answer. -/
namespace Go.Proofs.YtndicjikjcifaaaDoor
open Go.RowKit Go.Shelf Go.Lib Go.Proofs.YtndicjikjcifaaaDoorW.PrintWords Go.Proofs.YtndicjikjcifaaaDoorW.PrintLast
set_option linter.unusedVariables false
set_option linter.unusedSimpArgs false
end Go.Proofs.YtndicjikjcifaaaDoor

namespace Go.Proofs.YtndicjikjcifaaaDoor.POw
open Go.RowKit Go.Proofs.YtndicjikjcifaaaDoorW.PrintWords Go.Proofs.YtndicjikjcifaaaDoorW.PrintLast Go.Proofs.YtndicjikjcifaaaDoorW.PrintMore
attribute [local go_sem] max2_int min2_int max_two min_two max_three min_three max_four min_four   -- for this text's walks alone
set_option linter.unusedVariables false
set_option linter.unusedSimpArgs false
def errW : Option Int → Value
  | none => .nilIface
  | some c => .iface 0 (.int .i64 c)
theorem errW_none : errW none = .nilIface := rfl
theorem errW_some (c : Int) : errW (some c) = .iface 0 (.int .i64 c) := rfl
theorem info9 : (Tryd.prog.info? 9).map (fun i => (i.zero, i.size, i.bytes)) = some (some (.string ⟨#[]⟩), 1, 16) := by kernel_rfl
-- the values' own types
end Go.Proofs.YtndicjikjcifaaaDoor.POw

namespace Go.Proofs.YtndicjikjcifaaaDoor.POw
open Go.RowKit Go.Proofs.YtndicjikjcifaaaDoorW.PrintWords Go.Proofs.YtndicjikjcifaaaDoorW.PrintLast Go.Proofs.YtndicjikjcifaaaDoorW.PrintMore
attribute [local go_sem] max2_int min2_int max_two min_two max_three min_three max_four min_four   -- for this text's walks alone
set_option linter.unusedVariables false
set_option linter.unusedSimpArgs false
/-! ### tusklaw04_Own: function 19 -/
def tusklaw04_Own.f (a0_0 : Int) (a0_1 : ByteArray) (a0_2 : ByteArray) (a0_3 : Int) (a0_4 : Int) (a0_5 : ByteArray) (a0_6 : ByteArray) (l0_7 : List ByteArray) (l0_8 : List ByteArray) : Option (Int × ByteArray × ByteArray × Int × Int × ByteArray × ByteArray × List ByteArray × List ByteArray) := (some (([] : List ByteArray) : List ByteArray)).bind fun y103 => (if y103.length + l0_7.length < 8796093022208 then ((some (([] : List ByteArray) : List ByteArray)).bind fun y109 => (if y109.length + l0_8.length < 8796093022208 then (some (a0_0, a0_1, a0_2, a0_3, a0_4, a0_5, a0_6, (y103 ++ l0_7), (y109 ++ l0_8))) else (none))) else (none))
set_option maxHeartbeats 8000000 in
set_option maxRecDepth 100000 in
theorem tusklaw04_Own.calls (a0_0 : Int) (a0_1 : ByteArray) (a0_2 : ByteArray) (a0_3 : Int) (a0_4 : Int) (a0_5 : ByteArray) (a0_6 : ByteArray) (A0_7 : Option Addr) (c0_7 : Nat) (l0_7 : List ByteArray) (A0_8 : Option Addr) (c0_8 : Nat) (l0_8 : List ByteArray) (r1 : Int) (r2 : ByteArray) (r3 : ByteArray) (r4 : Int) (r5 : Int) (r6 : ByteArray) (r7 : ByteArray) (r8 : List ByteArray) (r9 : List ByteArray) (w : World) (hr0_7 : Kd.C Kd.string w A0_7 l0_7.length l0_7) (hc0_7 : l0_7.length ≤ c0_7) (hr0_8 : Kd.C Kd.string w A0_8 l0_8.length l0_8) (hc0_8 : l0_8.length ≤ c0_8) (h : tusklaw04_Own.f a0_0 a0_1 a0_2 a0_3 a0_4 a0_5 a0_6 l0_7 l0_8 = some (r1, r2, r3, r4, r5, r6, r7, r8, r9)) :
    Calls Tryd.prog 19 #[.agg #[.int .i64 a0_0, .string a0_1, .string a0_2, .int .u64 a0_3, .int .u64 a0_4, .string a0_5, .string a0_6, .slice A0_7 l0_7.length c0_7, .slice A0_8 l0_8.length c0_8]] w fun e w' => ∃ v7_ v8_ : Value, e = .returned (.agg #[.int .i64 r1, .string r2, .string r3, .int .u64 r4, .int .u64 r5, .string r6, .string r7, v7_, v8_]) ∧ Kd.R Kd.string 9 w' w.heap.size (fun k_ => some k_ ≠ (v8_ : Value).ownBlock) v7_ r8 ∧ Kd.R Kd.string 9 w' w.heap.size (fun k_ => some k_ ≠ (v7_ : Value).ownBlock) v8_ r9 ∧ Below w.heap.size w w' := by
  have hu33 := Tryd.underlying33
  have HR0_7 := Aside0.mk hr0_7
  have HC0_7 := Aside0.mk hc0_7
  clear hr0_7 hc0_7
  have HR0_8 := Aside0.mk hr0_8
  have HC0_8 := Aside0.mk hc0_8
  clear hr0_8 hc0_8
  have HB := Aside0.mk (Below.refl w.heap.size w)
  have H : ((some (([] : List ByteArray) : List ByteArray)).bind fun y103 => (if y103.length + l0_7.length < 8796093022208 then ((some (([] : List ByteArray) : List ByteArray)).bind fun y109 => (if y109.length + l0_8.length < 8796093022208 then (some (a0_0, a0_1, a0_2, a0_3, a0_4, a0_5, a0_6, (y103 ++ l0_7), (y109 ++ l0_8))) else (none))) else (none))) = some (r1, r2, r3, r4, r5, r6, r7, r8, r9) := h
  clear h
  obtain ⟨y103, hy103⟩ : ∃ y_ : List ByteArray, y_ = (([] : List ByteArray)) := ⟨_, rfl⟩
  replace H : (if y103.length + l0_7.length < 8796093022208 then ((some (([] : List ByteArray) : List ByteArray)).bind fun y109 => (if y109.length + l0_8.length < 8796093022208 then (some (a0_0, a0_1, a0_2, a0_3, a0_4, a0_5, a0_6, (y103 ++ l0_7), (y109 ++ l0_8))) else (none))) else (none)) = some (r1, r2, r3, r4, r5, r6, r7, r8, r9) := by first | (rw [hy103]; with_reducible exact H) | (have H2_ := (Option.bind_some _ _).symm.trans H; rw [hy103]; with_reducible exact H2_) | (have H2_ := (Option.bind_some _ _).symm.trans H; with_reducible exact H2_) | with_reducible exact H | (rw [hy103]; exact H) | exact H
  have Ny103 := Aside0.mk hy103
  clear hy103
  by_cases c2 : y103.length + l0_7.length < 8796093022208
  · rw [if_pos c2] at H
    have LMc2 := Aside0.mk c2
    clear c2
    obtain ⟨y106, hy106⟩ : ∃ y_ : List ByteArray, y_ = (y103 ++ l0_7) := ⟨_, rfl⟩
    replace H : ((some (([] : List ByteArray) : List ByteArray)).bind fun y109 => (if y109.length + l0_8.length < 8796093022208 then (some (a0_0, a0_1, a0_2, a0_3, a0_4, a0_5, a0_6, y106, (y109 ++ l0_8))) else (none))) = some (r1, r2, r3, r4, r5, r6, r7, r8, r9) := by first | (rw [hy106]; with_reducible exact H) | (have H2_ := (Option.bind_some _ _).symm.trans H; rw [hy106]; with_reducible exact H2_) | (have H2_ := (Option.bind_some _ _).symm.trans H; with_reducible exact H2_) | with_reducible exact H | (rw [hy106]; exact H) | exact H
    have Ny106 := Aside0.mk hy106
    clear hy106
    obtain ⟨y109, hy109⟩ : ∃ y_ : List ByteArray, y_ = (([] : List ByteArray)) := ⟨_, rfl⟩
    replace H : (if y109.length + l0_8.length < 8796093022208 then (some (a0_0, a0_1, a0_2, a0_3, a0_4, a0_5, a0_6, y106, (y109 ++ l0_8))) else (none)) = some (r1, r2, r3, r4, r5, r6, r7, r8, r9) := by first | (rw [hy109]; with_reducible exact H) | (have H2_ := (Option.bind_some _ _).symm.trans H; rw [hy109]; with_reducible exact H2_) | (have H2_ := (Option.bind_some _ _).symm.trans H; with_reducible exact H2_) | with_reducible exact H | (rw [hy109]; exact H) | exact H
    have Ny109 := Aside0.mk hy109
    clear hy109
    by_cases c3 : y109.length + l0_8.length < 8796093022208
    · rw [if_pos c3] at H
      have LMc3 := Aside0.mk c3
      clear c3
      obtain ⟨y112, hy112⟩ : ∃ y_ : List ByteArray, y_ = (y109 ++ l0_8) := ⟨_, rfl⟩
      replace H : (some (a0_0, a0_1, a0_2, a0_3, a0_4, a0_5, a0_6, y106, y112)) = some (r1, r2, r3, r4, r5, r6, r7, r8, r9) := by first | (rw [hy112]; with_reducible exact H) | (have H2_ := (Option.bind_some _ _).symm.trans H; rw [hy112]; with_reducible exact H2_) | (have H2_ := (Option.bind_some _ _).symm.trans H; with_reducible exact H2_) | with_reducible exact H | (rw [hy112]; exact H) | exact H
      have Ny112 := Aside0.mk hy112
      clear hy112
      simp only [Option.some.injEq, Prod.mk.injEq] at H
      obtain ⟨rfl, rfl, rfl, rfl, rfl, rfl, rfl, rfl, rfl⟩ := H
      go_enter Tryd.func19, Tryd.ntmps19
      go_wp2_with (first | ((with_reducible refine gate_dst (N := 1) rfl ?_); refine box_event ?hg (N := 1) ?hd (cs := #[.int .i64 a0_0, .string a0_1, .string a0_2, .int .u64 a0_3, .int .u64 a0_4, .string a0_5, .string a0_6, .slice A0_7 l0_7.length c0_7, .slice A0_8 l0_8.length c0_8]) (t := 33) ?hr ?_; (case hd => rfl); (case hg => rfl); (case hr => first | (go_simp; done) | (go_simp; rfl)); intro gb101 hg w4 hbox hb; have n0_ := Aside0.mk (below_step (by repeat (first | (with_reducible first | exact HB.out | apply below_alloc | apply pw_below_drewN | apply below_drew1) | exact HB.out)) hb); have n1_ := Aside0.mk (hbox); have n2_ := Aside0.mk ((by rw [hg]; exact (below_size (by repeat (first | (with_reducible first | exact HB.out | apply below_alloc | apply pw_below_drewN | apply below_drew1) | exact HB.out))) : w.heap.size ≤ gb101)); have n3_ := Aside0.mk ((by rw [hg]; exact (below_size (by repeat (first | (with_reducible first | exact HB.out | apply below_alloc | apply pw_below_drewN | apply below_drew1) | exact HB.out))) : w.heap.size ≤ gb101)); clear HB; have HB := n0_; have BK101 := n1_; have GW101 := n2_; have GE101 := n3_; clear n0_ n1_ n2_ n3_; clear hb hbox hg) | ((with_reducible refine gate_dst (N := 2) rfl ?_); refine box_event ?hg (N := 2) ?hd (cs := #[.int .i64 0, .string (⟨#[]⟩ : ByteArray), .string (⟨#[]⟩ : ByteArray), .int .u64 0, .int .u64 0, .string (⟨#[]⟩ : ByteArray), .string (⟨#[]⟩ : ByteArray), .slice none 0 0, .slice none 0 0]) (t := 33) ?hr ?_; (case hd => rfl); (case hg => rfl); (case hr => first | (go_simp; done) | (go_simp; rfl)); intro gb102 hg w5 hbox hb; have n0_ := Aside0.mk (blk_below (g := gb101) (o := .cells #[.int .i64 a0_0, .string a0_1, .string a0_2, .int .u64 a0_3, .int .u64 a0_4, .string a0_5, .string a0_6, .slice A0_7 l0_7.length c0_7, .slice A0_8 l0_8.length c0_8] 33 (0, 0)) (by (with_reducible repeat (first | refine blk_drewN ?_ _ | refine blk_drew ?_ | refine blk_alloc ?_ _)); exact BK101.out) hb); have n1_ := Aside0.mk (below_step (by repeat (first | (with_reducible first | exact HB.out | apply below_alloc | apply pw_below_drewN | apply below_drew1 | refine below_set ?_ GE101.out) | exact HB.out)) hb); have n2_ := Aside0.mk (hbox); have n3_ := Aside0.mk ((by rw [hg]; exact (below_size (by repeat (first | (with_reducible first | exact HB.out | apply below_alloc | apply pw_below_drewN | apply below_drew1 | refine below_set ?_ GE101.out) | exact HB.out))) : w.heap.size ≤ gb102)); have n4_ := Aside0.mk ((by rw [hg]; exact (below_size (by repeat (first | (with_reducible first | exact HB.out | apply below_alloc | apply pw_below_drewN | apply below_drew1 | refine below_set ?_ GE101.out) | exact HB.out))) : w.heap.size ≤ gb102)); have n5_ := Aside0.mk ((by rw [hg]; exact Nat.ne_of_lt (blk_lt (g := gb101) (o := .cells #[.int .i64 a0_0, .string a0_1, .string a0_2, .int .u64 a0_3, .int .u64 a0_4, .string a0_5, .string a0_6, .slice A0_7 l0_7.length c0_7, .slice A0_8 l0_8.length c0_8] 33 (0, 0)) (by (with_reducible repeat (first | refine blk_drewN ?_ _ | refine blk_drew ?_ | refine blk_alloc ?_ _)); exact BK101.out)) : gb101 ≠ gb102)); have n6_ := Aside0.mk ((by rw [hg]; exact Nat.ne_of_gt (blk_lt (g := gb101) (o := .cells #[.int .i64 a0_0, .string a0_1, .string a0_2, .int .u64 a0_3, .int .u64 a0_4, .string a0_5, .string a0_6, .slice A0_7 l0_7.length c0_7, .slice A0_8 l0_8.length c0_8] 33 (0, 0)) (by (with_reducible repeat (first | refine blk_drewN ?_ _ | refine blk_drew ?_ | refine blk_alloc ?_ _)); exact BK101.out)) : gb102 ≠ gb101)); clear BK101; clear HB; have BK101 := n0_; have HB := n1_; have BK102 := n2_; have GW102 := n3_; have GE102 := n4_; have NB101_102 := n5_; have NB102_101 := n6_; clear n0_ n1_ n2_ n3_ n4_ n5_ n6_; clear hb hbox hg) | ((with_reducible refine gate_dst (N := 3) rfl ?_); refine Kd.R_lit Kd.string _ 9 ?hg (N := 3) ?hd (xs := ([] : List ByteArray)) (inner := []) (ok := fun _ => True) (okp := fun _ => True) ?hr ?hp (fun _ hk => hk) trivial (Below.refl _ _) (Nat.le_refl _) (by simp) ?_; (case hd => rfl); (case hg => rfl); (case hr => first | (go_simp; done) | (go_simp; rfl)); (case hp => exact (Reps.none _ _)); intro v104 w6 ho7 hb hg_ hnew_; clear hg_ hnew_; (first | rw [← Ny103.out] at ho7 | (simp only [Int.reduceToNat] at ho7; rw [← Ny103.out] at ho7)); have n0_ := Aside0.mk (Kd.R_lower ho7 (below_size (by repeat (first | (with_reducible first | exact HB.out | apply below_alloc | apply pw_below_drewN | apply below_drew1 | refine below_set ?_ GE101.out | refine below_set ?_ GE102.out) | exact HB.out)))); have n1_ := Aside0.mk (blk_below (g := gb101) (o := .cells #[.int .i64 a0_0, .string a0_1, .string a0_2, .int .u64 a0_3, .int .u64 a0_4, .string a0_5, .string a0_6, .slice A0_7 l0_7.length c0_7, .slice A0_8 l0_8.length c0_8] 33 (0, 0)) (by (with_reducible repeat (first | refine blk_drewN ?_ _ | refine blk_drew ?_ | refine blk_alloc ?_ _)); exact BK101.out) hb); have n2_ := Aside0.mk (blk_below (g := gb102) (o := .cells #[.int .i64 0, .string (⟨#[]⟩ : ByteArray), .string (⟨#[]⟩ : ByteArray), .int .u64 0, .int .u64 0, .string (⟨#[]⟩ : ByteArray), .string (⟨#[]⟩ : ByteArray), .slice none 0 0, .slice none 0 0] 33 (0, 0)) (by (with_reducible repeat (first | refine blk_drewN ?_ _ | refine blk_drew ?_ | refine blk_alloc ?_ _)); exact BK102.out) hb); have n3_ := Aside0.mk (below_step (by repeat (first | (with_reducible first | exact HB.out | apply below_alloc | apply pw_below_drewN | apply below_drew1 | refine below_set ?_ GE101.out | refine below_set ?_ GE102.out) | exact HB.out)) hb); clear BK101; clear BK102; clear HB; have HO105 := n0_; have BK101 := n1_; have BK102 := n2_; have HB := n3_; clear n0_ n1_ n2_ n3_; clear hb ho7; have hnb8 := NB101_102.out; have hnc8 := NB102_101.out; have hcz9_0 : w6.cell? ⟨gb101, 0, none⟩ = some (.int .i64 a0_0) := (blk_cell BK101.out 0).trans rfl; have hcz9_1 : w6.cell? ⟨gb101, 1, none⟩ = some (.string a0_1) := (blk_cell BK101.out 1).trans rfl; have hcz9_2 : w6.cell? ⟨gb101, 2, none⟩ = some (.string a0_2) := (blk_cell BK101.out 2).trans rfl; have hcz9_3 : w6.cell? ⟨gb101, 3, none⟩ = some (.int .u64 a0_3) := (blk_cell BK101.out 3).trans rfl; have hcz9_4 : w6.cell? ⟨gb101, 4, none⟩ = some (.int .u64 a0_4) := (blk_cell BK101.out 4).trans rfl; have hcz9_5 : w6.cell? ⟨gb101, 5, none⟩ = some (.string a0_5) := (blk_cell BK101.out 5).trans rfl; have hcz9_6 : w6.cell? ⟨gb101, 6, none⟩ = some (.string a0_6) := (blk_cell BK101.out 6).trans rfl; have hcz9_7 : w6.cell? ⟨gb101, 7, none⟩ = some (.slice A0_7 l0_7.length c0_7) := (blk_cell BK101.out 7).trans rfl; have hcz9_8 : w6.cell? ⟨gb101, 8, none⟩ = some (.slice A0_8 l0_8.length c0_8) := (blk_cell BK101.out 8).trans rfl; have hfz9_0 := blk_frozen BK101.out 0; have hfz9_1 := blk_frozen BK101.out 1; have hfz9_2 := blk_frozen BK101.out 2; have hfz9_3 := blk_frozen BK101.out 3; have hfz9_4 := blk_frozen BK101.out 4; have hfz9_5 := blk_frozen BK101.out 5; have hfz9_6 := blk_frozen BK101.out 6; have hfz9_7 := blk_frozen BK101.out 7; have hfz9_8 := blk_frozen BK101.out 8) | ((with_reducible refine gate_builtin (b := .append) (xs := #[.tmp 3, .tmp 5]) rfl ?_); at_builtin; refine Kd.R_append_rows Kd.string (w0 := w) w.heap.size rfl (.tmp 3) (.tmp 5) 31 9 (.string ⟨#[]⟩) 16 rfl Tryd.underlying31 info9 rfl (by decide) (by omega) v104 y103 l0_7 _ _ _ (fun _ => True) (fun _ => False) rfl rfl ?aO ?aR (fun _ _ h => h) (fun _ h => h.elim) ?aF ?aB ?aS ?aL ?_; (case aR => repeat (first | exact (Kd.C_below HR0_7.out HB.out) | (with_reducible refine Kd.C_alloc ?_ _) | (with_reducible refine Kd.C_drewN ?_ _) | (with_reducible refine Kd.C_drew ?_))); (case aB => exact (by repeat (first | (with_reducible first | exact HB.out | apply below_alloc | apply pw_below_drewN | apply below_drew1 | refine below_set ?_ GE101.out | refine below_set ?_ GE102.out) | exact HB.out))); (case aF => exact (fun _ _ => trivial)); (case aO => exact (by (with_reducible repeat (first | apply Kd.R_alloc | apply Kd.R_drewN | apply Kd.R_drew)); exact HO105.out)); (case aS => exact (below_size (by repeat (first | (with_reducible first | exact HB.out | apply below_alloc | apply pw_below_drewN | apply below_drew1 | refine below_set ?_ GE101.out | refine below_set ?_ GE102.out) | exact HB.out)))); (case aL => have := LMc2.out; omega); intro v107 w10 ho hb hg hat; rw [← Ny106.out] at ho; have n0_ := Aside0.mk (blk_grown (g := gb101) (o := .cells #[.int .i64 a0_0, .string a0_1, .string a0_2, .int .u64 a0_3, .int .u64 a0_4, .string a0_5, .string a0_6, .slice A0_7 l0_7.length c0_7, .slice A0_8 l0_8.length c0_8] 33 (0, 0)) (by (with_reducible repeat (first | refine blk_drewN ?_ _ | refine blk_drew ?_ | refine blk_alloc ?_ _)); exact BK101.out) hg (Kd.R_ne HO105.out BK101.out (by decide))); have n1_ := Aside0.mk (blk_grown (g := gb102) (o := .cells #[.int .i64 0, .string (⟨#[]⟩ : ByteArray), .string (⟨#[]⟩ : ByteArray), .int .u64 0, .int .u64 0, .string (⟨#[]⟩ : ByteArray), .string (⟨#[]⟩ : ByteArray), .slice none 0 0, .slice none 0 0] 33 (0, 0)) (by (with_reducible repeat (first | refine blk_drewN ?_ _ | refine blk_drew ?_ | refine blk_alloc ?_ _)); exact BK102.out) hg (Kd.R_ne HO105.out BK102.out (by decide))); have n2_ := Aside0.mk (hb); have n3_ := Aside0.mk (ho); clear BK101; clear BK102; clear HB; clear HO105; have BK101 := n0_; have BK102 := n1_; have HB := n2_; have HO108 := n3_; clear n0_ n1_ n2_ n3_; clear ho hb hg hat; obtain ⟨Ao11, co11, eo11⟩ := Kd.R_slice HO108.out; subst eo11; have hcz12_0 : w10.cell? ⟨gb101, 0, none⟩ = some (.int .i64 a0_0) := (blk_cell BK101.out 0).trans rfl; have hcz12_1 : w10.cell? ⟨gb101, 1, none⟩ = some (.string a0_1) := (blk_cell BK101.out 1).trans rfl; have hcz12_2 : w10.cell? ⟨gb101, 2, none⟩ = some (.string a0_2) := (blk_cell BK101.out 2).trans rfl; have hcz12_3 : w10.cell? ⟨gb101, 3, none⟩ = some (.int .u64 a0_3) := (blk_cell BK101.out 3).trans rfl; have hcz12_4 : w10.cell? ⟨gb101, 4, none⟩ = some (.int .u64 a0_4) := (blk_cell BK101.out 4).trans rfl; have hcz12_5 : w10.cell? ⟨gb101, 5, none⟩ = some (.string a0_5) := (blk_cell BK101.out 5).trans rfl; have hcz12_6 : w10.cell? ⟨gb101, 6, none⟩ = some (.string a0_6) := (blk_cell BK101.out 6).trans rfl; have hcz12_7 : w10.cell? ⟨gb101, 7, none⟩ = some (.slice A0_7 l0_7.length c0_7) := (blk_cell BK101.out 7).trans rfl; have hcz12_8 : w10.cell? ⟨gb101, 8, none⟩ = some (.slice A0_8 l0_8.length c0_8) := (blk_cell BK101.out 8).trans rfl; have hfz12_0 := blk_frozen BK101.out 0; have hfz12_1 := blk_frozen BK101.out 1; have hfz12_2 := blk_frozen BK101.out 2; have hfz12_3 := blk_frozen BK101.out 3; have hfz12_4 := blk_frozen BK101.out 4; have hfz12_5 := blk_frozen BK101.out 5; have hfz12_6 := blk_frozen BK101.out 6; have hfz12_7 := blk_frozen BK101.out 7; have hfz12_8 := blk_frozen BK101.out 8) | ((with_reducible refine gate_dst (N := 8) rfl ?_); refine Kd.R_lit Kd.string _ 9 ?hg (N := 8) ?hd (xs := ([] : List ByteArray)) (inner := []) (ok := fun _ => True) (okp := fun _ => True) ?hr ?hp (fun _ hk => hk) trivial (Below.refl _ _) (Nat.le_refl _) (by simp) ?_; (case hd => rfl); (case hg => rfl); (case hr => first | (go_simp; done) | (go_simp; rfl)); (case hp => exact (Reps.none _ _)); intro v110 w13 ho14 hb hg_ hnew_; clear hg_ hnew_; (first | rw [← Ny109.out] at ho14 | (simp only [Int.reduceToNat] at ho14; rw [← Ny109.out] at ho14)); have n0_ := Aside0.mk (Kd.R_elder' (by (with_reducible repeat (first | apply Kd.R_alloc | apply Kd.R_drewN | apply Kd.R_drew)); exact (Kd.R_mono (Kd.R_far (p := ⟨gb101, 7, none⟩) (Kd.R_types HO108.out BK101.out (by decide)) (fun _ hk => hk.2) (.slice Ao11 y106.length co11)) (fun _ h_ => h_.1))) (Kd.R_base ho14) hb); have n1_ := Aside0.mk (Kd.R_lower (Kd.R_new' ho14 (Kd.R_lt (by (with_reducible repeat (first | apply Kd.R_alloc | apply Kd.R_drewN | apply Kd.R_drew)); exact (Kd.R_mono (Kd.R_far (p := ⟨gb101, 7, none⟩) (Kd.R_types HO108.out BK101.out (by decide)) (fun _ hk => hk.2) (.slice Ao11 y106.length co11)) (fun _ h_ => h_.1))))) (below_size (by repeat (first | (with_reducible first | exact HB.out | apply below_alloc | apply pw_below_drewN | apply below_drew1 | refine below_set ?_ GE101.out | refine below_set ?_ GE102.out) | exact HB.out)))); have n2_ := Aside0.mk (blk_below (g := gb101) (o := .cells #[.int .i64 a0_0, .string a0_1, .string a0_2, .int .u64 a0_3, .int .u64 a0_4, .string a0_5, .string a0_6, .slice Ao11 y106.length co11, .slice A0_8 l0_8.length c0_8] 33 (0, 0)) (by (with_reducible repeat (first | refine blk_drewN ?_ _ | refine blk_drew ?_ | refine blk_alloc ?_ _)); refine blk_put (cs := #[.int .i64 a0_0, .string a0_1, .string a0_2, .int .u64 a0_3, .int .u64 a0_4, .string a0_5, .string a0_6, .slice A0_7 l0_7.length c0_7, .slice A0_8 l0_8.length c0_8]) ?_ 7 _ rfl; (with_reducible repeat (first | refine blk_drewN ?_ _ | refine blk_drew ?_ | refine blk_alloc ?_ _)); exact BK101.out) hb); have n3_ := Aside0.mk (blk_below (g := gb102) (o := .cells #[.int .i64 0, .string (⟨#[]⟩ : ByteArray), .string (⟨#[]⟩ : ByteArray), .int .u64 0, .int .u64 0, .string (⟨#[]⟩ : ByteArray), .string (⟨#[]⟩ : ByteArray), .slice none 0 0, .slice none 0 0] 33 (0, 0)) (by (with_reducible repeat (first | refine blk_drewN ?_ _ | refine blk_drew ?_ | refine blk_alloc ?_ _)); refine blk_far ?_ NB102_101.out _; (with_reducible repeat (first | refine blk_drewN ?_ _ | refine blk_drew ?_ | refine blk_alloc ?_ _)); exact BK102.out) hb); have n4_ := Aside0.mk (below_step (by repeat (first | (with_reducible first | exact HB.out | apply below_alloc | apply pw_below_drewN | apply below_drew1 | refine below_set ?_ GE101.out | refine below_set ?_ GE102.out) | exact HB.out)) hb); clear HO108; clear BK101; clear BK102; clear HB; have HO108 := n0_; have HO111 := n1_; have BK101 := n2_; have BK102 := n3_; have HB := n4_; clear n0_ n1_ n2_ n3_ n4_; clear hb ho14; have hcz15_0 : w13.cell? ⟨gb101, 0, none⟩ = some (.int .i64 a0_0) := (blk_cell BK101.out 0).trans rfl; have hcz15_1 : w13.cell? ⟨gb101, 1, none⟩ = some (.string a0_1) := (blk_cell BK101.out 1).trans rfl; have hcz15_2 : w13.cell? ⟨gb101, 2, none⟩ = some (.string a0_2) := (blk_cell BK101.out 2).trans rfl; have hcz15_3 : w13.cell? ⟨gb101, 3, none⟩ = some (.int .u64 a0_3) := (blk_cell BK101.out 3).trans rfl; have hcz15_4 : w13.cell? ⟨gb101, 4, none⟩ = some (.int .u64 a0_4) := (blk_cell BK101.out 4).trans rfl; have hcz15_5 : w13.cell? ⟨gb101, 5, none⟩ = some (.string a0_5) := (blk_cell BK101.out 5).trans rfl; have hcz15_6 : w13.cell? ⟨gb101, 6, none⟩ = some (.string a0_6) := (blk_cell BK101.out 6).trans rfl; have hcz15_7 : w13.cell? ⟨gb101, 7, none⟩ = some (.slice Ao11 y106.length co11) := (blk_cell BK101.out 7).trans rfl; have hcz15_8 : w13.cell? ⟨gb101, 8, none⟩ = some (.slice A0_8 l0_8.length c0_8) := (blk_cell BK101.out 8).trans rfl; have hfz15_0 := blk_frozen BK101.out 0; have hfz15_1 := blk_frozen BK101.out 1; have hfz15_2 := blk_frozen BK101.out 2; have hfz15_3 := blk_frozen BK101.out 3; have hfz15_4 := blk_frozen BK101.out 4; have hfz15_5 := blk_frozen BK101.out 5; have hfz15_6 := blk_frozen BK101.out 6; have hfz15_7 := blk_frozen BK101.out 7; have hfz15_8 := blk_frozen BK101.out 8) | ((with_reducible refine gate_builtin (b := .append) (xs := #[.tmp 8, .tmp 10]) rfl ?_); at_builtin; refine Kd.R_append_rows Kd.string (w0 := w) w.heap.size rfl (.tmp 8) (.tmp 10) 31 9 (.string ⟨#[]⟩) 16 rfl Tryd.underlying31 info9 rfl (by decide) (by omega) v110 y109 l0_8 _ _ _ (fun k_ => some k_ ≠ (.slice Ao11 y106.length co11 : Value).ownBlock) (fun _ => False) rfl rfl ?aO ?aR (fun _ _ h => h) (fun _ h => h.elim) ?aF ?aB ?aS ?aL ?_; (case aR => repeat (first | exact (Kd.C_below HR0_8.out HB.out) | (with_reducible refine Kd.C_alloc ?_ _) | (with_reducible refine Kd.C_drewN ?_ _) | (with_reducible refine Kd.C_drew ?_))); (case aB => exact (by repeat (first | (with_reducible first | exact HB.out | apply below_alloc | apply pw_below_drewN | apply below_drew1 | refine below_set ?_ GE101.out | refine below_set ?_ GE102.out) | exact HB.out))); (case aF => exact (fun k_ hk => Kd.fresh' (Kd.R_lt (by (with_reducible repeat (first | apply Kd.R_alloc | apply Kd.R_drewN | apply Kd.R_drew)); exact HO108.out)) k_ hk)); (case aO => exact (by (with_reducible repeat (first | apply Kd.R_alloc | apply Kd.R_drewN | apply Kd.R_drew)); exact Kd.R_mono HO111.out (fun _ hk => hk.2))); (case aS => exact (below_size (by repeat (first | (with_reducible first | exact HB.out | apply below_alloc | apply pw_below_drewN | apply below_drew1 | refine below_set ?_ GE101.out | refine below_set ?_ GE102.out) | exact HB.out)))); (case aL => have := LMc3.out; omega); intro v113 w16 ho hb hg hat; rw [← Ny112.out] at ho; have n0_ := Aside0.mk (blk_grown (g := gb101) (o := .cells #[.int .i64 a0_0, .string a0_1, .string a0_2, .int .u64 a0_3, .int .u64 a0_4, .string a0_5, .string a0_6, .slice Ao11 y106.length co11, .slice A0_8 l0_8.length c0_8] 33 (0, 0)) (by (with_reducible repeat (first | refine blk_drewN ?_ _ | refine blk_drew ?_ | refine blk_alloc ?_ _)); exact BK101.out) hg (Kd.R_ne HO111.out BK101.out (by decide))); have n1_ := Aside0.mk (blk_grown (g := gb102) (o := .cells #[.int .i64 0, .string (⟨#[]⟩ : ByteArray), .string (⟨#[]⟩ : ByteArray), .int .u64 0, .int .u64 0, .string (⟨#[]⟩ : ByteArray), .string (⟨#[]⟩ : ByteArray), .slice none 0 0, .slice none 0 0] 33 (0, 0)) (by (with_reducible repeat (first | refine blk_drewN ?_ _ | refine blk_drew ?_ | refine blk_alloc ?_ _)); exact BK102.out) hg (Kd.R_ne HO111.out BK102.out (by decide))); have n2_ := Aside0.mk (Kd.R_after (ok := (fun _ => True)) (by (with_reducible repeat (first | apply Kd.R_alloc | apply Kd.R_drewN | apply Kd.R_drew)); exact HO108.out) hg hat); have n3_ := Aside0.mk (hb); have n4_ := Aside0.mk (ho); clear BK101; clear BK102; clear HO108; clear HB; clear HO111; have BK101 := n0_; have BK102 := n1_; have HO108 := n2_; have HB := n3_; have HO114 := n4_; clear n0_ n1_ n2_ n3_ n4_; clear ho hb hg hat; obtain ⟨Ao17, co17, eo17⟩ := Kd.R_slice HO114.out; subst eo17; have hcz18_0 : w16.cell? ⟨gb101, 0, none⟩ = some (.int .i64 a0_0) := (blk_cell BK101.out 0).trans rfl; have hcz18_1 : w16.cell? ⟨gb101, 1, none⟩ = some (.string a0_1) := (blk_cell BK101.out 1).trans rfl; have hcz18_2 : w16.cell? ⟨gb101, 2, none⟩ = some (.string a0_2) := (blk_cell BK101.out 2).trans rfl; have hcz18_3 : w16.cell? ⟨gb101, 3, none⟩ = some (.int .u64 a0_3) := (blk_cell BK101.out 3).trans rfl; have hcz18_4 : w16.cell? ⟨gb101, 4, none⟩ = some (.int .u64 a0_4) := (blk_cell BK101.out 4).trans rfl; have hcz18_5 : w16.cell? ⟨gb101, 5, none⟩ = some (.string a0_5) := (blk_cell BK101.out 5).trans rfl; have hcz18_6 : w16.cell? ⟨gb101, 6, none⟩ = some (.string a0_6) := (blk_cell BK101.out 6).trans rfl; have hcz18_7 : w16.cell? ⟨gb101, 7, none⟩ = some (.slice Ao11 y106.length co11) := (blk_cell BK101.out 7).trans rfl; have hcz18_8 : w16.cell? ⟨gb101, 8, none⟩ = some (.slice A0_8 l0_8.length c0_8) := (blk_cell BK101.out 8).trans rfl; have hfz18_0 := blk_frozen BK101.out 0; have hfz18_1 := blk_frozen BK101.out 1; have hfz18_2 := blk_frozen BK101.out 2; have hfz18_3 := blk_frozen BK101.out 3; have hfz18_4 := blk_frozen BK101.out 4; have hfz18_5 := blk_frozen BK101.out 5; have hfz18_6 := blk_frozen BK101.out 6; have hfz18_7 := blk_frozen BK101.out 7; have hfz18_8 := blk_frozen BK101.out 8; have hcz19_0 : w16.cell? ⟨gb102, 0, none⟩ = some (.int .i64 0) := (blk_cell BK102.out 0).trans rfl; have hcz19_1 : w16.cell? ⟨gb102, 1, none⟩ = some (.string (⟨#[]⟩ : ByteArray)) := (blk_cell BK102.out 1).trans rfl; have hcz19_2 : w16.cell? ⟨gb102, 2, none⟩ = some (.string (⟨#[]⟩ : ByteArray)) := (blk_cell BK102.out 2).trans rfl; have hcz19_3 : w16.cell? ⟨gb102, 3, none⟩ = some (.int .u64 0) := (blk_cell BK102.out 3).trans rfl; have hcz19_4 : w16.cell? ⟨gb102, 4, none⟩ = some (.int .u64 0) := (blk_cell BK102.out 4).trans rfl; have hcz19_5 : w16.cell? ⟨gb102, 5, none⟩ = some (.string (⟨#[]⟩ : ByteArray)) := (blk_cell BK102.out 5).trans rfl; have hcz19_6 : w16.cell? ⟨gb102, 6, none⟩ = some (.string (⟨#[]⟩ : ByteArray)) := (blk_cell BK102.out 6).trans rfl; have hcz19_7 : w16.cell? ⟨gb102, 7, none⟩ = some (.slice none 0 0) := (blk_cell BK102.out 7).trans rfl; have hcz19_8 : w16.cell? ⟨gb102, 8, none⟩ = some (.slice none 0 0) := (blk_cell BK102.out 8).trans rfl; have hfz19_0 := blk_frozen BK102.out 0; have hfz19_1 := blk_frozen BK102.out 1; have hfz19_2 := blk_frozen BK102.out 2; have hfz19_3 := blk_frozen BK102.out 3; have hfz19_4 := blk_frozen BK102.out 4; have hfz19_5 := blk_frozen BK102.out 5; have hfz19_6 := blk_frozen BK102.out 6; have hfz19_7 := blk_frozen BK102.out 7; have hfz19_8 := blk_frozen BK102.out 8))
      refine bodyPost_ret (results_cell_row rfl _ _ gb102 33 #[.int .i64 a0_0, .string a0_1, .string a0_2, .int .u64 a0_3, .int .u64 a0_4, .string a0_5, .string a0_6, .slice Ao11 y106.length co11, .slice Ao17 y112.length co17] (0, 0) _ rfl (by (with_reducible repeat (first | refine blk_drewN ?_ _ | refine blk_drew ?_ | refine blk_alloc ?_ _)); refine blk_put (cs := #[.int .i64 a0_0, .string a0_1, .string a0_2, .int .u64 a0_3, .int .u64 a0_4, .string a0_5, .string a0_6, .slice Ao11 y106.length co11, .slice none 0 0]) ?_ 8 _ rfl; (with_reducible repeat (first | refine blk_drewN ?_ _ | refine blk_drew ?_ | refine blk_alloc ?_ _)); refine blk_put (cs := #[.int .i64 a0_0, .string a0_1, .string a0_2, .int .u64 a0_3, .int .u64 a0_4, .string a0_5, .string a0_6, .slice none 0 0, .slice none 0 0]) ?_ 7 _ rfl; (with_reducible repeat (first | refine blk_drewN ?_ _ | refine blk_drew ?_ | refine blk_alloc ?_ _)); refine blk_put (cs := #[.int .i64 a0_0, .string a0_1, .string a0_2, .int .u64 a0_3, .int .u64 a0_4, .string a0_5, .string (⟨#[]⟩ : ByteArray), .slice none 0 0, .slice none 0 0]) ?_ 6 _ rfl; (with_reducible repeat (first | refine blk_drewN ?_ _ | refine blk_drew ?_ | refine blk_alloc ?_ _)); refine blk_put (cs := #[.int .i64 a0_0, .string a0_1, .string a0_2, .int .u64 a0_3, .int .u64 a0_4, .string (⟨#[]⟩ : ByteArray), .string (⟨#[]⟩ : ByteArray), .slice none 0 0, .slice none 0 0]) ?_ 5 _ rfl; (with_reducible repeat (first | refine blk_drewN ?_ _ | refine blk_drew ?_ | refine blk_alloc ?_ _)); refine blk_put (cs := #[.int .i64 a0_0, .string a0_1, .string a0_2, .int .u64 a0_3, .int .u64 0, .string (⟨#[]⟩ : ByteArray), .string (⟨#[]⟩ : ByteArray), .slice none 0 0, .slice none 0 0]) ?_ 4 _ rfl; (with_reducible repeat (first | refine blk_drewN ?_ _ | refine blk_drew ?_ | refine blk_alloc ?_ _)); refine blk_put (cs := #[.int .i64 a0_0, .string a0_1, .string a0_2, .int .u64 0, .int .u64 0, .string (⟨#[]⟩ : ByteArray), .string (⟨#[]⟩ : ByteArray), .slice none 0 0, .slice none 0 0]) ?_ 3 _ rfl; (with_reducible repeat (first | refine blk_drewN ?_ _ | refine blk_drew ?_ | refine blk_alloc ?_ _)); refine blk_put (cs := #[.int .i64 a0_0, .string a0_1, .string (⟨#[]⟩ : ByteArray), .int .u64 0, .int .u64 0, .string (⟨#[]⟩ : ByteArray), .string (⟨#[]⟩ : ByteArray), .slice none 0 0, .slice none 0 0]) ?_ 2 _ rfl; (with_reducible repeat (first | refine blk_drewN ?_ _ | refine blk_drew ?_ | refine blk_alloc ?_ _)); refine blk_put (cs := #[.int .i64 a0_0, .string (⟨#[]⟩ : ByteArray), .string (⟨#[]⟩ : ByteArray), .int .u64 0, .int .u64 0, .string (⟨#[]⟩ : ByteArray), .string (⟨#[]⟩ : ByteArray), .slice none 0 0, .slice none 0 0]) ?_ 1 _ rfl; (with_reducible repeat (first | refine blk_drewN ?_ _ | refine blk_drew ?_ | refine blk_alloc ?_ _)); refine blk_put (cs := #[.int .i64 0, .string (⟨#[]⟩ : ByteArray), .string (⟨#[]⟩ : ByteArray), .int .u64 0, .int .u64 0, .string (⟨#[]⟩ : ByteArray), .string (⟨#[]⟩ : ByteArray), .slice none 0 0, .slice none 0 0]) ?_ 0 _ rfl; (with_reducible repeat (first | refine blk_drewN ?_ _ | refine blk_drew ?_ | refine blk_alloc ?_ _)); refine blk_far ?_ NB102_101.out _; (with_reducible repeat (first | refine blk_drewN ?_ _ | refine blk_drew ?_ | refine blk_alloc ?_ _)); exact BK102.out) Tryd.underlying33 rfl (by kernel_rfl)) rfl ?_
      exact ⟨_, _, by first | rfl | (simp [errW_none, errW_some] <;> rfl) | (simp [*, errW_none, errW_some] <;> rfl), by (with_reducible repeat (first | apply Kd.R_alloc | apply Kd.R_drewN | apply Kd.R_drew)); exact Kd.R_mono (Kd.R_far (p := ⟨gb102, 8, none⟩) (Kd.R_far (p := ⟨gb102, 7, none⟩) (Kd.R_far (p := ⟨gb102, 6, none⟩) (Kd.R_far (p := ⟨gb102, 5, none⟩) (Kd.R_far (p := ⟨gb102, 4, none⟩) (Kd.R_far (p := ⟨gb102, 3, none⟩) (Kd.R_far (p := ⟨gb102, 2, none⟩) (Kd.R_far (p := ⟨gb102, 1, none⟩) (Kd.R_far (p := ⟨gb102, 0, none⟩) (Kd.R_far (p := ⟨gb101, 8, none⟩) (Kd.R_types (Kd.R_types HO108.out BK101.out (by decide)) BK102.out (by decide)) (fun _ hk => hk.1.2) (.slice Ao17 y112.length co17)) (fun _ hk => hk.2) (.int .i64 a0_0)) (fun _ hk => hk.2) (.string a0_1)) (fun _ hk => hk.2) (.string a0_2)) (fun _ hk => hk.2) (.int .u64 a0_3)) (fun _ hk => hk.2) (.int .u64 a0_4)) (fun _ hk => hk.2) (.string a0_5)) (fun _ hk => hk.2) (.string a0_6)) (fun _ hk => hk.2) (.slice Ao11 y106.length co11)) (fun _ hk => hk.2) (.slice Ao17 y112.length co17)) (fun _ hk => hk.1.1.2), by (with_reducible repeat (first | apply Kd.R_alloc | apply Kd.R_drewN | apply Kd.R_drew)); exact Kd.R_mono (Kd.R_far (p := ⟨gb102, 8, none⟩) (Kd.R_far (p := ⟨gb102, 7, none⟩) (Kd.R_far (p := ⟨gb102, 6, none⟩) (Kd.R_far (p := ⟨gb102, 5, none⟩) (Kd.R_far (p := ⟨gb102, 4, none⟩) (Kd.R_far (p := ⟨gb102, 3, none⟩) (Kd.R_far (p := ⟨gb102, 2, none⟩) (Kd.R_far (p := ⟨gb102, 1, none⟩) (Kd.R_far (p := ⟨gb102, 0, none⟩) (Kd.R_far (p := ⟨gb101, 8, none⟩) (Kd.R_types (Kd.R_types HO114.out BK101.out (by decide)) BK102.out (by decide)) (fun _ hk => hk.1.2) (.slice Ao17 y112.length co17)) (fun _ hk => hk.2) (.int .i64 a0_0)) (fun _ hk => hk.2) (.string a0_1)) (fun _ hk => hk.2) (.string a0_2)) (fun _ hk => hk.2) (.int .u64 a0_3)) (fun _ hk => hk.2) (.int .u64 a0_4)) (fun _ hk => hk.2) (.string a0_5)) (fun _ hk => hk.2) (.string a0_6)) (fun _ hk => hk.2) (.slice Ao11 y106.length co11)) (fun _ hk => hk.2) (.slice Ao17 y112.length co17)) (fun _ hk => hk.1.1), by repeat (first | (with_reducible first | exact HB.out | apply below_alloc | apply pw_below_drewN | apply below_drew1 | refine below_set ?_ GE101.out | refine below_set ?_ GE102.out) | exact HB.out)⟩
    · rw [if_neg c3] at H
      exact absurd H (by simp)
  · rw [if_neg c2] at H
    exact absurd H (by simp)
end Go.Proofs.YtndicjikjcifaaaDoor.POw
