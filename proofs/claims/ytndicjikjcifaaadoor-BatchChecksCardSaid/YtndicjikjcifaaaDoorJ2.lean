/- Texts joined by wip/tools/slim2.py: PWix0, Ints, PWix1, Wirel, PCkx0, PCkx1, Txread, Refchk, PBx1, Hk, Hkt. -/
import Derived.Test.YtndicjikjcifaaaDoorProg
import Derived.Below
import Derived.Deep.Draws
import Derived.Deep.AppendLies
import Derived.Maps.AppendAt
import Derived.OwnWalk
import Derived.Laws.BytesArg
import Derived.Laws.MakeOwn
import Derived.Laws.OwnMore
import Derived.Deep.OwnRows
import Derived.Tactics
import Derived.Lib.ConvBytes
import Derived.Laws.Slices
import Derived.WalkKit
import Derived.KernelRfl
import Derived.RowKit3
import Derived.Deep.LoopGhost
import Derived.Deep.QuietTactic
import Derived.BigQuiet
import Derived.WideLaws
import Derived.Deep.DeepCutAuto
import Derived.Deep.CutBlock
import Derived.Deep.RegionHeld3
import Derived.Laws.Rows
import Derived.Lib.AppendStr
import Derived.ArgAppend
import Derived.Laws.IdiomCopy
import Derived.OrdersHeld
import Derived.Laws.BitsLemmas
import Derived.RowKit
import Derived.Test.YtndicjikjcifaaaDoorJ1
import Derived.ScopeJumps
import Derived.Laws.Shifts
import Derived.Laws.ShiftsVarLaws
import Derived.Lib.Hide
import Derived.Lib.EndianBits
import Derived.Laws.BitsAllLaws
import Derived.Great.BuildSlice
namespace Go.Proofs.YtndicjikjcifaaaDoor.PWi
open Go.RowKit Go.Proofs.YtndicjikjcifaaaDoorW.PrintWords Go.Proofs.YtndicjikjcifaaaDoorW.PrintLast Go.Proofs.YtndicjikjcifaaaDoorW.PrintMore
attribute [local go_sem] max2_int min2_int max_two min_two max_three min_three max_four min_four   -- for this text's walks alone
set_option linter.unusedVariables false
set_option linter.unusedSimpArgs false
def errW : Option Int → Value
  | none => .nilIface
  | some c => .iface 0 (.int .i64 c)
theorem errW_none : errW none = .nilIface := rfl
theorem errW_some (c : Int) : errW (some c) = .iface 0 (.int .i64 c) := rfl
theorem info9 : (Tryd.prog.info? 9).map (fun i => (i.zero, i.size, i.bytes)) = some (some (.string ⟨#[]⟩), 1, 16) := by kernel_rfl
-- the values' own types
end Go.Proofs.YtndicjikjcifaaaDoor.PWi

/- wire.Int, wire.GetInt: the numbers. -/
namespace Go.Proofs.YtndicjikjcifaaaDoor
open Go.RowKit Go.Proofs.YtndicjikjcifaaaDoorW.PrintWords Go.Proofs.YtndicjikjcifaaaDoorW.PrintLast Go.Proofs.YtndicjikjcifaaaDoorW.PrintMore
set_option linter.unusedVariables false
set_option linter.unusedSimpArgs false
theorem wp_scope_once {P : Program} {a : Act} {w : World} {Q : Exit → Act → World → Prop} {c rest : Code} (l : Nat) (J : Act → World → Prop) (μ : Act → World → Nat) (hf : findLabel c l = some (Code.skip.seq rest))
    (pass : ∀ a w, J a w → rest.wp P (Exit.jump l (fun a' w' => J a' w' ∧ μ a' w' < μ a w) Q) a w)
    (first : (∀ a w, J a w → rest.wp P (Exit.jump l J Q) a w) → c.wp P (Exit.jump l J Q) a w) : (Code.scope c).wp P Q a w :=
  wp_scope_jumps l J μ hf (first fun a w h => wp_mono (pass a w h) (fun e a' w' h' => by
    cases e <;> first | exact h' | exact ⟨h'.1, h'.2.1⟩)) (fun a w h => wp_seq (wp_skip (pass a w h)))
def bn (s : ByteArray) (i : Nat) : Nat := if h : i < s.size then (s[i]'h).toNat else 0
theorem bn_lt (s : ByteArray) (i : Nat) : bn s i < 256 := by
  by_cases h : i < s.size
  · simp only [bn, dif_pos h]; exact UInt8.toNat_lt _
  · simp only [bn, dif_neg h]; omega
set_option maxRecDepth 10000 in
theorem b_or (c : Nat) (hc : c < 256) : bits .or .u8 (c : Int) 128 = ((c % 128 + 128 : Nat) : Int) := by
  have := u8_or_nat c 128 hc (by omega)
  rw [show (((128 : Nat)) : Int) = 128 from rfl] at this
  rw [this]
  have h : ∀ c : Fin 256, c.val ||| 128 = c.val % 128 + 128 := by decide
  exact congrArg _ (h ⟨c, hc⟩)
def gi (s : ByteArray) : Nat → Nat → Nat → Int × Int × Int
  | 0, _, _ => (0, 0, 2)
  | k + 1, i, n => if i = s.size then (0, 0, 1) else
    if bn s i < 128 then
      (if n + bn s i * 2 ^ (7 * i) > 4611686018427387903 then (0, 0, 2)
       else if bn s i = 0 ∧ 0 < i then (0, 0, 3) else (((n + bn s i * 2 ^ (7 * i) : Nat) : Int), ((i + 1 : Nat) : Int), 0))
    else gi s k (i + 1) (n + (bn s i - 128) * 2 ^ (7 * i))
def wire_GetInt.f (a0 : ByteArray) : Option (Int × Int × Int) := some (gi a0 9 0 0)
def vints (n : Nat) : List Int := if h : n < 128 then [(n : Int)] else ((n % 128 + 128 : Nat) : Int) :: vints (n / 128)
termination_by n
def wire_Int.f (a0 : Int) : Option ByteArray := some (if a0 < 0 ∨ a0 > 4611686018427387903 then ⟨#[]⟩ else strOfNums (vints a0.toNat))
def c8 (x : Int) : List Value := [.int .u8 x]
theorem c8_one (x : Int) : ∀ u ∈ c8 x, u.oneCell' = true := by simp [c8, Value.oneCell']
theorem c8_nums {e base : Nat} {w : World} {v : Value} {xs : List Int} (h : FR c8 1 e base w v xs) : w.ownsRow base e 1 v xs.length (nums .u8 xs) := by
  have : xs.flatMap c8 = nums .u8 xs := by
    clear h
    induction xs with
    | nil => rfl
    | cons x xs ih => rw [List.flatMap_cons, ih]; rfl
  rw [← this]; exact h
set_option maxHeartbeats 8000000 in
set_option maxRecDepth 100000 in
theorem wire_Int.calls (a0 : Int) (r : ByteArray) (w : World) (h : wire_Int.f a0 = some r) :
    Calls Tryd.prog 62 #[.int .i64 a0] w fun e w' => e = .returned (.string r) ∧ Below w.heap.size w w' := by
  have HR := Lib.hid (Option.some.inj h)
  clear h
  go_enter Tryd.func62, Tryd.ntmps62
  go_wp2
  refine wp_scope_once 0 (fun a' w' => Below w.heap.size w w' ∧ ∃ (m : Nat) (acc : List Int) (v u1 u4 u5 u6 u7 u8 u9 u10 u11 u12 u13 u14 u15 u16 u17 u18 u19 u20 u21 u22 u23 u24 u25 : Value), a' = { tmps := #[.int .i64 m, u1, .string ⟨#[]⟩, v, u4, u5, u6, u7, u8, u9, u10, u11, u12, u13, u14, u15, u16, u17, u18, u19, u20, u21, u22, u23, u24, u25], defers := [] } ∧ FR c8 1 5 w.heap.size w' v acc ∧ acc.length ≤ 8 ∧ m < 2 ^ (63 - 7 * acc.length) ∧ strOfNums (acc ++ vints m) = r) (fun a' _ => (match a'.tmps.getD 0 undef with | .int _ q => q.toNat | _ => 0)) rfl ?_ ?_
  · rintro a' w' ⟨HB, m, acc, v, u1, u4, u5, u6, u7, u8, u9, u10, u11, u12, u13, u14, u15, u16, u17, u18, u19, u20, u21, u22, u23, u24, u25, rfl, HF, hl, hm, HV⟩
    have HB := Lib.hid HB
    have HF := Lib.hid HF
    by_cases h1 : m < 128
    · have d1 : decide ((128 : Int) ≤ (m : Int)) = false := by simp; omega
      have e1 : IntKind.u8.wrap (m : Int) = m := by rw [IntKind.wrap_u8]; omega
      go_wp2_with (first | (
        (with_reducible refine gate_dst (N := 24) rfl ?_)
        refine fr_app_list (c := c8) rfl (w0 := w') w.heap.size (.tmp 20) (.tmp 23) 104 5 (.int .u8 0) 1 1 rfl Tryd.underlying104 (by kernel_rfl) rfl (by decide) v acc (m : Int) (by simp [Act.eval]) (w'.heap.size) (by simp [Act.eval]) 5 (0, 0) (blk_new _ _) rfl (c8_one _) HF.out ((Below.refl _ w').alloc (Nat.le_refl _) _) HB.out.size (by unfold maxLen; omega) (by omega) ?_
        intro g1 cap w1 HR1 hO hbg hat
        have hcv := own_string (P := Tryd.prog) (src := 104) (dst := 9) Tryd.underlying104 Tryd.underlying5 Tryd.underlying9 (c8_nums HR1)
        have HO := Lib.hid hO
        clear HR1 hO hat))
      simp only [Exit.jump]
      go_ret
      rw [vints, dif_pos h1] at HV
      exact ⟨by rw [← HV]; rfl, (HB.out.alloc HB.out.size _).trans (HO.out.below (by simp; have := HB.out.size; omega) (fun k hk => (HF.out.lt k hk).1))⟩
    · have d1 : decide ((128 : Int) ≤ (m : Int)) = true := by simp; omega
      obtain ⟨q, hq⟩ : ∃ q, q = m % 256 := ⟨_, rfl⟩
      obtain ⟨b, hb⟩ : ∃ b, b = m % 128 + 128 := ⟨_, rfl⟩
      have e1 : IntKind.u8.wrap (m : Int) = (q : Int) := by rw [IntKind.wrap_u8]; omega
      have e2 : bits .or .u8 (q : Int) 128 = (b : Int) := by rw [b_or q (by omega)]; omega
      have hL : acc.length + 1 ≤ 8 := by
        rcases Nat.lt_or_ge acc.length 8 with h | h
        · omega
        · rw [show acc.length = 8 by omega] at hm; omega
      have hm' : m / 128 < 2 ^ (63 - 7 * (acc.length + 1)) := by
        rw [Nat.div_lt_iff_lt_mul (by omega), show (128 : Nat) = 2 ^ 7 from rfl, ← Nat.pow_add, show 63 - 7 * (acc.length + 1) + 7 = 63 - 7 * acc.length by omega]
        exact hm
      rw [vints, dif_neg h1] at HV
      rw [← hb] at HV
      have HM' := Lib.hid hm'
      have HV' := Lib.hid HV
      clear hm' HV hm hb hq
      go_wp2_with (first | (
        (with_reducible refine gate_dst (N := 17) rfl ?_)
        refine fr_app_list (c := c8) rfl (w0 := w') w.heap.size (.tmp 12) (.tmp 16) 104 5 (.int .u8 0) 1 1 rfl Tryd.underlying104 (by kernel_rfl) rfl (by decide) v acc (b : Int) (by simp [Act.eval]) (w'.heap.size) (by simp [Act.eval]) 5 (0, 0) (blk_new _ _) rfl (c8_one _) HF.out ((Below.refl _ w').alloc (Nat.le_refl _) _) HB.out.size (by unfold maxLen; omega) (by omega) ?_
        intro g1 cap w1 HR1 hO hbg hat
        have HF1 := Lib.hid HR1
        have HO := Lib.hid hO
        clear HR1 hO hat))
      refine wp_goto ?_
      refine ⟨rfl, ⟨(HB.out.alloc HB.out.size _).trans (HO.out.below (by simp; have := HB.out.size; omega) (fun k hk => (HF.out.lt k hk).1)), m / 128, acc ++ [(b : Int)], _, _, _, _, _, _, _, _, _, _, _, _, _, _, _, _, _, _, _, _, _, _, _, _, rfl, by simpa using HF1.out, by simpa using hL, by simpa using HM'.out, by simpa using HV'.out⟩, ?_⟩
      simp
      omega
  · intro go
    by_cases h0 : a0 < 0 ∨ a0 > 4611686018427387903
    · have HX := HR
      rw [if_pos h0] at HX
      have HX := Lib.hid HX
      clear HR
      by_cases h1 : a0 < 0
      · have d1 : decide (a0 < 0) = true := by simp; omega
        clear h0 h1 go
        go_wp2
        simp only [Exit.jump]
        go_ret
        exact ⟨by rw [← HX.out.out]; rfl, Below.refl _ w⟩
      · have d1 : decide (a0 < 0) = false := by simp; omega
        have d2 : decide (4611686018427387903 < a0) = true := by simp; omega
        clear h0 h1 go
        go_wp2
        simp only [Exit.jump]
        go_ret
        exact ⟨by rw [← HX.out.out]; rfl, Below.refl _ w⟩
    have HX := HR
    rw [if_neg h0] at HX
    have HX := Lib.hid HX
    clear HR
    obtain ⟨n, rfl⟩ : ∃ n : Nat, a0 = n := ⟨a0.toNat, by omega⟩
    have d1 : decide ((n : Int) < 0) = false := by simp
    have d2 : decide (4611686018427387903 < (n : Int)) = false := by simp; omega
    go_wp2
    refine wp_label ?_
    rename_i hK
    refine hK _ _ (go _ _ ⟨Below.refl _ _, n, [], _, _, _, _, _, _, _, _, _, _, _, _, _, _, _, _, _, _, _, _, _, _, _, _, rfl, FR.nil _ _ _ _ _, by simp, by simp; omega, HX.out⟩)
end Go.Proofs.YtndicjikjcifaaaDoor

namespace Go.Proofs.YtndicjikjcifaaaDoor.PWi
open Go.RowKit Go.Proofs.YtndicjikjcifaaaDoorW.PrintWords Go.Proofs.YtndicjikjcifaaaDoorW.PrintLast Go.Proofs.YtndicjikjcifaaaDoorW.PrintMore
attribute [local go_sem] max2_int min2_int max_two min_two max_three min_three max_four min_four   -- for this text's walks alone
set_option linter.unusedVariables false
set_option linter.unusedSimpArgs false
/-! ### wire_GetInt: function 60 -/
-- IMPORT Derived.Test.YtndicjikjcifaaaDoorInts
/-! ### wire_GetText: function 80 -/
def wire_GetText.f (a0 : ByteArray) : Option (ByteArray × Int × Int) := (wire_GetInt.f a0).bind fun bt101 => (if bt101.2.2 = 0 then (if bt101.1 > 65536 then (some ((⟨#[]⟩ : ByteArray), 0, 8)) else (if bt101.1 > (wrap64 ((a0.size : Int) - bt101.2.1)) then (some ((⟨#[]⟩ : ByteArray), 0, 1)) else (if 0 ≤ bt101.2.1 then (if bt101.2.1 ≤ (wrap64 (bt101.2.1 + bt101.1)) then (if (wrap64 (bt101.2.1 + bt101.1)) ≤ (a0.size : Int) then (some (a0.extract (bt101.2.1 : Int).toNat ((wrap64 (bt101.2.1 + bt101.1)) : Int).toNat, wrap64 (bt101.2.1 + bt101.1), 0)) else (none)) else (none)) else (none)))) else (some ((⟨#[]⟩ : ByteArray), 0, bt101.2.2)))
/-! ### wire_GetList: function 61 -/
def wire_GetList.l0 : Nat → ByteArray → Int → List ByteArray → Int → Int → Option (List ByteArray × Int × Int)
  | 0, _, _, _, _, _ => none
  | k + 1, x0, x8, x10, x28, x29 => if x29 < x28 then (if 0 ≤ x8 then (if x8 ≤ (x0.size : Int) then ((wire_GetText.f (x0.extract (x8 : Int).toNat x0.size)).bind fun bt107 => (if bt107.2.2 = 0 then (if x10.length < 8796093022208 then (wire_GetList.l0 k x0 (wrap64 (x8 + bt107.2.1)) (x10 ++ [bt107.1]) x28 (wrap64 (x29 + 1))) else (none)) else (some (([] : List ByteArray), 0, bt107.2.2)))) else (none)) else (none)) else (some (x10, x8, 0))
def wire_GetList.f (k : Nat) (a0 : ByteArray) (a1 : Int) : Option (List ByteArray × Int × Int) := (wire_GetInt.f a0).bind fun bt104 => (if bt104.2.2 = 0 then (if bt104.1 > a1 then (some (([] : List ByteArray), 0, 8)) else (wire_GetList.l0 k a0 bt104.2.1 ([] : List ByteArray) bt104.1 0)) else (some (([] : List ByteArray), 0, bt104.2.2)))
theorem wire_GetList.mono_l : ∀ k, (∀ y0 y1 y2 y3 y4, LeO (wire_GetList.l0 k y0 y1 y2 y3 y4) (wire_GetList.l0 (k + 1) y0 y1 y2 y3 y4))
  | 0 => fun _ _ _ _ _ r h => by simp [wire_GetList.l0] at h
  | k + 1 => by
    have ih0 := wire_GetList.mono_l k
    · intro y0 y1 y2 y3 y4
      unfold wire_GetList.l0
      repeat' first
      | (with_reducible exact ih0 _ _ _ _ _)
      | (with_reducible exact LeO.refl _)
      | (with_reducible exact LeO.none _)
      | (with_reducible refine LeO.ite ?_ ?_)
      | (with_reducible refine LeO.bind ?_ (fun _ => ?_))
      | exact ih0 _ _ _ _ _
      | exact LeO.none _
      | refine LeO.ite ?_ ?_
      | refine LeO.bind ?_ (fun _ => ?_)
theorem wire_GetList.mono : ∀ a0 a1 k, LeO (wire_GetList.f k a0 a1) (wire_GetList.f (k + 1) a0 a1) := by
  intro a0 a1 k
  have ih0 := wire_GetList.mono_l k
  unfold wire_GetList.f
  repeat' first
      | (with_reducible exact ih0 _ _ _ _ _)
      | (with_reducible exact LeO.refl _)
      | (with_reducible exact LeO.none _)
      | (with_reducible refine LeO.ite ?_ ?_)
      | (with_reducible refine LeO.bind ?_ (fun _ => ?_))
      | exact ih0 _ _ _ _ _
      | exact LeO.none _
      | refine LeO.ite ?_ ?_
      | refine LeO.bind ?_ (fun _ => ?_)
/-! ### wire_Int: function 62 -/
-- IMPORT Derived.Test.YtndicjikjcifaaaDoorInts
/-! ### wire_Text: function 68 -/
def wire_Text.f (a0 : ByteArray) : Option (ByteArray) := (wire_Int.f (a0.size : Int)).bind fun t113 => (if t113.size + a0.size ≤ 9223372036854775807 then (some (t113 ++ a0)) else (none))
set_option maxHeartbeats 8000000 in
set_option maxRecDepth 100000 in
theorem wire_Text.calls (a0 : ByteArray) (r : ByteArray) (w : World) (h : wire_Text.f a0 = some r) :
    Calls Tryd.prog 68 #[.string a0] w fun e w' => e = .returned (.string r) ∧ Below w.heap.size w w' := by
  have HB := Aside0.mk (Below.refl w.heap.size w)
  have H : ((wire_Int.f (a0.size : Int)).bind fun t113 => (if t113.size + a0.size ≤ 9223372036854775807 then (some (t113 ++ a0)) else (none))) = some r := h
  clear h
  replace H := Option.bind_eq_some_iff.mp H
  obtain ⟨t113, A20, H⟩ := H
  replace H : (if t113.size + a0.size ≤ 9223372036854775807 then (some (t113 ++ a0)) else (none)) = some r := H
  have A2 := Aside0.mk A20
  clear A20
  by_cases c3 : t113.size + a0.size ≤ 9223372036854775807
  · rw [if_pos c3] at H
    have c3b0 := eq_true c3
    have c3b1 : decide (t113.size + a0.size ≤ 9223372036854775807) = true := decide_eq_true c3
    try have c3b2 : (9223372036854775807 < t113.size + a0.size) = False := eq_false (Nat.not_lt.2 c3)
    obtain rfl := Option.some.inj H
    go_enter Tryd.func68, Tryd.ntmps68
    go_wp2_with (first | ((with_reducible refine gate_callee (f := 62) rfl ?_); refine goesL_ (some 5) rfl rfl Tryd.func62 (by kernel_rfl) rfl #[.int .i64 (a0.size : Int)] rfl (by (try simp only [List.map_toArray, List.map_cons, List.map_nil]); first | done | rfl | (simp only [List.length_drop, List.length_take]; rfl)) ?_; (with_reducible refine (wire_Int.calls (a0.size : Int) t113 _ A2.out).mono ?_); rintro e w4 ⟨rfl, hb⟩; refine ⟨_, rfl, ?_⟩; have n0_ := Aside0.mk (below_step (by repeat (first | (with_reducible first | exact HB.out | apply below_alloc | apply pw_below_drewN | apply below_drew1) | exact HB.out)) hb); clear HB; have HB := n0_; clear n0_; (try clear hb); (try clear hb2); (try clear hk); (try clear hi)))
    go_ret
    exact ⟨by first | rfl | (simp [errW_none, errW_some] <;> rfl) | (simp [*, errW_none, errW_some] <;> rfl), by repeat (first | (with_reducible first | exact HB.out | apply below_alloc | apply pw_below_drewN | apply below_drew1) | exact HB.out)⟩
  · rw [if_neg c3] at H
    exact absurd H (by simp)
/-! ### tuskref01_GetInt: function 81 -/
mutual
def tuskref01_GetInt.j1 : Nat → ByteArray → Int → Option (Int × Int × Int)
  | 0, _, _ => none
  | k + 1, x0, x5 => if x5 = 9 then (some (0, 0, 2)) else (if x5 = (x0.size : Int) then (some (0, 0, 1)) else (tuskref01_GetInt.l1 k x0 x5 0 x5))
def tuskref01_GetInt.l1 : Nat → ByteArray → Int → Int → Int → Option (Int × Int × Int)
  | 0, _, _, _, _ => none
  | k + 1, x0, x5, x6, x7 => if x7 ≥ 0 then (if 0 ≤ x7 then (if x7 < (x0.size : Int) then (if (wrap64 ((wrap64 (128 * x6)) + (wrap64 (Int.tmod (bt x0 x7) 128)))) > 4611686018427387903 then (some (0, 0, 2)) else (tuskref01_GetInt.l1 k x0 x5 (wrap64 ((wrap64 (128 * x6)) + (wrap64 (Int.tmod (bt x0 x7) 128)))) (wrap64 (x7 - 1)))) else (none)) else (none)) else (if x5 > 0 then (if 0 ≤ x5 then (if x5 < (x0.size : Int) then (if (bt x0 x5) = 0 then (some (0, 0, 3)) else (some (x6, wrap64 (x5 + 1), 0))) else (none)) else (none)) else (some (x6, wrap64 (x5 + 1), 0)))
def tuskref01_GetInt.l0 : Nat → ByteArray → Int → Option (Int × Int × Int)
  | 0, _, _ => none
  | k + 1, x0, x5 => if x5 < (x0.size : Int) then (if x5 < 9 then (if 0 ≤ x5 then (if (bt x0 x5) ≥ 128 then (tuskref01_GetInt.l0 k x0 (wrap64 (x5 + 1))) else (tuskref01_GetInt.j1 k x0 x5)) else (none)) else (tuskref01_GetInt.j1 k x0 x5)) else (tuskref01_GetInt.j1 k x0 x5)
end
def tuskref01_GetInt.f (k : Nat) (a0 : ByteArray) : Option (Int × Int × Int) := tuskref01_GetInt.l0 k a0 0
theorem tuskref01_GetInt.mono_l : ∀ k, (∀ y0 y1, LeO (tuskref01_GetInt.j1 k y0 y1) (tuskref01_GetInt.j1 (k + 1) y0 y1)) ∧ (∀ y0 y1 y2 y3, LeO (tuskref01_GetInt.l1 k y0 y1 y2 y3) (tuskref01_GetInt.l1 (k + 1) y0 y1 y2 y3)) ∧ (∀ y0 y1, LeO (tuskref01_GetInt.l0 k y0 y1) (tuskref01_GetInt.l0 (k + 1) y0 y1))
  | 0 => ⟨fun _ _ r h => by simp [tuskref01_GetInt.j1] at h, fun _ _ _ _ r h => by simp [tuskref01_GetInt.l1] at h, fun _ _ r h => by simp [tuskref01_GetInt.l0] at h⟩
  | k + 1 => by
    obtain ⟨ih0, ih1, ih2⟩ := tuskref01_GetInt.mono_l k
    refine ⟨?_, ?_, ?_⟩
    · intro y0 y1
      unfold tuskref01_GetInt.j1
      repeat' first
      | (with_reducible exact ih0 _ _)
      | (with_reducible exact ih1 _ _ _ _)
      | (with_reducible exact ih2 _ _)
      | (with_reducible exact LeO.refl _)
      | (with_reducible exact LeO.none _)
      | (with_reducible refine LeO.ite ?_ ?_)
      | (with_reducible refine LeO.bind ?_ (fun _ => ?_))
      | exact ih0 _ _
      | exact ih1 _ _ _ _
      | exact ih2 _ _
      | exact LeO.none _
      | refine LeO.ite ?_ ?_
      | refine LeO.bind ?_ (fun _ => ?_)
    · intro y0 y1 y2 y3
      unfold tuskref01_GetInt.l1
      repeat' first
      | (with_reducible exact ih0 _ _)
      | (with_reducible exact ih1 _ _ _ _)
      | (with_reducible exact ih2 _ _)
      | (with_reducible exact LeO.refl _)
      | (with_reducible exact LeO.none _)
      | (with_reducible refine LeO.ite ?_ ?_)
      | (with_reducible refine LeO.bind ?_ (fun _ => ?_))
      | exact ih0 _ _
      | exact ih1 _ _ _ _
      | exact ih2 _ _
      | exact LeO.none _
      | refine LeO.ite ?_ ?_
      | refine LeO.bind ?_ (fun _ => ?_)
    · intro y0 y1
      unfold tuskref01_GetInt.l0
      repeat' first
      | (with_reducible exact ih0 _ _)
      | (with_reducible exact ih1 _ _ _ _)
      | (with_reducible exact ih2 _ _)
      | (with_reducible exact LeO.refl _)
      | (with_reducible exact LeO.none _)
      | (with_reducible refine LeO.ite ?_ ?_)
      | (with_reducible refine LeO.bind ?_ (fun _ => ?_))
      | exact ih0 _ _
      | exact ih1 _ _ _ _
      | exact ih2 _ _
      | exact LeO.none _
      | refine LeO.ite ?_ ?_
      | refine LeO.bind ?_ (fun _ => ?_)
theorem tuskref01_GetInt.mono : ∀ a0 k, LeO (tuskref01_GetInt.f k a0) (tuskref01_GetInt.f (k + 1) a0) := by
  intro a0 k
  obtain ⟨ih0, ih1, ih2⟩ := tuskref01_GetInt.mono_l k
  unfold tuskref01_GetInt.f
  repeat' first
      | (with_reducible exact ih0 _ _)
      | (with_reducible exact ih1 _ _ _ _)
      | (with_reducible exact ih2 _ _)
      | (with_reducible exact LeO.refl _)
      | (with_reducible exact LeO.none _)
      | (with_reducible refine LeO.ite ?_ ?_)
      | (with_reducible refine LeO.bind ?_ (fun _ => ?_))
      | exact ih0 _ _
      | exact ih1 _ _ _ _
      | exact ih2 _ _
      | exact LeO.none _
      | refine LeO.ite ?_ ?_
      | refine LeO.bind ?_ (fun _ => ?_)
/-! ### tuskref01_GetText: function 82 -/
def tuskref01_GetText.f (k : Nat) (a0 : ByteArray) : Option (ByteArray × Int × Int) := (tuskref01_GetInt.f k a0).bind fun bt114 => (if bt114.2.2 = 0 then (if bt114.1 > 65536 then (some ((⟨#[]⟩ : ByteArray), 0, 8)) else (if (wrap64 ((a0.size : Int) - bt114.2.1)) < bt114.1 then (some ((⟨#[]⟩ : ByteArray), 0, 1)) else (if 0 ≤ bt114.2.1 then (if bt114.2.1 ≤ (wrap64 (bt114.2.1 + bt114.1)) then (if (wrap64 (bt114.2.1 + bt114.1)) ≤ (a0.size : Int) then (some (a0.extract (bt114.2.1 : Int).toNat ((wrap64 (bt114.2.1 + bt114.1)) : Int).toNat, wrap64 (bt114.2.1 + bt114.1), 0)) else (none)) else (none)) else (none)))) else (some ((⟨#[]⟩ : ByteArray), 0, bt114.2.2)))
theorem tuskref01_GetText.mono : ∀ a0 k, LeO (tuskref01_GetText.f k a0) (tuskref01_GetText.f (k + 1) a0) := by
  intro a0 k
  unfold tuskref01_GetText.f
  repeat' first
      | (with_reducible exact tuskref01_GetInt.mono _ _)
      | (with_reducible exact LeO.refl _)
      | (with_reducible exact LeO.none _)
      | (with_reducible refine LeO.ite ?_ ?_)
      | (with_reducible refine LeO.bind ?_ (fun _ => ?_))
      | exact tuskref01_GetInt.mono _ _
      | exact LeO.none _
      | refine LeO.ite ?_ ?_
      | refine LeO.bind ?_ (fun _ => ?_)
/-! ### tuskref01_GetList: function 83 -/
def tuskref01_GetList.l0 : Nat → ByteArray → Int → Int → List ByteArray → Int → Option (List ByteArray × Int × Int)
  | 0, _, _, _, _, _ => none
  | k + 1, x0, x7, x8, x10, x11 => if x11 < x7 then (if 0 ≤ x8 then (if x8 ≤ (x0.size : Int) then ((tuskref01_GetText.f k (x0.extract (x8 : Int).toNat x0.size)).bind fun bt120 => (if bt120.2.2 = 0 then (if x10.length < 8796093022208 then (tuskref01_GetList.l0 k x0 x7 (wrap64 (x8 + bt120.2.1)) (x10 ++ [bt120.1]) (wrap64 (x11 + 1))) else (none)) else (some (([] : List ByteArray), 0, bt120.2.2)))) else (none)) else (none)) else (some (x10, x8, 0))
def tuskref01_GetList.f (k : Nat) (a0 : ByteArray) (a1 : Int) : Option (List ByteArray × Int × Int) := (tuskref01_GetInt.f k a0).bind fun bt117 => (if bt117.2.2 = 0 then (if bt117.1 > a1 then (some (([] : List ByteArray), 0, 8)) else (tuskref01_GetList.l0 k a0 bt117.1 bt117.2.1 ([] : List ByteArray) 0)) else (some (([] : List ByteArray), 0, bt117.2.2)))
theorem tuskref01_GetList.mono_l : ∀ k, (∀ y0 y1 y2 y3 y4, LeO (tuskref01_GetList.l0 k y0 y1 y2 y3 y4) (tuskref01_GetList.l0 (k + 1) y0 y1 y2 y3 y4))
  | 0 => fun _ _ _ _ _ r h => by simp [tuskref01_GetList.l0] at h
  | k + 1 => by
    have ih0 := tuskref01_GetList.mono_l k
    · intro y0 y1 y2 y3 y4
      unfold tuskref01_GetList.l0
      repeat' first
      | (with_reducible exact ih0 _ _ _ _ _)
      | (with_reducible exact tuskref01_GetInt.mono _ _)
      | (with_reducible exact tuskref01_GetText.mono _ _)
      | (with_reducible exact LeO.refl _)
      | (with_reducible exact LeO.none _)
      | (with_reducible refine LeO.ite ?_ ?_)
      | (with_reducible refine LeO.bind ?_ (fun _ => ?_))
      | exact ih0 _ _ _ _ _
      | exact tuskref01_GetInt.mono _ _
      | exact tuskref01_GetText.mono _ _
      | exact LeO.none _
      | refine LeO.ite ?_ ?_
      | refine LeO.bind ?_ (fun _ => ?_)
theorem tuskref01_GetList.mono : ∀ a0 a1 k, LeO (tuskref01_GetList.f k a0 a1) (tuskref01_GetList.f (k + 1) a0 a1) := by
  intro a0 a1 k
  have ih0 := tuskref01_GetList.mono_l k
  unfold tuskref01_GetList.f
  repeat' first
      | (with_reducible exact ih0 _ _ _ _ _)
      | (with_reducible exact tuskref01_GetInt.mono _ _)
      | (with_reducible exact tuskref01_GetText.mono _ _)
      | (with_reducible exact LeO.refl _)
      | (with_reducible exact LeO.none _)
      | (with_reducible refine LeO.ite ?_ ?_)
      | (with_reducible refine LeO.bind ?_ (fun _ => ?_))
      | exact ih0 _ _ _ _ _
      | exact tuskref01_GetInt.mono _ _
      | exact tuskref01_GetText.mono _ _
      | exact LeO.none _
      | refine LeO.ite ?_ ?_
      | refine LeO.bind ?_ (fun _ => ?_)
end Go.Proofs.YtndicjikjcifaaaDoor.PWi

/- The plain law of numbers in bytes: the program's reading of a number is the document's. -/
namespace Go.Proofs.YtndicjikjcifaaaDoor
open Go.RowKit Go.Proofs.YtndicjikjcifaaaDoorW.PrintWords Go.Proofs.YtndicjikjcifaaaDoorW.PrintLast
set_option linter.unusedVariables false
set_option linter.unusedSimpArgs false
theorem bt_bn (s : ByteArray) (i : Nat) : bt s (i : Int) = (bn s i : Int) := by
  unfold bt bn
  simp only [Int.toNat_natCast]
  split <;> rfl
theorem w64 (x : Int) (h0 : 0 ≤ x) (h1 : x < 9223372036854775808) : wrap64 x = x := by rw [wrap64]; omega
end Go.Proofs.YtndicjikjcifaaaDoor
/- The plain law of texts and lists in bytes: the program's reading is the document's. -/
namespace Go.Proofs.YtndicjikjcifaaaDoor
open Go.RowKit Go.Proofs.YtndicjikjcifaaaDoorW.PrintWords Go.Proofs.YtndicjikjcifaaaDoorW.PrintLast
set_option linter.unusedVariables false
set_option linter.unusedSimpArgs false
def gt (a : ByteArray) : ByteArray × Int × Int :=
  if (gi a 9 0 0).2.2 = 0 then
    if (gi a 9 0 0).1 > 65536 then (⟨#[]⟩, 0, 8)
    else if (gi a 9 0 0).1 > (a.size : Int) - (gi a 9 0 0).2.1 then (⟨#[]⟩, 0, 1)
    else (a.extract (gi a 9 0 0).2.1.toNat ((gi a 9 0 0).2.1 + (gi a 9 0 0).1).toNat, (gi a 9 0 0).2.1 + (gi a 9 0 0).1, 0)
  else (⟨#[]⟩, 0, (gi a 9 0 0).2.2)
def glL (a : ByteArray) : Nat → Nat → List ByteArray → List ByteArray × Int × Int
  | 0, p, acc => (acc, p, 0)
  | c + 1, p, acc => if (gt (a.extract p a.size)).2.2 = 0 then glL a c (p + (gt (a.extract p a.size)).2.1.toNat) (acc ++ [(gt (a.extract p a.size)).1]) else ([], 0, (gt (a.extract p a.size)).2.2)
def gl (a : ByteArray) (m : Int) : List ByteArray × Int × Int :=
  if (gi a 9 0 0).2.2 = 0 then if (gi a 9 0 0).1 > m then ([], 0, 8) else glL a (gi a 9 0 0).1.toNat (gi a 9 0 0).2.1.toNat []
  else ([], 0, (gi a 9 0 0).2.2)
end Go.Proofs.YtndicjikjcifaaaDoor

namespace Go.Proofs.YtndicjikjcifaaaDoor.PCk
open Go.RowKit Go.Proofs.YtndicjikjcifaaaDoorW.PrintWords Go.Proofs.YtndicjikjcifaaaDoorW.PrintLast Go.Proofs.YtndicjikjcifaaaDoorW.PrintMore
attribute [local go_sem] max2_int min2_int max_two min_two max_three min_three max_four min_four   -- for this text's walks alone
set_option linter.unusedVariables false
set_option linter.unusedSimpArgs false
def errW : Option Int → Value
  | none => .nilIface
  | some c => .iface 0 (.int .i64 c)
theorem errW_none : errW none = .nilIface := rfl
theorem errW_some (c : Int) : errW (some c) = .iface 0 (.int .i64 c) := rfl
-- the values' own types
end Go.Proofs.YtndicjikjcifaaaDoor.PCk

namespace Go.Proofs.YtndicjikjcifaaaDoor.PCk
open Go.RowKit Go.Proofs.YtndicjikjcifaaaDoorW.PrintWords Go.Proofs.YtndicjikjcifaaaDoorW.PrintLast Go.Proofs.YtndicjikjcifaaaDoorW.PrintMore
attribute [local go_sem] max2_int min2_int max_two min_two max_three min_three max_four min_four   -- for this text's walks alone
set_option linter.unusedVariables false
set_option linter.unusedSimpArgs false
/-! ### tuskref04_Name: function 49 -/
def tuskref04_Name.l0 : Nat → ByteArray → Int → Option (Bool)
  | 0, _, _ => none
  | k + 1, x0, x3 => if x3 < (x0.size : Int) then (if 0 ≤ x3 then (if (bt x0 x3) < 97 then (if (bt x0 x3) < 48 then (some false) else (if (bt x0 x3) > 57 then (some false) else (tuskref04_Name.l0 k x0 (wrap64 (x3 + 1))))) else (if (bt x0 x3) > 122 then (if (bt x0 x3) < 48 then (some false) else (if (bt x0 x3) > 57 then (some false) else (tuskref04_Name.l0 k x0 (wrap64 (x3 + 1))))) else (tuskref04_Name.l0 k x0 (wrap64 (x3 + 1))))) else (none)) else (if (x0.size : Int) ≥ 1 then (some (decide ((x0.size : Int) ≤ 32))) else (some false))
def tuskref04_Name.f (k : Nat) (a0 : ByteArray) : Option (Bool) := tuskref04_Name.l0 k a0 0
theorem tuskref04_Name.mono_l : ∀ k, (∀ y0 y1, LeO (tuskref04_Name.l0 k y0 y1) (tuskref04_Name.l0 (k + 1) y0 y1))
  | 0 => fun _ _ r h => by simp [tuskref04_Name.l0] at h
  | k + 1 => by
    have ih0 := tuskref04_Name.mono_l k
    · intro y0 y1
      unfold tuskref04_Name.l0
      repeat' first
      | (with_reducible exact ih0 _ _)
      | (with_reducible exact LeO.refl _)
      | (with_reducible exact LeO.none _)
      | (with_reducible refine LeO.ite ?_ ?_)
      | (with_reducible refine LeO.bind ?_ (fun _ => ?_))
      | exact ih0 _ _
      | exact LeO.none _
      | refine LeO.ite ?_ ?_
      | refine LeO.bind ?_ (fun _ => ?_)
theorem tuskref04_Name.mono : ∀ a0 k, LeO (tuskref04_Name.f k a0) (tuskref04_Name.f (k + 1) a0) := by
  intro a0 k
  have ih0 := tuskref04_Name.mono_l k
  unfold tuskref04_Name.f
  repeat' first
      | (with_reducible exact ih0 _ _)
      | (with_reducible exact LeO.refl _)
      | (with_reducible exact LeO.none _)
      | (with_reducible refine LeO.ite ?_ ?_)
      | (with_reducible refine LeO.bind ?_ (fun _ => ?_))
      | exact ih0 _ _
      | exact LeO.none _
      | refine LeO.ite ?_ ?_
      | refine LeO.bind ?_ (fun _ => ?_)
set_option maxHeartbeats 8000000 in
set_option maxRecDepth 100000 in
theorem tuskref04_Name.calls (k : Nat) (a0 : ByteArray) (r : Bool) (w : World) (h : tuskref04_Name.f k a0 = some r) :
    Calls Tryd.prog 49 #[.string a0] w fun e w' => e = .returned (.bool r) ∧ Drawn0 w w' := by
  have H : (tuskref04_Name.l0 k a0 0) = some r := h
  clear h
  have H' := Aside0.mk H
  clear H
  go_enter Tryd.func49, Tryd.ntmps49
  go_wp2
  go_loopg [3] k (fun kq v3 w' => ∃ (x3_1 : Int), v3 = .int .i64 x3_1 ∧ Aside0 (tuskref04_Name.l0 kq a0 x3_1 = some r) ∧ Aside0 (kq ≤ k) ∧ Drawn0 w w')
  case atStart => exact ⟨(0), (by first | rfl | (simp; done) | (simp [*]; done)), H', ⟨Nat.le_refl _⟩, by repeat (first | exact Drawn0.refl _ | apply Drawn0.step)⟩
  case round =>
    clear H'
    obtain ⟨x3_1, rfl, HA, HK1, ⟨m1, rfl⟩⟩ := hrel
    cases gk with
    | zero => exact absurd HA.out (by simp [tuskref04_Name.l0])
    | succ k1 =>
      have H := HA.out
      clear HA
      simp only [tuskref04_Name.l0] at H
      by_cases c2 : x3_1 < (a0.size : Int)
      · rw [if_pos c2] at H
        have c2b0 : decide (x3_1 < (a0.size : Int)) = true := decide_eq_true c2
        clear c2
        by_cases c3 : 0 ≤ x3_1
        · rw [if_pos c3] at H
          have c3b0 : decide (0 ≤ x3_1) = true := decide_eq_true c3
          clear c3
          by_cases c5 : (bt a0 x3_1) < 97
          · rw [if_pos c5] at H
            have c5b0 : decide ((bt a0 x3_1) < 97) = true := decide_eq_true c5
            clear c5
            by_cases c7 : (bt a0 x3_1) < 48
            · rw [if_pos c7] at H
              have c7b0 : decide ((bt a0 x3_1) < 48) = true := decide_eq_true c7
              clear c7
              obtain rfl := Option.some.inj H
              have p4 : 0 ≤ (x3_1 : Int) := of_decide_eq_true (by first | (with_reducible assumption) | assumption)
              have q4 : x3_1 < (a0.size : Int) := of_decide_eq_true (by first | (with_reducible assumption) | assumption)
              have hx4 := bt_at a0 x3_1
              replace p4 := eq_true p4
              replace q4 := eq_true q4
              have p6 : 0 ≤ (x3_1 : Int) := of_decide_eq_true (by first | (with_reducible assumption) | assumption)
              have q6 : x3_1 < (a0.size : Int) := of_decide_eq_true (by first | (with_reducible assumption) | assumption)
              have hx6 := bt_at a0 x3_1
              replace p6 := eq_true p6
              replace q6 := eq_true q6
              go_wp2
              go_ret
              exact ⟨by first | rfl | (simp; done) | (simp [*]; done), by repeat (first | exact Drawn0.refl _ | apply Drawn0.step)⟩
            · rw [if_neg c7] at H
              have c7b0 : decide ((bt a0 x3_1) < 48) = false := decide_eq_false c7
              clear c7
              by_cases c9 : (bt a0 x3_1) > 57
              · rw [if_pos c9] at H
                have c9b0 : decide (57 < (bt a0 x3_1)) = true := decide_eq_true c9
                clear c9
                obtain rfl := Option.some.inj H
                have p4 : 0 ≤ (x3_1 : Int) := of_decide_eq_true (by first | (with_reducible assumption) | assumption)
                have q4 : x3_1 < (a0.size : Int) := of_decide_eq_true (by first | (with_reducible assumption) | assumption)
                have hx4 := bt_at a0 x3_1
                replace p4 := eq_true p4
                replace q4 := eq_true q4
                have p6 : 0 ≤ (x3_1 : Int) := of_decide_eq_true (by first | (with_reducible assumption) | assumption)
                have q6 : x3_1 < (a0.size : Int) := of_decide_eq_true (by first | (with_reducible assumption) | assumption)
                have hx6 := bt_at a0 x3_1
                replace p6 := eq_true p6
                replace q6 := eq_true q6
                have p8 : 0 ≤ (x3_1 : Int) := of_decide_eq_true (by first | (with_reducible assumption) | assumption)
                have q8 : x3_1 < (a0.size : Int) := of_decide_eq_true (by first | (with_reducible assumption) | assumption)
                have hx8 := bt_at a0 x3_1
                replace p8 := eq_true p8
                replace q8 := eq_true q8
                go_wp2
                go_ret
                exact ⟨by first | rfl | (simp; done) | (simp [*]; done), by repeat (first | exact Drawn0.refl _ | apply Drawn0.step)⟩
              · rw [if_neg c9] at H
                have c9b0 : decide (57 < (bt a0 x3_1)) = false := decide_eq_false c9
                clear c9
                have H' := Aside0.mk H
                clear H
                have p4 : 0 ≤ (x3_1 : Int) := of_decide_eq_true (by first | (with_reducible assumption) | assumption)
                have q4 : x3_1 < (a0.size : Int) := of_decide_eq_true (by first | (with_reducible assumption) | assumption)
                have hx4 := bt_at a0 x3_1
                replace p4 := eq_true p4
                replace q4 := eq_true q4
                have p6 : 0 ≤ (x3_1 : Int) := of_decide_eq_true (by first | (with_reducible assumption) | assumption)
                have q6 : x3_1 < (a0.size : Int) := of_decide_eq_true (by first | (with_reducible assumption) | assumption)
                have hx6 := bt_at a0 x3_1
                replace p6 := eq_true p6
                replace q6 := eq_true q6
                have p8 : 0 ≤ (x3_1 : Int) := of_decide_eq_true (by first | (with_reducible assumption) | assumption)
                have q8 : x3_1 < (a0.size : Int) := of_decide_eq_true (by first | (with_reducible assumption) | assumption)
                have hx8 := bt_at a0 x3_1
                replace p8 := eq_true p8
                replace q8 := eq_true q8
                go_wp2
                go_roundg k1
                case measure => have := HK1.out; omega
                case rel => exact ⟨(wrap64 (x3_1 + 1)), (by first | rfl | (simp; done) | (simp [*]; done)), H', ⟨by have := HK1.out; omega⟩, by repeat (first | exact Drawn0.refl _ | apply Drawn0.step)⟩
          · rw [if_neg c5] at H
            have c5b0 : decide ((bt a0 x3_1) < 97) = false := decide_eq_false c5
            clear c5
            by_cases c11 : (bt a0 x3_1) > 122
            · rw [if_pos c11] at H
              have c11b0 : decide (122 < (bt a0 x3_1)) = true := decide_eq_true c11
              clear c11
              by_cases c13 : (bt a0 x3_1) < 48
              · rw [if_pos c13] at H
                have c13b0 : decide ((bt a0 x3_1) < 48) = true := decide_eq_true c13
                clear c13
                obtain rfl := Option.some.inj H
                have p4 : 0 ≤ (x3_1 : Int) := of_decide_eq_true (by first | (with_reducible assumption) | assumption)
                have q4 : x3_1 < (a0.size : Int) := of_decide_eq_true (by first | (with_reducible assumption) | assumption)
                have hx4 := bt_at a0 x3_1
                replace p4 := eq_true p4
                replace q4 := eq_true q4
                have p10 : 0 ≤ (x3_1 : Int) := of_decide_eq_true (by first | (with_reducible assumption) | assumption)
                have q10 : x3_1 < (a0.size : Int) := of_decide_eq_true (by first | (with_reducible assumption) | assumption)
                have hx10 := bt_at a0 x3_1
                replace p10 := eq_true p10
                replace q10 := eq_true q10
                have p12 : 0 ≤ (x3_1 : Int) := of_decide_eq_true (by first | (with_reducible assumption) | assumption)
                have q12 : x3_1 < (a0.size : Int) := of_decide_eq_true (by first | (with_reducible assumption) | assumption)
                have hx12 := bt_at a0 x3_1
                replace p12 := eq_true p12
                replace q12 := eq_true q12
                go_wp2
                go_ret
                exact ⟨by first | rfl | (simp; done) | (simp [*]; done), by repeat (first | exact Drawn0.refl _ | apply Drawn0.step)⟩
              · rw [if_neg c13] at H
                have c13b0 : decide ((bt a0 x3_1) < 48) = false := decide_eq_false c13
                clear c13
                by_cases c15 : (bt a0 x3_1) > 57
                · rw [if_pos c15] at H
                  have c15b0 : decide (57 < (bt a0 x3_1)) = true := decide_eq_true c15
                  clear c15
                  obtain rfl := Option.some.inj H
                  have p4 : 0 ≤ (x3_1 : Int) := of_decide_eq_true (by first | (with_reducible assumption) | assumption)
                  have q4 : x3_1 < (a0.size : Int) := of_decide_eq_true (by first | (with_reducible assumption) | assumption)
                  have hx4 := bt_at a0 x3_1
                  replace p4 := eq_true p4
                  replace q4 := eq_true q4
                  have p10 : 0 ≤ (x3_1 : Int) := of_decide_eq_true (by first | (with_reducible assumption) | assumption)
                  have q10 : x3_1 < (a0.size : Int) := of_decide_eq_true (by first | (with_reducible assumption) | assumption)
                  have hx10 := bt_at a0 x3_1
                  replace p10 := eq_true p10
                  replace q10 := eq_true q10
                  have p12 : 0 ≤ (x3_1 : Int) := of_decide_eq_true (by first | (with_reducible assumption) | assumption)
                  have q12 : x3_1 < (a0.size : Int) := of_decide_eq_true (by first | (with_reducible assumption) | assumption)
                  have hx12 := bt_at a0 x3_1
                  replace p12 := eq_true p12
                  replace q12 := eq_true q12
                  have p14 : 0 ≤ (x3_1 : Int) := of_decide_eq_true (by first | (with_reducible assumption) | assumption)
                  have q14 : x3_1 < (a0.size : Int) := of_decide_eq_true (by first | (with_reducible assumption) | assumption)
                  have hx14 := bt_at a0 x3_1
                  replace p14 := eq_true p14
                  replace q14 := eq_true q14
                  go_wp2
                  go_ret
                  exact ⟨by first | rfl | (simp; done) | (simp [*]; done), by repeat (first | exact Drawn0.refl _ | apply Drawn0.step)⟩
                · rw [if_neg c15] at H
                  have c15b0 : decide (57 < (bt a0 x3_1)) = false := decide_eq_false c15
                  clear c15
                  have H' := Aside0.mk H
                  clear H
                  have p4 : 0 ≤ (x3_1 : Int) := of_decide_eq_true (by first | (with_reducible assumption) | assumption)
                  have q4 : x3_1 < (a0.size : Int) := of_decide_eq_true (by first | (with_reducible assumption) | assumption)
                  have hx4 := bt_at a0 x3_1
                  replace p4 := eq_true p4
                  replace q4 := eq_true q4
                  have p10 : 0 ≤ (x3_1 : Int) := of_decide_eq_true (by first | (with_reducible assumption) | assumption)
                  have q10 : x3_1 < (a0.size : Int) := of_decide_eq_true (by first | (with_reducible assumption) | assumption)
                  have hx10 := bt_at a0 x3_1
                  replace p10 := eq_true p10
                  replace q10 := eq_true q10
                  have p12 : 0 ≤ (x3_1 : Int) := of_decide_eq_true (by first | (with_reducible assumption) | assumption)
                  have q12 : x3_1 < (a0.size : Int) := of_decide_eq_true (by first | (with_reducible assumption) | assumption)
                  have hx12 := bt_at a0 x3_1
                  replace p12 := eq_true p12
                  replace q12 := eq_true q12
                  have p14 : 0 ≤ (x3_1 : Int) := of_decide_eq_true (by first | (with_reducible assumption) | assumption)
                  have q14 : x3_1 < (a0.size : Int) := of_decide_eq_true (by first | (with_reducible assumption) | assumption)
                  have hx14 := bt_at a0 x3_1
                  replace p14 := eq_true p14
                  replace q14 := eq_true q14
                  go_wp2
                  go_roundg k1
                  case measure => have := HK1.out; omega
                  case rel => exact ⟨(wrap64 (x3_1 + 1)), (by first | rfl | (simp; done) | (simp [*]; done)), H', ⟨by have := HK1.out; omega⟩, by repeat (first | exact Drawn0.refl _ | apply Drawn0.step)⟩
            · rw [if_neg c11] at H
              have c11b0 : decide (122 < (bt a0 x3_1)) = false := decide_eq_false c11
              clear c11
              have H' := Aside0.mk H
              clear H
              have p4 : 0 ≤ (x3_1 : Int) := of_decide_eq_true (by first | (with_reducible assumption) | assumption)
              have q4 : x3_1 < (a0.size : Int) := of_decide_eq_true (by first | (with_reducible assumption) | assumption)
              have hx4 := bt_at a0 x3_1
              replace p4 := eq_true p4
              replace q4 := eq_true q4
              have p10 : 0 ≤ (x3_1 : Int) := of_decide_eq_true (by first | (with_reducible assumption) | assumption)
              have q10 : x3_1 < (a0.size : Int) := of_decide_eq_true (by first | (with_reducible assumption) | assumption)
              have hx10 := bt_at a0 x3_1
              replace p10 := eq_true p10
              replace q10 := eq_true q10
              go_wp2
              go_roundg k1
              case measure => have := HK1.out; omega
              case rel => exact ⟨(wrap64 (x3_1 + 1)), (by first | rfl | (simp; done) | (simp [*]; done)), H', ⟨by have := HK1.out; omega⟩, by repeat (first | exact Drawn0.refl _ | apply Drawn0.step)⟩
        · rw [if_neg c3] at H
          exact absurd H (by simp)
      · rw [if_neg c2] at H
        have c2b0 : decide (x3_1 < (a0.size : Int)) = false := decide_eq_false c2
        clear c2
        by_cases c16 : (a0.size : Int) ≥ 1
        · rw [if_pos c16] at H
          have c16b0 : decide (1 ≤ (a0.size : Int)) = true := decide_eq_true c16
          have c16b1 : decide (1 ≤ a0.size) = true := decide_eq_true (by omega)
          clear c16
          obtain rfl := Option.some.inj H
          go_wp2
          go_ret
          exact ⟨by first | rfl | (simp; done) | (simp [*]; done), by repeat (first | exact Drawn0.refl _ | apply Drawn0.step)⟩
        · rw [if_neg c16] at H
          have c16b0 : decide (1 ≤ (a0.size : Int)) = false := decide_eq_false c16
          have c16b1 : decide (1 ≤ a0.size) = false := decide_eq_false (by omega)
          clear c16
          obtain rfl := Option.some.inj H
          go_wp2
          go_ret
          exact ⟨by first | rfl | (simp; done) | (simp [*]; done), by repeat (first | exact Drawn0.refl _ | apply Drawn0.step)⟩
/-! ### tuskref04_Key: function 92 -/
def tuskref04_Key.f (k : Nat) (a0 : ByteArray) : Option (Bool) := if (a0.size : Int) > 2 then (if 0 ≤ 2 then (if 2 ≤ (a0.size : Int) then (if (a0.extract 0 2).toList = ([97, 58] : List UInt8) then ((tuskref04_Name.f k (a0.extract 2 a0.size)).bind fun t101 => (some t101)) else (if (a0.extract 0 2).toList = ([107, 58] : List UInt8) then ((tuskref04_Name.f k (a0.extract 2 a0.size)).bind fun t102 => (some t102)) else (some false))) else (none)) else (none)) else (some false)
theorem tuskref04_Key.mono : ∀ a0 k, LeO (tuskref04_Key.f k a0) (tuskref04_Key.f (k + 1) a0) := by
  intro a0 k
  unfold tuskref04_Key.f
  repeat' first
      | (with_reducible exact tuskref04_Name.mono _ _)
      | (with_reducible exact LeO.refl _)
      | (with_reducible exact LeO.none _)
      | (with_reducible refine LeO.ite ?_ ?_)
      | (with_reducible refine LeO.bind ?_ (fun _ => ?_))
      | exact tuskref04_Name.mono _ _
      | exact LeO.none _
      | refine LeO.ite ?_ ?_
      | refine LeO.bind ?_ (fun _ => ?_)
set_option maxHeartbeats 8000000 in
set_option maxRecDepth 100000 in
theorem tuskref04_Key.calls (k : Nat) (a0 : ByteArray) (r : Bool) (w : World) (h : tuskref04_Key.f k a0 = some r) :
    Calls Tryd.prog 92 #[.string a0] w fun e w' => e = .returned (.bool r) ∧ Drawn0 w w' := by
  have H : (if (a0.size : Int) > 2 then (if 0 ≤ 2 then (if 2 ≤ (a0.size : Int) then (if (a0.extract 0 2).toList = ([97, 58] : List UInt8) then ((tuskref04_Name.f k (a0.extract 2 a0.size)).bind fun t101 => (some t101)) else (if (a0.extract 0 2).toList = ([107, 58] : List UInt8) then ((tuskref04_Name.f k (a0.extract 2 a0.size)).bind fun t102 => (some t102)) else (some false))) else (none)) else (none)) else (some false)) = some r := h
  clear h
  by_cases c2 : (a0.size : Int) > 2
  · rw [if_pos c2] at H
    have c2b0 : decide (2 < (a0.size : Int)) = true := decide_eq_true c2
    have c2b1 : decide (2 < a0.size) = true := decide_eq_true (by omega)
    clear c2
    by_cases c3 : 0 ≤ 2
    · rw [if_pos c3] at H
      have c3b0 := eq_true c3
      have c3b1 : decide (0 ≤ 2) = true := decide_eq_true c3
      clear c3
      by_cases c4 : 2 ≤ (a0.size : Int)
      · rw [if_pos c4] at H
        have c4b0 := eq_true c4
        have c4b1 : decide (2 ≤ (a0.size : Int)) = true := decide_eq_true c4
        clear c4
        by_cases c5 : (a0.extract 0 2).toList = ([97, 58] : List UInt8)
        · rw [if_pos c5] at H
          have c5b0 : ((a0.extract 0 2).toList == ([97, 58] : List UInt8)) = true := beq_iff_eq.mpr c5
          have c5b1 : ((a0.extract 0 2).toList != ([97, 58] : List UInt8)) = false := bne_eq_false_iff_eq.mpr c5
          clear c5
          have c6b0 := eq_true (of_decide_eq_true (by first | (with_reducible assumption) | assumption) : 2 ≤ (a0.size : Int))
          replace H := Option.bind_eq_some_iff.mp H
          obtain ⟨t101, A70, H⟩ := H
          replace H : (some t101) = some r := H
          have A7 := Aside0.mk A70
          clear A70
          obtain rfl := Option.some.inj H
          go_enter Tryd.func92, Tryd.ntmps92
          go_wp2_with (first | (go_at_call 49; (with_reducible refine (tuskref04_Name.calls k (a0.extract 2 a0.size) t101 _ A7.out).mono ?_); rintro e w' ⟨rfl, ⟨nd, rfl⟩⟩))
          go_ret
          exact ⟨by first | rfl | (simp; done) | (simp [*]; done), by repeat (first | exact Drawn0.refl _ | apply Drawn0.step)⟩
        · rw [if_neg c5] at H
          have c5b0 : ((a0.extract 0 2).toList == ([97, 58] : List UInt8)) = false := beq_eq_false_iff_ne.mpr c5
          have c5b1 : ((a0.extract 0 2).toList != ([97, 58] : List UInt8)) = true := bne_iff_ne.mpr c5
          have c8b0 := eq_true (of_decide_eq_true (by first | (with_reducible assumption) | assumption) : 0 ≤ 2)
          have c9b0 := eq_true (of_decide_eq_true (by first | (with_reducible assumption) | assumption) : 2 ≤ (a0.size : Int))
          by_cases c10 : (a0.extract 0 2).toList = ([107, 58] : List UInt8)
          · rw [if_pos c10] at H
            have c10b0 : ((a0.extract 0 2).toList == ([107, 58] : List UInt8)) = true := beq_iff_eq.mpr c10
            have c10b1 : ((a0.extract 0 2).toList != ([107, 58] : List UInt8)) = false := bne_eq_false_iff_eq.mpr c10
            clear c10
            have c11b0 := eq_true (of_decide_eq_true (by first | (with_reducible assumption) | assumption) : 2 ≤ (a0.size : Int))
            replace H := Option.bind_eq_some_iff.mp H
            obtain ⟨t102, A120, H⟩ := H
            replace H : (some t102) = some r := H
            have A12 := Aside0.mk A120
            clear A120
            obtain rfl := Option.some.inj H
            go_enter Tryd.func92, Tryd.ntmps92
            go_wp2_with (first | (go_at_call 49; (with_reducible refine (tuskref04_Name.calls k (a0.extract 2 a0.size) t102 _ A12.out).mono ?_); rintro e w' ⟨rfl, ⟨nd, rfl⟩⟩))
            go_ret
            exact ⟨by first | rfl | (simp; done) | (simp [*]; done), by repeat (first | exact Drawn0.refl _ | apply Drawn0.step)⟩
          · rw [if_neg c10] at H
            have c10b0 : ((a0.extract 0 2).toList == ([107, 58] : List UInt8)) = false := beq_eq_false_iff_ne.mpr c10
            have c10b1 : ((a0.extract 0 2).toList != ([107, 58] : List UInt8)) = true := bne_iff_ne.mpr c10
            obtain rfl := Option.some.inj H
            go_enter Tryd.func92, Tryd.ntmps92
            go_wp2
            go_ret
            exact ⟨by first | rfl | (simp; done) | (simp [*]; done), by repeat (first | exact Drawn0.refl _ | apply Drawn0.step)⟩
      · rw [if_neg c4] at H
        exact absurd H (by simp)
    · rw [if_neg c3] at H
      exact absurd H (by simp)
  · rw [if_neg c2] at H
    have c2b0 : decide (2 < (a0.size : Int)) = false := decide_eq_false c2
    have c2b1 : decide (2 < a0.size) = false := decide_eq_false (by omega)
    clear c2
    obtain rfl := Option.some.inj H
    go_enter Tryd.func92, Tryd.ntmps92
    go_wp2
    go_ret
    exact ⟨by first | rfl | (simp; done) | (simp [*]; done), by repeat (first | exact Drawn0.refl _ | apply Drawn0.step)⟩
/-! ### tuskref04_keys: function 73 -/
def tuskref04_keys.l0 : Nat → List ByteArray → Int → Option (Int)
  | 0, _, _ => none
  | k + 1, x0, x3 => if x3 < (x0.length : Int) then (if 0 ≤ x3 then ((tuskref04_Key.f k (rdOf ByteArray.empty x0 x3)).bind fun t104 => (if t104 = true then (if x3 > 0 then (if 0 ≤ (wrap64 (x3 - 1)) then (if (wrap64 (x3 - 1)) < (x0.length : Int) then (if ((Op.bytesLess ((rdOf ByteArray.empty x0 (wrap64 (x3 - 1))).toList) ((rdOf ByteArray.empty x0 x3).toList)) = true) then (tuskref04_keys.l0 k x0 (wrap64 (x3 + 1))) else (some 9)) else (none)) else (none)) else (tuskref04_keys.l0 k x0 (wrap64 (x3 + 1)))) else (some 3))) else (none)) else (some 0)
def tuskref04_keys.f (k : Nat) (l0 : List ByteArray) : Option (Int) := if (l0.length : Int) > 8 then (some 8) else (tuskref04_keys.l0 k l0 0)
theorem tuskref04_keys.mono_l : ∀ k, (∀ y0 y1, LeO (tuskref04_keys.l0 k y0 y1) (tuskref04_keys.l0 (k + 1) y0 y1))
  | 0 => fun _ _ r h => by simp [tuskref04_keys.l0] at h
  | k + 1 => by
    have ih0 := tuskref04_keys.mono_l k
    · intro y0 y1
      unfold tuskref04_keys.l0
      repeat' first
      | (with_reducible exact ih0 _ _)
      | (with_reducible exact tuskref04_Key.mono _ _)
      | (with_reducible exact LeO.refl _)
      | (with_reducible exact LeO.none _)
      | (with_reducible refine LeO.ite ?_ ?_)
      | (with_reducible refine LeO.bind ?_ (fun _ => ?_))
      | exact ih0 _ _
      | exact tuskref04_Key.mono _ _
      | exact LeO.none _
      | refine LeO.ite ?_ ?_
      | refine LeO.bind ?_ (fun _ => ?_)
theorem tuskref04_keys.mono : ∀ a0 k, LeO (tuskref04_keys.f k a0) (tuskref04_keys.f (k + 1) a0) := by
  intro a0 k
  have ih0 := tuskref04_keys.mono_l k
  unfold tuskref04_keys.f
  repeat' first
      | (with_reducible exact ih0 _ _)
      | (with_reducible exact tuskref04_Key.mono _ _)
      | (with_reducible exact LeO.refl _)
      | (with_reducible exact LeO.none _)
      | (with_reducible refine LeO.ite ?_ ?_)
      | (with_reducible refine LeO.bind ?_ (fun _ => ?_))
      | exact ih0 _ _
      | exact tuskref04_Key.mono _ _
      | exact LeO.none _
      | refine LeO.ite ?_ ?_
      | refine LeO.bind ?_ (fun _ => ?_)
set_option maxHeartbeats 8000000 in
set_option maxRecDepth 100000 in
theorem tuskref04_keys.calls (k : Nat) (A0 : Option Addr) (c0 : Nat) (l0 : List ByteArray) (r : Int) (w : World) (hr0 : Kd.C Kd.string w A0 l0.length l0) (hc0 : l0.length ≤ c0) (h : tuskref04_keys.f k l0 = some r) :
    Calls Tryd.prog 73 #[.slice A0 l0.length c0] w fun e w' => e = .returned (.int .i64 r) ∧ Drawn0 w w' := by
  have HR0 := Aside0.mk hr0
  have HC0 := Aside0.mk hc0
  clear hr0 hc0
  have H : (if (l0.length : Int) > 8 then (some 8) else (tuskref04_keys.l0 k l0 0)) = some r := h
  clear h
  by_cases c2 : (l0.length : Int) > 8
  · rw [if_pos c2] at H
    have c2b0 : decide (8 < (l0.length : Int)) = true := decide_eq_true c2
    have c2b1 : decide (8 < l0.length) = true := decide_eq_true (by omega)
    clear c2
    obtain rfl := Option.some.inj H
    go_enter Tryd.func73, Tryd.ntmps73
    go_wp2
    repeat (go_quiet (fail); try go_wp2)
    go_ret
    exact ⟨by first | rfl | (simp; done) | (simp [*]; done), by repeat (first | exact Drawn0.refl _ | apply Drawn0.step)⟩
  · rw [if_neg c2] at H
    have c2b0 : decide (8 < (l0.length : Int)) = false := decide_eq_false c2
    have c2b1 : decide (8 < l0.length) = false := decide_eq_false (by omega)
    clear c2
    have H' := Aside0.mk H
    clear H
    go_enter Tryd.func73, Tryd.ntmps73
    go_wp2
    repeat (go_quiet (fail); try go_wp2)
    go_loopg [3] k (fun kq v3 w' => ∃ (x3_1 : Int), v3 = .int .i64 x3_1 ∧ Aside0 (tuskref04_keys.l0 kq l0 x3_1 = some r) ∧ Aside0 (kq ≤ k) ∧ Drawn0 w w')
    case atStart => exact ⟨(0), (by first | rfl | (simp; done) | (simp [*]; done)), H', ⟨Nat.le_refl _⟩, by repeat (first | exact Drawn0.refl _ | apply Drawn0.step)⟩
    case round =>
      clear H'
      try clear c2
      try clear c2b0
      try clear c2b1
      try clear p2
      obtain ⟨x3_1, rfl, HA, HK1, ⟨m1, rfl⟩⟩ := hrel
      cases gk with
      | zero => exact absurd HA.out (by simp [tuskref04_keys.l0])
      | succ k1 =>
        have H := HA.out
        clear HA
        simp only [tuskref04_keys.l0] at H
        by_cases c3 : x3_1 < (l0.length : Int)
        · rw [if_pos c3] at H
          have c3b0 : decide (x3_1 < (l0.length : Int)) = true := decide_eq_true c3
          clear c3
          by_cases c4 : 0 ≤ x3_1
          · rw [if_pos c4] at H
            have c4b0 : decide (0 ≤ x3_1) = true := decide_eq_true c4
            clear c4
            replace H := Option.bind_eq_some_iff.mp H
            obtain ⟨t104, A50, H⟩ := H
            replace H : (if t104 = true then (if x3_1 > 0 then (if 0 ≤ (wrap64 (x3_1 - 1)) then (if (wrap64 (x3_1 - 1)) < (l0.length : Int) then (if ((Op.bytesLess ((rdOf ByteArray.empty l0 (wrap64 (x3_1 - 1))).toList) ((rdOf ByteArray.empty l0 x3_1).toList)) = true) then (tuskref04_keys.l0 k1 l0 (wrap64 (x3_1 + 1))) else (some 9)) else (none)) else (none)) else (tuskref04_keys.l0 k1 l0 (wrap64 (x3_1 + 1)))) else (some 3)) = some r := H
            have A5 := Aside0.mk A50
            clear A50
            by_cases c6 : t104 = true
            · subst c6
              have H1 : (if x3_1 > 0 then (if 0 ≤ (wrap64 (x3_1 - 1)) then (if (wrap64 (x3_1 - 1)) < (l0.length : Int) then (if ((Op.bytesLess ((rdOf ByteArray.empty l0 (wrap64 (x3_1 - 1))).toList) ((rdOf ByteArray.empty l0 x3_1).toList)) = true) then (tuskref04_keys.l0 k1 l0 (wrap64 (x3_1 + 1))) else (some 9)) else (none)) else (none)) else (tuskref04_keys.l0 k1 l0 (wrap64 (x3_1 + 1)))) = some r := by rw [if_pos rfl] at H; exact H
              clear H
              have H := H1
              clear H1
              by_cases c7 : x3_1 > 0
              · rw [if_pos c7] at H
                have c7b0 : decide (0 < x3_1) = true := decide_eq_true c7
                clear c7
                obtain ⟨ji8, hji8⟩ : ∃ j_ : Int, (wrap64 (x3_1 - 1)) = j_ := ⟨_, rfl⟩
                replace H : (if 0 ≤ (ji8) then (if (ji8) < (l0.length : Int) then (if ((Op.bytesLess ((rdOf ByteArray.empty l0 (ji8)).toList) ((rdOf ByteArray.empty l0 x3_1).toList)) = true) then (tuskref04_keys.l0 k1 l0 (wrap64 (x3_1 + 1))) else (some 9)) else (none)) else (none)) = some r := by first | (rw [hji8] at H; exact H) | (simp only [hji8] at H ⊢; exact H)
                (try rw [hji8] at A5)
                have hji8w : (IntKind.i64.wrap (x3_1 - 1)) = ji8 := (i64_w _).trans hji8
                by_cases c9 : 0 ≤ (ji8)
                · rw [if_pos c9] at H
                  have c9b0 : decide (0 ≤ (ji8)) = true := decide_eq_true c9
                  clear c9
                  by_cases c10 : (ji8) < (l0.length : Int)
                  · rw [if_pos c10] at H
                    have c10b0 : decide ((ji8) < (l0.length : Int)) = true := decide_eq_true c10
                    clear c10
                    by_cases c11 : ((Op.bytesLess ((rdOf ByteArray.empty l0 (ji8)).toList) ((rdOf ByteArray.empty l0 x3_1).toList)) = true)
                    · rw [if_pos c11] at H
                      have c11b0 : (Op.bytesLess ((rdOf ByteArray.empty l0 (ji8)).toList) ((rdOf ByteArray.empty l0 x3_1).toList)) = true := c11
                      clear c11
                      have H' := Aside0.mk H
                      clear H
                      have p103 : 0 ≤ (x3_1 : Int) := of_decide_eq_true (by first | (with_reducible assumption) | assumption)
                      have q103 : x3_1 < (l0.length : Int) := of_decide_eq_true (by first | (with_reducible assumption) | assumption)
                      obtain ⟨ad103, e103, hx103_0⟩ := Kd.at_string HR0.out x3_1 p103 q103
                      cases e103
                      replace p103 := eq_true p103
                      replace q103 := eq_true q103
                      have k900 := leq_not (rdOf ByteArray.empty l0 x3_1).toList (rdOf ByteArray.empty l0 ji8).toList
                      rw [c11b0] at k900
                      simp only [Bool.not_true, Bool.not_false] at k900
                      have p900 : 0 ≤ (ji8 : Int) := of_decide_eq_true (by first | (with_reducible assumption) | assumption)
                      have q900 : ji8 < (l0.length : Int) := of_decide_eq_true (by first | (with_reducible assumption) | assumption)
                      obtain ⟨ad900, e900, hx900_0⟩ := Kd.at_string HR0.out ji8 p900 q900
                      cases e900
                      replace p900 := eq_true p900
                      replace q900 := eq_true q900
                      go_wp2_with (first | (go_at_call 92; (with_reducible refine (tuskref04_Key.calls k1 (rdOf ByteArray.empty l0 x3_1) true _ A5.out).mono ?_); rintro e w' ⟨rfl, ⟨nd, rfl⟩⟩; (try first | exact ⟨rfl, _, World.drewN_drewN _ _ _⟩ | exact ⟨rfl, _, Eq.trans (World.drewN_drewN _ _ _) (congrArg (World.drewN _) (Nat.add_assoc _ _ _))⟩); have p105 : 0 ≤ (x3_1 : Int) := of_decide_eq_true (by first | (with_reducible assumption) | assumption); have q105 : x3_1 < (l0.length : Int) := of_decide_eq_true (by first | (with_reducible assumption) | assumption); obtain ⟨ad105, e105, hx105_0⟩ := Kd.at_string HR0.out x3_1 p105 q105; obtain rfl : ad103 = ad105 := (by injection e105); replace p105 := eq_true p105; replace q105 := eq_true q105; have p106 : 0 ≤ ((ji8) : Int) := of_decide_eq_true (by first | (with_reducible assumption) | assumption); have q106 : (ji8) < (l0.length : Int) := of_decide_eq_true (by first | (with_reducible assumption) | assumption); obtain ⟨ad106, e106, hx106_0⟩ := Kd.at_string HR0.out (ji8) p106 q106; obtain rfl : ad103 = ad106 := (by injection e106); replace p106 := eq_true p106; replace q106 := eq_true q106))
                      repeat (go_quiet (first | (go_at_call 92; (with_reducible refine (tuskref04_Key.calls k1 (rdOf ByteArray.empty l0 x3_1) true _ A5.out).mono ?_); rintro e w' ⟨rfl, ⟨nd, rfl⟩⟩; (try first | exact ⟨rfl, _, World.drewN_drewN _ _ _⟩ | exact ⟨rfl, _, Eq.trans (World.drewN_drewN _ _ _) (congrArg (World.drewN _) (Nat.add_assoc _ _ _))⟩); have p105 : 0 ≤ (x3_1 : Int) := of_decide_eq_true (by first | (with_reducible assumption) | assumption); have q105 : x3_1 < (l0.length : Int) := of_decide_eq_true (by first | (with_reducible assumption) | assumption); obtain ⟨ad105, e105, hx105_0⟩ := Kd.at_string HR0.out x3_1 p105 q105; obtain rfl : ad103 = ad105 := (by injection e105); replace p105 := eq_true p105; replace q105 := eq_true q105; have p106 : 0 ≤ ((ji8) : Int) := of_decide_eq_true (by first | (with_reducible assumption) | assumption); have q106 : (ji8) < (l0.length : Int) := of_decide_eq_true (by first | (with_reducible assumption) | assumption); obtain ⟨ad106, e106, hx106_0⟩ := Kd.at_string HR0.out (ji8) p106 q106; obtain rfl : ad103 = ad106 := (by injection e106); replace p106 := eq_true p106; replace q106 := eq_true q106)); try go_wp2_with (first | (go_at_call 92; (with_reducible refine (tuskref04_Key.calls k1 (rdOf ByteArray.empty l0 x3_1) true _ A5.out).mono ?_); rintro e w' ⟨rfl, ⟨nd, rfl⟩⟩; (try first | exact ⟨rfl, _, World.drewN_drewN _ _ _⟩ | exact ⟨rfl, _, Eq.trans (World.drewN_drewN _ _ _) (congrArg (World.drewN _) (Nat.add_assoc _ _ _))⟩); have p105 : 0 ≤ (x3_1 : Int) := of_decide_eq_true (by first | (with_reducible assumption) | assumption); have q105 : x3_1 < (l0.length : Int) := of_decide_eq_true (by first | (with_reducible assumption) | assumption); obtain ⟨ad105, e105, hx105_0⟩ := Kd.at_string HR0.out x3_1 p105 q105; obtain rfl : ad103 = ad105 := (by injection e105); replace p105 := eq_true p105; replace q105 := eq_true q105; have p106 : 0 ≤ ((ji8) : Int) := of_decide_eq_true (by first | (with_reducible assumption) | assumption); have q106 : (ji8) < (l0.length : Int) := of_decide_eq_true (by first | (with_reducible assumption) | assumption); obtain ⟨ad106, e106, hx106_0⟩ := Kd.at_string HR0.out (ji8) p106 q106; obtain rfl : ad103 = ad106 := (by injection e106); replace p106 := eq_true p106; replace q106 := eq_true q106)))
                      go_roundg k1
                      case measure => have := HK1.out; omega
                      case rel => exact ⟨(wrap64 (x3_1 + 1)), (by first | rfl | (simp; done) | (simp [*]; done)), H', ⟨by have := HK1.out; omega⟩, by repeat (first | exact Drawn0.refl _ | apply Drawn0.step)⟩
                    · rw [if_neg c11] at H
                      have c11b0 : (Op.bytesLess ((rdOf ByteArray.empty l0 (ji8)).toList) ((rdOf ByteArray.empty l0 x3_1).toList)) = false := by simpa using c11
                      clear c11
                      obtain rfl := Option.some.inj H
                      have p103 : 0 ≤ (x3_1 : Int) := of_decide_eq_true (by first | (with_reducible assumption) | assumption)
                      have q103 : x3_1 < (l0.length : Int) := of_decide_eq_true (by first | (with_reducible assumption) | assumption)
                      obtain ⟨ad103, e103, hx103_0⟩ := Kd.at_string HR0.out x3_1 p103 q103
                      cases e103
                      replace p103 := eq_true p103
                      replace q103 := eq_true q103
                      have k900 := leq_not (rdOf ByteArray.empty l0 x3_1).toList (rdOf ByteArray.empty l0 ji8).toList
                      rw [c11b0] at k900
                      simp only [Bool.not_true, Bool.not_false] at k900
                      have p900 : 0 ≤ (ji8 : Int) := of_decide_eq_true (by first | (with_reducible assumption) | assumption)
                      have q900 : ji8 < (l0.length : Int) := of_decide_eq_true (by first | (with_reducible assumption) | assumption)
                      obtain ⟨ad900, e900, hx900_0⟩ := Kd.at_string HR0.out ji8 p900 q900
                      cases e900
                      replace p900 := eq_true p900
                      replace q900 := eq_true q900
                      go_wp2_with (first | (go_at_call 92; (with_reducible refine (tuskref04_Key.calls k1 (rdOf ByteArray.empty l0 x3_1) true _ A5.out).mono ?_); rintro e w' ⟨rfl, ⟨nd, rfl⟩⟩; (try first | exact ⟨rfl, _, World.drewN_drewN _ _ _⟩ | exact ⟨rfl, _, Eq.trans (World.drewN_drewN _ _ _) (congrArg (World.drewN _) (Nat.add_assoc _ _ _))⟩); have p105 : 0 ≤ (x3_1 : Int) := of_decide_eq_true (by first | (with_reducible assumption) | assumption); have q105 : x3_1 < (l0.length : Int) := of_decide_eq_true (by first | (with_reducible assumption) | assumption); obtain ⟨ad105, e105, hx105_0⟩ := Kd.at_string HR0.out x3_1 p105 q105; obtain rfl : ad103 = ad105 := (by injection e105); replace p105 := eq_true p105; replace q105 := eq_true q105; have p106 : 0 ≤ ((ji8) : Int) := of_decide_eq_true (by first | (with_reducible assumption) | assumption); have q106 : (ji8) < (l0.length : Int) := of_decide_eq_true (by first | (with_reducible assumption) | assumption); obtain ⟨ad106, e106, hx106_0⟩ := Kd.at_string HR0.out (ji8) p106 q106; obtain rfl : ad103 = ad106 := (by injection e106); replace p106 := eq_true p106; replace q106 := eq_true q106))
                      repeat (go_quiet (first | (go_at_call 92; (with_reducible refine (tuskref04_Key.calls k1 (rdOf ByteArray.empty l0 x3_1) true _ A5.out).mono ?_); rintro e w' ⟨rfl, ⟨nd, rfl⟩⟩; (try first | exact ⟨rfl, _, World.drewN_drewN _ _ _⟩ | exact ⟨rfl, _, Eq.trans (World.drewN_drewN _ _ _) (congrArg (World.drewN _) (Nat.add_assoc _ _ _))⟩); have p105 : 0 ≤ (x3_1 : Int) := of_decide_eq_true (by first | (with_reducible assumption) | assumption); have q105 : x3_1 < (l0.length : Int) := of_decide_eq_true (by first | (with_reducible assumption) | assumption); obtain ⟨ad105, e105, hx105_0⟩ := Kd.at_string HR0.out x3_1 p105 q105; obtain rfl : ad103 = ad105 := (by injection e105); replace p105 := eq_true p105; replace q105 := eq_true q105; have p106 : 0 ≤ ((ji8) : Int) := of_decide_eq_true (by first | (with_reducible assumption) | assumption); have q106 : (ji8) < (l0.length : Int) := of_decide_eq_true (by first | (with_reducible assumption) | assumption); obtain ⟨ad106, e106, hx106_0⟩ := Kd.at_string HR0.out (ji8) p106 q106; obtain rfl : ad103 = ad106 := (by injection e106); replace p106 := eq_true p106; replace q106 := eq_true q106)); try go_wp2_with (first | (go_at_call 92; (with_reducible refine (tuskref04_Key.calls k1 (rdOf ByteArray.empty l0 x3_1) true _ A5.out).mono ?_); rintro e w' ⟨rfl, ⟨nd, rfl⟩⟩; (try first | exact ⟨rfl, _, World.drewN_drewN _ _ _⟩ | exact ⟨rfl, _, Eq.trans (World.drewN_drewN _ _ _) (congrArg (World.drewN _) (Nat.add_assoc _ _ _))⟩); have p105 : 0 ≤ (x3_1 : Int) := of_decide_eq_true (by first | (with_reducible assumption) | assumption); have q105 : x3_1 < (l0.length : Int) := of_decide_eq_true (by first | (with_reducible assumption) | assumption); obtain ⟨ad105, e105, hx105_0⟩ := Kd.at_string HR0.out x3_1 p105 q105; obtain rfl : ad103 = ad105 := (by injection e105); replace p105 := eq_true p105; replace q105 := eq_true q105; have p106 : 0 ≤ ((ji8) : Int) := of_decide_eq_true (by first | (with_reducible assumption) | assumption); have q106 : (ji8) < (l0.length : Int) := of_decide_eq_true (by first | (with_reducible assumption) | assumption); obtain ⟨ad106, e106, hx106_0⟩ := Kd.at_string HR0.out (ji8) p106 q106; obtain rfl : ad103 = ad106 := (by injection e106); replace p106 := eq_true p106; replace q106 := eq_true q106)))
                      go_ret
                      exact ⟨by first | rfl | (simp; done) | (simp only [← hji8] <;> (first | rfl | simp)) | (simp [*]; done), by repeat (first | exact Drawn0.refl _ | apply Drawn0.step)⟩
                  · rw [if_neg c10] at H
                    exact absurd H (by simp)
                · rw [if_neg c9] at H
                  exact absurd H (by simp)
              · rw [if_neg c7] at H
                have c7b0 : decide (0 < x3_1) = false := decide_eq_false c7
                clear c7
                have H' := Aside0.mk H
                clear H
                have p103 : 0 ≤ (x3_1 : Int) := of_decide_eq_true (by first | (with_reducible assumption) | assumption)
                have q103 : x3_1 < (l0.length : Int) := of_decide_eq_true (by first | (with_reducible assumption) | assumption)
                obtain ⟨ad103, e103, hx103_0⟩ := Kd.at_string HR0.out x3_1 p103 q103
                cases e103
                replace p103 := eq_true p103
                replace q103 := eq_true q103
                go_wp2_with (first | (go_at_call 92; (with_reducible refine (tuskref04_Key.calls k1 (rdOf ByteArray.empty l0 x3_1) true _ A5.out).mono ?_); rintro e w' ⟨rfl, ⟨nd, rfl⟩⟩; (try first | exact ⟨rfl, _, World.drewN_drewN _ _ _⟩ | exact ⟨rfl, _, Eq.trans (World.drewN_drewN _ _ _) (congrArg (World.drewN _) (Nat.add_assoc _ _ _))⟩)))
                repeat (go_quiet (first | (go_at_call 92; (with_reducible refine (tuskref04_Key.calls k1 (rdOf ByteArray.empty l0 x3_1) true _ A5.out).mono ?_); rintro e w' ⟨rfl, ⟨nd, rfl⟩⟩; (try first | exact ⟨rfl, _, World.drewN_drewN _ _ _⟩ | exact ⟨rfl, _, Eq.trans (World.drewN_drewN _ _ _) (congrArg (World.drewN _) (Nat.add_assoc _ _ _))⟩))); try go_wp2_with (first | (go_at_call 92; (with_reducible refine (tuskref04_Key.calls k1 (rdOf ByteArray.empty l0 x3_1) true _ A5.out).mono ?_); rintro e w' ⟨rfl, ⟨nd, rfl⟩⟩; (try first | exact ⟨rfl, _, World.drewN_drewN _ _ _⟩ | exact ⟨rfl, _, Eq.trans (World.drewN_drewN _ _ _) (congrArg (World.drewN _) (Nat.add_assoc _ _ _))⟩))))
                go_roundg k1
                case measure => have := HK1.out; omega
                case rel => exact ⟨(wrap64 (x3_1 + 1)), (by first | rfl | (simp; done) | (simp [*]; done)), H', ⟨by have := HK1.out; omega⟩, by repeat (first | exact Drawn0.refl _ | apply Drawn0.step)⟩
            · replace c6 := Bool.eq_false_iff.mpr c6
              subst c6
              have H1 : (some 3) = some r := by rw [if_neg (show ¬ (false = true) by decide)] at H; exact H
              clear H
              have H := H1
              clear H1
              obtain rfl := Option.some.inj H
              have p103 : 0 ≤ (x3_1 : Int) := of_decide_eq_true (by first | (with_reducible assumption) | assumption)
              have q103 : x3_1 < (l0.length : Int) := of_decide_eq_true (by first | (with_reducible assumption) | assumption)
              obtain ⟨ad103, e103, hx103_0⟩ := Kd.at_string HR0.out x3_1 p103 q103
              cases e103
              replace p103 := eq_true p103
              replace q103 := eq_true q103
              go_wp2_with (first | (go_at_call 92; (with_reducible refine (tuskref04_Key.calls k1 (rdOf ByteArray.empty l0 x3_1) false _ A5.out).mono ?_); rintro e w' ⟨rfl, ⟨nd, rfl⟩⟩; (try first | exact ⟨rfl, _, World.drewN_drewN _ _ _⟩ | exact ⟨rfl, _, Eq.trans (World.drewN_drewN _ _ _) (congrArg (World.drewN _) (Nat.add_assoc _ _ _))⟩)))
              repeat (go_quiet (first | (go_at_call 92; (with_reducible refine (tuskref04_Key.calls k1 (rdOf ByteArray.empty l0 x3_1) false _ A5.out).mono ?_); rintro e w' ⟨rfl, ⟨nd, rfl⟩⟩; (try first | exact ⟨rfl, _, World.drewN_drewN _ _ _⟩ | exact ⟨rfl, _, Eq.trans (World.drewN_drewN _ _ _) (congrArg (World.drewN _) (Nat.add_assoc _ _ _))⟩))); try go_wp2_with (first | (go_at_call 92; (with_reducible refine (tuskref04_Key.calls k1 (rdOf ByteArray.empty l0 x3_1) false _ A5.out).mono ?_); rintro e w' ⟨rfl, ⟨nd, rfl⟩⟩; (try first | exact ⟨rfl, _, World.drewN_drewN _ _ _⟩ | exact ⟨rfl, _, Eq.trans (World.drewN_drewN _ _ _) (congrArg (World.drewN _) (Nat.add_assoc _ _ _))⟩))))
              go_ret
              exact ⟨by first | rfl | (simp; done) | (simp [*]; done), by repeat (first | exact Drawn0.refl _ | apply Drawn0.step)⟩
          · rw [if_neg c4] at H
            exact absurd H (by simp)
        · rw [if_neg c3] at H
          have c3b0 : decide (x3_1 < (l0.length : Int)) = false := decide_eq_false c3
          clear c3
          obtain rfl := Option.some.inj H
          go_wp2
          repeat (go_quiet (fail); try go_wp2)
          go_ret
          exact ⟨by first | rfl | (simp; done) | (simp [*]; done), by repeat (first | exact Drawn0.refl _ | apply Drawn0.step)⟩
end Go.Proofs.YtndicjikjcifaaaDoor.PCk

/- tx's reader: what it takes away, or what it throws. -/
namespace Go.Proofs.YtndicjikjcifaaaDoor
open Go.RowKit Go.Shelf Go.Lib Go.Proofs.YtndicjikjcifaaaDoorW.PrintWords Go.Proofs.YtndicjikjcifaaaDoorW.PrintLast
set_option linter.unusedVariables false
set_option linter.unusedSimpArgs false
def rest (s : ByteArray) (n : Int) : ByteArray := s.extract n.toNat s.size
def Rd (p : Nat) (s : ByteArray) (w w' : World) : Prop :=
  ∃ w1 s0, Below w.heap.size w w1 ∧ w1.heap[p]? = some (.cells #[.string s0] 77 (0, 0)) ∧ w' = w1.setCell ⟨p, 0, none⟩ (.string s)
theorem Rd.box {p : Nat} {s : ByteArray} {w w' : World} (h : Rd p s w w') : w'.heap[p]? = some (.cells #[.string s] 77 (0, 0)) := by
  obtain ⟨w1, s0, _, hb, rfl⟩ := h
  simpa using blk_set hb 0 (.string s)
theorem Rd.blk {p : Nat} {s : ByteArray} {w w' : World} (h : Rd p s w w') {g : Nat} (hg : g ≠ p) (hl : g < w.heap.size) : w'.heap[g]? = w.heap[g]? := by
  obtain ⟨w1, s0, hd, hb, rfl⟩ := h
  exact (Below.heap_setCell _ _ _ _ hg).trans (hd.block g hl)
theorem Rd.below {p : Nat} {s : ByteArray} {w0 w w' : World} (h : Rd p s w w') (hl : Below w0.heap.size w0 w) (hp : w0.heap.size ≤ p) : Below w0.heap.size w0 w' := by
  obtain ⟨w1, s0, hd, hb, rfl⟩ := h
  exact (below_then hl hl.size hd).setCell hp _
theorem Rd.row {p : Nat} {s : ByteArray} {w w' : World} (h : Rd p s w w') {base : Nat} {ok : Nat → Prop} {v : Value} {xs : List ByteArray} (hR : Kd.R Kd.string 9 w base ok v xs) : Kd.R Kd.string 9 w' base ok v xs := by
  obtain ⟨w1, s0, hd, hb, rfl⟩ := h
  exact Kd.R_set (Kd.R_below hR hd) hb (by intro q hq; simp [Kd.string, Kd.scalar] at hq; subst hq; decide) 0 _
theorem drawn_below {w w' : World} (h : Drawn0 w w') : Below w.heap.size w w' := by
  obtain ⟨n, rfl⟩ := h
  exact ⟨rfl, rfl, rfl, Nat.le_refl _, fun _ _ => rfl⟩
end Go.Proofs.YtndicjikjcifaaaDoor

/- tuskref04.Name, Key, keys: the same as tx's. -/
namespace Go.Proofs.YtndicjikjcifaaaDoor
open Go.RowKit Go.Shelf Go.Lib Go.Proofs.YtndicjikjcifaaaDoorW.PrintWords Go.Proofs.YtndicjikjcifaaaDoorW.PrintLast
open Go.Proofs.YtndicjikjcifaaaDoor.PCk
set_option linter.unusedVariables false
set_option linter.unusedSimpArgs false
theorem dropWhile_nil {α : Type} (p : α → Bool) : ∀ l : List α, l.dropWhile p = [] ↔ l.all p = true
  | [] => by simp
  | a :: r => by
    by_cases h : p a = true
    · rw [List.dropWhile_cons_of_pos h, dropWhile_nil p r]; simp [h]
    · rw [List.dropWhile_cons_of_neg h]; simp [h]
theorem trimS_nil (l cs : List UInt8) : trimS l cs = [] ↔ l.all (cs.contains ·) = true := by
  unfold trimS trimLeftS
  rw [dropWhile_nil]
  unfold trimRightS
  constructor
  · intro h
    cases hd : l.reverse.dropWhile (cs.contains ·) with
    | nil =>
      have := (dropWhile_nil _ _).1 hd
      simpa using this
    | cons a r =>
      rw [hd] at h
      have ha : cs.contains a = true := by
        rw [List.all_eq_true] at h
        exact h a (by simp)
      have := List.head_dropWhile_not (p := (cs.contains ·)) (l := l.reverse) (w := by rw [hd]; simp)
      simp only [hd, List.head_cons] at this
      rw [ha] at this
      cases this
  · intro h
    have : l.reverse.dropWhile (cs.contains ·) = [] := (dropWhile_nil _ _).2 (by simpa using h)
    rw [this]
    rfl
def okb (n : Nat) : Bool := decide ((97 ≤ n ∧ n ≤ 122) ∨ (48 ≤ n ∧ n ≤ 57))
theorem okb_t {n : Nat} (h : (97 ≤ n ∧ n ≤ 122) ∨ (48 ≤ n ∧ n ≤ 57)) : okb n = true := decide_eq_true h
theorem okb_f {n : Nat} (h : ¬ ((97 ≤ n ∧ n ≤ 122) ∨ (48 ≤ n ∧ n ≤ 57))) : okb n = false := decide_eq_false h
set_option maxRecDepth 100000 in
theorem cut_mem : ∀ n : Fin 256, cutset.contains (UInt8.ofNat n.val) = okb n.val := by decide
theorem cut_bn (s : ByteArray) (i : Nat) (h : i < s.size) : cutset.contains (s[i]'h) = okb (bn s i) := by
  have e : (s[i]'h) = UInt8.ofNat (bn s i) := by simp [bn, h]
  rw [e]
  exact cut_mem ⟨bn s i, bn_lt s i⟩
theorem drop_cons (s : ByteArray) (i : Nat) (h : i < s.size) : s.data.toList.drop i = (s[i]'h) :: s.data.toList.drop (i + 1) := by
  have h' : i < s.data.toList.length := by simpa using h
  rw [List.drop_eq_getElem_cons h']
  congr 1
theorem ref_name_l (s : ByteArray) (hs : s.size < 4611686018427387904) : ∀ d i K, i + d = s.size → d + 1 ≤ K →
    tuskref04_Name.l0 K s i = some ((s.data.toList.drop i).all (cutset.contains ·) && decide (1 ≤ s.size ∧ s.size ≤ 32))
  | 0, i, 0, hi, hK => by omega
  | 0, i, K + 1, hi, hK => by
    have e : s.data.toList.drop i = [] := List.drop_eq_nil_of_le (by simp; omega)
    rw [tuskref04_Name.l0, if_neg (by omega), e]
    by_cases h1 : 1 ≤ s.size
    · rw [if_pos (by omega)]
      simp only [List.all_nil, Bool.true_and]
      exact congrArg some (decide_eq_decide.2 (by omega))
    · rw [if_neg (by omega)]
      simp [h1]
  | d + 1, i, 0, hi, hK => by omega
  | d + 1, i, K + 1, hi, hK => by
    have hlt : i < s.size := by omega
    have ih := ref_name_l s hs d (i + 1) K (by omega) (by omega)
    have hw : wrap64 ((i : Int) + 1) = ((i + 1 : Nat) : Int) := by rw [w64 _ (by omega) (by omega)]; push_cast; rfl
    rw [tuskref04_Name.l0, if_pos (by omega), if_pos (by omega), bt_bn, hw, ih, drop_cons s i hlt, List.all_cons, cut_bn s i hlt]
    by_cases a1 : bn s i < 97
    · rw [if_pos (by omega)]
      by_cases a2 : bn s i < 48
      · rw [if_pos (by omega), okb_f (by omega)]; rfl
      · rw [if_neg (by omega)]
        by_cases a3 : bn s i > 57
        · rw [if_pos (by omega), okb_f (by omega)]; rfl
        · rw [if_neg (by omega), okb_t (by omega), Bool.true_and]
    · rw [if_neg (by omega)]
      by_cases a2 : bn s i > 122
      · rw [if_pos (by omega)]
        rw [if_neg (by omega), if_pos (by omega), okb_f (by omega)]; rfl
      · rw [if_neg (by omega), okb_t (by omega), Bool.true_and]
theorem ref_name (s : ByteArray) (hs : s.size < 4611686018427387904) (K : Nat) (hK : s.size + 1 ≤ K) : tuskref04_Name.f K s = some (nm s) := by
  have := ref_name_l s hs s.size 0 K (by omega) hK
  rw [tuskref04_Name.f]
  refine this.trans ?_
  rw [nm]
  congr 1
  rw [List.drop_zero]
  cases h : s.data.toList.all (cutset.contains ·) with
  | true =>
    have := (trimS_nil s.data.toList cutset).2 h
    simp only [this, and_true, Bool.true_and]
    exact decide_eq_decide.2 (by omega)
  | false =>
    have : ¬ trimS s.data.toList cutset = [] := fun e => by rw [(trimS_nil _ _).1 e] at h; cases h
    simp [this]
theorem ext2 (s : ByteArray) (h : 2 < s.size) (a b : UInt8) : ((s.extract 0 2).toList = [a, b]) ↔ Lib.hasPrefix s.data.toList [a, b] = true := by
  have e : (s.extract 0 2).toList = s.data.toList.take 2 := by
    rw [Lib.toList_data]
    simp
  rw [e]
  unfold Lib.hasPrefix
  rw [List.isPrefixOf_iff_prefix, List.prefix_iff_eq_take]
  exact ⟨fun h => h.symm, fun h => h.symm⟩
theorem ref_key (s : ByteArray) (hs : s.size < 4611686018427387904) (K : Nat) (hK : s.size + 1 ≤ K) : tuskref04_Key.f K s = some (ky s) := by
  rw [tuskref04_Key.f, ky]
  by_cases h : 2 < s.size
  · have hz : (s.extract 2 s.size).size < 4611686018427387904 := by rw [ByteArray.size_extract]; omega
    have hn := ref_name (s.extract 2 s.size) hz K (by rw [ByteArray.size_extract]; omega)
    rw [if_pos (by omega), if_pos (by omega), if_pos (by omega), hn, decide_eq_true h, Bool.true_and]
    by_cases h1 : Lib.hasPrefix s.data.toList [97, 58] = true
    · rw [if_pos ((ext2 s h 97 58).2 h1), h1]; rfl
    · rw [if_neg (fun e => h1 ((ext2 s h 97 58).1 e))]
      have h1 : Lib.hasPrefix s.data.toList [97, 58] = false := by simpa using h1
      by_cases h2 : Lib.hasPrefix s.data.toList [107, 58] = true
      · rw [if_pos ((ext2 s h 107 58).2 h2), h1, h2]; rfl
      · rw [if_neg (fun e => h2 ((ext2 s h 107 58).1 e))]
        have h2 : Lib.hasPrefix s.data.toList [107, 58] = false := by simpa using h2
        rw [h1, h2]; rfl
  · rw [if_neg (by omega), decide_eq_false h]
    rfl
theorem rd_at (xs : List ByteArray) (i : Nat) (h : i < xs.length) : rdOf ByteArray.empty xs (i : Int) = xs[i] := by
  simp [rdOf, h]
theorem ref_keys_l (xs : List ByteArray) (hx : xs.length ≤ 8) (M : Nat) (hs : ∀ x ∈ xs, x.size + 1 ≤ M ∧ x.size < 4611686018427387904) : ∀ d i K, i + d = xs.length → d + M + 1 ≤ K →
    tuskref04_keys.l0 K xs i = some (keL (prv xs i) (xs.drop i))
  | 0, i, 0, hi, hK => by omega
  | 0, i, K + 1, hi, hK => by
    rw [tuskref04_keys.l0, if_neg (by omega), show xs.drop i = [] by simp; omega]
    rfl
  | d + 1, i, 0, hi, hK => by omega
  | d + 1, i, K + 1, hi, hK => by
    have hlt : i < xs.length := by omega
    have ih := ref_keys_l xs hx M hs d (i + 1) K (by omega) (by omega)
    have hw : wrap64 ((i : Int) + 1) = ((i + 1 : Nat) : Int) := by rw [w64 _ (by omega) (by omega)]; push_cast; rfl
    have hm := hs xs[i] (List.getElem_mem hlt)
    rw [tuskref04_keys.l0, if_pos (by omega), if_pos (by omega), rd_at xs i hlt, ref_key _ hm.2 K (by omega), List.drop_eq_getElem_cons hlt, Option.bind_some]
    unfold keL
    cases hk : ky xs[i] with
    | false => simp
    | true =>
      rw [if_pos rfl, if_neg (show ¬ ((true : Bool) = false) by simp), hw, ih]
      cases i with
      | zero =>
        have h0 := rd_at xs 0 hlt
        rw [if_neg (by omega)]
        show some (keL (some (rdOf ByteArray.empty xs ((0 : Nat) : Int))) (List.drop (0 + 1) xs)) = some (if true = false then 9 else keL (some xs[0]) (List.drop (0 + 1) xs))
        rw [h0, if_neg (show ¬ ((true : Bool) = false) by simp)]
      | succ j =>
        have hv : wrap64 (((j + 1 : Nat) : Int) - 1) = (j : Int) := by rw [w64 _ (by omega) (by omega)]; omega
        have h0 := rd_at xs (j + 1) hlt
        rw [if_pos (by omega), hv, if_pos (by omega), if_pos (by omega)]
        show (if Op.bytesLess (rdOf ByteArray.empty xs (j : Int)).toList xs[j + 1].toList = true then some (keL (some (rdOf ByteArray.empty xs ((j + 1 : Nat) : Int))) (List.drop (j + 1 + 1) xs)) else some 9) = some (if Op.bytesLess (rdOf ByteArray.empty xs (j : Int)).toList xs[j + 1].toList = false then 9 else keL (some xs[j + 1]) (List.drop (j + 1 + 1) xs))
        rw [h0]
        cases Op.bytesLess (rdOf ByteArray.empty xs (j : Int)).toList xs[j + 1].toList <;> simp
theorem ref_keys (xs : List ByteArray) (M : Nat) (hs : ∀ x ∈ xs, x.size + 1 ≤ M ∧ x.size < 4611686018427387904) (K : Nat) (hK : M + 9 ≤ K) : tuskref04_keys.f K xs = some (ke xs) := by
  rw [tuskref04_keys.f, ke]
  by_cases h : xs.length ≤ 8
  · rw [if_neg (by omega), if_pos h]
    exact ref_keys_l xs h M hs xs.length 0 K (by omega) (by omega)
  · rw [if_pos (by omega), if_neg h]
end Go.Proofs.YtndicjikjcifaaaDoor
/- tuskref04.Check: what is wrong with a transaction. -/
namespace Go.Proofs.YtndicjikjcifaaaDoor
open Go.RowKit Go.Shelf Go.Lib Go.Proofs.YtndicjikjcifaaaDoorW.PrintWords Go.Proofs.YtndicjikjcifaaaDoorW.PrintLast
open Go.Proofs.YtndicjikjcifaaaDoor.PCk
set_option linter.unusedVariables false
set_option linter.unusedSimpArgs false
theorem name2_calls (s : ByteArray) (w : World) (hs : s.size < 4611686018427387904) :
    Calls Tryd.prog 49 #[.string s] w fun e w' => e = .returned (.bool (nm s)) ∧ Below w.heap.size w w' :=
  (tuskref04_Name.calls (s.size + 1) s (nm s) w (ref_name s hs _ (Nat.le_refl _))).mono fun e w' h => ⟨h.1, drawn_below h.2⟩
def Small (M : Nat) (xs : List ByteArray) : Prop := ∀ x ∈ xs, x.size + 1 ≤ M ∧ x.size < 4611686018427387904
theorem keys2_calls (A : Option Addr) (c : Nat) (xs : List ByteArray) (w : World) (hr : Kd.C Kd.string w A xs.length xs) (hc : xs.length ≤ c) (M : Nat) (hs : Small M xs) :
    Calls Tryd.prog 73 #[.slice A xs.length c] w fun e w' => e = .returned (.int .i64 (ke xs)) ∧ Below w.heap.size w w' :=
  (tuskref04_keys.calls (M + 9) A c xs (ke xs) w hr hc (ref_keys xs M hs _ (Nat.le_refl _))).mono fun e w' h => ⟨h.1, drawn_below h.2⟩
structure Bq (w : World) (bs : Array Value) (W : World) : Prop where
  low : Below w.heap.size w W
  box : W.heap[w.heap.size]? = some (.cells bs 33 (0, 0))
theorem Bq.step {w W W' : World} {bs : Array Value} (h : Bq w bs W) (hb : Below W.heap.size W W') : Bq w bs W' :=
  ⟨below_then h.low h.low.size hb, (hb.block _ (blk_lt h.box)).trans h.box⟩
theorem Bq.first (w : World) (bs : Array Value) : Bq w bs (w.alloc (.cells bs 33)) :=
  ⟨(Below.refl _ w).alloc (Nat.le_refl _) _, blk_new _ _⟩
set_option maxHeartbeats 8000000 in
set_option maxRecDepth 100000 in
theorem chk2_calls (k : Int) (f t : ByteArray) (am nc : Int) (ky' vl : ByteArray) (A B : Option Addr) (c d : Nat) (rs ws : List ByteArray) (w : World) (M : Nat)
    (hr : Kd.C Kd.string w A rs.length rs) (hc : rs.length ≤ c) (hs : Kd.C Kd.string w B ws.length ws) (hd : ws.length ≤ d)
    (hf : f.size < 4611686018427387904) (ht : t.size < 4611686018427387904) (hkk : ky'.size < 4611686018427387904) (hm : Small M rs) (hn : Small M ws) :
    Calls Tryd.prog 42 #[.agg #[.int .i64 k, .string f, .string t, .int .u64 am, .int .u64 nc, .string ky', .string vl, .slice A rs.length c, .slice B ws.length d]] w
      fun e w' => e = .returned (.int .i64 (ch k f t am nc ky' vl rs ws)) ∧ Below w.heap.size w w' := by
  have HR := Lib.hid hr
  have HC := Lib.hid hc
  have HS := Lib.hid hs
  have HD := Lib.hid hd
  have HF := Lib.hid hf
  have HT := Lib.hid ht
  have HK := Lib.hid hkk
  have HM := Lib.hid hm
  have HN := Lib.hid hn
  clear hr hc hs hd hf ht hkk hm hn
  go_enter Tryd.func42, Tryd.ntmps42
  have HX := Lib.hid (Bq.first w #[.int .i64 k, .string f, .string t, .int .u64 am, .int .u64 nc, .string ky', .string vl, .slice A rs.length c, .slice B ws.length d])
  by_cases h5 : chF k f t ky' vl am = 5
  · have hE : ch k f t am nc ky' vl rs ws = 5 := by rw [ch, h5]; rfl
    have e1 : (k == 1) = false := by
      cases h : (k == 1)
      · rfl
      · simp at h; subst h; simp [chF] at h5; split at h5 <;> cases h5
    have e2 : (k == 2) = false := by
      cases h : (k == 2)
      · rfl
      · simp at h; subst h; simp [chF] at h5; split at h5 <;> cases h5
    have n1 : (k != 1) = true := by simp [bne, e1]
    have n2 : (k != 2) = true := by simp [bne, e2]
    have n3 : (k != 1 && k != 2) = true := by rw [n1, n2]; rfl
    rw [hE]
    clear hE h5 e1 e2
    go_wp2
    go_ret
    exact ⟨rfl, HX.out.low⟩
  have hnil : ∀ s : ByteArray, s.toList.isEmpty = true ∨ s.toList.isEmpty = false := fun s => by cases s.toList.isEmpty <;> simp
  rcases (show k = 1 ∨ k = 2 by
    by_cases h1 : k = 1
    · exact .inl h1
    · by_cases h2 : k = 2
      · exact .inr h2
      · exact absurd (by simp [chF, h1, h2]) h5) with rfl | rfl
  · clear h5
    cases h1 : nm f with
    | false =>
      have hE : ch 1 f t am nc ky' vl rs ws = 3 := by simp [ch, chF, h1]
      rw [hE]
      clear hE hnil
      go_wp2_with (first
        | (go_at_call 49
           first
             | (with_reducible refine (name2_calls f _ HF.out).mono ?_)
             | (with_reducible refine (name2_calls t _ HT.out).mono ?_)
             | (with_reducible refine (name2_calls ky' _ HK.out).mono ?_)
           rintro e w2 ⟨rfl, hB⟩
           have HX := Lib.hid (HX.out.step hB)
           clear hB
           have c1 : w2.cell? ⟨w.heap.size, 1, none⟩ = some (.string f) := blk_cell HX.out.box 1
           have c2 : w2.cell? ⟨w.heap.size, 2, none⟩ = some (.string t) := blk_cell HX.out.box 2
           have c3 : w2.cell? ⟨w.heap.size, 3, none⟩ = some (.int .u64 am) := blk_cell HX.out.box 3
           have c4 : w2.cell? ⟨w.heap.size, 4, none⟩ = some (.int .u64 nc) := blk_cell HX.out.box 4
           have c5 : w2.cell? ⟨w.heap.size, 5, none⟩ = some (.string ky') := blk_cell HX.out.box 5
           have c6 : w2.cell? ⟨w.heap.size, 6, none⟩ = some (.string vl) := blk_cell HX.out.box 6
           have c7 : w2.cell? ⟨w.heap.size, 7, none⟩ = some (.slice A rs.length c) := blk_cell HX.out.box 7
           have c8 : w2.cell? ⟨w.heap.size, 8, none⟩ = some (.slice B ws.length d) := blk_cell HX.out.box 8
           skip)
        | (go_at_call 73
           first
             | (with_reducible refine (keys2_calls A c rs _ (Kd.C_below HR.out HX.out.low) HC.out M HM.out).mono ?_)
             | (with_reducible refine (keys2_calls B d ws _ (Kd.C_below HS.out HX.out.low) HD.out M HN.out).mono ?_)
           rintro e w2 ⟨rfl, hB⟩
           have HX := Lib.hid (HX.out.step hB)
           clear hB
           have c1 : w2.cell? ⟨w.heap.size, 1, none⟩ = some (.string f) := blk_cell HX.out.box 1
           have c2 : w2.cell? ⟨w.heap.size, 2, none⟩ = some (.string t) := blk_cell HX.out.box 2
           have c3 : w2.cell? ⟨w.heap.size, 3, none⟩ = some (.int .u64 am) := blk_cell HX.out.box 3
           have c4 : w2.cell? ⟨w.heap.size, 4, none⟩ = some (.int .u64 nc) := blk_cell HX.out.box 4
           have c5 : w2.cell? ⟨w.heap.size, 5, none⟩ = some (.string ky') := blk_cell HX.out.box 5
           have c6 : w2.cell? ⟨w.heap.size, 6, none⟩ = some (.string vl) := blk_cell HX.out.box 6
           have c7 : w2.cell? ⟨w.heap.size, 7, none⟩ = some (.slice A rs.length c) := blk_cell HX.out.box 7
           have c8 : w2.cell? ⟨w.heap.size, 8, none⟩ = some (.slice B ws.length d) := blk_cell HX.out.box 8
           skip))
      go_ret
      exact ⟨rfl, HX.out.low⟩
    | true =>
      cases h2 : nm t with
      | false =>
        have hE : ch 1 f t am nc ky' vl rs ws = 3 := by simp [ch, chF, h1, h2]
        rw [hE]
        clear hE hnil
        go_wp2_with (first
          | (go_at_call 49
             first
               | (with_reducible refine (name2_calls f _ HF.out).mono ?_)
               | (with_reducible refine (name2_calls t _ HT.out).mono ?_)
               | (with_reducible refine (name2_calls ky' _ HK.out).mono ?_)
             rintro e w2 ⟨rfl, hB⟩
             have HX := Lib.hid (HX.out.step hB)
             clear hB
             have c1 : w2.cell? ⟨w.heap.size, 1, none⟩ = some (.string f) := blk_cell HX.out.box 1
             have c2 : w2.cell? ⟨w.heap.size, 2, none⟩ = some (.string t) := blk_cell HX.out.box 2
             have c3 : w2.cell? ⟨w.heap.size, 3, none⟩ = some (.int .u64 am) := blk_cell HX.out.box 3
             have c4 : w2.cell? ⟨w.heap.size, 4, none⟩ = some (.int .u64 nc) := blk_cell HX.out.box 4
             have c5 : w2.cell? ⟨w.heap.size, 5, none⟩ = some (.string ky') := blk_cell HX.out.box 5
             have c6 : w2.cell? ⟨w.heap.size, 6, none⟩ = some (.string vl) := blk_cell HX.out.box 6
             have c7 : w2.cell? ⟨w.heap.size, 7, none⟩ = some (.slice A rs.length c) := blk_cell HX.out.box 7
             have c8 : w2.cell? ⟨w.heap.size, 8, none⟩ = some (.slice B ws.length d) := blk_cell HX.out.box 8
             skip)
          | (go_at_call 73
             first
               | (with_reducible refine (keys2_calls A c rs _ (Kd.C_below HR.out HX.out.low) HC.out M HM.out).mono ?_)
               | (with_reducible refine (keys2_calls B d ws _ (Kd.C_below HS.out HX.out.low) HD.out M HN.out).mono ?_)
             rintro e w2 ⟨rfl, hB⟩
             have HX := Lib.hid (HX.out.step hB)
             clear hB
             have c1 : w2.cell? ⟨w.heap.size, 1, none⟩ = some (.string f) := blk_cell HX.out.box 1
             have c2 : w2.cell? ⟨w.heap.size, 2, none⟩ = some (.string t) := blk_cell HX.out.box 2
             have c3 : w2.cell? ⟨w.heap.size, 3, none⟩ = some (.int .u64 am) := blk_cell HX.out.box 3
             have c4 : w2.cell? ⟨w.heap.size, 4, none⟩ = some (.int .u64 nc) := blk_cell HX.out.box 4
             have c5 : w2.cell? ⟨w.heap.size, 5, none⟩ = some (.string ky') := blk_cell HX.out.box 5
             have c6 : w2.cell? ⟨w.heap.size, 6, none⟩ = some (.string vl) := blk_cell HX.out.box 6
             have c7 : w2.cell? ⟨w.heap.size, 7, none⟩ = some (.slice A rs.length c) := blk_cell HX.out.box 7
             have c8 : w2.cell? ⟨w.heap.size, 8, none⟩ = some (.slice B ws.length d) := blk_cell HX.out.box 8
             skip))
        go_ret
        exact ⟨rfl, HX.out.low⟩
      | true =>
        rcases hnil ky' with h3 | h3
        · rcases hnil vl with h4 | h4
          · have hk : ∀ x, chR am nc rs ws = x → ch 1 f t am nc ky' vl rs ws = x := fun x h => by simp [ch, chF, h1, h2, h3, h4]; exact h
            by_cases a1 : am ≤ 4611686018427387903
            · have d1 : decide ((4611686018427387903 : Int) < am) = false := by simp; omega
              by_cases a2 : nc ≤ 4611686018427387903
              · have d2 : decide ((4611686018427387903 : Int) < nc) = false := by simp; omega
                by_cases k1 : ke rs = 0
                · rw [hk (ke ws) (by simp [chR, a1, a2, k1])]
                  have j1 : (ke rs == 0) = true := by simp [k1]
                  clear hk hnil a1 a2 k1
                  go_wp2_with (first
                    | (go_at_call 49
                       first
                         | (with_reducible refine (name2_calls f _ HF.out).mono ?_)
                         | (with_reducible refine (name2_calls t _ HT.out).mono ?_)
                         | (with_reducible refine (name2_calls ky' _ HK.out).mono ?_)
                       rintro e w2 ⟨rfl, hB⟩
                       have HX := Lib.hid (HX.out.step hB)
                       clear hB
                       have c1 : w2.cell? ⟨w.heap.size, 1, none⟩ = some (.string f) := blk_cell HX.out.box 1
                       have c2 : w2.cell? ⟨w.heap.size, 2, none⟩ = some (.string t) := blk_cell HX.out.box 2
                       have c3 : w2.cell? ⟨w.heap.size, 3, none⟩ = some (.int .u64 am) := blk_cell HX.out.box 3
                       have c4 : w2.cell? ⟨w.heap.size, 4, none⟩ = some (.int .u64 nc) := blk_cell HX.out.box 4
                       have c5 : w2.cell? ⟨w.heap.size, 5, none⟩ = some (.string ky') := blk_cell HX.out.box 5
                       have c6 : w2.cell? ⟨w.heap.size, 6, none⟩ = some (.string vl) := blk_cell HX.out.box 6
                       have c7 : w2.cell? ⟨w.heap.size, 7, none⟩ = some (.slice A rs.length c) := blk_cell HX.out.box 7
                       have c8 : w2.cell? ⟨w.heap.size, 8, none⟩ = some (.slice B ws.length d) := blk_cell HX.out.box 8
                       skip)
                    | (go_at_call 73
                       first
                         | (with_reducible refine (keys2_calls A c rs _ (Kd.C_below HR.out HX.out.low) HC.out M HM.out).mono ?_)
                         | (with_reducible refine (keys2_calls B d ws _ (Kd.C_below HS.out HX.out.low) HD.out M HN.out).mono ?_)
                       rintro e w2 ⟨rfl, hB⟩
                       have HX := Lib.hid (HX.out.step hB)
                       clear hB
                       have c1 : w2.cell? ⟨w.heap.size, 1, none⟩ = some (.string f) := blk_cell HX.out.box 1
                       have c2 : w2.cell? ⟨w.heap.size, 2, none⟩ = some (.string t) := blk_cell HX.out.box 2
                       have c3 : w2.cell? ⟨w.heap.size, 3, none⟩ = some (.int .u64 am) := blk_cell HX.out.box 3
                       have c4 : w2.cell? ⟨w.heap.size, 4, none⟩ = some (.int .u64 nc) := blk_cell HX.out.box 4
                       have c5 : w2.cell? ⟨w.heap.size, 5, none⟩ = some (.string ky') := blk_cell HX.out.box 5
                       have c6 : w2.cell? ⟨w.heap.size, 6, none⟩ = some (.string vl) := blk_cell HX.out.box 6
                       have c7 : w2.cell? ⟨w.heap.size, 7, none⟩ = some (.slice A rs.length c) := blk_cell HX.out.box 7
                       have c8 : w2.cell? ⟨w.heap.size, 8, none⟩ = some (.slice B ws.length d) := blk_cell HX.out.box 8
                       skip))
                  go_ret
                  exact ⟨rfl, HX.out.low⟩
                · rw [hk (ke rs) (by simp [chR, a1, a2, k1])]
                  have j1 : (ke rs == 0) = false := by simpa using k1
                  clear hk hnil a1 a2 k1
                  go_wp2_with (first
                    | (go_at_call 49
                       first
                         | (with_reducible refine (name2_calls f _ HF.out).mono ?_)
                         | (with_reducible refine (name2_calls t _ HT.out).mono ?_)
                         | (with_reducible refine (name2_calls ky' _ HK.out).mono ?_)
                       rintro e w2 ⟨rfl, hB⟩
                       have HX := Lib.hid (HX.out.step hB)
                       clear hB
                       have c1 : w2.cell? ⟨w.heap.size, 1, none⟩ = some (.string f) := blk_cell HX.out.box 1
                       have c2 : w2.cell? ⟨w.heap.size, 2, none⟩ = some (.string t) := blk_cell HX.out.box 2
                       have c3 : w2.cell? ⟨w.heap.size, 3, none⟩ = some (.int .u64 am) := blk_cell HX.out.box 3
                       have c4 : w2.cell? ⟨w.heap.size, 4, none⟩ = some (.int .u64 nc) := blk_cell HX.out.box 4
                       have c5 : w2.cell? ⟨w.heap.size, 5, none⟩ = some (.string ky') := blk_cell HX.out.box 5
                       have c6 : w2.cell? ⟨w.heap.size, 6, none⟩ = some (.string vl) := blk_cell HX.out.box 6
                       have c7 : w2.cell? ⟨w.heap.size, 7, none⟩ = some (.slice A rs.length c) := blk_cell HX.out.box 7
                       have c8 : w2.cell? ⟨w.heap.size, 8, none⟩ = some (.slice B ws.length d) := blk_cell HX.out.box 8
                       skip)
                    | (go_at_call 73
                       first
                         | (with_reducible refine (keys2_calls A c rs _ (Kd.C_below HR.out HX.out.low) HC.out M HM.out).mono ?_)
                         | (with_reducible refine (keys2_calls B d ws _ (Kd.C_below HS.out HX.out.low) HD.out M HN.out).mono ?_)
                       rintro e w2 ⟨rfl, hB⟩
                       have HX := Lib.hid (HX.out.step hB)
                       clear hB
                       have c1 : w2.cell? ⟨w.heap.size, 1, none⟩ = some (.string f) := blk_cell HX.out.box 1
                       have c2 : w2.cell? ⟨w.heap.size, 2, none⟩ = some (.string t) := blk_cell HX.out.box 2
                       have c3 : w2.cell? ⟨w.heap.size, 3, none⟩ = some (.int .u64 am) := blk_cell HX.out.box 3
                       have c4 : w2.cell? ⟨w.heap.size, 4, none⟩ = some (.int .u64 nc) := blk_cell HX.out.box 4
                       have c5 : w2.cell? ⟨w.heap.size, 5, none⟩ = some (.string ky') := blk_cell HX.out.box 5
                       have c6 : w2.cell? ⟨w.heap.size, 6, none⟩ = some (.string vl) := blk_cell HX.out.box 6
                       have c7 : w2.cell? ⟨w.heap.size, 7, none⟩ = some (.slice A rs.length c) := blk_cell HX.out.box 7
                       have c8 : w2.cell? ⟨w.heap.size, 8, none⟩ = some (.slice B ws.length d) := blk_cell HX.out.box 8
                       skip))
                  go_ret
                  exact ⟨rfl, HX.out.low⟩
              · have d2 : decide ((4611686018427387903 : Int) < nc) = true := by simp; omega
                rw [hk 2 (by simp [chR, a2])]
                clear hk hnil a1 a2
                go_wp2_with (first
                  | (go_at_call 49
                     first
                       | (with_reducible refine (name2_calls f _ HF.out).mono ?_)
                       | (with_reducible refine (name2_calls t _ HT.out).mono ?_)
                       | (with_reducible refine (name2_calls ky' _ HK.out).mono ?_)
                     rintro e w2 ⟨rfl, hB⟩
                     have HX := Lib.hid (HX.out.step hB)
                     clear hB
                     have c1 : w2.cell? ⟨w.heap.size, 1, none⟩ = some (.string f) := blk_cell HX.out.box 1
                     have c2 : w2.cell? ⟨w.heap.size, 2, none⟩ = some (.string t) := blk_cell HX.out.box 2
                     have c3 : w2.cell? ⟨w.heap.size, 3, none⟩ = some (.int .u64 am) := blk_cell HX.out.box 3
                     have c4 : w2.cell? ⟨w.heap.size, 4, none⟩ = some (.int .u64 nc) := blk_cell HX.out.box 4
                     have c5 : w2.cell? ⟨w.heap.size, 5, none⟩ = some (.string ky') := blk_cell HX.out.box 5
                     have c6 : w2.cell? ⟨w.heap.size, 6, none⟩ = some (.string vl) := blk_cell HX.out.box 6
                     have c7 : w2.cell? ⟨w.heap.size, 7, none⟩ = some (.slice A rs.length c) := blk_cell HX.out.box 7
                     have c8 : w2.cell? ⟨w.heap.size, 8, none⟩ = some (.slice B ws.length d) := blk_cell HX.out.box 8
                     skip)
                  | (go_at_call 73
                     first
                       | (with_reducible refine (keys2_calls A c rs _ (Kd.C_below HR.out HX.out.low) HC.out M HM.out).mono ?_)
                       | (with_reducible refine (keys2_calls B d ws _ (Kd.C_below HS.out HX.out.low) HD.out M HN.out).mono ?_)
                     rintro e w2 ⟨rfl, hB⟩
                     have HX := Lib.hid (HX.out.step hB)
                     clear hB
                     have c1 : w2.cell? ⟨w.heap.size, 1, none⟩ = some (.string f) := blk_cell HX.out.box 1
                     have c2 : w2.cell? ⟨w.heap.size, 2, none⟩ = some (.string t) := blk_cell HX.out.box 2
                     have c3 : w2.cell? ⟨w.heap.size, 3, none⟩ = some (.int .u64 am) := blk_cell HX.out.box 3
                     have c4 : w2.cell? ⟨w.heap.size, 4, none⟩ = some (.int .u64 nc) := blk_cell HX.out.box 4
                     have c5 : w2.cell? ⟨w.heap.size, 5, none⟩ = some (.string ky') := blk_cell HX.out.box 5
                     have c6 : w2.cell? ⟨w.heap.size, 6, none⟩ = some (.string vl) := blk_cell HX.out.box 6
                     have c7 : w2.cell? ⟨w.heap.size, 7, none⟩ = some (.slice A rs.length c) := blk_cell HX.out.box 7
                     have c8 : w2.cell? ⟨w.heap.size, 8, none⟩ = some (.slice B ws.length d) := blk_cell HX.out.box 8
                     skip))
                go_ret
                exact ⟨rfl, HX.out.low⟩
            · have d1 : decide ((4611686018427387903 : Int) < am) = true := by simp; omega
              rw [hk 2 (by simp [chR, a1])]
              clear hk hnil a1
              go_wp2_with (first
                | (go_at_call 49
                   first
                     | (with_reducible refine (name2_calls f _ HF.out).mono ?_)
                     | (with_reducible refine (name2_calls t _ HT.out).mono ?_)
                     | (with_reducible refine (name2_calls ky' _ HK.out).mono ?_)
                   rintro e w2 ⟨rfl, hB⟩
                   have HX := Lib.hid (HX.out.step hB)
                   clear hB
                   have c1 : w2.cell? ⟨w.heap.size, 1, none⟩ = some (.string f) := blk_cell HX.out.box 1
                   have c2 : w2.cell? ⟨w.heap.size, 2, none⟩ = some (.string t) := blk_cell HX.out.box 2
                   have c3 : w2.cell? ⟨w.heap.size, 3, none⟩ = some (.int .u64 am) := blk_cell HX.out.box 3
                   have c4 : w2.cell? ⟨w.heap.size, 4, none⟩ = some (.int .u64 nc) := blk_cell HX.out.box 4
                   have c5 : w2.cell? ⟨w.heap.size, 5, none⟩ = some (.string ky') := blk_cell HX.out.box 5
                   have c6 : w2.cell? ⟨w.heap.size, 6, none⟩ = some (.string vl) := blk_cell HX.out.box 6
                   have c7 : w2.cell? ⟨w.heap.size, 7, none⟩ = some (.slice A rs.length c) := blk_cell HX.out.box 7
                   have c8 : w2.cell? ⟨w.heap.size, 8, none⟩ = some (.slice B ws.length d) := blk_cell HX.out.box 8
                   skip)
                | (go_at_call 73
                   first
                     | (with_reducible refine (keys2_calls A c rs _ (Kd.C_below HR.out HX.out.low) HC.out M HM.out).mono ?_)
                     | (with_reducible refine (keys2_calls B d ws _ (Kd.C_below HS.out HX.out.low) HD.out M HN.out).mono ?_)
                   rintro e w2 ⟨rfl, hB⟩
                   have HX := Lib.hid (HX.out.step hB)
                   clear hB
                   have c1 : w2.cell? ⟨w.heap.size, 1, none⟩ = some (.string f) := blk_cell HX.out.box 1
                   have c2 : w2.cell? ⟨w.heap.size, 2, none⟩ = some (.string t) := blk_cell HX.out.box 2
                   have c3 : w2.cell? ⟨w.heap.size, 3, none⟩ = some (.int .u64 am) := blk_cell HX.out.box 3
                   have c4 : w2.cell? ⟨w.heap.size, 4, none⟩ = some (.int .u64 nc) := blk_cell HX.out.box 4
                   have c5 : w2.cell? ⟨w.heap.size, 5, none⟩ = some (.string ky') := blk_cell HX.out.box 5
                   have c6 : w2.cell? ⟨w.heap.size, 6, none⟩ = some (.string vl) := blk_cell HX.out.box 6
                   have c7 : w2.cell? ⟨w.heap.size, 7, none⟩ = some (.slice A rs.length c) := blk_cell HX.out.box 7
                   have c8 : w2.cell? ⟨w.heap.size, 8, none⟩ = some (.slice B ws.length d) := blk_cell HX.out.box 8
                   skip))
              go_ret
              exact ⟨rfl, HX.out.low⟩
          ·
            have hE : ch 1 f t am nc ky' vl rs ws = 3 := by simp [ch, chF, h1, h2, h3, h4]
            rw [hE]
            clear hE hnil
            go_wp2_with (first
              | (go_at_call 49
                 first
                   | (with_reducible refine (name2_calls f _ HF.out).mono ?_)
                   | (with_reducible refine (name2_calls t _ HT.out).mono ?_)
                   | (with_reducible refine (name2_calls ky' _ HK.out).mono ?_)
                 rintro e w2 ⟨rfl, hB⟩
                 have HX := Lib.hid (HX.out.step hB)
                 clear hB
                 have c1 : w2.cell? ⟨w.heap.size, 1, none⟩ = some (.string f) := blk_cell HX.out.box 1
                 have c2 : w2.cell? ⟨w.heap.size, 2, none⟩ = some (.string t) := blk_cell HX.out.box 2
                 have c3 : w2.cell? ⟨w.heap.size, 3, none⟩ = some (.int .u64 am) := blk_cell HX.out.box 3
                 have c4 : w2.cell? ⟨w.heap.size, 4, none⟩ = some (.int .u64 nc) := blk_cell HX.out.box 4
                 have c5 : w2.cell? ⟨w.heap.size, 5, none⟩ = some (.string ky') := blk_cell HX.out.box 5
                 have c6 : w2.cell? ⟨w.heap.size, 6, none⟩ = some (.string vl) := blk_cell HX.out.box 6
                 have c7 : w2.cell? ⟨w.heap.size, 7, none⟩ = some (.slice A rs.length c) := blk_cell HX.out.box 7
                 have c8 : w2.cell? ⟨w.heap.size, 8, none⟩ = some (.slice B ws.length d) := blk_cell HX.out.box 8
                 skip)
              | (go_at_call 73
                 first
                   | (with_reducible refine (keys2_calls A c rs _ (Kd.C_below HR.out HX.out.low) HC.out M HM.out).mono ?_)
                   | (with_reducible refine (keys2_calls B d ws _ (Kd.C_below HS.out HX.out.low) HD.out M HN.out).mono ?_)
                 rintro e w2 ⟨rfl, hB⟩
                 have HX := Lib.hid (HX.out.step hB)
                 clear hB
                 have c1 : w2.cell? ⟨w.heap.size, 1, none⟩ = some (.string f) := blk_cell HX.out.box 1
                 have c2 : w2.cell? ⟨w.heap.size, 2, none⟩ = some (.string t) := blk_cell HX.out.box 2
                 have c3 : w2.cell? ⟨w.heap.size, 3, none⟩ = some (.int .u64 am) := blk_cell HX.out.box 3
                 have c4 : w2.cell? ⟨w.heap.size, 4, none⟩ = some (.int .u64 nc) := blk_cell HX.out.box 4
                 have c5 : w2.cell? ⟨w.heap.size, 5, none⟩ = some (.string ky') := blk_cell HX.out.box 5
                 have c6 : w2.cell? ⟨w.heap.size, 6, none⟩ = some (.string vl) := blk_cell HX.out.box 6
                 have c7 : w2.cell? ⟨w.heap.size, 7, none⟩ = some (.slice A rs.length c) := blk_cell HX.out.box 7
                 have c8 : w2.cell? ⟨w.heap.size, 8, none⟩ = some (.slice B ws.length d) := blk_cell HX.out.box 8
                 skip))
            go_ret
            exact ⟨rfl, HX.out.low⟩
        ·
          have hE : ch 1 f t am nc ky' vl rs ws = 3 := by simp [ch, chF, h1, h2, h3]
          rw [hE]
          clear hE hnil
          go_wp2_with (first
            | (go_at_call 49
               first
                 | (with_reducible refine (name2_calls f _ HF.out).mono ?_)
                 | (with_reducible refine (name2_calls t _ HT.out).mono ?_)
                 | (with_reducible refine (name2_calls ky' _ HK.out).mono ?_)
               rintro e w2 ⟨rfl, hB⟩
               have HX := Lib.hid (HX.out.step hB)
               clear hB
               have c1 : w2.cell? ⟨w.heap.size, 1, none⟩ = some (.string f) := blk_cell HX.out.box 1
               have c2 : w2.cell? ⟨w.heap.size, 2, none⟩ = some (.string t) := blk_cell HX.out.box 2
               have c3 : w2.cell? ⟨w.heap.size, 3, none⟩ = some (.int .u64 am) := blk_cell HX.out.box 3
               have c4 : w2.cell? ⟨w.heap.size, 4, none⟩ = some (.int .u64 nc) := blk_cell HX.out.box 4
               have c5 : w2.cell? ⟨w.heap.size, 5, none⟩ = some (.string ky') := blk_cell HX.out.box 5
               have c6 : w2.cell? ⟨w.heap.size, 6, none⟩ = some (.string vl) := blk_cell HX.out.box 6
               have c7 : w2.cell? ⟨w.heap.size, 7, none⟩ = some (.slice A rs.length c) := blk_cell HX.out.box 7
               have c8 : w2.cell? ⟨w.heap.size, 8, none⟩ = some (.slice B ws.length d) := blk_cell HX.out.box 8
               skip)
            | (go_at_call 73
               first
                 | (with_reducible refine (keys2_calls A c rs _ (Kd.C_below HR.out HX.out.low) HC.out M HM.out).mono ?_)
                 | (with_reducible refine (keys2_calls B d ws _ (Kd.C_below HS.out HX.out.low) HD.out M HN.out).mono ?_)
               rintro e w2 ⟨rfl, hB⟩
               have HX := Lib.hid (HX.out.step hB)
               clear hB
               have c1 : w2.cell? ⟨w.heap.size, 1, none⟩ = some (.string f) := blk_cell HX.out.box 1
               have c2 : w2.cell? ⟨w.heap.size, 2, none⟩ = some (.string t) := blk_cell HX.out.box 2
               have c3 : w2.cell? ⟨w.heap.size, 3, none⟩ = some (.int .u64 am) := blk_cell HX.out.box 3
               have c4 : w2.cell? ⟨w.heap.size, 4, none⟩ = some (.int .u64 nc) := blk_cell HX.out.box 4
               have c5 : w2.cell? ⟨w.heap.size, 5, none⟩ = some (.string ky') := blk_cell HX.out.box 5
               have c6 : w2.cell? ⟨w.heap.size, 6, none⟩ = some (.string vl) := blk_cell HX.out.box 6
               have c7 : w2.cell? ⟨w.heap.size, 7, none⟩ = some (.slice A rs.length c) := blk_cell HX.out.box 7
               have c8 : w2.cell? ⟨w.heap.size, 8, none⟩ = some (.slice B ws.length d) := blk_cell HX.out.box 8
               skip))
          go_ret
          exact ⟨rfl, HX.out.low⟩
  · clear h5
    cases h1 : nm f with
    | false =>
      have hE : ch 2 f t am nc ky' vl rs ws = 3 := by simp [ch, chF, h1]
      rw [hE]
      clear hE hnil
      go_wp2_with (first
        | (go_at_call 49
           first
             | (with_reducible refine (name2_calls f _ HF.out).mono ?_)
             | (with_reducible refine (name2_calls t _ HT.out).mono ?_)
             | (with_reducible refine (name2_calls ky' _ HK.out).mono ?_)
           rintro e w2 ⟨rfl, hB⟩
           have HX := Lib.hid (HX.out.step hB)
           clear hB
           have c1 : w2.cell? ⟨w.heap.size, 1, none⟩ = some (.string f) := blk_cell HX.out.box 1
           have c2 : w2.cell? ⟨w.heap.size, 2, none⟩ = some (.string t) := blk_cell HX.out.box 2
           have c3 : w2.cell? ⟨w.heap.size, 3, none⟩ = some (.int .u64 am) := blk_cell HX.out.box 3
           have c4 : w2.cell? ⟨w.heap.size, 4, none⟩ = some (.int .u64 nc) := blk_cell HX.out.box 4
           have c5 : w2.cell? ⟨w.heap.size, 5, none⟩ = some (.string ky') := blk_cell HX.out.box 5
           have c6 : w2.cell? ⟨w.heap.size, 6, none⟩ = some (.string vl) := blk_cell HX.out.box 6
           have c7 : w2.cell? ⟨w.heap.size, 7, none⟩ = some (.slice A rs.length c) := blk_cell HX.out.box 7
           have c8 : w2.cell? ⟨w.heap.size, 8, none⟩ = some (.slice B ws.length d) := blk_cell HX.out.box 8
           skip)
        | (go_at_call 73
           first
             | (with_reducible refine (keys2_calls A c rs _ (Kd.C_below HR.out HX.out.low) HC.out M HM.out).mono ?_)
             | (with_reducible refine (keys2_calls B d ws _ (Kd.C_below HS.out HX.out.low) HD.out M HN.out).mono ?_)
           rintro e w2 ⟨rfl, hB⟩
           have HX := Lib.hid (HX.out.step hB)
           clear hB
           have c1 : w2.cell? ⟨w.heap.size, 1, none⟩ = some (.string f) := blk_cell HX.out.box 1
           have c2 : w2.cell? ⟨w.heap.size, 2, none⟩ = some (.string t) := blk_cell HX.out.box 2
           have c3 : w2.cell? ⟨w.heap.size, 3, none⟩ = some (.int .u64 am) := blk_cell HX.out.box 3
           have c4 : w2.cell? ⟨w.heap.size, 4, none⟩ = some (.int .u64 nc) := blk_cell HX.out.box 4
           have c5 : w2.cell? ⟨w.heap.size, 5, none⟩ = some (.string ky') := blk_cell HX.out.box 5
           have c6 : w2.cell? ⟨w.heap.size, 6, none⟩ = some (.string vl) := blk_cell HX.out.box 6
           have c7 : w2.cell? ⟨w.heap.size, 7, none⟩ = some (.slice A rs.length c) := blk_cell HX.out.box 7
           have c8 : w2.cell? ⟨w.heap.size, 8, none⟩ = some (.slice B ws.length d) := blk_cell HX.out.box 8
           skip))
      go_ret
      exact ⟨rfl, HX.out.low⟩
    | true =>
      cases h2 : nm ky' with
      | false =>
        have hE : ch 2 f t am nc ky' vl rs ws = 3 := by simp [ch, chF, h1, h2]
        rw [hE]
        clear hE hnil
        go_wp2_with (first
          | (go_at_call 49
             first
               | (with_reducible refine (name2_calls f _ HF.out).mono ?_)
               | (with_reducible refine (name2_calls t _ HT.out).mono ?_)
               | (with_reducible refine (name2_calls ky' _ HK.out).mono ?_)
             rintro e w2 ⟨rfl, hB⟩
             have HX := Lib.hid (HX.out.step hB)
             clear hB
             have c1 : w2.cell? ⟨w.heap.size, 1, none⟩ = some (.string f) := blk_cell HX.out.box 1
             have c2 : w2.cell? ⟨w.heap.size, 2, none⟩ = some (.string t) := blk_cell HX.out.box 2
             have c3 : w2.cell? ⟨w.heap.size, 3, none⟩ = some (.int .u64 am) := blk_cell HX.out.box 3
             have c4 : w2.cell? ⟨w.heap.size, 4, none⟩ = some (.int .u64 nc) := blk_cell HX.out.box 4
             have c5 : w2.cell? ⟨w.heap.size, 5, none⟩ = some (.string ky') := blk_cell HX.out.box 5
             have c6 : w2.cell? ⟨w.heap.size, 6, none⟩ = some (.string vl) := blk_cell HX.out.box 6
             have c7 : w2.cell? ⟨w.heap.size, 7, none⟩ = some (.slice A rs.length c) := blk_cell HX.out.box 7
             have c8 : w2.cell? ⟨w.heap.size, 8, none⟩ = some (.slice B ws.length d) := blk_cell HX.out.box 8
             skip)
          | (go_at_call 73
             first
               | (with_reducible refine (keys2_calls A c rs _ (Kd.C_below HR.out HX.out.low) HC.out M HM.out).mono ?_)
               | (with_reducible refine (keys2_calls B d ws _ (Kd.C_below HS.out HX.out.low) HD.out M HN.out).mono ?_)
             rintro e w2 ⟨rfl, hB⟩
             have HX := Lib.hid (HX.out.step hB)
             clear hB
             have c1 : w2.cell? ⟨w.heap.size, 1, none⟩ = some (.string f) := blk_cell HX.out.box 1
             have c2 : w2.cell? ⟨w.heap.size, 2, none⟩ = some (.string t) := blk_cell HX.out.box 2
             have c3 : w2.cell? ⟨w.heap.size, 3, none⟩ = some (.int .u64 am) := blk_cell HX.out.box 3
             have c4 : w2.cell? ⟨w.heap.size, 4, none⟩ = some (.int .u64 nc) := blk_cell HX.out.box 4
             have c5 : w2.cell? ⟨w.heap.size, 5, none⟩ = some (.string ky') := blk_cell HX.out.box 5
             have c6 : w2.cell? ⟨w.heap.size, 6, none⟩ = some (.string vl) := blk_cell HX.out.box 6
             have c7 : w2.cell? ⟨w.heap.size, 7, none⟩ = some (.slice A rs.length c) := blk_cell HX.out.box 7
             have c8 : w2.cell? ⟨w.heap.size, 8, none⟩ = some (.slice B ws.length d) := blk_cell HX.out.box 8
             skip))
        go_ret
        exact ⟨rfl, HX.out.low⟩
      | true =>
        by_cases h3 : vl.size ≤ 64
        · have b3 : decide ((64 : Int) < (vl.size : Int)) = false := by simp; omega
          rcases hnil t with h4 | h4
          · by_cases h5 : am = 0
            · have b5 : (am == 0) = true := by simp [h5]
              have hk : ∀ x, chR am nc rs ws = x → ch 2 f t am nc ky' vl rs ws = x := fun x h => by simp [ch, chF, h1, h2, h3, h4, h5]; rw [← h5]; exact h
              clear h5
              by_cases a1 : am ≤ 4611686018427387903
              · have d1 : decide ((4611686018427387903 : Int) < am) = false := by simp; omega
                by_cases a2 : nc ≤ 4611686018427387903
                · have d2 : decide ((4611686018427387903 : Int) < nc) = false := by simp; omega
                  by_cases k1 : ke rs = 0
                  · rw [hk (ke ws) (by simp [chR, a1, a2, k1])]
                    have j1 : (ke rs == 0) = true := by simp [k1]
                    clear hk hnil a1 a2 k1
                    go_wp2_with (first
                      | (go_at_call 49
                         first
                           | (with_reducible refine (name2_calls f _ HF.out).mono ?_)
                           | (with_reducible refine (name2_calls t _ HT.out).mono ?_)
                           | (with_reducible refine (name2_calls ky' _ HK.out).mono ?_)
                         rintro e w2 ⟨rfl, hB⟩
                         have HX := Lib.hid (HX.out.step hB)
                         clear hB
                         have c1 : w2.cell? ⟨w.heap.size, 1, none⟩ = some (.string f) := blk_cell HX.out.box 1
                         have c2 : w2.cell? ⟨w.heap.size, 2, none⟩ = some (.string t) := blk_cell HX.out.box 2
                         have c3 : w2.cell? ⟨w.heap.size, 3, none⟩ = some (.int .u64 am) := blk_cell HX.out.box 3
                         have c4 : w2.cell? ⟨w.heap.size, 4, none⟩ = some (.int .u64 nc) := blk_cell HX.out.box 4
                         have c5 : w2.cell? ⟨w.heap.size, 5, none⟩ = some (.string ky') := blk_cell HX.out.box 5
                         have c6 : w2.cell? ⟨w.heap.size, 6, none⟩ = some (.string vl) := blk_cell HX.out.box 6
                         have c7 : w2.cell? ⟨w.heap.size, 7, none⟩ = some (.slice A rs.length c) := blk_cell HX.out.box 7
                         have c8 : w2.cell? ⟨w.heap.size, 8, none⟩ = some (.slice B ws.length d) := blk_cell HX.out.box 8
                         skip)
                      | (go_at_call 73
                         first
                           | (with_reducible refine (keys2_calls A c rs _ (Kd.C_below HR.out HX.out.low) HC.out M HM.out).mono ?_)
                           | (with_reducible refine (keys2_calls B d ws _ (Kd.C_below HS.out HX.out.low) HD.out M HN.out).mono ?_)
                         rintro e w2 ⟨rfl, hB⟩
                         have HX := Lib.hid (HX.out.step hB)
                         clear hB
                         have c1 : w2.cell? ⟨w.heap.size, 1, none⟩ = some (.string f) := blk_cell HX.out.box 1
                         have c2 : w2.cell? ⟨w.heap.size, 2, none⟩ = some (.string t) := blk_cell HX.out.box 2
                         have c3 : w2.cell? ⟨w.heap.size, 3, none⟩ = some (.int .u64 am) := blk_cell HX.out.box 3
                         have c4 : w2.cell? ⟨w.heap.size, 4, none⟩ = some (.int .u64 nc) := blk_cell HX.out.box 4
                         have c5 : w2.cell? ⟨w.heap.size, 5, none⟩ = some (.string ky') := blk_cell HX.out.box 5
                         have c6 : w2.cell? ⟨w.heap.size, 6, none⟩ = some (.string vl) := blk_cell HX.out.box 6
                         have c7 : w2.cell? ⟨w.heap.size, 7, none⟩ = some (.slice A rs.length c) := blk_cell HX.out.box 7
                         have c8 : w2.cell? ⟨w.heap.size, 8, none⟩ = some (.slice B ws.length d) := blk_cell HX.out.box 8
                         skip))
                    go_ret
                    exact ⟨rfl, HX.out.low⟩
                  · rw [hk (ke rs) (by simp [chR, a1, a2, k1])]
                    have j1 : (ke rs == 0) = false := by simpa using k1
                    clear hk hnil a1 a2 k1
                    go_wp2_with (first
                      | (go_at_call 49
                         first
                           | (with_reducible refine (name2_calls f _ HF.out).mono ?_)
                           | (with_reducible refine (name2_calls t _ HT.out).mono ?_)
                           | (with_reducible refine (name2_calls ky' _ HK.out).mono ?_)
                         rintro e w2 ⟨rfl, hB⟩
                         have HX := Lib.hid (HX.out.step hB)
                         clear hB
                         have c1 : w2.cell? ⟨w.heap.size, 1, none⟩ = some (.string f) := blk_cell HX.out.box 1
                         have c2 : w2.cell? ⟨w.heap.size, 2, none⟩ = some (.string t) := blk_cell HX.out.box 2
                         have c3 : w2.cell? ⟨w.heap.size, 3, none⟩ = some (.int .u64 am) := blk_cell HX.out.box 3
                         have c4 : w2.cell? ⟨w.heap.size, 4, none⟩ = some (.int .u64 nc) := blk_cell HX.out.box 4
                         have c5 : w2.cell? ⟨w.heap.size, 5, none⟩ = some (.string ky') := blk_cell HX.out.box 5
                         have c6 : w2.cell? ⟨w.heap.size, 6, none⟩ = some (.string vl) := blk_cell HX.out.box 6
                         have c7 : w2.cell? ⟨w.heap.size, 7, none⟩ = some (.slice A rs.length c) := blk_cell HX.out.box 7
                         have c8 : w2.cell? ⟨w.heap.size, 8, none⟩ = some (.slice B ws.length d) := blk_cell HX.out.box 8
                         skip)
                      | (go_at_call 73
                         first
                           | (with_reducible refine (keys2_calls A c rs _ (Kd.C_below HR.out HX.out.low) HC.out M HM.out).mono ?_)
                           | (with_reducible refine (keys2_calls B d ws _ (Kd.C_below HS.out HX.out.low) HD.out M HN.out).mono ?_)
                         rintro e w2 ⟨rfl, hB⟩
                         have HX := Lib.hid (HX.out.step hB)
                         clear hB
                         have c1 : w2.cell? ⟨w.heap.size, 1, none⟩ = some (.string f) := blk_cell HX.out.box 1
                         have c2 : w2.cell? ⟨w.heap.size, 2, none⟩ = some (.string t) := blk_cell HX.out.box 2
                         have c3 : w2.cell? ⟨w.heap.size, 3, none⟩ = some (.int .u64 am) := blk_cell HX.out.box 3
                         have c4 : w2.cell? ⟨w.heap.size, 4, none⟩ = some (.int .u64 nc) := blk_cell HX.out.box 4
                         have c5 : w2.cell? ⟨w.heap.size, 5, none⟩ = some (.string ky') := blk_cell HX.out.box 5
                         have c6 : w2.cell? ⟨w.heap.size, 6, none⟩ = some (.string vl) := blk_cell HX.out.box 6
                         have c7 : w2.cell? ⟨w.heap.size, 7, none⟩ = some (.slice A rs.length c) := blk_cell HX.out.box 7
                         have c8 : w2.cell? ⟨w.heap.size, 8, none⟩ = some (.slice B ws.length d) := blk_cell HX.out.box 8
                         skip))
                    go_ret
                    exact ⟨rfl, HX.out.low⟩
                · have d2 : decide ((4611686018427387903 : Int) < nc) = true := by simp; omega
                  rw [hk 2 (by simp [chR, a2])]
                  clear hk hnil a1 a2
                  go_wp2_with (first
                    | (go_at_call 49
                       first
                         | (with_reducible refine (name2_calls f _ HF.out).mono ?_)
                         | (with_reducible refine (name2_calls t _ HT.out).mono ?_)
                         | (with_reducible refine (name2_calls ky' _ HK.out).mono ?_)
                       rintro e w2 ⟨rfl, hB⟩
                       have HX := Lib.hid (HX.out.step hB)
                       clear hB
                       have c1 : w2.cell? ⟨w.heap.size, 1, none⟩ = some (.string f) := blk_cell HX.out.box 1
                       have c2 : w2.cell? ⟨w.heap.size, 2, none⟩ = some (.string t) := blk_cell HX.out.box 2
                       have c3 : w2.cell? ⟨w.heap.size, 3, none⟩ = some (.int .u64 am) := blk_cell HX.out.box 3
                       have c4 : w2.cell? ⟨w.heap.size, 4, none⟩ = some (.int .u64 nc) := blk_cell HX.out.box 4
                       have c5 : w2.cell? ⟨w.heap.size, 5, none⟩ = some (.string ky') := blk_cell HX.out.box 5
                       have c6 : w2.cell? ⟨w.heap.size, 6, none⟩ = some (.string vl) := blk_cell HX.out.box 6
                       have c7 : w2.cell? ⟨w.heap.size, 7, none⟩ = some (.slice A rs.length c) := blk_cell HX.out.box 7
                       have c8 : w2.cell? ⟨w.heap.size, 8, none⟩ = some (.slice B ws.length d) := blk_cell HX.out.box 8
                       skip)
                    | (go_at_call 73
                       first
                         | (with_reducible refine (keys2_calls A c rs _ (Kd.C_below HR.out HX.out.low) HC.out M HM.out).mono ?_)
                         | (with_reducible refine (keys2_calls B d ws _ (Kd.C_below HS.out HX.out.low) HD.out M HN.out).mono ?_)
                       rintro e w2 ⟨rfl, hB⟩
                       have HX := Lib.hid (HX.out.step hB)
                       clear hB
                       have c1 : w2.cell? ⟨w.heap.size, 1, none⟩ = some (.string f) := blk_cell HX.out.box 1
                       have c2 : w2.cell? ⟨w.heap.size, 2, none⟩ = some (.string t) := blk_cell HX.out.box 2
                       have c3 : w2.cell? ⟨w.heap.size, 3, none⟩ = some (.int .u64 am) := blk_cell HX.out.box 3
                       have c4 : w2.cell? ⟨w.heap.size, 4, none⟩ = some (.int .u64 nc) := blk_cell HX.out.box 4
                       have c5 : w2.cell? ⟨w.heap.size, 5, none⟩ = some (.string ky') := blk_cell HX.out.box 5
                       have c6 : w2.cell? ⟨w.heap.size, 6, none⟩ = some (.string vl) := blk_cell HX.out.box 6
                       have c7 : w2.cell? ⟨w.heap.size, 7, none⟩ = some (.slice A rs.length c) := blk_cell HX.out.box 7
                       have c8 : w2.cell? ⟨w.heap.size, 8, none⟩ = some (.slice B ws.length d) := blk_cell HX.out.box 8
                       skip))
                  go_ret
                  exact ⟨rfl, HX.out.low⟩
              · have d1 : decide ((4611686018427387903 : Int) < am) = true := by simp; omega
                rw [hk 2 (by simp [chR, a1])]
                clear hk hnil a1
                go_wp2_with (first
                  | (go_at_call 49
                     first
                       | (with_reducible refine (name2_calls f _ HF.out).mono ?_)
                       | (with_reducible refine (name2_calls t _ HT.out).mono ?_)
                       | (with_reducible refine (name2_calls ky' _ HK.out).mono ?_)
                     rintro e w2 ⟨rfl, hB⟩
                     have HX := Lib.hid (HX.out.step hB)
                     clear hB
                     have c1 : w2.cell? ⟨w.heap.size, 1, none⟩ = some (.string f) := blk_cell HX.out.box 1
                     have c2 : w2.cell? ⟨w.heap.size, 2, none⟩ = some (.string t) := blk_cell HX.out.box 2
                     have c3 : w2.cell? ⟨w.heap.size, 3, none⟩ = some (.int .u64 am) := blk_cell HX.out.box 3
                     have c4 : w2.cell? ⟨w.heap.size, 4, none⟩ = some (.int .u64 nc) := blk_cell HX.out.box 4
                     have c5 : w2.cell? ⟨w.heap.size, 5, none⟩ = some (.string ky') := blk_cell HX.out.box 5
                     have c6 : w2.cell? ⟨w.heap.size, 6, none⟩ = some (.string vl) := blk_cell HX.out.box 6
                     have c7 : w2.cell? ⟨w.heap.size, 7, none⟩ = some (.slice A rs.length c) := blk_cell HX.out.box 7
                     have c8 : w2.cell? ⟨w.heap.size, 8, none⟩ = some (.slice B ws.length d) := blk_cell HX.out.box 8
                     skip)
                  | (go_at_call 73
                     first
                       | (with_reducible refine (keys2_calls A c rs _ (Kd.C_below HR.out HX.out.low) HC.out M HM.out).mono ?_)
                       | (with_reducible refine (keys2_calls B d ws _ (Kd.C_below HS.out HX.out.low) HD.out M HN.out).mono ?_)
                     rintro e w2 ⟨rfl, hB⟩
                     have HX := Lib.hid (HX.out.step hB)
                     clear hB
                     have c1 : w2.cell? ⟨w.heap.size, 1, none⟩ = some (.string f) := blk_cell HX.out.box 1
                     have c2 : w2.cell? ⟨w.heap.size, 2, none⟩ = some (.string t) := blk_cell HX.out.box 2
                     have c3 : w2.cell? ⟨w.heap.size, 3, none⟩ = some (.int .u64 am) := blk_cell HX.out.box 3
                     have c4 : w2.cell? ⟨w.heap.size, 4, none⟩ = some (.int .u64 nc) := blk_cell HX.out.box 4
                     have c5 : w2.cell? ⟨w.heap.size, 5, none⟩ = some (.string ky') := blk_cell HX.out.box 5
                     have c6 : w2.cell? ⟨w.heap.size, 6, none⟩ = some (.string vl) := blk_cell HX.out.box 6
                     have c7 : w2.cell? ⟨w.heap.size, 7, none⟩ = some (.slice A rs.length c) := blk_cell HX.out.box 7
                     have c8 : w2.cell? ⟨w.heap.size, 8, none⟩ = some (.slice B ws.length d) := blk_cell HX.out.box 8
                     skip))
                go_ret
                exact ⟨rfl, HX.out.low⟩
            · have b5 : (am == 0) = false := by simp [h5]
              have hE : ch 2 f t am nc ky' vl rs ws = 3 := by simp [ch, chF, h1, h2, h3, h4, h5]
              rw [hE]
              clear hE hnil h3 h5
              go_wp2_with (first
                | (go_at_call 49
                   first
                     | (with_reducible refine (name2_calls f _ HF.out).mono ?_)
                     | (with_reducible refine (name2_calls t _ HT.out).mono ?_)
                     | (with_reducible refine (name2_calls ky' _ HK.out).mono ?_)
                   rintro e w2 ⟨rfl, hB⟩
                   have HX := Lib.hid (HX.out.step hB)
                   clear hB
                   have c1 : w2.cell? ⟨w.heap.size, 1, none⟩ = some (.string f) := blk_cell HX.out.box 1
                   have c2 : w2.cell? ⟨w.heap.size, 2, none⟩ = some (.string t) := blk_cell HX.out.box 2
                   have c3 : w2.cell? ⟨w.heap.size, 3, none⟩ = some (.int .u64 am) := blk_cell HX.out.box 3
                   have c4 : w2.cell? ⟨w.heap.size, 4, none⟩ = some (.int .u64 nc) := blk_cell HX.out.box 4
                   have c5 : w2.cell? ⟨w.heap.size, 5, none⟩ = some (.string ky') := blk_cell HX.out.box 5
                   have c6 : w2.cell? ⟨w.heap.size, 6, none⟩ = some (.string vl) := blk_cell HX.out.box 6
                   have c7 : w2.cell? ⟨w.heap.size, 7, none⟩ = some (.slice A rs.length c) := blk_cell HX.out.box 7
                   have c8 : w2.cell? ⟨w.heap.size, 8, none⟩ = some (.slice B ws.length d) := blk_cell HX.out.box 8
                   skip)
                | (go_at_call 73
                   first
                     | (with_reducible refine (keys2_calls A c rs _ (Kd.C_below HR.out HX.out.low) HC.out M HM.out).mono ?_)
                     | (with_reducible refine (keys2_calls B d ws _ (Kd.C_below HS.out HX.out.low) HD.out M HN.out).mono ?_)
                   rintro e w2 ⟨rfl, hB⟩
                   have HX := Lib.hid (HX.out.step hB)
                   clear hB
                   have c1 : w2.cell? ⟨w.heap.size, 1, none⟩ = some (.string f) := blk_cell HX.out.box 1
                   have c2 : w2.cell? ⟨w.heap.size, 2, none⟩ = some (.string t) := blk_cell HX.out.box 2
                   have c3 : w2.cell? ⟨w.heap.size, 3, none⟩ = some (.int .u64 am) := blk_cell HX.out.box 3
                   have c4 : w2.cell? ⟨w.heap.size, 4, none⟩ = some (.int .u64 nc) := blk_cell HX.out.box 4
                   have c5 : w2.cell? ⟨w.heap.size, 5, none⟩ = some (.string ky') := blk_cell HX.out.box 5
                   have c6 : w2.cell? ⟨w.heap.size, 6, none⟩ = some (.string vl) := blk_cell HX.out.box 6
                   have c7 : w2.cell? ⟨w.heap.size, 7, none⟩ = some (.slice A rs.length c) := blk_cell HX.out.box 7
                   have c8 : w2.cell? ⟨w.heap.size, 8, none⟩ = some (.slice B ws.length d) := blk_cell HX.out.box 8
                   skip))
              go_ret
              exact ⟨rfl, HX.out.low⟩
          · have hE : ch 2 f t am nc ky' vl rs ws = 3 := by simp [ch, chF, h1, h2, h3, h4]
            rw [hE]
            clear hE hnil h3
            go_wp2_with (first
              | (go_at_call 49
                 first
                   | (with_reducible refine (name2_calls f _ HF.out).mono ?_)
                   | (with_reducible refine (name2_calls t _ HT.out).mono ?_)
                   | (with_reducible refine (name2_calls ky' _ HK.out).mono ?_)
                 rintro e w2 ⟨rfl, hB⟩
                 have HX := Lib.hid (HX.out.step hB)
                 clear hB
                 have c1 : w2.cell? ⟨w.heap.size, 1, none⟩ = some (.string f) := blk_cell HX.out.box 1
                 have c2 : w2.cell? ⟨w.heap.size, 2, none⟩ = some (.string t) := blk_cell HX.out.box 2
                 have c3 : w2.cell? ⟨w.heap.size, 3, none⟩ = some (.int .u64 am) := blk_cell HX.out.box 3
                 have c4 : w2.cell? ⟨w.heap.size, 4, none⟩ = some (.int .u64 nc) := blk_cell HX.out.box 4
                 have c5 : w2.cell? ⟨w.heap.size, 5, none⟩ = some (.string ky') := blk_cell HX.out.box 5
                 have c6 : w2.cell? ⟨w.heap.size, 6, none⟩ = some (.string vl) := blk_cell HX.out.box 6
                 have c7 : w2.cell? ⟨w.heap.size, 7, none⟩ = some (.slice A rs.length c) := blk_cell HX.out.box 7
                 have c8 : w2.cell? ⟨w.heap.size, 8, none⟩ = some (.slice B ws.length d) := blk_cell HX.out.box 8
                 skip)
              | (go_at_call 73
                 first
                   | (with_reducible refine (keys2_calls A c rs _ (Kd.C_below HR.out HX.out.low) HC.out M HM.out).mono ?_)
                   | (with_reducible refine (keys2_calls B d ws _ (Kd.C_below HS.out HX.out.low) HD.out M HN.out).mono ?_)
                 rintro e w2 ⟨rfl, hB⟩
                 have HX := Lib.hid (HX.out.step hB)
                 clear hB
                 have c1 : w2.cell? ⟨w.heap.size, 1, none⟩ = some (.string f) := blk_cell HX.out.box 1
                 have c2 : w2.cell? ⟨w.heap.size, 2, none⟩ = some (.string t) := blk_cell HX.out.box 2
                 have c3 : w2.cell? ⟨w.heap.size, 3, none⟩ = some (.int .u64 am) := blk_cell HX.out.box 3
                 have c4 : w2.cell? ⟨w.heap.size, 4, none⟩ = some (.int .u64 nc) := blk_cell HX.out.box 4
                 have c5 : w2.cell? ⟨w.heap.size, 5, none⟩ = some (.string ky') := blk_cell HX.out.box 5
                 have c6 : w2.cell? ⟨w.heap.size, 6, none⟩ = some (.string vl) := blk_cell HX.out.box 6
                 have c7 : w2.cell? ⟨w.heap.size, 7, none⟩ = some (.slice A rs.length c) := blk_cell HX.out.box 7
                 have c8 : w2.cell? ⟨w.heap.size, 8, none⟩ = some (.slice B ws.length d) := blk_cell HX.out.box 8
                 skip))
            go_ret
            exact ⟨rfl, HX.out.low⟩
        · have b3 : decide ((64 : Int) < (vl.size : Int)) = true := by simp; omega
          have hE : ch 2 f t am nc ky' vl rs ws = 3 := by simp [ch, chF, h1, h2, h3]
          rw [hE]
          clear hE hnil h3
          go_wp2_with (first
            | (go_at_call 49
               first
                 | (with_reducible refine (name2_calls f _ HF.out).mono ?_)
                 | (with_reducible refine (name2_calls t _ HT.out).mono ?_)
                 | (with_reducible refine (name2_calls ky' _ HK.out).mono ?_)
               rintro e w2 ⟨rfl, hB⟩
               have HX := Lib.hid (HX.out.step hB)
               clear hB
               have c1 : w2.cell? ⟨w.heap.size, 1, none⟩ = some (.string f) := blk_cell HX.out.box 1
               have c2 : w2.cell? ⟨w.heap.size, 2, none⟩ = some (.string t) := blk_cell HX.out.box 2
               have c3 : w2.cell? ⟨w.heap.size, 3, none⟩ = some (.int .u64 am) := blk_cell HX.out.box 3
               have c4 : w2.cell? ⟨w.heap.size, 4, none⟩ = some (.int .u64 nc) := blk_cell HX.out.box 4
               have c5 : w2.cell? ⟨w.heap.size, 5, none⟩ = some (.string ky') := blk_cell HX.out.box 5
               have c6 : w2.cell? ⟨w.heap.size, 6, none⟩ = some (.string vl) := blk_cell HX.out.box 6
               have c7 : w2.cell? ⟨w.heap.size, 7, none⟩ = some (.slice A rs.length c) := blk_cell HX.out.box 7
               have c8 : w2.cell? ⟨w.heap.size, 8, none⟩ = some (.slice B ws.length d) := blk_cell HX.out.box 8
               skip)
            | (go_at_call 73
               first
                 | (with_reducible refine (keys2_calls A c rs _ (Kd.C_below HR.out HX.out.low) HC.out M HM.out).mono ?_)
                 | (with_reducible refine (keys2_calls B d ws _ (Kd.C_below HS.out HX.out.low) HD.out M HN.out).mono ?_)
               rintro e w2 ⟨rfl, hB⟩
               have HX := Lib.hid (HX.out.step hB)
               clear hB
               have c1 : w2.cell? ⟨w.heap.size, 1, none⟩ = some (.string f) := blk_cell HX.out.box 1
               have c2 : w2.cell? ⟨w.heap.size, 2, none⟩ = some (.string t) := blk_cell HX.out.box 2
               have c3 : w2.cell? ⟨w.heap.size, 3, none⟩ = some (.int .u64 am) := blk_cell HX.out.box 3
               have c4 : w2.cell? ⟨w.heap.size, 4, none⟩ = some (.int .u64 nc) := blk_cell HX.out.box 4
               have c5 : w2.cell? ⟨w.heap.size, 5, none⟩ = some (.string ky') := blk_cell HX.out.box 5
               have c6 : w2.cell? ⟨w.heap.size, 6, none⟩ = some (.string vl) := blk_cell HX.out.box 6
               have c7 : w2.cell? ⟨w.heap.size, 7, none⟩ = some (.slice A rs.length c) := blk_cell HX.out.box 7
               have c8 : w2.cell? ⟨w.heap.size, 8, none⟩ = some (.slice B ws.length d) := blk_cell HX.out.box 8
               skip))
          go_ret
          exact ⟨rfl, HX.out.low⟩
end Go.Proofs.YtndicjikjcifaaaDoor
/- tuskref04.Check in the printer's form. -/
namespace Go.Proofs.YtndicjikjcifaaaDoor
open Go.RowKit Go.Shelf Go.Lib Go.Proofs.YtndicjikjcifaaaDoorW.PrintWords Go.Proofs.YtndicjikjcifaaaDoorW.PrintLast
def Lim (f t ky' : ByteArray) (rs ws : List ByteArray) : Prop := f.size < 4611686018427387904 ∧ t.size < 4611686018427387904 ∧ ky'.size < 4611686018427387904 ∧ (∀ x ∈ rs, x.size < 4611686018427387904) ∧ (∀ x ∈ ws, x.size < 4611686018427387904)
instance (f t ky' : ByteArray) (rs ws : List ByteArray) : Decidable (Lim f t ky' rs ws) := by unfold Lim; infer_instance
def tuskref04_Check.f (k : Int) (f t : ByteArray) (am nc : Int) (ky' vl : ByteArray) (rs ws : List ByteArray) : Option Int := if Lim f t ky' rs ws then some (ch k f t am nc ky' vl rs ws) else none
theorem tuskref04_Check.calls (a0_0 : Int) (a0_1 a0_2 : ByteArray) (a0_3 a0_4 : Int) (a0_5 a0_6 : ByteArray) (A0_7 : Option Addr) (c0_7 : Nat) (l0_7 : List ByteArray) (A0_8 : Option Addr) (c0_8 : Nat) (l0_8 : List ByteArray) (r : Int) (w : World) (hr0_7 : Kd.C Kd.string w A0_7 l0_7.length l0_7) (hc0_7 : l0_7.length ≤ c0_7) (hr0_8 : Kd.C Kd.string w A0_8 l0_8.length l0_8) (hc0_8 : l0_8.length ≤ c0_8) (h : tuskref04_Check.f a0_0 a0_1 a0_2 a0_3 a0_4 a0_5 a0_6 l0_7 l0_8 = some r) :
    Calls Tryd.prog 42 #[.agg #[.int .i64 a0_0, .string a0_1, .string a0_2, .int .u64 a0_3, .int .u64 a0_4, .string a0_5, .string a0_6, .slice A0_7 l0_7.length c0_7, .slice A0_8 l0_8.length c0_8]] w fun e w' => e = .returned (.int .i64 r) ∧ Below w.heap.size w w' := by
  unfold tuskref04_Check.f at h
  split at h
  · rename_i hl
    obtain rfl := Option.some.inj h
    exact chk2_calls a0_0 a0_1 a0_2 a0_3 a0_4 a0_5 a0_6 A0_7 A0_8 c0_7 c0_8 l0_7 l0_8 w 4611686018427387904 hr0_7 hc0_7 hr0_8 hc0_8 hl.1 hl.2.1 hl.2.2.1 (fun x hx => ⟨by have := hl.2.2.2.1 x hx; omega, hl.2.2.2.1 x hx⟩) (fun x hx => ⟨by have := hl.2.2.2.2 x hx; omega, hl.2.2.2.2 x hx⟩)
  · cases h
def tuskref04_Name.f (s : ByteArray) : Option Bool := if s.size < 4611686018427387904 then some (nm s) else none
theorem tuskref04_Name.calls (a0 : ByteArray) (r : Bool) (w : World) (h : tuskref04_Name.f a0 = some r) :
    Calls Tryd.prog 49 #[.string a0] w fun e w' => e = .returned (.bool r) ∧ Below w.heap.size w w' := by
  unfold tuskref04_Name.f at h
  split at h
  · obtain rfl := Option.some.inj h
    exact name2_calls a0 w (by assumption)
  · cases h
end Go.Proofs.YtndicjikjcifaaaDoor

namespace Go.Proofs.YtndicjikjcifaaaDoor.PB
open Go.RowKit Go.Proofs.YtndicjikjcifaaaDoorW.PrintWords Go.Proofs.YtndicjikjcifaaaDoorW.PrintLast Go.Proofs.YtndicjikjcifaaaDoorW.PrintMore
attribute [local go_sem] max2_int min2_int max_two min_two max_three min_three max_four min_four   -- for this text's walks alone
set_option linter.unusedVariables false
set_option linter.unusedSimpArgs false
/-! ### tx_Check: function 41 -/
-- IMPORT Derived.Test.YtndicjikjcifaaaDoorTxchk
/-! ### batch_Check: function 33 -/
mutual
def batch_Check.j0 : Nat → Int → Bool → Int → Int → List (S33) → Option (Int)
  | 0, _, _, _, _, _ => none
  | k + 1, x3, x10, x102000, x102001, x102002 => if x10 = true then (some 2) else (if x3 = 0 then (some 12) else (if x3 > 16 then (some 8) else (batch_Check.l0 k x102002 (x102002.length : Int) 0)))
def batch_Check.l0 : Nat → List (S33) → Int → Int → Option (Int)
  | 0, _, _, _ => none
  | k + 1, x36, x37, x38 => if x38 < x37 then (if 0 ≤ x38 then (if x38 < (x36.length : Int) then ((tx_Check.f ((rd_T33 x36 x38).f0) ((rd_T33 x36 x38).f1) ((rd_T33 x36 x38).f2) ((rd_T33 x36 x38).f3) ((rd_T33 x36 x38).f4) ((rd_T33 x36 x38).f5) ((rd_T33 x36 x38).f6) ((rd_T33 x36 x38).f7) ((rd_T33 x36 x38).f8)).bind fun t104 => (if t104 = 0 then (batch_Check.l0 k x36 x37 (wrap64 (x38 + 1))) else (some t104))) else (none)) else (none)) else (some 0)
end
def batch_Check.f (k : Nat) (a0_0 : Int) (a0_1 : Int) (l0_2 : List (S33)) : Option (Int) := if a0_0 < 0 then (batch_Check.j0 k (l0_2.length : Int) true a0_0 a0_1 l0_2) else (if a0_0 > 6 then (batch_Check.j0 k (l0_2.length : Int) true a0_0 a0_1 l0_2) else (if a0_1 < 1 then (batch_Check.j0 k (l0_2.length : Int) true a0_0 a0_1 l0_2) else (batch_Check.j0 k (l0_2.length : Int) (decide (a0_1 > 4611686018427387903)) a0_0 a0_1 l0_2)))
theorem batch_Check.mono_l : ∀ k, (∀ y0 y1 y2 y3 y4, LeO (batch_Check.j0 k y0 y1 y2 y3 y4) (batch_Check.j0 (k + 1) y0 y1 y2 y3 y4)) ∧ (∀ y0 y1 y2, LeO (batch_Check.l0 k y0 y1 y2) (batch_Check.l0 (k + 1) y0 y1 y2))
  | 0 => ⟨fun _ _ _ _ _ r h => by simp [batch_Check.j0] at h, fun _ _ _ r h => by simp [batch_Check.l0] at h⟩
  | k + 1 => by
    obtain ⟨ih0, ih1⟩ := batch_Check.mono_l k
    refine ⟨?_, ?_⟩
    · intro y0 y1 y2 y3 y4
      unfold batch_Check.j0
      repeat' first
      | (with_reducible exact ih0 _ _ _ _ _)
      | (with_reducible exact ih1 _ _ _)
      | (with_reducible exact LeO.refl _)
      | (with_reducible exact LeO.none _)
      | (with_reducible refine LeO.ite ?_ ?_)
      | (with_reducible refine LeO.bind ?_ (fun _ => ?_))
      | exact ih0 _ _ _ _ _
      | exact ih1 _ _ _
      | exact LeO.none _
      | refine LeO.ite ?_ ?_
      | refine LeO.bind ?_ (fun _ => ?_)
    · intro y0 y1 y2
      unfold batch_Check.l0
      repeat' first
      | (with_reducible exact ih0 _ _ _ _ _)
      | (with_reducible exact ih1 _ _ _)
      | (with_reducible exact LeO.refl _)
      | (with_reducible exact LeO.none _)
      | (with_reducible refine LeO.ite ?_ ?_)
      | (with_reducible refine LeO.bind ?_ (fun _ => ?_))
      | exact ih0 _ _ _ _ _
      | exact ih1 _ _ _
      | exact LeO.none _
      | refine LeO.ite ?_ ?_
      | refine LeO.bind ?_ (fun _ => ?_)
theorem batch_Check.mono : ∀ a0 a1 a2 k, LeO (batch_Check.f k a0 a1 a2) (batch_Check.f (k + 1) a0 a1 a2) := by
  intro a0 a1 a2 k
  obtain ⟨ih0, ih1⟩ := batch_Check.mono_l k
  unfold batch_Check.f
  repeat' first
      | (with_reducible exact ih0 _ _ _ _ _)
      | (with_reducible exact ih1 _ _ _)
      | (with_reducible exact LeO.refl _)
      | (with_reducible exact LeO.none _)
      | (with_reducible refine LeO.ite ?_ ?_)
      | (with_reducible refine LeO.bind ?_ (fun _ => ?_))
      | exact ih0 _ _ _ _ _
      | exact ih1 _ _ _
      | exact LeO.none _
      | refine LeO.ite ?_ ?_
      | refine LeO.bind ?_ (fun _ => ?_)
/-! ### tuskref04_Check: function 42 -/
-- IMPORT Derived.Test.YtndicjikjcifaaaDoorRefchk
/-! ### tuskref05_Check: function 34 -/
mutual
def tuskref05_Check.j0 : Nat → Bool → Int → Int → List (S33) → Option (Int)
  | 0, _, _, _, _ => none
  | k + 1, x5, x106000, x106001, x106002 => if x5 = true then (some 2) else (if (x106002.length : Int) = 0 then (some 12) else (if (x106002.length : Int) > 16 then (some 8) else (tuskref05_Check.l0 k 0 x106000 x106001 x106002)))
def tuskref05_Check.l0 : Nat → Int → Int → Int → List (S33) → Option (Int)
  | 0, _, _, _, _ => none
  | k + 1, x3, x106000, x106001, x106002 => if x3 < (x106002.length : Int) then (if 0 ≤ x3 then ((tuskref04_Check.f ((rd_T33 x106002 x3).f0) ((rd_T33 x106002 x3).f1) ((rd_T33 x106002 x3).f2) ((rd_T33 x106002 x3).f3) ((rd_T33 x106002 x3).f4) ((rd_T33 x106002 x3).f5) ((rd_T33 x106002 x3).f6) ((rd_T33 x106002 x3).f7) ((rd_T33 x106002 x3).f8)).bind fun t107 => (if t107 = 0 then (tuskref05_Check.l0 k (wrap64 (x3 + 1)) x106000 x106001 x106002) else (some t107))) else (none)) else (some 0)
end
def tuskref05_Check.f (k : Nat) (a0_0 : Int) (a0_1 : Int) (l0_2 : List (S33)) : Option (Int) := if a0_0 < 0 then (tuskref05_Check.j0 k true a0_0 a0_1 l0_2) else (if a0_0 > 6 then (tuskref05_Check.j0 k true a0_0 a0_1 l0_2) else (if a0_1 < 1 then (tuskref05_Check.j0 k true a0_0 a0_1 l0_2) else (tuskref05_Check.j0 k (decide (a0_1 > 4611686018427387903)) a0_0 a0_1 l0_2)))
theorem tuskref05_Check.mono_l : ∀ k, (∀ y0 y1 y2 y3, LeO (tuskref05_Check.j0 k y0 y1 y2 y3) (tuskref05_Check.j0 (k + 1) y0 y1 y2 y3)) ∧ (∀ y0 y1 y2 y3, LeO (tuskref05_Check.l0 k y0 y1 y2 y3) (tuskref05_Check.l0 (k + 1) y0 y1 y2 y3))
  | 0 => ⟨fun _ _ _ _ r h => by simp [tuskref05_Check.j0] at h, fun _ _ _ _ r h => by simp [tuskref05_Check.l0] at h⟩
  | k + 1 => by
    obtain ⟨ih0, ih1⟩ := tuskref05_Check.mono_l k
    refine ⟨?_, ?_⟩
    · intro y0 y1 y2 y3
      unfold tuskref05_Check.j0
      repeat' first
      | (with_reducible exact ih0 _ _ _ _)
      | (with_reducible exact ih1 _ _ _ _)
      | (with_reducible exact LeO.refl _)
      | (with_reducible exact LeO.none _)
      | (with_reducible refine LeO.ite ?_ ?_)
      | (with_reducible refine LeO.bind ?_ (fun _ => ?_))
      | exact ih0 _ _ _ _
      | exact ih1 _ _ _ _
      | exact LeO.none _
      | refine LeO.ite ?_ ?_
      | refine LeO.bind ?_ (fun _ => ?_)
    · intro y0 y1 y2 y3
      unfold tuskref05_Check.l0
      repeat' first
      | (with_reducible exact ih0 _ _ _ _)
      | (with_reducible exact ih1 _ _ _ _)
      | (with_reducible exact LeO.refl _)
      | (with_reducible exact LeO.none _)
      | (with_reducible refine LeO.ite ?_ ?_)
      | (with_reducible refine LeO.bind ?_ (fun _ => ?_))
      | exact ih0 _ _ _ _
      | exact ih1 _ _ _ _
      | exact LeO.none _
      | refine LeO.ite ?_ ?_
      | refine LeO.bind ?_ (fun _ => ?_)
theorem tuskref05_Check.mono : ∀ a0 a1 a2 k, LeO (tuskref05_Check.f k a0 a1 a2) (tuskref05_Check.f (k + 1) a0 a1 a2) := by
  intro a0 a1 a2 k
  obtain ⟨ih0, ih1⟩ := tuskref05_Check.mono_l k
  unfold tuskref05_Check.f
  repeat' first
      | (with_reducible exact ih0 _ _ _ _)
      | (with_reducible exact ih1 _ _ _ _)
      | (with_reducible exact LeO.refl _)
      | (with_reducible exact LeO.none _)
      | (with_reducible refine LeO.ite ?_ ?_)
      | (with_reducible refine LeO.bind ?_ (fun _ => ?_))
      | exact ih0 _ _ _ _
      | exact ih1 _ _ _ _
      | exact LeO.none _
      | refine LeO.ite ?_ ?_
      | refine LeO.bind ?_ (fun _ => ?_)
set_option maxHeartbeats 8000000 in
set_option maxRecDepth 100000 in
theorem tuskref05_Check.calls (k : Nat) (a0_0 : Int) (a0_1 : Int) (A0_2 : Option Addr) (c0_2 : Nat) (l0_2 : List (S33)) (r : Int) (w : World) (hr0_2 : Kd.C k33 w A0_2 l0_2.length l0_2) (hc0_2 : l0_2.length ≤ c0_2) (h : tuskref05_Check.f k a0_0 a0_1 l0_2 = some r) :
    Calls Tryd.prog 34 #[.agg #[.int .i64 a0_0, .int .i64 a0_1, .slice A0_2 l0_2.length c0_2]] w fun e w' => e = .returned (.int .i64 r) ∧ Below w.heap.size w w' := by
  have hu40 := Tryd.underlying40
  have hu33 := Tryd.underlying33
  have HR0_2 := Aside0.mk hr0_2
  have HC0_2 := Aside0.mk hc0_2
  clear hr0_2 hc0_2
  have HB := Aside0.mk (Below.refl w.heap.size w)
  have H : (if a0_0 < 0 then (tuskref05_Check.j0 k true a0_0 a0_1 l0_2) else (if a0_0 > 6 then (tuskref05_Check.j0 k true a0_0 a0_1 l0_2) else (if a0_1 < 1 then (tuskref05_Check.j0 k true a0_0 a0_1 l0_2) else (tuskref05_Check.j0 k (decide (a0_1 > 4611686018427387903)) a0_0 a0_1 l0_2)))) = some r := h
  clear h
  have HC2 := Aside0.mk H
  clear H
  go_enter Tryd.func34, Tryd.ntmps34
  go_upto_region 1 with (first | ((with_reducible refine gate_dst (N := 1) rfl ?_); refine box_event ?hg (N := 1) ?hd (cs := #[.int .i64 a0_0, .int .i64 a0_1, .slice A0_2 l0_2.length c0_2]) (t := 40) ?hr ?_; (case hd => rfl); (case hg => rfl); (case hr => first | (go_simp; done) | (go_simp; rfl)); intro gb105 hg w3 hbox hb; have n0_ := Aside0.mk (below_step (by repeat (first | (with_reducible first | exact HB.out | apply below_alloc | apply pw_below_drewN | apply below_drew1) | exact HB.out)) hb); have n1_ := Aside0.mk (hbox); have n2_ := Aside0.mk ((by rw [hg]; exact (below_size (by repeat (first | (with_reducible first | exact HB.out | apply below_alloc | apply pw_below_drewN | apply below_drew1) | exact HB.out))) : w.heap.size ≤ gb105)); have n3_ := Aside0.mk ((by rw [hg]; exact (below_size (by repeat (first | (with_reducible first | exact HB.out | apply below_alloc | apply pw_below_drewN | apply below_drew1) | exact HB.out))) : w.heap.size ≤ gb105)); clear HB; have HB := n0_; have BK105 := n1_; have GW105 := n2_; have GE105 := n3_; clear n0_ n1_ n2_ n3_; clear hb hbox hg))
  (try simp only [Act.put, List.setIfInBounds_toArray, List.set_cons_zero, List.set_cons_succ])
  go_cut [5] (fun v5 wc => ∃ (kq : Nat) (x5_1 : Bool), v5 = .bool x5_1 ∧ Aside0 (tuskref05_Check.j0 kq x5_1 a0_0 a0_1 l0_2 = some r) ∧ Aside0 (kq ≤ k) ∧ Aside0 (wc.heap[gb105]? = some (.cells #[.int .i64 a0_0, .int .i64 a0_1, (.slice A0_2 l0_2.length c0_2)] 40 (0, 0))) ∧ Aside0 (Below w.heap.size w wc))
  case first =>
    have H := HC2.out
    clear HC2
    by_cases c4 : a0_0 < 0
    · rw [if_pos c4] at H
      have c4b0 : decide (a0_0 < 0) = true := decide_eq_true c4
      clear c4
      (first | rw [c4b0] | (simp only [i64_w, i32_w]; rw [c4b0]) | skip)
      have H' := Aside0.mk H
      clear H
      have hcz5_0 : w3.cell? ⟨gb105, 0, none⟩ = some (.int .i64 a0_0) := (blk_cell BK105.out 0).trans rfl
      have hcz5_1 : w3.cell? ⟨gb105, 1, none⟩ = some (.int .i64 a0_1) := (blk_cell BK105.out 1).trans rfl
      have hcz5_2 : w3.cell? ⟨gb105, 2, none⟩ = some (.slice A0_2 l0_2.length c0_2) := (blk_cell BK105.out 2).trans rfl
      have hfz5_0 := blk_frozen BK105.out 0
      have hfz5_1 := blk_frozen BK105.out 1
      have hfz5_2 := blk_frozen BK105.out 2
      go_wp2
      go_meet
      case rel => exact ⟨_, (true), (by first | rfl | (simp; done) | (simp [*]; done)), H', ⟨by first | omega | exact Nat.le_refl _⟩, ⟨by (with_reducible repeat (first | refine blk_drewN ?_ _ | refine blk_drew ?_ | refine blk_alloc ?_ _)); exact BK105.out⟩, ⟨by repeat (first | (with_reducible first | exact HB.out | apply below_alloc | apply pw_below_drewN | apply below_drew1 | refine below_set ?_ GE105.out) | exact HB.out)⟩⟩
    · rw [if_neg c4] at H
      have c4b0 : decide (a0_0 < 0) = false := decide_eq_false c4
      clear c4
      (first | rw [c4b0] | (simp only [i64_w, i32_w]; rw [c4b0]) | skip)
      by_cases c6 : a0_0 > 6
      · rw [if_pos c6] at H
        have c6b0 : decide (6 < a0_0) = true := decide_eq_true c6
        clear c6
        have H' := Aside0.mk H
        clear H
        have hcz7_0 : w3.cell? ⟨gb105, 0, none⟩ = some (.int .i64 a0_0) := (blk_cell BK105.out 0).trans rfl
        have hcz7_1 : w3.cell? ⟨gb105, 1, none⟩ = some (.int .i64 a0_1) := (blk_cell BK105.out 1).trans rfl
        have hcz7_2 : w3.cell? ⟨gb105, 2, none⟩ = some (.slice A0_2 l0_2.length c0_2) := (blk_cell BK105.out 2).trans rfl
        have hfz7_0 := blk_frozen BK105.out 0
        have hfz7_1 := blk_frozen BK105.out 1
        have hfz7_2 := blk_frozen BK105.out 2
        go_wp2
        go_meet
        case rel => exact ⟨_, (true), (by first | rfl | (simp; done) | (simp [*]; done)), H', ⟨by first | omega | exact Nat.le_refl _⟩, ⟨by (with_reducible repeat (first | refine blk_drewN ?_ _ | refine blk_drew ?_ | refine blk_alloc ?_ _)); exact BK105.out⟩, ⟨by repeat (first | (with_reducible first | exact HB.out | apply below_alloc | apply pw_below_drewN | apply below_drew1 | refine below_set ?_ GE105.out) | exact HB.out)⟩⟩
      · rw [if_neg c6] at H
        have c6b0 : decide (6 < a0_0) = false := decide_eq_false c6
        clear c6
        by_cases c8 : a0_1 < 1
        · rw [if_pos c8] at H
          have c8b0 : decide (a0_1 < 1) = true := decide_eq_true c8
          clear c8
          have H' := Aside0.mk H
          clear H
          have hcz9_0 : w3.cell? ⟨gb105, 0, none⟩ = some (.int .i64 a0_0) := (blk_cell BK105.out 0).trans rfl
          have hcz9_1 : w3.cell? ⟨gb105, 1, none⟩ = some (.int .i64 a0_1) := (blk_cell BK105.out 1).trans rfl
          have hcz9_2 : w3.cell? ⟨gb105, 2, none⟩ = some (.slice A0_2 l0_2.length c0_2) := (blk_cell BK105.out 2).trans rfl
          have hfz9_0 := blk_frozen BK105.out 0
          have hfz9_1 := blk_frozen BK105.out 1
          have hfz9_2 := blk_frozen BK105.out 2
          go_wp2
          go_meet
          case rel => exact ⟨_, (true), (by first | rfl | (simp; done) | (simp [*]; done)), H', ⟨by first | omega | exact Nat.le_refl _⟩, ⟨by (with_reducible repeat (first | refine blk_drewN ?_ _ | refine blk_drew ?_ | refine blk_alloc ?_ _)); exact BK105.out⟩, ⟨by repeat (first | (with_reducible first | exact HB.out | apply below_alloc | apply pw_below_drewN | apply below_drew1 | refine below_set ?_ GE105.out) | exact HB.out)⟩⟩
        · rw [if_neg c8] at H
          have c8b0 : decide (a0_1 < 1) = false := decide_eq_false c8
          clear c8
          have H' := Aside0.mk H
          clear H
          have hcz10_0 : w3.cell? ⟨gb105, 0, none⟩ = some (.int .i64 a0_0) := (blk_cell BK105.out 0).trans rfl
          have hcz10_1 : w3.cell? ⟨gb105, 1, none⟩ = some (.int .i64 a0_1) := (blk_cell BK105.out 1).trans rfl
          have hcz10_2 : w3.cell? ⟨gb105, 2, none⟩ = some (.slice A0_2 l0_2.length c0_2) := (blk_cell BK105.out 2).trans rfl
          have hfz10_0 := blk_frozen BK105.out 0
          have hfz10_1 := blk_frozen BK105.out 1
          have hfz10_2 := blk_frozen BK105.out 2
          go_wp2
          go_meet
          case rel => exact ⟨_, (decide (a0_1 > 4611686018427387903)), (by first | rfl | (simp; done) | (simp [*]; done)), H', ⟨by first | omega | exact Nat.le_refl _⟩, ⟨by (with_reducible repeat (first | refine blk_drewN ?_ _ | refine blk_drew ?_ | refine blk_alloc ?_ _)); exact BK105.out⟩, ⟨by repeat (first | (with_reducible first | exact HB.out | apply below_alloc | apply pw_below_drewN | apply below_drew1 | refine below_set ?_ GE105.out) | exact HB.out)⟩⟩
  case rest =>
    clear HC2
    try clear p2
    try clear c3
    try clear c4
    try clear c4b0
    try clear c6
    try clear c6b0
    try clear c8
    try clear c8b0
    try clear hcz10_0
    try clear hcz10_1
    try clear hcz10_2
    try clear hcz5_0
    try clear hcz5_1
    try clear hcz5_2
    try clear hcz7_0
    try clear hcz7_1
    try clear hcz7_2
    try clear hcz9_0
    try clear hcz9_1
    try clear hcz9_2
    try clear hfz10_0
    try clear hfz10_1
    try clear hfz10_2
    try clear hfz5_0
    try clear hfz5_1
    try clear hfz5_2
    try clear hfz7_0
    try clear hfz7_1
    try clear hfz7_2
    try clear hfz9_0
    try clear hfz9_1
    try clear hfz9_2
    obtain ⟨kq, x5_1, rfl, HA, HJ1, BK105, HB⟩ := hcut
    cases kq with
    | zero => exact absurd HA.out (by simp [tuskref05_Check.j0])
    | succ kj1 =>
      have H := HA.out
      clear HA
      simp only [tuskref05_Check.j0] at H
      by_cases c11 : x5_1 = true
      · subst c11
        have H1 : (some 2) = some r := by rw [if_pos rfl] at H; exact H
        clear H
        have H := H1
        clear H1
        obtain rfl := Option.some.inj H
        go_wp2
        go_ret
        exact ⟨by first | rfl | (simp [errW_none, errW_some] <;> rfl) | (simp [*, errW_none, errW_some] <;> rfl), by repeat (first | (with_reducible first | exact HB.out | apply below_alloc | apply pw_below_drewN | apply below_drew1 | refine below_set ?_ GE105.out) | exact HB.out)⟩
      · replace c11 := Bool.eq_false_iff.mpr c11
        subst c11
        have H1 : (if (l0_2.length : Int) = 0 then (some 12) else (if (l0_2.length : Int) > 16 then (some 8) else (tuskref05_Check.l0 kj1 0 a0_0 a0_1 l0_2))) = some r := by rw [if_neg (show ¬ (false = true) by decide)] at H; exact H
        clear H
        have H := H1
        clear H1
        by_cases c12 : (l0_2.length : Int) = 0
        · rw [if_pos c12] at H
          have c12b0 : ((l0_2.length : Int) == 0) = true := beq_iff_eq.mpr c12
          have c12b1 : ((l0_2.length : Int) != 0) = false := bne_eq_false_iff_eq.mpr c12
          clear c12
          obtain rfl := Option.some.inj H
          have hcz13_0 : wc.cell? ⟨gb105, 0, none⟩ = some (.int .i64 a0_0) := (blk_cell BK105.out 0).trans rfl
          have hcz13_1 : wc.cell? ⟨gb105, 1, none⟩ = some (.int .i64 a0_1) := (blk_cell BK105.out 1).trans rfl
          have hcz13_2 : wc.cell? ⟨gb105, 2, none⟩ = some (.slice A0_2 l0_2.length c0_2) := (blk_cell BK105.out 2).trans rfl
          have hfz13_0 := blk_frozen BK105.out 0
          have hfz13_1 := blk_frozen BK105.out 1
          have hfz13_2 := blk_frozen BK105.out 2
          go_wp2
          go_ret
          exact ⟨by first | rfl | (simp [errW_none, errW_some] <;> rfl) | (simp [*, errW_none, errW_some] <;> rfl), by repeat (first | (with_reducible first | exact HB.out | apply below_alloc | apply pw_below_drewN | apply below_drew1 | refine below_set ?_ GE105.out) | exact HB.out)⟩
        · rw [if_neg c12] at H
          have c12b0 : ((l0_2.length : Int) == 0) = false := beq_eq_false_iff_ne.mpr c12
          have c12b1 : ((l0_2.length : Int) != 0) = true := bne_iff_ne.mpr c12
          have c12b2 : ¬ (l0_2 = []) := fun h_ => c12 (by rw [h_]; rfl)
          by_cases c14 : (l0_2.length : Int) > 16
          · rw [if_pos c14] at H
            have c14b0 : decide (16 < (l0_2.length : Int)) = true := decide_eq_true c14
            have c14b1 : decide (16 < l0_2.length) = true := decide_eq_true (by omega)
            clear c14
            obtain rfl := Option.some.inj H
            have hcz15_0 : wc.cell? ⟨gb105, 0, none⟩ = some (.int .i64 a0_0) := (blk_cell BK105.out 0).trans rfl
            have hcz15_1 : wc.cell? ⟨gb105, 1, none⟩ = some (.int .i64 a0_1) := (blk_cell BK105.out 1).trans rfl
            have hcz15_2 : wc.cell? ⟨gb105, 2, none⟩ = some (.slice A0_2 l0_2.length c0_2) := (blk_cell BK105.out 2).trans rfl
            have hfz15_0 := blk_frozen BK105.out 0
            have hfz15_1 := blk_frozen BK105.out 1
            have hfz15_2 := blk_frozen BK105.out 2
            go_wp2
            go_ret
            exact ⟨by first | rfl | (simp [errW_none, errW_some] <;> rfl) | (simp [*, errW_none, errW_some] <;> rfl), by repeat (first | (with_reducible first | exact HB.out | apply below_alloc | apply pw_below_drewN | apply below_drew1 | refine below_set ?_ GE105.out) | exact HB.out)⟩
          · rw [if_neg c14] at H
            have c14b0 : decide (16 < (l0_2.length : Int)) = false := decide_eq_false c14
            have c14b1 : decide (16 < l0_2.length) = false := decide_eq_false (by omega)
            clear c14
            have H' := Aside0.mk H
            clear H
            have hcz16_0 : wc.cell? ⟨gb105, 0, none⟩ = some (.int .i64 a0_0) := (blk_cell BK105.out 0).trans rfl
            have hcz16_1 : wc.cell? ⟨gb105, 1, none⟩ = some (.int .i64 a0_1) := (blk_cell BK105.out 1).trans rfl
            have hcz16_2 : wc.cell? ⟨gb105, 2, none⟩ = some (.slice A0_2 l0_2.length c0_2) := (blk_cell BK105.out 2).trans rfl
            have hfz16_0 := blk_frozen BK105.out 0
            have hfz16_1 := blk_frozen BK105.out 1
            have hfz16_2 := blk_frozen BK105.out 2
            go_wp2
            go_loopg [3] kj1 (fun kq v3 w' => ∃ (x3_2 : Int), v3 = .int .i64 x3_2 ∧ Aside0 (tuskref05_Check.l0 kq x3_2 a0_0 a0_1 l0_2 = some r) ∧ Aside0 (kq ≤ kj1) ∧ Aside0 (w'.heap[gb105]? = some (.cells #[.int .i64 a0_0, .int .i64 a0_1, (.slice A0_2 l0_2.length c0_2)] 40 (0, 0))) ∧ Aside0 (Below w.heap.size w w'))
            case atStart => exact ⟨(0), (by first | rfl | (simp; done) | (simp [*]; done)), H', ⟨Nat.le_refl _⟩, ⟨by (with_reducible repeat (first | refine blk_drewN ?_ _ | refine blk_drew ?_ | refine blk_alloc ?_ _)); exact BK105.out⟩, ⟨by repeat (first | (with_reducible first | exact HB.out | apply below_alloc | apply pw_below_drewN | apply below_drew1 | refine below_set ?_ GE105.out) | exact HB.out)⟩⟩
            case round =>
              clear H'
              try clear c1
              try clear p2
              try clear c3
              try clear c4
              try clear c4b0
              try clear c6
              try clear c6b0
              try clear c8
              try clear c8b0
              try clear c11
              try clear c12
              try clear c12b0
              try clear c12b1
              try clear c12b2
              try clear c14
              try clear c14b0
              try clear c14b1
              try clear hcz10_0
              try clear hcz10_1
              try clear hcz10_2
              try clear hcz13_0
              try clear hcz13_1
              try clear hcz13_2
              try clear hcz15_0
              try clear hcz15_1
              try clear hcz15_2
              try clear hcz16_0
              try clear hcz16_1
              try clear hcz16_2
              try clear hcz5_0
              try clear hcz5_1
              try clear hcz5_2
              try clear hcz7_0
              try clear hcz7_1
              try clear hcz7_2
              try clear hcz9_0
              try clear hcz9_1
              try clear hcz9_2
              try clear hfz10_0
              try clear hfz10_1
              try clear hfz10_2
              try clear hfz13_0
              try clear hfz13_1
              try clear hfz13_2
              try clear hfz15_0
              try clear hfz15_1
              try clear hfz15_2
              try clear hfz16_0
              try clear hfz16_1
              try clear hfz16_2
              try clear hfz5_0
              try clear hfz5_1
              try clear hfz5_2
              try clear hfz7_0
              try clear hfz7_1
              try clear hfz7_2
              try clear hfz9_0
              try clear hfz9_1
              try clear hfz9_2
              try clear p2
              obtain ⟨x3_2, rfl, HA, HK2, BK105, HB⟩ := hrel
              cases gk with
              | zero => exact absurd HA.out (by simp [tuskref05_Check.l0])
              | succ k2 =>
                have H := HA.out
                clear HA
                simp only [tuskref05_Check.l0] at H
                by_cases c17 : x3_2 < (l0_2.length : Int)
                · rw [if_pos c17] at H
                  have c17b0 : decide (x3_2 < (l0_2.length : Int)) = true := decide_eq_true c17
                  clear c17
                  by_cases c18 : 0 ≤ x3_2
                  · rw [if_pos c18] at H
                    have c18b0 : decide (0 ≤ x3_2) = true := decide_eq_true c18
                    clear c18
                    replace H := Option.bind_eq_some_iff.mp H
                    obtain ⟨t107, A190, H⟩ := H
                    replace H : (if t107 = 0 then (tuskref05_Check.l0 k2 (wrap64 (x3_2 + 1)) a0_0 a0_1 l0_2) else (some t107)) = some r := H
                    have A19 := Aside0.mk A190
                    clear A190
                    by_cases c20 : t107 = 0
                    · rw [if_pos c20] at H
                      have c20b0 : (t107 == 0) = true := beq_iff_eq.mpr c20
                      have c20b1 : (t107 != 0) = false := bne_eq_false_iff_eq.mpr c20
                      clear c20
                      have H' := Aside0.mk H
                      clear H
                      have hcz21_0 : wr.cell? ⟨gb105, 0, none⟩ = some (.int .i64 a0_0) := (blk_cell BK105.out 0).trans rfl
                      have hcz21_1 : wr.cell? ⟨gb105, 1, none⟩ = some (.int .i64 a0_1) := (blk_cell BK105.out 1).trans rfl
                      have hcz21_2 : wr.cell? ⟨gb105, 2, none⟩ = some (.slice A0_2 l0_2.length c0_2) := (blk_cell BK105.out 2).trans rfl
                      have hfz21_0 := blk_frozen BK105.out 0
                      have hfz21_1 := blk_frozen BK105.out 1
                      have hfz21_2 := blk_frozen BK105.out 2
                      have p106 : 0 ≤ (x3_2 : Int) := of_decide_eq_true (by first | (with_reducible assumption) | assumption)
                      have q106 : x3_2 < (l0_2.length : Int) := of_decide_eq_true (by first | (with_reducible assumption) | assumption)
                      obtain ⟨ad106, A106_7, c106_7, A106_8, c106_8, e106, hx106_0, hx106_1, hx106_2, hx106_3, hx106_4, hx106_5, hx106_6, hx106_7, hx106_8, hl106_7, hi106_7, hl106_8, hi106_8⟩ := at_T33 HR0_2.out x3_2 p106 q106
                      cases e106
                      replace hx106_0 := (HB.out.cell (World.block_lt_of_cell? w _ hx106_0)).trans hx106_0
                      replace hx106_1 := (HB.out.cell (World.block_lt_of_cell? w _ hx106_1)).trans hx106_1
                      replace hx106_2 := (HB.out.cell (World.block_lt_of_cell? w _ hx106_2)).trans hx106_2
                      replace hx106_3 := (HB.out.cell (World.block_lt_of_cell? w _ hx106_3)).trans hx106_3
                      replace hx106_4 := (HB.out.cell (World.block_lt_of_cell? w _ hx106_4)).trans hx106_4
                      replace hx106_5 := (HB.out.cell (World.block_lt_of_cell? w _ hx106_5)).trans hx106_5
                      replace hx106_6 := (HB.out.cell (World.block_lt_of_cell? w _ hx106_6)).trans hx106_6
                      replace hx106_7 := (HB.out.cell (World.block_lt_of_cell? w _ hx106_7)).trans hx106_7
                      replace hx106_8 := (HB.out.cell (World.block_lt_of_cell? w _ hx106_8)).trans hx106_8
                      have HR106_7 := Aside0.mk hi106_7
                      have HC106_7 := Aside0.mk hl106_7
                      clear hi106_7 hl106_7
                      have HR106_8 := Aside0.mk hi106_8
                      have HC106_8 := Aside0.mk hl106_8
                      clear hi106_8 hl106_8
                      replace p106 := eq_true p106
                      replace q106 := eq_true q106
                      go_wp2_with (first | ((with_reducible refine gate_callee (f := 42) rfl ?_); refine goesL_ (some 46) rfl rfl Tryd.func42 (by kernel_rfl) rfl #[.agg #[.int .i64 ((rd_T33 l0_2 x3_2).f0), .string ((rd_T33 l0_2 x3_2).f1), .string ((rd_T33 l0_2 x3_2).f2), .int .u64 ((rd_T33 l0_2 x3_2).f3), .int .u64 ((rd_T33 l0_2 x3_2).f4), .string ((rd_T33 l0_2 x3_2).f5), .string ((rd_T33 l0_2 x3_2).f6), .slice A106_7 ((rd_T33 l0_2 x3_2).f7).length c106_7, .slice A106_8 ((rd_T33 l0_2 x3_2).f8).length c106_8]] rfl (by (try simp only [List.map_toArray, List.map_cons, List.map_nil]); first | done | rfl | (simp only [List.length_drop, List.length_take]; rfl)) ?_; (with_reducible refine (tuskref04_Check.calls ((rd_T33 l0_2 x3_2).f0) ((rd_T33 l0_2 x3_2).f1) ((rd_T33 l0_2 x3_2).f2) ((rd_T33 l0_2 x3_2).f3) ((rd_T33 l0_2 x3_2).f4) ((rd_T33 l0_2 x3_2).f5) ((rd_T33 l0_2 x3_2).f6) _ _ ((rd_T33 l0_2 x3_2).f7) _ _ ((rd_T33 l0_2 x3_2).f8) t107 _ ?side1 ?side2 ?side3 ?side4 A19.out).mono ?_); (case side1 => repeat (first | exact (Kd.C_below HR106_7.out HB.out) | (with_reducible refine Kd.C_alloc ?_ _) | (with_reducible refine Kd.C_drewN ?_ _) | (with_reducible refine Kd.C_drew ?_))); (case side2 => exact HC106_7.out); (case side3 => repeat (first | exact (Kd.C_below HR106_8.out HB.out) | (with_reducible refine Kd.C_alloc ?_ _) | (with_reducible refine Kd.C_drewN ?_ _) | (with_reducible refine Kd.C_drew ?_))); (case side4 => exact HC106_8.out); rintro e w22 ⟨rfl, hb⟩; refine ⟨_, rfl, ?_⟩; have n0_ := Aside0.mk (blk_below (g := gb105) (o := .cells #[.int .i64 a0_0, .int .i64 a0_1, .slice (some ad106) l0_2.length c0_2] 40 (0, 0)) (by (with_reducible repeat (first | refine blk_drewN ?_ _ | refine blk_drew ?_ | refine blk_alloc ?_ _)); exact BK105.out) hb); have n1_ := Aside0.mk (below_step (by repeat (first | (with_reducible first | exact HB.out | apply below_alloc | apply pw_below_drewN | apply below_drew1 | refine below_set ?_ GE105.out) | exact HB.out)) hb); clear BK105; clear HB; have BK105 := n0_; have HB := n1_; clear n0_ n1_; (try clear hb); (try clear hb2); (try clear hk); (try clear hi)))
                      go_roundg k2
                      case measure => have := HJ1.out; have := HK2.out; omega
                      case rel => exact ⟨(wrap64 (x3_2 + 1)), (by first | rfl | (simp; done) | (simp [*]; done)), H', ⟨by have := HJ1.out; have := HK2.out; omega⟩, ⟨by (with_reducible repeat (first | refine blk_drewN ?_ _ | refine blk_drew ?_ | refine blk_alloc ?_ _)); exact BK105.out⟩, ⟨by repeat (first | (with_reducible first | exact HB.out | apply below_alloc | apply pw_below_drewN | apply below_drew1 | refine below_set ?_ GE105.out) | exact HB.out)⟩⟩
                    · rw [if_neg c20] at H
                      have c20b0 : (t107 == 0) = false := beq_eq_false_iff_ne.mpr c20
                      have c20b1 : (t107 != 0) = true := bne_iff_ne.mpr c20
                      obtain rfl := Option.some.inj H
                      have hcz23_0 : wr.cell? ⟨gb105, 0, none⟩ = some (.int .i64 a0_0) := (blk_cell BK105.out 0).trans rfl
                      have hcz23_1 : wr.cell? ⟨gb105, 1, none⟩ = some (.int .i64 a0_1) := (blk_cell BK105.out 1).trans rfl
                      have hcz23_2 : wr.cell? ⟨gb105, 2, none⟩ = some (.slice A0_2 l0_2.length c0_2) := (blk_cell BK105.out 2).trans rfl
                      have hfz23_0 := blk_frozen BK105.out 0
                      have hfz23_1 := blk_frozen BK105.out 1
                      have hfz23_2 := blk_frozen BK105.out 2
                      have p106 : 0 ≤ (x3_2 : Int) := of_decide_eq_true (by first | (with_reducible assumption) | assumption)
                      have q106 : x3_2 < (l0_2.length : Int) := of_decide_eq_true (by first | (with_reducible assumption) | assumption)
                      obtain ⟨ad106, A106_7, c106_7, A106_8, c106_8, e106, hx106_0, hx106_1, hx106_2, hx106_3, hx106_4, hx106_5, hx106_6, hx106_7, hx106_8, hl106_7, hi106_7, hl106_8, hi106_8⟩ := at_T33 HR0_2.out x3_2 p106 q106
                      cases e106
                      replace hx106_0 := (HB.out.cell (World.block_lt_of_cell? w _ hx106_0)).trans hx106_0
                      replace hx106_1 := (HB.out.cell (World.block_lt_of_cell? w _ hx106_1)).trans hx106_1
                      replace hx106_2 := (HB.out.cell (World.block_lt_of_cell? w _ hx106_2)).trans hx106_2
                      replace hx106_3 := (HB.out.cell (World.block_lt_of_cell? w _ hx106_3)).trans hx106_3
                      replace hx106_4 := (HB.out.cell (World.block_lt_of_cell? w _ hx106_4)).trans hx106_4
                      replace hx106_5 := (HB.out.cell (World.block_lt_of_cell? w _ hx106_5)).trans hx106_5
                      replace hx106_6 := (HB.out.cell (World.block_lt_of_cell? w _ hx106_6)).trans hx106_6
                      replace hx106_7 := (HB.out.cell (World.block_lt_of_cell? w _ hx106_7)).trans hx106_7
                      replace hx106_8 := (HB.out.cell (World.block_lt_of_cell? w _ hx106_8)).trans hx106_8
                      have HR106_7 := Aside0.mk hi106_7
                      have HC106_7 := Aside0.mk hl106_7
                      clear hi106_7 hl106_7
                      have HR106_8 := Aside0.mk hi106_8
                      have HC106_8 := Aside0.mk hl106_8
                      clear hi106_8 hl106_8
                      replace p106 := eq_true p106
                      replace q106 := eq_true q106
                      go_wp2_with (first | ((with_reducible refine gate_callee (f := 42) rfl ?_); refine goesL_ (some 46) rfl rfl Tryd.func42 (by kernel_rfl) rfl #[.agg #[.int .i64 ((rd_T33 l0_2 x3_2).f0), .string ((rd_T33 l0_2 x3_2).f1), .string ((rd_T33 l0_2 x3_2).f2), .int .u64 ((rd_T33 l0_2 x3_2).f3), .int .u64 ((rd_T33 l0_2 x3_2).f4), .string ((rd_T33 l0_2 x3_2).f5), .string ((rd_T33 l0_2 x3_2).f6), .slice A106_7 ((rd_T33 l0_2 x3_2).f7).length c106_7, .slice A106_8 ((rd_T33 l0_2 x3_2).f8).length c106_8]] rfl (by (try simp only [List.map_toArray, List.map_cons, List.map_nil]); first | done | rfl | (simp only [List.length_drop, List.length_take]; rfl)) ?_; (with_reducible refine (tuskref04_Check.calls ((rd_T33 l0_2 x3_2).f0) ((rd_T33 l0_2 x3_2).f1) ((rd_T33 l0_2 x3_2).f2) ((rd_T33 l0_2 x3_2).f3) ((rd_T33 l0_2 x3_2).f4) ((rd_T33 l0_2 x3_2).f5) ((rd_T33 l0_2 x3_2).f6) _ _ ((rd_T33 l0_2 x3_2).f7) _ _ ((rd_T33 l0_2 x3_2).f8) t107 _ ?side1 ?side2 ?side3 ?side4 A19.out).mono ?_); (case side1 => repeat (first | exact (Kd.C_below HR106_7.out HB.out) | (with_reducible refine Kd.C_alloc ?_ _) | (with_reducible refine Kd.C_drewN ?_ _) | (with_reducible refine Kd.C_drew ?_))); (case side2 => exact HC106_7.out); (case side3 => repeat (first | exact (Kd.C_below HR106_8.out HB.out) | (with_reducible refine Kd.C_alloc ?_ _) | (with_reducible refine Kd.C_drewN ?_ _) | (with_reducible refine Kd.C_drew ?_))); (case side4 => exact HC106_8.out); rintro e w24 ⟨rfl, hb⟩; refine ⟨_, rfl, ?_⟩; have n0_ := Aside0.mk (blk_below (g := gb105) (o := .cells #[.int .i64 a0_0, .int .i64 a0_1, .slice (some ad106) l0_2.length c0_2] 40 (0, 0)) (by (with_reducible repeat (first | refine blk_drewN ?_ _ | refine blk_drew ?_ | refine blk_alloc ?_ _)); exact BK105.out) hb); have n1_ := Aside0.mk (below_step (by repeat (first | (with_reducible first | exact HB.out | apply below_alloc | apply pw_below_drewN | apply below_drew1 | refine below_set ?_ GE105.out) | exact HB.out)) hb); clear BK105; clear HB; have BK105 := n0_; have HB := n1_; clear n0_ n1_; (try clear hb); (try clear hb2); (try clear hk); (try clear hi)))
                      go_ret
                      exact ⟨by first | rfl | (simp [errW_none, errW_some] <;> rfl) | (simp [*, errW_none, errW_some] <;> rfl), by repeat (first | (with_reducible first | exact HB.out | apply below_alloc | apply pw_below_drewN | apply below_drew1 | refine below_set ?_ GE105.out) | exact HB.out)⟩
                  · rw [if_neg c18] at H
                    exact absurd H (by simp)
                · rw [if_neg c17] at H
                  have c17b0 : decide (x3_2 < (l0_2.length : Int)) = false := decide_eq_false c17
                  clear c17
                  obtain rfl := Option.some.inj H
                  have hcz25_0 : wr.cell? ⟨gb105, 0, none⟩ = some (.int .i64 a0_0) := (blk_cell BK105.out 0).trans rfl
                  have hcz25_1 : wr.cell? ⟨gb105, 1, none⟩ = some (.int .i64 a0_1) := (blk_cell BK105.out 1).trans rfl
                  have hcz25_2 : wr.cell? ⟨gb105, 2, none⟩ = some (.slice A0_2 l0_2.length c0_2) := (blk_cell BK105.out 2).trans rfl
                  have hfz25_0 := blk_frozen BK105.out 0
                  have hfz25_1 := blk_frozen BK105.out 1
                  have hfz25_2 := blk_frozen BK105.out 2
                  go_wp2
                  go_ret
                  exact ⟨by first | rfl | (simp [errW_none, errW_some] <;> rfl) | (simp [*, errW_none, errW_some] <;> rfl), by repeat (first | (with_reducible first | exact HB.out | apply below_alloc | apply pw_below_drewN | apply below_drew1 | refine below_set ?_ GE105.out) | exact HB.out)⟩
end Go.Proofs.YtndicjikjcifaaaDoor.PB

/- A small logic of assertions with footprints over opaque frames and worlds: what is known of slots, what is known of blocks. Plain lemmas, no program in sight. -/
namespace Go.Proofs.YtndicjikjcifaaaDoor
open Go.RowKit Go.Proofs.YtndicjikjcifaaaDoorW.PrintWords Go.Proofs.YtndicjikjcifaaaDoorW.PrintLast
set_option linter.unusedVariables false
set_option linter.unusedSimpArgs false
set_option linter.unusedSectionVars false
structure Asn where
  wf : Nat → Prop
  rf : Nat → Prop
  holds : World → Prop
  loc : ∀ W W', holds W → (∀ k, wf k ∨ rf k → W'.heap[k]? = W.heap[k]?) → holds W'
def Asn.blk (g : Nat) (cs : List Value) (t : TypeId) : Asn :=
  ⟨fun k => k = g, fun _ => False, fun W => W.heap[g]? = some (.cells cs.toArray t (0, 0)), fun _ _ h e => (e g (.inl rfl)).trans h⟩
def Asn.old (w : World) (p : World → Prop) (hp : ∀ W W', p W → (∀ k, k < w.heap.size → W'.heap[k]? = W.heap[k]?) → p W') : Asn :=
  ⟨fun _ => False, fun k => k < w.heap.size, p, fun W W' h e => hp W W' h (fun k hk => e k (.inr hk))⟩
structure Fr (n : Nat) (L : List (Nat × Value)) (a : Act) : Prop where
  sz : a.tmps.size = n
  df : a.defers = []
  ev : ∀ i v, L.lookup i = some v → a.tmps[i]? = some v
structure St (w : World) (S R : Nat → Prop) (M : List Asn) (W : World) : Prop where
  low : Only S w W
  has : ∀ A ∈ M, A.holds W ∧ (∀ k, A.wf k ∨ A.rf k → k < W.heap.size) ∧ (∀ k, A.wf k → S k ∨ w.heap.size ≤ k) ∧ (∀ k, A.rf k → S k ∨ R k ∨ w.heap.size ≤ k)
  dis : M.Pairwise (fun A B => ∀ k, (A.wf k → ¬ (B.wf k ∨ B.rf k)) ∧ (B.wf k → ¬ (A.wf k ∨ A.rf k)))
section
variable {w w0 W W' : World} {S S0 R R0 : Nat → Prop} {n : Nat} {L L' : List (Nat × Value)} {M M' : List Asn} {a : Act} {A B : Asn}
theorem Fr.slot (H : Fr n L a) {i : Nat} {v : Value} (h : L.lookup i = some v) : a.eval (.tmp i) = v := by
  have := H.ev i v h
  simp [Act.eval, this]
theorem Fr.put (H : Fr n L a) (d : Nat) (hd : d < n) (v : Value) : Fr n ((d, v) :: L) (a.put (some d) v) := by
  refine ⟨by simp [Act.put, H.sz], H.df, fun i u h => ?_⟩
  simp only [Act.put, Array.getElem?_setIfInBounds, H.sz]
  by_cases e : d = i
  · subst e
    rw [if_pos rfl, if_pos hd]
    simpa [List.lookup] using h
  · rw [if_neg e]
    refine H.ev i u ?_
    have : (i == d) = false := beq_false_of_ne (fun q => e q.symm)
    simpa [List.lookup, this] using h
def Sub : List (Nat × Value) → List (Nat × Value) → Prop
  | [], _ => True
  | (i, v) :: t, L => L.lookup i = some v ∧ Sub t L
theorem Sub.look : ∀ {L' : List (Nat × Value)}, Sub L' L → ∀ i v, L'.lookup i = some v → L.lookup i = some v
  | [], _, i, v, h => by simp at h
  | (j, u) :: t, hs, i, v, h => by
    by_cases e : i = j
    · subst e
      have : u = v := by simpa [List.lookup] using h
      exact this ▸ hs.1
    · have hb : (i == j) = false := beq_false_of_ne e
      exact Sub.look hs.2 i v (by simpa [List.lookup, hb] using h)
theorem Fr.less (H : Fr n L a) (L' : List (Nat × Value)) (h : Sub L' L) : Fr n L' a := ⟨H.sz, H.df, fun i v e => H.ev i v (h.look i v e)⟩
theorem Fr.conv {i : Nat} {v : Value} (H : Fr n ((i, v) :: L) a) {v' : Value} (e : v = v') : Fr n ((i, v') :: L) a := e ▸ H
theorem St.get (H : St w S R M W) (k : Nat) (h : M[k]? = some A) : A.holds W := (H.has A (List.mem_of_getElem? h)).1
theorem St.blk (H : St w S R M W) (k : Nat) {g : Nat} {cs : List Value} {t : TypeId} (h : M[k]? = some (Asn.blk g cs t)) : W.heap[g]? = some (.cells cs.toArray t (0, 0)) := H.get k h
theorem St.first (w : World) (S R : Nat → Prop) : St w S R [] w := ⟨Only.refl _ _, (fun A h => by cases h), List.Pairwise.nil⟩
theorem St.drew (H : St w S R M W) : St w S R M W.drew := ⟨H.low.drew, fun A h => ⟨A.loc W W.drew (H.has A h).1 (fun _ _ => rfl), (H.has A h).2⟩, H.dis⟩
theorem St.drewN (H : St w S R M W) (k : Nat) : St w S R M (W.drewN k) := ⟨H.low.drewN k, fun A h => ⟨A.loc W (W.drewN k) (H.has A h).1 (fun _ _ => rfl), (H.has A h).2⟩, H.dis⟩
theorem St.below (H : St w S R M W) (hb : Below W.heap.size W W') : St w S R M W' :=
  ⟨H.low.trans (Only.of_below (S := S) hb) (fun _ _ h => h), fun A h => ⟨A.loc W W' (H.has A h).1 (fun k hk => hb.block k ((H.has A h).2.1 k hk)), fun k hk => Nat.lt_of_lt_of_le ((H.has A h).2.1 k hk) hb.size, (H.has A h).2.2⟩, H.dis⟩
theorem St.sub (H : St w S R M W) (h : M'.Sublist M) : St w S R M' W := ⟨H.low, fun A hA => H.has A (h.subset hA), H.dis.sublist h⟩
theorem St.front (H : St w S R M W) (m : Nat) : St w S R (M.take m) W := H.sub (List.take_sublist _ _)
theorem St.add (H : St w S R M W) (A : Asn) (hh : A.holds W) (hb : ∀ k, A.wf k ∨ A.rf k → k < W.heap.size) (hw : ∀ k, A.wf k → (S k ∨ w.heap.size ≤ k) ∧ ∀ B ∈ M, ¬ (B.wf k ∨ B.rf k)) (hr : ∀ k, A.rf k → (S k ∨ R k ∨ w.heap.size ≤ k) ∧ ∀ B ∈ M, ¬ B.wf k) : St w S R (M ++ [A]) W := by
  refine ⟨H.low, fun B hB => ?_, ?_⟩
  · rcases List.mem_append.1 hB with hB | hB
    · exact H.has B hB
    · obtain rfl := List.mem_singleton.1 hB
      exact ⟨hh, hb, fun k hk => (hw k hk).1, fun k hk => (hr k hk).1⟩
  · rw [List.pairwise_append]
    refine ⟨H.dis, by simp, fun B hB C hC => ?_⟩
    obtain rfl := List.mem_singleton.1 hC
    refine fun k => ⟨fun hk hc => ?_, fun hk hc => (hw k hk).2 B hB hc⟩
    rcases hc with hc | hc
    · exact (hw k hc).2 B hB (.inl hk)
    · exact (hr k hc).2 B hB hk
theorem St.one (A : Asn) (hh : A.holds w) (hb : ∀ k, A.wf k ∨ A.rf k → k < w.heap.size) (hw : ∀ k, A.wf k → S k) (hr : ∀ k, A.rf k → S k ∨ R k) : St w S R [A] w :=
  (St.first w S R).add A hh hb (fun k hk => ⟨.inl (hw k hk), fun _ h => by cases h⟩) (fun k hk => ⟨(hr k hk).imp id .inl, fun _ h => by cases h⟩)
theorem St.ends (H : St w (fun _ => False) R M W) : Below w.heap.size w W := H.low.below (Nat.le_refl _) (fun _ h => h.elim)
theorem St.fresh (H : St w S R M W) (hb : Below W.heap.size W W') (A : Asn) (hh : A.holds W') (hf : ∀ k, A.wf k ∨ A.rf k → W.heap.size ≤ k ∧ k < W'.heap.size) : St w S R (M ++ [A]) W' := by
  have H' := H.below hb
  refine H'.add A hh (fun k hk => (hf k hk).2) (fun k hk => ⟨.inr (Nat.le_trans H.low.size (hf k (.inl hk)).1), fun B hB hc => ?_⟩) (fun k hk => ⟨.inr (.inr (Nat.le_trans H.low.size (hf k (.inr hk)).1)), fun B hB hc => ?_⟩)
  · have := (H.has B hB).2.1 k hc
    have := (hf k (.inl hk)).1
    omega
  · have := (H.has B hB).2.1 k (.inl hc)
    have := (hf k (.inr hk)).1
    omega
theorem St.alloc (H : St w S R M W) (cs : List Value) (t : TypeId) : St w S R (M ++ [Asn.blk W.heap.size cs t]) (W.alloc (.cells cs.toArray t)) :=
  H.fresh ((Below.refl _ W).alloc (Nat.le_refl _) _) _ (blk_new _ _) (fun k hk => by
    rcases hk with hk | hk
    · have : k = W.heap.size := hk
      subst this
      simp
    · cases hk)
theorem St.updR (H : St w S R M W) (k : Nat) (hk : M[k]? = some A) (ho : Only A.wf W W') (B : Asn) (hh : B.holds W') (hb : ∀ j, B.wf j ∨ B.rf j → j < W'.heap.size) (hw : ∀ j, B.wf j → A.wf j ∨ W.heap.size ≤ j)
    (hr : ∀ j, B.rf j → A.wf j ∨ A.rf j ∨ W.heap.size ≤ j ∨ ∃ i C, i ≠ k ∧ M[i]? = some C ∧ C.rf j ∧ ¬ C.wf j) : St w S R (M.set k B) W' := by
  have hkl := (List.getElem?_eq_some_iff.1 hk).1
  have hA := List.mem_of_getElem? hk
  have apart2 : ∀ (i : Nat) (C : Asn) (j : Nat) (D : Asn), i ≠ j → M[i]? = some C → M[j]? = some D → ∀ x, (C.wf x → ¬ (D.wf x ∨ D.rf x)) ∧ (D.wf x → ¬ (C.wf x ∨ C.rf x)) := by
    intro i C j D hne hi hj
    have hil := (List.getElem?_eq_some_iff.1 hi).1
    have hjl := (List.getElem?_eq_some_iff.1 hj).1
    have e1 : M[i] = C := (List.getElem?_eq_some_iff.1 hi).2
    have e2 : M[j] = D := (List.getElem?_eq_some_iff.1 hj).2
    have h2 := List.pairwise_iff_getElem.1 H.dis
    rcases Nat.lt_or_gt_of_ne hne with h | h
    · have := h2 i j hil hjl h; rwa [e1, e2] at this
    · have := h2 j i hjl hil h
      rw [e1, e2] at this
      exact fun x => ⟨(this x).2, (this x).1⟩
  have apart : ∀ i C, i ≠ k → M[i]? = some C → ∀ j, (A.wf j → ¬ (C.wf j ∨ C.rf j)) ∧ (C.wf j → ¬ (A.wf j ∨ A.rf j)) := by
    intro i C hi hC j
    have hil := (List.getElem?_eq_some_iff.1 hC).1
    have h2 := List.pairwise_iff_getElem.1 H.dis
    have e1 : M[k] = A := (List.getElem?_eq_some_iff.1 hk).2
    have e2 : M[i] = C := (List.getElem?_eq_some_iff.1 hC).2
    rcases Nat.lt_or_gt_of_ne hi with h | h
    · have := h2 i k hil hkl h j
      rw [e1, e2] at this
      exact ⟨this.2, this.1⟩
    · have := h2 k i hkl hil h j
      rw [e1, e2] at this
      exact this
  refine ⟨H.low.trans ho (fun i hi h => ?_), fun C hC => ?_, ?_⟩
  · rcases (H.has A hA).2.2.1 i h with q | q
    · exact q
    · omega
  · obtain ⟨i, hi⟩ := List.mem_iff_getElem?.1 hC
    rw [List.getElem?_set] at hi
    by_cases e : k = i
    · subst e
      rw [if_pos rfl, if_pos hkl] at hi
      cases hi
      refine ⟨hh, hb, fun j hj => ?_, fun j hj => ?_⟩
      · rcases hw j hj with q | q
        · exact (H.has A hA).2.2.1 j q
        · exact .inr (Nat.le_trans H.low.size q)
      · rcases hr j hj with q | q | q | ⟨i', C', _, hC', q, _⟩
        · exact ((H.has A hA).2.2.1 j q).imp id .inr
        · exact (H.has A hA).2.2.2 j q
        · exact .inr (.inr (Nat.le_trans H.low.size q))
        · exact (H.has C' (List.mem_of_getElem? hC')).2.2.2 j q
    · rw [if_neg e] at hi
      have hm := List.mem_of_getElem? hi
      refine ⟨C.loc W W' (H.has C hm).1 (fun j hj => ho.block j ((H.has C hm).2.1 j hj) (fun q => (apart i C (Ne.symm e) hi j).1 q hj)), fun j hj => Nat.lt_of_lt_of_le ((H.has C hm).2.1 j hj) ho.size, (H.has C hm).2.2⟩
  · have new : ∀ i C, i ≠ k → M[i]? = some C → ∀ j, (B.wf j → ¬ (C.wf j ∨ C.rf j)) ∧ (C.wf j → ¬ (B.wf j ∨ B.rf j)) := by
      intro i C hi hC j
      have hm := List.mem_of_getElem? hC
      have hap := apart i C hi hC j
      have hlt := (H.has C hm).2.1 j
      refine ⟨fun hj hc => ?_, fun hc hj => ?_⟩
      · rcases hw j hj with q | q
        · exact hap.1 q hc
        · have := hlt hc; omega
      · rcases hj with hj | hj
        · rcases hw j hj with q | q
          · exact hap.2 hc (.inl q)
          · have := hlt (.inl hc); omega
        · rcases hr j hj with q | q | q | ⟨i', C', hi', hC', q, q'⟩
          · exact hap.2 hc (.inl q)
          · exact hap.2 hc (.inr q)
          · have := hlt (.inl hc); omega
          · by_cases e : i' = i
            · subst e
              rw [hC] at hC'
              cases hC'
              exact q' hc
            · exact (apart2 i' C' i C e hC' hC j).2 hc (.inr q)
    rw [List.pairwise_iff_getElem]
    intro i j hi hj hij
    simp only [List.length_set] at hi hj
    have h2 := List.pairwise_iff_getElem.1 H.dis i j hi hj hij
    rw [List.getElem_set, List.getElem_set]
    by_cases e1 : k = i
    · subst e1
      rw [if_pos rfl, if_neg (by omega)]
      exact new j _ (by omega) (List.getElem?_eq_getElem hj)
    · rw [if_neg e1]
      by_cases e2 : k = j
      · subst e2
        rw [if_pos rfl]
        intro q
        have := new i _ (by omega) (List.getElem?_eq_getElem hi) q
        exact ⟨this.2, this.1⟩
      · rw [if_neg e2]
        exact h2
theorem St.upd (H : St w S R M W) (k : Nat) (hk : M[k]? = some A) (ho : Only A.wf W W') (B : Asn) (hh : B.holds W') (hb : ∀ j, B.wf j ∨ B.rf j → j < W'.heap.size) (hw : ∀ j, B.wf j → A.wf j ∨ W.heap.size ≤ j)
    (hr : ∀ j, B.rf j → A.wf j ∨ A.rf j ∨ W.heap.size ≤ j) : St w S R (M.set k B) W' :=
  H.updR k hk ho B hh hb hw (fun j hj => by
    rcases hr j hj with q | q | q
    · exact .inl q
    · exact .inr (.inl q)
    · exact .inr (.inr (.inl q)))
def setAll : List Asn → List Nat → List Asn → List Asn
  | M, [], _ => M
  | M, _ :: _, [] => M
  | M, k :: ks, B :: Bs => setAll (M.set k B) ks Bs
def Wf (M : List Asn) : Nat → Prop := fun k => ∃ A ∈ M, A.wf k
def Rf (M : List Asn) : Nat → Prop := fun k => ∃ A ∈ M, A.rf k
theorem St.apart (H : St w S R M W) {i j : Nat} {A B : Asn} (hi : M[i]? = some A) (hj : M[j]? = some B) (hne : i ≠ j) : ∀ k, (A.wf k → ¬ (B.wf k ∨ B.rf k)) ∧ (B.wf k → ¬ (A.wf k ∨ A.rf k)) := by
  have hil := (List.getElem?_eq_some_iff.1 hi).1
  have hjl := (List.getElem?_eq_some_iff.1 hj).1
  have e1 : M[i] = A := (List.getElem?_eq_some_iff.1 hi).2
  have e2 : M[j] = B := (List.getElem?_eq_some_iff.1 hj).2
  have h2 := List.pairwise_iff_getElem.1 H.dis
  rcases Nat.lt_or_gt_of_ne hne with h | h
  · have := h2 i j hil hjl h; rwa [e1, e2] at this
  · have := h2 j i hjl hil h
    rw [e1, e2] at this
    exact fun k => ⟨(this k).2, (this k).1⟩
theorem St.select (H : St w S R M W) (ks : List Nat) (A : List Asn) (hA : ks.map (M[·]?) = A.map some) (nd : ks.Nodup) : St W (Wf A) (Rf A) A W := by
  have get : ∀ (i : Nat) (B : Asn), A[i]? = some B → ∃ k, ks[i]? = some k ∧ M[k]? = some B := by
    intro i B hB
    have := congrArg (·[i]?) hA
    simp only [List.getElem?_map, hB, Option.map_some] at this
    cases hk : ks[i]? with
    | none => rw [hk] at this; simp at this
    | some k => rw [hk] at this; exact ⟨k, rfl, by simpa using this⟩
  refine ⟨Only.refl _ _, fun B hB => ?_, ?_⟩
  · obtain ⟨i, hi⟩ := List.mem_iff_getElem?.1 hB
    obtain ⟨k, _, hk⟩ := get i B hi
    have := H.has B (List.mem_of_getElem? hk)
    exact ⟨this.1, this.2.1, fun j hj => .inl ⟨B, hB, hj⟩, fun j hj => .inr (.inl ⟨B, hB, hj⟩)⟩
  · rw [List.pairwise_iff_getElem]
    intro i j hi hj hij
    obtain ⟨k, h1, hk⟩ := get i _ (List.getElem?_eq_getElem hi)
    obtain ⟨l, h2, hl⟩ := get j _ (List.getElem?_eq_getElem hj)
    refine H.apart hk hl (fun e => ?_)
    subst e
    have hil := (List.getElem?_eq_some_iff.1 h1).1
    have hjl := (List.getElem?_eq_some_iff.1 h2).1
    have := List.pairwise_iff_getElem.1 nd i j hil hjl hij
    exact this (((List.getElem?_eq_some_iff.1 h1).2).trans ((List.getElem?_eq_some_iff.1 h2).2).symm)
theorem setAll_other : ∀ (ks : List Nat) (B M : List Asn) (i : Nat), i ∉ ks → (setAll M ks B)[i]? = M[i]?
  | [], B, M, i, h => by simp [setAll]
  | k :: ks, [], M, i, h => by simp [setAll]
  | k :: ks, b :: B, M, i, h => by
    rw [setAll, setAll_other ks B _ i (fun q => h (List.mem_cons_of_mem _ q)), List.getElem?_set, if_neg (fun e => h (by rw [e]; exact List.mem_cons_self))]
theorem setAll_at : ∀ (ks : List Nat) (B M : List Asn) (j i : Nat), ks.Nodup → ks[j]? = some i → i < M.length → j < B.length → (setAll M ks B)[i]? = B[j]?
  | [], B, M, j, i, nd, h, hi, hj => by simp at h
  | k :: ks, [], M, j, i, nd, h, hi, hj => by simp at hj
  | k :: ks, b :: B, M, 0, i, nd, h, hi, hj => by
    obtain rfl : k = i := by simpa using h
    rw [setAll, setAll_other ks B _ k (List.nodup_cons.1 nd).1, List.getElem?_set, if_pos rfl, if_pos hi]
    rfl
  | k :: ks, b :: B, M, j + 1, i, nd, h, hi, hj => by
    rw [setAll, setAll_at ks B _ j i (List.nodup_cons.1 nd).2 (by simpa using h) (by simpa using hi) (by simpa using hj)]
    simp
theorem setAll_length : ∀ (ks : List Nat) (B M : List Asn), (setAll M ks B).length = M.length
  | [], B, M => by simp [setAll]
  | k :: ks, [], M => by simp [setAll]
  | k :: ks, b :: B, M => by rw [setAll, setAll_length]; simp
theorem St.back (H : St w S R M W) (ks : List Nat) (A : List Asn) (hA : ks.map (M[·]?) = A.map some) (nd : ks.Nodup) (B N : List Asn) (hl : B.length = A.length) (H' : St W (Wf A) (Rf A) (B ++ N) W') : St w S R (setAll M ks B ++ N) W' := by
  have hkl : ks.length = A.length := by have := congrArg List.length hA; simpa using this
  have get : ∀ (i : Nat) (C : Asn), A[i]? = some C → ∃ k, ks[i]? = some k ∧ M[k]? = some C := by
    intro i C hC
    have := congrArg (·[i]?) hA
    simp only [List.getElem?_map, hC, Option.map_some] at this
    cases hk : ks[i]? with
    | none => rw [hk] at this; simp at this
    | some k => rw [hk] at this; exact ⟨k, rfl, by simpa using this⟩
  have wfA : ∀ j, Wf A j → (S j ∨ w.heap.size ≤ j) ∧ ∀ i C, i ∉ ks → M[i]? = some C → ¬ (C.wf j ∨ C.rf j) := by
    rintro j ⟨C, hC, hj⟩
    obtain ⟨i, hi⟩ := List.mem_iff_getElem?.1 hC
    obtain ⟨k, h1, hk⟩ := get i C hi
    refine ⟨(H.has C (List.mem_of_getElem? hk)).2.2.1 j hj, fun i D hi hD => ?_⟩
    exact (H.apart hk hD (fun e => hi (e ▸ List.mem_of_getElem? h1)) j).1 hj
  have rfA : ∀ j, Rf A j → (S j ∨ R j ∨ w.heap.size ≤ j) ∧ ∀ i C, i ∉ ks → M[i]? = some C → ¬ C.wf j := by
    rintro j ⟨C, hC, hj⟩
    obtain ⟨i, hi⟩ := List.mem_iff_getElem?.1 hC
    obtain ⟨k, h1, hk⟩ := get i C hi
    refine ⟨(H.has C (List.mem_of_getElem? hk)).2.2.2 j hj, fun i D hi hD hd => ?_⟩
    exact (H.apart hk hD (fun e => hi (e ▸ List.mem_of_getElem? h1)) j).2 hd (.inr hj)
  -- where each of the list stands
  have cases_ : ∀ (i : Nat) (C : Asn), (setAll M ks B ++ N)[i]? = some C → (i ∉ ks ∧ M[i]? = some C) ∨ (∃ j, (B ++ N)[j]? = some C ∧ ((j < B.length ∧ ks[j]? = some i) ∨ (B.length ≤ j ∧ i = M.length + (j - B.length)))) := by
    intro i C hC
    rcases Nat.lt_or_ge i M.length with hi | hi
    · rw [List.getElem?_append_left (by rw [setAll_length]; exact hi)] at hC
      by_cases hm : i ∈ ks
      · obtain ⟨j, hj⟩ := List.mem_iff_getElem?.1 hm
        have hjl : j < B.length := by have := (List.getElem?_eq_some_iff.1 hj).1; omega
        rw [setAll_at ks B M j i nd hj hi hjl] at hC
        exact .inr ⟨j, by rw [List.getElem?_append_left hjl]; exact hC, .inl ⟨hjl, hj⟩⟩
      · rw [setAll_other ks B M i hm] at hC
        exact .inl ⟨hm, hC⟩
    · rw [List.getElem?_append_right (by rw [setAll_length]; exact hi), setAll_length] at hC
      exact .inr ⟨B.length + (i - M.length), by rw [List.getElem?_append_right (by omega)]; rw [show B.length + (i - M.length) - B.length = i - M.length by omega]; exact hC, .inr ⟨by omega, by omega⟩⟩
  have old : ∀ (i : Nat) (C : Asn), i ∉ ks → M[i]? = some C → C.holds W' ∧ (∀ k, C.wf k ∨ C.rf k → k < W'.heap.size) := by
    intro i C hi hC
    have hc := H.has C (List.mem_of_getElem? hC)
    exact ⟨C.loc W W' hc.1 (fun k hk => H'.low.block k (hc.2.1 k hk) (fun q => (wfA k q).2 i C hi hC hk)), fun k hk => Nat.lt_of_lt_of_le (hc.2.1 k hk) H'.low.size⟩
  refine ⟨H.low.trans H'.low (fun j hj q => ?_), fun C hC => ?_, ?_⟩
  · rcases (wfA j q).1 with h | h
    · exact h
    · omega
  · obtain ⟨i, hi⟩ := List.mem_iff_getElem?.1 hC
    rcases cases_ i C hi with ⟨h1, h2⟩ | ⟨j, h1, _⟩
    · have := old i C h1 h2
      exact ⟨this.1, this.2, (H.has C (List.mem_of_getElem? h2)).2.2⟩
    · have hc := H'.has C (List.mem_of_getElem? h1)
      refine ⟨hc.1, hc.2.1, fun k hk => ?_, fun k hk => ?_⟩
      · rcases hc.2.2.1 k hk with q | q
        · exact (wfA k q).1
        · exact .inr (Nat.le_trans H.low.size q)
      · rcases hc.2.2.2 k hk with q | q | q
        · exact (wfA k q).1.imp id .inr
        · exact (rfA k q).1
        · exact .inr (.inr (Nat.le_trans H.low.size q))
  · rw [List.pairwise_iff_getElem]
    intro i j hi hj hij
    have hi' := List.getElem?_eq_getElem hi
    have hj' := List.getElem?_eq_getElem hj
    have mixed : ∀ (i : Nat) (C D : Asn) (x : Nat), i ∉ ks → M[i]? = some C → (B ++ N)[x]? = some D → ∀ k, (C.wf k → ¬ (D.wf k ∨ D.rf k)) ∧ (D.wf k → ¬ (C.wf k ∨ C.rf k)) := by
      intro i C D x hi hC hD k
      have hd := H'.has D (List.mem_of_getElem? hD)
      have hc := (H.has C (List.mem_of_getElem? hC)).2.1 k
      refine ⟨fun h1 h2 => ?_, fun h1 h2 => ?_⟩
      · have hlt := hc (.inl h1)
        rcases h2 with h2 | h2
        · rcases hd.2.2.1 k h2 with q | q
          · exact (wfA k q).2 i C hi hC (.inl h1)
          · omega
        · rcases hd.2.2.2 k h2 with q | q | q
          · exact (wfA k q).2 i C hi hC (.inl h1)
          · exact (rfA k q).2 i C hi hC h1
          · omega
      · have hlt := hc h2
        rcases hd.2.2.1 k h1 with q | q
        · exact (wfA k q).2 i C hi hC h2
        · omega
    rcases cases_ i _ hi' with ⟨a1, a2⟩ | ⟨x, a1, a2⟩ <;> rcases cases_ j _ hj' with ⟨b1, b2⟩ | ⟨y, b1, b2⟩
    · exact H.apart a2 b2 (by omega)
    · exact mixed i _ _ y a1 a2 b1
    · exact fun k => ⟨(mixed j _ _ x b1 b2 a1 k).2, (mixed j _ _ x b1 b2 a1 k).1⟩
    · refine H'.apart a1 b1 (fun e => ?_)
      subst e
      rcases a2 with ⟨p, q⟩ | ⟨p, q⟩ <;> rcases b2 with ⟨p', q'⟩ | ⟨p', q'⟩
      · rw [q] at q'; cases q'; omega
      · omega
      · omega
      · omega
theorem St.write (H : St w S R M W) (k : Nat) {g : Nat} {cs : List Value} {t : TypeId} (hk : M[k]? = some (Asn.blk g cs t)) (cs' : List Value) (ho : Only (fun j => j = g) W W') (hb : W'.heap[g]? = some (.cells cs'.toArray t (0, 0))) : St w S R (M.set k (Asn.blk g cs' t)) W' :=
  H.upd k hk ho _ hb (fun j hj => by
    rcases hj with hj | hj
    · have : j = g := hj
      subst this
      exact blk_lt hb
    · cases hj) (fun j hj => .inl hj) (fun j hj => by cases hj)
theorem St.set (H : St w S R M W) (k : Nat) {g : Nat} {cs : List Value} {t : TypeId} (hk : M[k]? = some (Asn.blk g cs t)) (i : Nat) (v : Value) : St w S R (M.set k (Asn.blk g (cs.set i v) t)) (W.setCell ⟨g, i, none⟩ v) :=
  H.write k hk _ ((Only.refl (fun j => j = g) W).set (p := ⟨g, i, none⟩) (.inl rfl) v) (by
    have := blk_set (H.blk k hk) i v
    simpa using this)
theorem St.cell (H : St w S R M W) (k : Nat) {g : Nat} {cs : List Value} {t : TypeId} (hk : M[k]? = some (Asn.blk g cs t)) {i : Nat} {v : Value} (h : cs[i]? = some v) : W.cell? ⟨g, i, none⟩ = some v := by
  rw [blk_cell (H.blk k hk)]
  simpa using h
end
end Go.Proofs.YtndicjikjcifaaaDoor
/- Regions by one order of their operations, checked once: plain lemmas, no program in sight. -/
namespace Go.Proofs.YtndicjikjcifaaaDoor
open Go.RowKit Go.Proofs.YtndicjikjcifaaaDoorW.PrintWords Go.Proofs.YtndicjikjcifaaaDoorW.PrintLast
set_option linter.unusedVariables false
set_option linter.unusedSimpArgs false
set_option linter.unusedSectionVars false
def sk (o : Oper) : Option Tmp × Op × TypeId × Option (Nat × Bool) := (o.dst, o.op, o.type, o.guard)
def ex (a : Act) (op : Op) (ty : TypeId) : Sem Next := execOp a.eval ⟨none, op, ty, "", #[], none⟩
theorem ex_eq (a : Act) (o : Oper) : execOp a.eval o = ex a o.op o.type := by
  cases o
  rfl
def wpSeq (P : Program) (ops : Array Oper) (Q : Exit → Act → World → Prop) (V : World → Prop) (ds : List Nat) : List (Nat × Nat) → Act → World → Prop
  | [], a, w => Q .normal a w
  | (i, k) :: π, a, w => match ops[i]? with
    | none => False
    | some o => match k with
      | 0 => ∃ v, Yields P ops o v a ∧ wpSeq P ops Q V ds π (a.put o.dst v) w
      | 1 => ∃ v, YieldsIf P ops V o v a ∧ V w ∧ wpSeq P ops Q V ds π (a.put o.dst v) w
      | _ + 2 => if Region.wanted o (yielded ops a.tmps) = true then Oper.wp P o a w (fun a' w' => (i ∉ ds → V w') ∧ wpSeq P ops Q V ds π a' w') Q else V w ∧ wpSeq P ops Q V ds π (a.put o.dst undef) w
def seqW (T : Bool × List (List Nat × List Nat)) (B : List Nat) (ds : List Nat) : List (Nat × Nat) → List Bool → Bool
  | [], l => readyT T.2 l == []
  | (i, 0) :: π, l => anyT T l (l.set i true) i && seqW T B ds π (l.set i true)
  | (i, 1) :: π, l => takeW T B ds l (l.set i true) i && seqW T B ds π (l.set i true)
  | (i, _ + 2) :: π, l => (readyT T.2 l == [i]) && seqW T B ds π (l.set i true)
def seqOk (ops : Array Oper) (B : List Nat) (ds : List Nat) (π : List (Nat × Nat)) : Bool :=
  waitsOk (rtab .any ops).2 B && seqW (rtab .any ops) B ds π (List.replicate ops.size false) && (π.length == ops.size)
section
variable {P : Program} {ops : Array Oper} {Q : Exit → Act → World → Prop} {V : World → Prop} {ds B : List Nat}
theorem last_of_seq (hQ : ∀ c a d v w, Q (.panic c) (Act.put a d v) w → Q (.panic c) a w) (hB : waitsOk (rtab .any ops).2 B = true) : ∀ (π : List (Nat × Nat)) (l : List Bool) (a : Act) (w : World),
    seqW (rtab .any ops) B ds π l = true → wpSeq P ops Q V ds π a w → wpAnyLast P .any ops Q V ds π.length l.toArray a w
  | [], l, a, w, hs, h => done_ (done_of (l := l.toArray) rfl (by simpa [seqW] using hs)) h
  | (i, k) :: π, l, a, w, hs, h => by
    unfold wpSeq at h
    cases ho : ops[i]? with
    | none => rw [ho] at h; exact h.elim
    | some o =>
      rw [ho] at h
      have he : l.toArray.setIfInBounds i true = (l.set i true).toArray := by simp
      match k, hs, h with
      | 0, hs, h =>
        simp only [seqW, Bool.and_eq_true] at hs
        obtain ⟨v, hy, h⟩ := h
        exact pure_ (l' := (l.set i true).toArray) ho rfl (any_of (l := l.toArray) (l' := (l.set i true).toArray) rfl hs.1) (fun c a w => hQ c a _ _ w) hy rfl (last_of_seq hQ hB π _ _ _ hs.2 h)
      | 1, hs, h =>
        simp only [seqW, Bool.and_eq_true] at hs
        obtain ⟨v, hy, hV, h⟩ := h
        exact take_ (l' := (l.set i true).toArray) ho rfl (take_ofW (l := l.toArray) (l' := (l.set i true).toArray) rfl hB hs.1) (fun c a w => hQ c a _ _ w) hy hV rfl (last_of_seq hQ hB π _ _ _ hs.2 h)
      | k + 2, hs, h =>
        dsimp only at h
        simp only [seqW, Bool.and_eq_true] at hs
        have hr : readyB .any ops l.toArray (l.set i true).toArray i = true := one_of (l := l.toArray) (l' := (l.set i true).toArray) rfl (by simpa using hs.1)
        by_cases hd : i ∈ ds
        · refine last_ (l' := (l.set i true).toArray) ho rfl hr hd (fun K hK => ?_)
          have hK := hK.out
          split at h
          · rename_i hw
            rw [if_pos hw]
            unfold Oper.wp at h ⊢
            revert h
            generalize (execOp a.eval o).run P w = r
            intro h
            cases r with
            | ok nx w' =>
              cases nx <;> simp only [Oper.upon] at h ⊢
              case value v => exact hK _ _ (last_of_seq hQ hB π _ _ _ hs.2 h.2)
              case skip => exact hK _ _ (last_of_seq hQ hB π _ _ _ hs.2 h.2)
              case defer d => exact hK _ _ (last_of_seq hQ hB π _ _ _ hs.2 h.2)
              case enter f args =>
                refine h.mono fun e w'' h => ?_
                cases e with
                | returned v => exact hK _ _ (last_of_seq hQ hB π _ _ _ hs.2 h.2)
                | panicked c => exact h
                | outgrown => exact h
              case row r args =>
                exact h.mono fun v w'' h => hK _ _ (last_of_seq hQ hB π _ _ _ hs.2 h.2)
            | halt x w' => cases x <;> first | exact h | exact h.elim
          · rename_i hw
            rw [if_neg hw]
            exact hK _ _ (last_of_seq hQ hB π _ _ _ hs.2 h.2)
        · refine one_ (l' := (l.set i true).toArray) ho rfl hr hd (fun K hK => ?_)
          have hK := hK.out
          split at h
          · rename_i hw
            rw [if_pos hw]
            unfold Oper.wp at h ⊢
            revert h
            generalize (execOp a.eval o).run P w = r
            intro h
            cases r with
            | ok nx w' =>
              cases nx <;> simp only [Oper.upon] at h ⊢
              case value v => exact hK _ _ (h.1 hd) (fun _ => last_of_seq hQ hB π _ _ _ hs.2 h.2)
              case skip => exact hK _ _ (h.1 hd) (fun _ => last_of_seq hQ hB π _ _ _ hs.2 h.2)
              case defer d => exact hK _ _ (h.1 hd) (fun _ => last_of_seq hQ hB π _ _ _ hs.2 h.2)
              case enter f args =>
                refine h.mono fun e w'' h => ?_
                cases e with
                | returned v => exact hK _ _ (h.1 hd) (fun _ => last_of_seq hQ hB π _ _ _ hs.2 h.2)
                | panicked c => exact h
                | outgrown => exact h
              case row r args =>
                exact h.mono fun v w'' h => hK _ _ (h.1 hd) (fun _ => last_of_seq hQ hB π _ _ _ hs.2 h.2)
            | halt x w' => cases x <;> first | exact h | exact h.elim
          · rename_i hw
            rw [if_neg hw]
            exact hK _ _ h.1 (fun _ => last_of_seq hQ hB π _ _ _ hs.2 h.2)
theorem wp_drawn {id : Nat} {a : Act} {w : World} (hm : P.follows .mixedOrders = true) (B ds : List Nat) (π : List (Nat × Nat)) (hc : seqOk ops B ds π = true) (hQ : ∀ c a d v w, Q (.panic c) (Act.put a d v) w → Q (.panic c) a w) (hV : V w.drew)
    (h : wpSeq P ops Q V ds π a w.drew) : (Code.region id ops true).wp P Q a w := by
  simp only [seqOk, Bool.and_eq_true, beq_iff_eq] at hc
  obtain ⟨⟨h1, h2⟩, h3⟩ := hc
  refine start_ (n := ops.size) (S := V) (ds := ds) (List.replicate ops.size false).toArray hm rfl (by simp) hV (fun _ => ?_)
  rw [← h3]
  exact last_of_seq hQ h1 π _ a _ (by rw [h3]; exact h2) h
def textOrder (n : Nat) : List (Nat × Nat) := (List.range n).map fun i => (i, 2)
theorem ops_of_seq (π : List Nat) : ∀ (a : Act) (w : World), wpSeq P ops Q (fun _ => True) [] (π.map fun i => (i, 2)) a w → wpOps P ops Q π a w := by
  induction π with
  | nil => intro a w h; exact h
  | cons i π ih =>
    intro a w h
    simp only [List.map_cons, wpSeq] at h
    simp only [wpOps]
    cases ho : ops[i]? with
    | none => rw [ho] at h; exact h.elim
    | some o =>
      rw [ho] at h
      simp only at h ⊢
      split at h
      · rename_i hw
        rw [if_pos hw]
        left
        unfold Oper.wp at h ⊢
        revert h
        generalize (execOp a.eval o).run P w = r
        intro h
        cases r with
        | ok nx w' =>
          cases nx <;> simp only [Oper.upon] at h ⊢
          case value v => exact ih _ _ h.2
          case skip => exact ih _ _ h.2
          case defer d => exact ih _ _ h.2
          case enter f args =>
            refine h.mono fun e w'' h => ?_
            cases e with
            | returned v => exact ih _ _ h.2
            | panicked c => exact h
            | outgrown => exact h
          case row r args =>
            exact h.mono fun v w'' h => ih _ _ h.2
        | halt x w' => cases x <;> first | exact h | exact h.elim
      · rename_i hw
        rw [if_neg hw]
        exact ih _ _ h.2
theorem wp_text {id : Nat} {a : Act} {w : World} (n : Nat) (hn : ops.size = n) (h : wpSeq P ops Q (fun _ => True) [] (textOrder n) a w) : (Code.region id ops false).wp P Q a w :=
  wp_region (by rw [hn]; exact ops_of_seq _ a w h)
end
end Go.Proofs.YtndicjikjcifaaaDoor
/- The steps of the small logic: one lemma a kind of operation. Plain lemmas, no program in sight. -/
namespace Go.Proofs.YtndicjikjcifaaaDoor
open Go.RowKit Go.Proofs.YtndicjikjcifaaaDoorW.PrintWords Go.Proofs.YtndicjikjcifaaaDoorW.PrintLast
set_option linter.unusedVariables false
set_option linter.unusedSimpArgs false
set_option linter.unusedSectionVars false
section
variable {P : Program} {ops : Array Oper} {Q : Exit → Act → World → Prop} {V : World → Prop} {ds : List Nat} {π : List (Nat × Nat)} {a : Act} {W W' : World} {n i d : Nat} {L : List (Nat × Value)} {op : Op} {ty : TypeId} {v : Value}
theorem sk_some {o : Option Oper} {x : Option Tmp × Op × TypeId × Option (Nat × Bool)} (h : o.map sk = some x) : ∃ q, o = some q ∧ q.dst = x.1 ∧ q.op = x.2.1 ∧ q.type = x.2.2.1 ∧ q.guard = x.2.2.2 := by
  obtain ⟨q, rfl, rfl⟩ := Option.map_eq_some_iff.1 h
  exact ⟨q, rfl, rfl, rfl, rfl, rfl⟩
def On (ops : Array Oper) (L : List (Nat × Value)) : Option (Nat × Bool) → Prop
  | none => True
  | some (j, b) => ∃ e, ((ops[j]?).bind (·.dst)) = some e ∧ L.lookup e = some (.bool b)
theorem On.wanted {o : Oper} (F : Fr n L a) (h : On ops L o.guard) : Region.wanted o (yielded ops a.tmps) = true := by
  unfold Region.wanted
  cases hg : o.guard with
  | none => rfl
  | some p =>
    obtain ⟨j, b⟩ := p
    rw [hg] at h
    obtain ⟨e, h1, h2⟩ := h
    have := F.ev e _ h2
    simp [yielded, h1, this]
theorem On.off {o : Oper} {j e : Nat} {b : Bool} (F : Fr n L a) (hg : o.guard = some (j, b)) (h1 : ((ops[j]?).bind (·.dst)) = some e) (h2 : L.lookup e = some (.bool (!b)) ∨ L.lookup e = some undef) : Region.wanted o (yielded ops a.tmps) = false := by
  unfold Region.wanted
  rw [hg]
  rcases h2 with h2 | h2
  · have := F.ev e _ h2
    cases b <;> simp [yielded, h1, this]
  · have := F.ev e _ h2
    simp [yielded, h1, this, undef]
abbrev OSk := Option (Option Tmp × Op × TypeId × Option (Nat × Bool))
theorem sq0 {g : Option (Nat × Bool)} (hi : (ops[i]?).map sk = some (some d, op, ty, g)) (hg : On ops L g) (F : Fr n L a) (hd : d < n) (hr : ∀ W', (ex a op ty).run P W' = .ok (.value v) W') (h : ∀ a', Fr n ((d, v) :: L) a' → wpSeq P ops Q V ds π a' W) : wpSeq P ops Q V ds ((i, 0) :: π) a W := by
  obtain ⟨q, h1, h2, h3, h4, h5⟩ := sk_some hi
  dsimp only at h2 h3 h4 h5
  unfold wpSeq
  rw [h1]
  dsimp only
  refine ⟨v, .inl ⟨On.wanted F (h5 ▸ hg), fun W' => ?_⟩, ?_⟩
  · rw [ex_eq, h3, h4]; exact hr W'
  · rw [h2]; exact h _ (F.put d hd v)
theorem sq1 {g : Option (Nat × Bool)} (hi : (ops[i]?).map sk = some (some d, op, ty, g)) (hg : On ops L g) (F : Fr n L a) (hd : d < n) (hV : V W) (hr : ∀ W', V W' → (ex a op ty).run P W' = .ok (.value v) W') (h : ∀ a', Fr n ((d, v) :: L) a' → wpSeq P ops Q V ds π a' W) : wpSeq P ops Q V ds ((i, 1) :: π) a W := by
  obtain ⟨q, h1, h2, h3, h4, h5⟩ := sk_some hi
  dsimp only at h2 h3 h4 h5
  unfold wpSeq
  rw [h1]
  dsimp only
  refine ⟨v, .inl ⟨On.wanted F (h5 ▸ hg), fun W' hW => ?_⟩, hV, ?_⟩
  · rw [ex_eq, h3, h4]; exact hr W' hW
  · rw [h2]; exact h _ (F.put d hd v)
theorem sqoff2 {j e : Nat} {b : Bool} (hi : (ops[i]?).map sk = some (some d, op, ty, some (j, b))) (he : ((ops[j]?).bind (·.dst)) = some e) (hv : L.lookup e = some (.bool (!b)) ∨ L.lookup e = some undef) (F : Fr n L a) (hd : d < n) (hV : V W) (h : ∀ a', Fr n ((d, undef) :: L) a' → wpSeq P ops Q V ds π a' W) : wpSeq P ops Q V ds ((i, 2) :: π) a W := by
  obtain ⟨q, h1, h2, h3, h4, h5⟩ := sk_some hi
  dsimp only at h2 h3 h4 h5
  unfold wpSeq
  rw [h1]
  dsimp only
  rw [if_neg (by rw [On.off F h5 he hv]; simp)]
  refine ⟨hV, ?_⟩
  rw [h2]; exact h _ (F.put d hd undef)
theorem sqw {g : Option (Nat × Bool)} {D : Option Tmp} (hi : (ops[i]?).map sk = some (D, op, ty, g)) (hg : On ops L g) (F : Fr n L a)
    (h : ∀ o K, sk o = (D, op, ty, g) → (∀ a' W', (i ∉ ds → V W') → wpSeq P ops Q V ds π a' W' → K a' W') → Oper.wp P o a W K Q) : wpSeq P ops Q V ds ((i, 2) :: π) a W := by
  obtain ⟨q, h1, h2, h3, h4, h5⟩ := sk_some hi
  dsimp only at h2 h3 h4 h5
  unfold wpSeq
  rw [h1]
  dsimp only
  rw [if_pos (On.wanted F (h5 ▸ hg))]
  exact h q _ (by simp [sk, h2, h3, h4, h5]) (fun a' W' h6 h7 => ⟨h6, h7⟩)
theorem sk_eq {o : Oper} {D : Option Tmp} {g : Option (Nat × Bool)} (h : sk o = (D, op, ty, g)) : o.dst = D ∧ o.op = op ∧ o.type = ty := by
  simp only [sk, Prod.mk.injEq] at h
  exact ⟨h.1, h.2.1, h.2.2.1⟩
theorem sq2 {g : Option (Nat × Bool)} (hi : (ops[i]?).map sk = some (some d, op, ty, g)) (hg : On ops L g) (F : Fr n L a) (hd : d < n) (hr : (ex a op ty).run P W = .ok (.value v) W') (hV : i ∉ ds → V W') (h : ∀ a', Fr n ((d, v) :: L) a' → wpSeq P ops Q V ds π a' W') : wpSeq P ops Q V ds ((i, 2) :: π) a W := by
  refine sqw hi hg F fun o K ho hK => ?_
  obtain ⟨h1, h2, h3⟩ := sk_eq ho
  unfold Oper.wp
  rw [ex_eq, h2, h3, hr]
  simp only [Oper.upon, h1]
  exact hK _ _ hV (h _ (F.put d hd v))
theorem sq2n {g : Option (Nat × Bool)} (hi : (ops[i]?).map sk = some (none, op, ty, g)) (hg : On ops L g) (F : Fr n L a) (hr : (ex a op ty).run P W = .ok .skip W') (hV : i ∉ ds → V W') (h : wpSeq P ops Q V ds π a W') : wpSeq P ops Q V ds ((i, 2) :: π) a W := by
  refine sqw hi hg F fun o K ho hK => ?_
  obtain ⟨h1, h2, h3⟩ := sk_eq ho
  unfold Oper.wp
  rw [ex_eq, h2, h3, hr]
  simp only [Oper.upon, h1]
  exact hK _ _ hV h
theorem sqc {g : Option (Nat × Bool)} {f : FuncId} {args : Array Value} {R : Ending → World → Prop} (hi : (ops[i]?).map sk = some (some d, op, ty, g)) (hg : On ops L g) (F : Fr n L a) (hd : d < n) (hr : (ex a op ty).run P W = .ok (.enter f args) W)
    (hc : Calls P f args W R) (h : ∀ e W', R e W' → ∃ v, e = .returned v ∧ ∀ a', Fr n ((d, v) :: L) a' → (i ∉ ds → V W') ∧ wpSeq P ops Q V ds π a' W') : wpSeq P ops Q V ds ((i, 2) :: π) a W := by
  refine sqw hi hg F fun o K ho hK => ?_
  obtain ⟨h1, h2, h3⟩ := sk_eq ho
  unfold Oper.wp
  rw [ex_eq, h2, h3, hr]
  simp only [Oper.upon, h1]
  refine hc.mono fun e W' hx => ?_
  obtain ⟨v, rfl, h⟩ := h e W' hx
  have := h _ (F.put d hd v)
  exact hK _ _ this.1 this.2
/-! Short forms. -/
theorem o_s {o : OSk} (d : Nat) (op : Op) (ty : TypeId) (h : o = some (some d, op, ty, none)) : o = some (some d, op, ty, none) := h
theorem o_g {o : OSk} (d : Nat) (op : Op) (ty : TypeId) (j : Nat) (b : Bool) (h : o = some (some d, op, ty, some (j, b))) : o = some (some d, op, ty, some (j, b)) := h
theorem o_n {o : OSk} (op : Op) (ty : TypeId) (h : o = some (none, op, ty, none)) : o = some (none, op, ty, none) := h
theorem q0 (hi : (ops[i]?).map sk = some (some d, op, ty, none)) (F : Fr n L a) (hd : d < n) (hr : ∀ W', (ex a op ty).run P W' = .ok (.value v) W') (h : ∀ a', Fr n ((d, v) :: L) a' → wpSeq P ops Q V ds π a' W) : wpSeq P ops Q V ds ((i, 0) :: π) a W := sq0 hi trivial F hd hr h
theorem q1 (hi : (ops[i]?).map sk = some (some d, op, ty, none)) (F : Fr n L a) (hd : d < n) (hV : V W) (hr : ∀ W', V W' → (ex a op ty).run P W' = .ok (.value v) W') (h : ∀ a', Fr n ((d, v) :: L) a' → wpSeq P ops Q V ds π a' W) : wpSeq P ops Q V ds ((i, 1) :: π) a W := sq1 hi trivial F hd hV hr h
theorem q2 (hi : (ops[i]?).map sk = some (some d, op, ty, none)) (F : Fr n L a) (hd : d < n) (hr : (ex a op ty).run P W = .ok (.value v) W) (h : ∀ a', Fr n ((d, v) :: L) a' → wpSeq P ops Q (fun _ => True) ds π a' W) : wpSeq P ops Q (fun _ => True) ds ((i, 2) :: π) a W := sq2 hi trivial F hd hr (fun _ => trivial) h
theorem sq_new {g : Option (Nat × Bool)} {w : World} {S R : Nat → Prop} {M : List Asn} (hi : (ops[i]?).map sk = some (some d, op, ty, g)) (hg : On ops L g) (F : Fr n L a) (hd : d < n) (H : St w S R M W) (cs : List Value) (T : TypeId)
    (hr : (ex a op ty).run P W = .ok (.value (.pointer (some ⟨W.heap.size, 0, none⟩))) (W.alloc (.cells cs.toArray T)))
    (h : ∀ b W' a', w.heap.size ≤ b → St w S R (M ++ [Asn.blk b cs T]) W' → Fr n ((d, .pointer (some ⟨b, 0, none⟩)) :: L) a' → (i ∉ ds → V W') ∧ wpSeq P ops Q V ds π a' W') : wpSeq P ops Q V ds ((i, 2) :: π) a W := by
  have hh := fun a' => h W.heap.size (W.alloc (.cells cs.toArray T)) a' H.low.size (H.alloc cs T)
  refine sqw hi hg F fun o K ho hK => ?_
  obtain ⟨h1, h2, h3⟩ := sk_eq ho
  unfold Oper.wp
  rw [ex_eq, h2, h3, hr]
  simp only [Oper.upon, h1]
  have := hh _ (F.put d hd _)
  exact hK _ _ this.1 this.2
theorem sq_put {g : Option (Nat × Bool)} {w : World} {S R : Nat → Prop} {M : List Asn} (hi : (ops[i]?).map sk = some (none, op, ty, g)) (hg : On ops L g) (F : Fr n L a)
    (hr : ∃ W', (ex a op ty).run P W = .ok .skip W' ∧ St w S R M W') (h : ∀ W', St w S R M W' → (i ∉ ds → V W') ∧ wpSeq P ops Q V ds π a W') : wpSeq P ops Q V ds ((i, 2) :: π) a W := by
  obtain ⟨W', hr, H⟩ := hr
  have hh := h W' H
  exact sq2n hi hg F hr hh.1 hh.2
def Vs : List Asn → World → Prop
  | [], _ => True
  | A :: r, W => A.holds W ∧ Vs r W
theorem Vs.drew : ∀ {l : List Asn}, Vs l W → Vs l W.drew
  | [], _ => trivial
  | A :: r, h => ⟨A.loc W W.drew h.1 (fun _ _ => rfl), Vs.drew h.2⟩
theorem bcell {g : Nat} {cs : List Value} {T : TypeId} {i : Nat} {v : Value} (hb : (Asn.blk g cs T).holds W) (h : cs[i]? = some v) : W.cell? ⟨g, i, none⟩ = some v := by
  have hb' : W.heap[g]? = some (.cells cs.toArray T (0, 0)) := hb
  rw [blk_cell hb']
  simpa using h
theorem Fr.at (H : Fr n L a) (i : Nat) {v : Value} (h : L.lookup i = some v) {v' : Value} (e : v = v') : Fr n ((i, v') :: L) a := by
  refine ⟨H.sz, H.df, fun j u hj => ?_⟩
  by_cases q : j = i
  · subst q
    have : v' = u := by simpa [List.lookup] using hj
    exact this ▸ e ▸ H.ev j v h
  · have hb : (j == i) = false := beq_false_of_ne q
    exact H.ev j u (by simpa [List.lookup, hb] using hj)
theorem sub0 : Sub [] L := trivial
theorem subc {r : List (Nat × Value)} {i : Nat} {v : Value} (h : L.lookup i = some v) (t : Sub r L) : Sub ((i, v) :: r) L := ⟨h, t⟩
theorem bool_or (b : Bool) : b = true ∨ b = false := by cases b <;> simp
theorem args_1 {x : Operand} {v : Value} (h : a.eval x = v) : (#[x] : Array Operand).map a.eval = #[v] := by simp [h]
theorem args_2 {x y : Operand} {v u : Value} (h : a.eval x = v) (h' : a.eval y = u) : (#[x, y] : Array Operand).map a.eval = #[v, u] := by simp [h, h']
theorem args_3 {x y z : Operand} {v u r : Value} (h : a.eval x = v) (h' : a.eval y = u) (h'' : a.eval z = r) : (#[x, y, z] : Array Operand).map a.eval = #[v, u, r] := by simp [h, h', h'']
theorem args_4 {x y z q : Operand} {v u r s : Value} (h : a.eval x = v) (h' : a.eval y = u) (h'' : a.eval z = r) (h3 : a.eval q = s) : (#[x, y, z, q] : Array Operand).map a.eval = #[v, u, r, s] := by simp [h, h', h'', h3]
end
/-! ### What an operation comes to -/
section
variable {P : Program} {a : Act} {W W' : World} {ty t : TypeId} {x y : Operand} {v u z : Value}
theorem x_move (h : a.eval x = v) : (ex a (.move x) ty).run P W = .ok (.value v) W := by subst h; rfl
theorem x_assign (h : a.eval x = v) : (ex a (.assign x) ty).run P W = .ok (.value v) W := by subst h; rfl
theorem x_pickT {c : Operand} (hc : a.eval c = .bool true) (hx : a.eval x = v) : (ex a (.pick c x y) ty).run P W = .ok (.value v) W := by
  simp [ex, execOp, asBool, hc, hx]
theorem x_pickF {c : Operand} (hc : a.eval c = .bool false) (hy : a.eval y = v) : (ex a (.pick c x y) ty).run P W = .ok (.value v) W := by
  simp [ex, execOp, asBool, hc, hy]
theorem x_alloc {cs : List Value} (hz : ∀ w, (zeroValue t).run P w = .ok z w) (hc : z.cells = cs.toArray) : (ex a (.alloc t) ty).run P W = .ok (.value (.pointer (some ⟨W.heap.size, 0, none⟩))) (W.alloc (.cells cs.toArray t)) := by
  rw [← hc]
  simp [ex, execOp, Instr.alloc, hz, newVar, newRow, newObj]
  rfl
theorem x_box {cs : List Value} (h : a.eval x = v) (hc : v.cells = cs.toArray) : (ex a (.box t x) ty).run P W = .ok (.value (.pointer (some ⟨W.heap.size, 0, none⟩))) (W.alloc (.cells cs.toArray t)) := by
  rw [← hc]
  simp [ex, execOp, Instr.box, h, newVar, newRow, newObj]
  rfl
theorem x_load1 {p : Addr} (hA : (isAgg t).run P W = .ok false W) (hp : a.eval x = .pointer (some p)) (hc : W.cell? p = some v) : (ex a (.load t x) ty).run P W = .ok (.value v) W := by
  simp [ex, execOp, Instr.loadAt, Instr.sureAddr, loadVar, hp, hA, load, Sem.run, hc]
theorem x_loadN {p : Addr} (hA : (isAgg t).run P W = .ok true W) (cs : List Value) (hs : (sizeOf t).run P W = .ok cs.length W) (hp : a.eval x = .pointer (some p)) (hc : ∀ j u, cs[j]? = some u → W.cell? (p.add j) = some u) : (ex a (.load t x) ty).run P W = .ok (.value (.agg cs.toArray)) W := by
  have := run_loadCells_list (P := P) W p cs hc
  simp [ex, execOp, Instr.loadAt, Instr.sureAddr, loadVar, hp, hA, hs, this]
theorem x_loadB {g : Nat} {T : TypeId} (hA : (isAgg t).run P W = .ok true W) (cs : List Value) (hs : (sizeOf t).run P W = .ok cs.length W) (hp : a.eval x = .pointer (some ⟨g, 0, none⟩)) (hb : W.heap[g]? = some (.cells cs.toArray T (0, 0))) : (ex a (.load t x) ty).run P W = .ok (.value (.agg cs.toArray)) W :=
  x_loadN hA cs hs hp (fun j u hj => by rw [add0, blk_cell hb]; simpa using hj)
theorem x_nil {p : Addr} (h : a.eval x = .pointer (some p)) : (ex a (.nilCheck x) ty).run P W = .ok (.value (.pointer (some p))) W := by
  simp [ex, execOp, h]
theorem x_int {o : BinOp} {k : IntKind} {m n : Int} {yt : TypeId} (hx : a.eval x = .int k m) (hy : a.eval y = .int k n) (hv : (do eqGuard o t x y (.int k m) (.int k n); binOp o t (.int k m) (.int k n) : Sem Value).run P W = .ok v W) : (ex a (.binOp o t x y yt) ty).run P W = .ok (.value v) W := by
  simp only [ex, execOp, hx, hy]
  rw [Sem.run_bind, hv]
  rfl
theorem x_shift {o : BinOp} {k j : IntKind} {m n : Int} {yt : TypeId} (hx : a.eval x = .int k m) (hy : a.eval y = .int j n) (hv : (do eqGuard o t x y (.int k m) (.int j n); binOp o t (.int k m) (.int j n) : Sem Value).run P W = .ok v W) : (ex a (.binOp o t x y yt) ty).run P W = .ok (.value v) W := by
  simp only [ex, execOp, hx, hy]
  rw [Sem.run_bind, hv]
  rfl
theorem x_bin {o : BinOp} {yt : TypeId} (hx : a.eval x = u) (hy : a.eval y = z) (hv : (do eqGuard o t x y u z; binOp o t u z : Sem Value).run P W = .ok v W) : (ex a (.binOp o t x y yt) ty).run P W = .ok (.value v) W := by
  simp only [ex, execOp, hx, hy]
  rw [Sem.run_bind, hv]
  rfl
theorem x_extract {vs : Array Value} {k : Nat} (h : a.eval x = .tuple vs) (hk : vs[k]? = some v) : (ex a (.extract x k) ty).run P W = .ok (.value v) W := by
  simp [ex, execOp, Instr.extract, h, hk]
theorem x_fieldAddr {s : TypeId} {fs : Array Field} {f m o : Nat} {fd : Field} {p : Addr} (hu : P.underlying s = some (.struct fs)) (hf : fs[f]? = some fd) (ho : fd.offset = o) (hz : (sizeOf fd.type).run P W = .ok (m + 1) W) (hp : a.eval x = .pointer (some p)) : (ex a (.fieldAddr s x f) ty).run P W = .ok (.value (.pointer (some (p.add o)))) W := by
  subst ho
  simp [ex, execOp, Instr.fieldAt, run_underlying hu, hf, hp, Instr.sureAddr, fieldPlace, hz]
theorem x_field0 {g : Nat} {s : TypeId} {fs : Array Field} {f m o : Nat} {fd : Field} (hu : P.underlying s = some (.struct fs)) (hf : fs[f]? = some fd) (ho : fd.offset = o) (hz : (sizeOf fd.type).run P W = .ok (m + 1) W) (hp : a.eval x = .pointer (some ⟨g, 0, none⟩)) : (ex a (.fieldAddr s x f) ty).run P W = .ok (.value (.pointer (some ⟨g, o, none⟩))) W := by
  have := x_fieldAddr (ty := ty) hu hf ho hz hp
  rwa [add0] at this
theorem x_indexSl {s e : TypeId} {k : IntKind} {i : Int} {n c m : Nat} {ad : Addr} (hu : P.underlying s = some (.slice e)) (hz : (sizeOf e).run P W = .ok m W) (hx : a.eval x = .slice (some ad) n c) (hy : a.eval y = .int k i) (h0 : 0 ≤ i) (h1 : i < n) : (ex a (.indexAddr s x y) ty).run P W = .ok (.value (.pointer (some (ad.add (i.toNat * m))))) W := by
  simp [ex, execOp, Instr.indexAt, run_underlying hu, hx, hy, asIntOf, hz, h0, h1]
theorem x_indexSl1 {s e : TypeId} {k : IntKind} {i : Int} {n c : Nat} {ad : Addr} (hu : P.underlying s = some (.slice e)) (hz : (sizeOf e).run P W = .ok 1 W) (hx : a.eval x = .slice (some ad) n c) (hy : a.eval y = .int k i) (h0 : 0 ≤ i) (h1 : i < n) : (ex a (.indexAddr s x y) ty).run P W = .ok (.value (.pointer (some (ad.add i.toNat)))) W := by
  have := x_indexSl (ty := ty) hu hz hx hy h0 h1
  rwa [Nat.mul_one] at this
theorem x_indexAr {s e : TypeId} {k : IntKind} {i : Int} {n m : Nat} {ad : Addr} (hu : P.underlying s = some (.array n e)) (hz : (sizeOf e).run P W = .ok m W) (hx : a.eval x = .pointer (some ad)) (hy : a.eval y = .int k i) (h0 : 0 ≤ i) (h1 : i < n) : (ex a (.indexAddr s x y) ty).run P W = .ok (.value (.pointer (some (ad.add (i.toNat * m))))) W := by
  simp [ex, execOp, Instr.indexAt, run_underlying hu, hx, hy, asIntOf, hz, h0, h1, Instr.sureAddr]
theorem x_ixc {s e : TypeId} {k : IntKind} {i n g : Nat} (hu : P.underlying s = some (.array n e)) (hz : (sizeOf e).run P W = .ok 1 W) (hx : a.eval x = .pointer (some ⟨g, 0, none⟩)) (hy : a.eval y = .int k (i : Int)) (h1 : i < n) : (ex a (.indexAddr s x y) ty).run P W = .ok (.value (.pointer (some ⟨g, i, none⟩))) W := by
  have := x_indexAr (P := P) (ty := ty) hu hz hx hy (Int.natCast_nonneg i) (by omega)
  rw [this, Int.toNat_natCast, Nat.mul_one, addo, Nat.zero_add]
theorem x_indexStr {s : TypeId} {k : IntKind} {i : Int} {b : ByteArray} (hu : P.underlying s = some .string) (hx : a.eval x = .string b) (hy : a.eval y = .int k i) (h0 : 0 ≤ i) {c : UInt8} (h1 : b[i.toNat]? = some c) : (ex a (.index s x y) ty).run P W = .ok (.value (.int .u8 c.toNat)) W := by
  simp [ex, execOp, Instr.index, run_underlying hu, hx, hy, asIntOf, h0, h1]
theorem wrap_i64 (x : Int) (h0 : -9223372036854775808 ≤ x) (h1 : x ≤ 9223372036854775807) : IntKind.i64.wrap x = x := by
  simp [IntKind.wrap, IntKind.bits, IntKind.signed]; omega
theorem x_conv {s d : TypeId} {k j : IntKind} {m : Int} {ds : TypeDesc} (hu : P.underlying s = some ds) (hd : P.underlying d = some (.int k)) (hx : a.eval x = .int j m) : (ex a (.convert s d x) ty).run P W = .ok (.value (.int k (k.wrap m))) W := by
  simp [ex, execOp, convert, run_underlying hu, run_underlying hd, hx, Conv.intToInt]
theorem x_lenS {s : TypeId} {b : ByteArray} (hu : P.underlying s = some .string) (hx : a.eval x = .string b) : (ex a (.call { callee := .builtin .len, args := #[x], argTypes := #[s] }) ty).run P W = .ok (.value (.int .i64 b.size)) W := by
  simp [ex, execOp, resolve, invoke, builtin, Builtin.len_, run_underlying hu, hx, goInt]
theorem x_lenL {s e : TypeId} {A : Option Addr} {n c : Nat} (hu : P.underlying s = some (.slice e)) (hx : a.eval x = .slice A n c) : (ex a (.call { callee := .builtin .len, args := #[x], argTypes := #[s] }) ty).run P W = .ok (.value (.int .i64 n)) W := by
  simp [ex, execOp, resolve, invoke, builtin, Builtin.len_, run_underlying hu, hx, goInt]
theorem x_sliceS {s : TypeId} {k : IntKind} {i : Int} {b : ByteArray} {lo : Operand} (hu : P.underlying s = some .string) (hx : a.eval x = .string b) (hy : a.eval lo = .int k i) (h0 : 0 ≤ i) (h1 : i ≤ b.size) : (ex a (.slice s x (some lo) none none) ty).run P W = .ok (.value (.string (b.extract i.toNat b.size))) W := by
  simp [ex, execOp, Instr.sliceAt, Instr.slice, Instr.sliceBounds, Instr.sliceBound, run_underlying hu, hx, hy, asIntOf, h0, h1]
theorem x_sliceSS {s : TypeId} {k j : IntKind} {i m : Int} {b : ByteArray} {lo hi : Operand} (hu : P.underlying s = some .string) (hx : a.eval x = .string b) (hy : a.eval lo = .int k i) (hz : a.eval hi = .int j m) (h0 : 0 ≤ i) (h1 : i ≤ m) (h2 : m ≤ b.size) : (ex a (.slice s x (some lo) (some hi) none) ty).run P W = .ok (.value (.string (b.extract i.toNat m.toNat))) W := by
  have h3 : 0 ≤ m := by omega
  have h4 : i ≤ (m.toNat : Int) := by omega
  have h5 : ¬ max m 0 < i := by omega
  simp [ex, execOp, Instr.sliceAt, Instr.slice, Instr.sliceBounds, Instr.sliceBound, run_underlying hu, hx, hy, hz, asIntOf, h0, h1, h2, h3, h5]
theorem x_not {b : Bool} (hx : a.eval x = .bool b) : (ex a (.unOp .not t x) ty).run P W = .ok (.value (.bool (!b))) W := by
  simp [ex, execOp, Op.unary, hx]
theorem x_call {f : FuncId} {fn : Func} {as_ : Array Operand} {ts : Array TypeId} {args : Array Value} (hf : P.funcs[f]? = some fn) (hname : (fn.name == "runtime.NumGoroutine") = false) (hb : fn.body.isSome = true) (ha : as_.map a.eval = args) : (ex a (.call { callee := .value (.func f), args := as_, argTypes := ts }) ty).run P W = .ok (.enter f args) W := by
  have := enters_ hf hname hb args W
  simp [ex, execOp, resolve, Deferred.ofValue, Act.eval, invoke, ha, this]
theorem x_store {S R : Nat → Prop} {w : World} {M : List Asn} {g o k m : Nat} {cs cs' : List Value} {T : TypeId} (H : St w S R M W) (hk : M[k]? = some (Asn.blk g cs T)) (hs : (sizeOf t).run P W = .ok m W) (hx : a.eval x = .pointer (some ⟨g, o, none⟩)) (hy : a.eval y = v)
    (hm : v.cells.size = m) (hf : o + m ≤ cs.length) (h1 : v.cells.toList.all (·.oneCell') = true) (hc : splice cs o v.cells.toList = cs') : ∃ W', (ex a (.store t x y) ty).run P W = .ok .skip W' ∧ St w S R (M.set k (Asn.blk g cs' T)) W' := by
  subst hc
  subst hm
  have hb := H.blk k hk
  have hst := run_storeCells_at P g o T v.cells.toList 0 cs.toArray W hb (by simpa using hf) (fun u hu => List.all_eq_true.1 h1 u hu)
  refine ⟨W.setRow g (splice cs o v.cells.toList).toArray, ?_, ?_⟩
  · simp [ex, execOp, Instr.storeAt, hx, hy, Instr.sureAddr, storeVar, hs]
    rw [hst]
    simp [splice]
  · refine H.write k hk _ ⟨rfl, rfl, rfl, by simp [World.setRow], fun j hj hn => ?_⟩ (setRow_heap W g _ _ T (0, 0) hb)
    simp only [World.setRow, Array.getElem?_modify]
    rw [if_neg (fun e => hn e.symm)]
end
/-! ### Code by its place in the body -/
def kid : Nat → Code → Code
  | 0, .seq x _ => x
  | _ + 1, .seq _ y => y
  | 0, .cond _ x _ => x
  | _ + 1, .cond _ _ y => y
  | _, .block _ c => c
  | _, .loop c => c
  | _, .scope c => c
  | _, c => c
def cd (c : Code) : List Nat → Code
  | [] => c
  | i :: p => kid i (cd c p)
inductive CK where
  | seq | region (id : Nat) (draw : Bool) | cond (c : Operand) | block (id : Nat) | loop | exit (id : Nat) | ret | skip | other
def ck : Code → CK
  | .seq .. => .seq
  | .region id _ d => .region id d
  | .cond c _ _ => .cond c
  | .block id _ => .block id
  | .loop _ => .loop
  | .exit id => .exit id
  | .ret => .ret
  | .skip => .skip
  | _ => .other
def rops : Code → Array Oper
  | .region _ ops _ => ops
  | _ => #[]
section
variable {P : Program} {Q : Exit → Act → World → Prop} {a : Act} {W : World} {b : Code} {p : List Nat} {n : Nat} {L : List (Nat × Value)}
theorem c_seq (h : ck (cd b p) = .seq) (hx : (cd b (0 :: p)).wp P (Exit.then (fun a W => (cd b (1 :: p)).wp P Q a W) Q) a W) : (cd b p).wp P Q a W := by
  show (cd b p).wp P Q a W
  simp only [cd] at hx
  revert h hx
  generalize cd b p = c
  intro h hx
  cases c <;> simp only [ck] at h <;> try cases h
  exact wp_seq hx
theorem c_cut (h : ck (cd b p) = .seq) (R : Act → World → Prop) (hx : (cd b (0 :: p)).wp P (Exit.then R Q) a W) (hy : ∀ a W, R a W → (cd b (1 :: p)).wp P Q a W) : (cd b p).wp P Q a W :=
  c_seq h (wp_mono hx fun e a' w' hq => by
    cases e with
    | normal => exact hy _ _ hq
    | exit id => exact hq
    | goto l => exact hq
    | ret => exact hq
    | panic ch => exact hq
    | outgrown => exact hq)
theorem c_yes {c : Operand} (h : ck (cd b p) = .cond c) (hc : a.eval c = .bool true) (hx : (cd b (0 :: p)).wp P Q a W) : (cd b p).wp P Q a W := by
  simp only [cd] at hx
  revert h hx
  generalize cd b p = c'
  intro h hx
  cases c' <;> simp only [ck] at h <;> try cases h
  exact wp_cond_true hc hx
theorem c_no {c : Operand} (h : ck (cd b p) = .cond c) (hc : a.eval c = .bool false) (hx : (cd b (1 :: p)).wp P Q a W) : (cd b p).wp P Q a W := by
  simp only [cd] at hx
  revert h hx
  generalize cd b p = c'
  intro h hx
  cases c' <;> simp only [ck] at h <;> try cases h
  exact wp_cond_false hc hx
theorem c_block {id : Nat} (h : ck (cd b p) = .block id) (hx : (cd b (0 :: p)).wp P (Exit.inBlock id Q) a W) : (cd b p).wp P Q a W := by
  simp only [cd] at hx
  revert h hx
  generalize cd b p = c'
  intro h hx
  cases c' <;> simp only [ck] at h <;> try cases h
  exact wp_block hx
theorem c_loop (h : ck (cd b p) = .loop) (I : Nat → Act → World → Prop) (k : Nat) (h0 : I k a W) (hr : ∀ k a W, I k a W → (cd b (0 :: p)).wp P (Exit.then (fun a' W' => ∃ k', k' < k ∧ I k' a' W') Q) a W) : (cd b p).wp P Q a W := by
  simp only [cd] at hr
  revert h hr
  generalize cd b p = c'
  intro h hr
  cases c' <;> simp only [ck] at h <;> try cases h
  exact wp_loop_ghost I k h0 hr
theorem c_exit {id : Nat} (h : ck (cd b p) = .exit id) (hx : Q (.exit id) a W) : (cd b p).wp P Q a W := by
  revert h
  generalize cd b p = c'
  intro h
  cases c' <;> simp only [ck] at h <;> try cases h
  exact wp_exit hx
theorem c_ret (h : ck (cd b p) = .ret) (hx : Q .ret a W) : (cd b p).wp P Q a W := by
  revert h
  generalize cd b p = c'
  intro h
  cases c' <;> simp only [ck] at h <;> try cases h
  exact wp_ret hx
theorem c_skip (h : ck (cd b p) = .skip) (hx : Q .normal a W) : (cd b p).wp P Q a W := by
  revert h
  generalize cd b p = c'
  intro h
  cases c' <;> simp only [ck] at h <;> try cases h
  exact wp_skip hx
theorem c_text {id : Nat} (h : ck (cd b p) = .region id false) (π : List (Nat × Nat)) (hm : (π == textOrder (rops (cd b p)).size) = true) (hx : wpSeq P (rops (cd b p)) Q (fun _ => True) [] π a W) : (cd b p).wp P Q a W := by
  rw [beq_iff_eq] at hm
  subst hm
  revert h hx
  generalize cd b p = c'
  intro h hx
  cases c' <;> simp only [ck] at h <;> try cases h
  exact wp_text _ rfl hx
theorem c_drawn {id : Nat} (h : ck (cd b p) = .region id true) (hm : P.follows .mixedOrders = true) (V : World → Prop) (B ds : List Nat) (π : List (Nat × Nat)) (hc : seqOk (rops (cd b p)) B ds π = true) (hQ : ∀ c a d v w, Q (.panic c) (Act.put a d v) w → Q (.panic c) a w) (hV : V W.drew)
    (hx : wpSeq P (rops (cd b p)) Q V ds π a W.drew) : (cd b p).wp P Q a W := by
  revert h hc hx
  generalize cd b p = c'
  intro h hc hx
  cases c' <;> simp only [ck] at h <;> try cases h
  exact wp_drawn hm B ds π hc hQ hV hx
theorem t_normal {R : Act → World → Prop} (h : R a W) : Exit.then R Q .normal a W := h
theorem b_normal {id : Nat} (h : Q .normal a W) : Exit.inBlock id Q .normal a W := h
theorem t_exit {R : Act → World → Prop} {id : Nat} (h : Q (.exit id) a W) : Exit.then R Q (.exit id) a W := h
theorem b_here {id : Nat} (h : Q .normal a W) : Exit.inBlock id Q (.exit id) a W := by simp [Exit.inBlock, h]
theorem t_ret {R : Act → World → Prop} (h : Q .ret a W) : Exit.then R Q .ret a W := h
theorem b_ret {id : Nat} (h : Q .ret a W) : Exit.inBlock id Q .ret a W := h
def argsL : Nat → List Value → List (Nat × Value)
  | _, [] => []
  | i, v :: r => (i, v) :: argsL (i + 1) r
theorem argsL_look : ∀ (vs : List Value) (k i : Nat) (v : Value), (argsL k vs).lookup i = some v → k ≤ i ∧ vs[i - k]? = some v
  | [], k, i, v, h => by simp [argsL] at h
  | x :: r, k, i, v, h => by
    by_cases e : i = k
    · subst e
      refine ⟨Nat.le_refl _, ?_⟩
      simpa [argsL, List.lookup] using h
    · have hb : (i == k) = false := beq_false_of_ne e
      have := argsL_look r (k + 1) i v (by simpa [argsL, List.lookup, hb] using h)
      refine ⟨by omega, ?_⟩
      rw [show i - k = (i - (k + 1)) + 1 by omega]
      simpa using this.2
theorem c_enter {f : FuncId} {fn : Func} {c : Code} {args : List Value} {w : World} {R : Ending → World → Prop} (hf : P.funcs[f]? = some fn) (hb : fn.body = some c) (n : Nat) (hn : fn.ntmps = n) (hl : args.length ≤ n)
    (h : ∀ a, Fr n (argsL 0 args) a → (cd c []).wp P (bodyPost P fn R) a w) : Calls P f args.toArray w R := by
  refine calls_of_wp hf hb (h _ ⟨by simp [hn]; omega, rfl, fun i v hv => ?_⟩)
  obtain ⟨_, h2⟩ := argsL_look args 0 i v hv
  have hi := (List.getElem?_eq_some_iff.1 h2).1
  simp only [Nat.sub_zero] at h2 hi
  rw [Array.getElem?_append_left (by simpa using hi)]
  simpa using h2
def bodyOf (f : Func) : Code := f.body.getD .skip
theorem c_enter2 {f : FuncId} {fn : Func} {args : List Value} {w : World} {S R : Nat → Prop} {M : List Asn} {Z : Ending → World → Prop} (hf : P.funcs[f]? = some fn) (hb : fn.body.isSome = true) (n : Nat) (hn : fn.ntmps = n) (hl : args.length ≤ n) (H : St w S R M w)
    (h : ∀ a W, Fr n (argsL 0 args) a → St w S R M W → (cd (bodyOf fn) []).wp P (bodyPost P fn Z) a W) : Calls P f args.toArray w Z :=
  c_enter hf (by unfold bodyOf; cases hq : fn.body with | none => rw [hq] at hb; cases hb | some c => rfl) n hn hl (fun a F => h a w F H)
theorem p_tmp {fn : Func} {R : Ending → World → Prop} {t : Tmp} {v : Value} (hr : fn.results = #[.tmp t]) (F : Fr n L a) (h : L.lookup t = some v) (hR : R (.returned v) W) : bodyPost P fn R .ret a W := by
  refine ⟨F.df, v, ?_, hR⟩
  rw [results_tmp hr]
  have := F.ev t v h
  simp [this]
theorem p_end {fn : Func} {R : Ending → World → Prop} (hr : fn.results = #[]) (F : Fr n L a) (hR : R (.returned (.tuple #[])) W) : bodyPost P fn R .normal a W := by
  refine ⟨F.df, _, results_none hr _ _ _, hR⟩
theorem p_list {fn : Func} {R : Ending → World → Prop} {rs : List ResultVar} {vs : List Value} (hr : fn.results = rs.toArray) (hl : vs.length ≠ 1) (F : Fr n L a) (hv : Vals P a.tmps W rs vs) (hR : R (.returned (.tuple vs.toArray)) W) : bodyPost P fn R .ret a W :=
  ⟨F.df, _, results_list hr hl hv, hR⟩
theorem Vals.tmp' {rs : List ResultVar} {vs : List Value} {t : Tmp} {v : Value} (F : Fr n L a) (h : L.lookup t = some v) (hv : Vals P a.tmps W rs vs) : Vals P a.tmps W (.tmp t :: rs) (v :: vs) := by
  have e : a.tmps.getD t undef = v := by have := F.ev t v h; simp [this]
  rw [← e]
  exact .tmp hv
theorem p_cell {fn : Func} {R : Ending → World → Prop} {q : Tmp} {ty : TypeId} {g : Nat} {cs : List Value} {T : TypeId} (hr : fn.results = #[.cell q ty]) (F : Fr n L a) (h : L.lookup q = some (.pointer (some ⟨g, 0, none⟩))) (hg : W.heap[g]? = some (.cells cs.toArray T (0, 0)))
    (hA : (isAgg ty).run P W = .ok true W) (hs : (sizeOf ty).run P W = .ok cs.length W) (hR : R (.returned (.agg cs.toArray)) W) : bodyPost P fn R .ret a W := by
  refine ⟨F.df, _, ?_, hR⟩
  have e := F.ev q _ h
  have hl := run_loadCells_list (P := P) W ⟨g, 0, none⟩ cs (fun j u hj => by rw [add0, blk_cell hg]; simpa using hj)
  simp [results, hr, e, asAddr, loadVar, hA, hs, hl]
end
end Go.Proofs.YtndicjikjcifaaaDoor
/- Rows in the small logic: what is read, queues of the call's own, append. Plain lemmas, no program in sight. -/
namespace Go.Proofs.YtndicjikjcifaaaDoor
open Go.RowKit Go.Proofs.YtndicjikjcifaaaDoorW.PrintWords Go.Proofs.YtndicjikjcifaaaDoorW.PrintLast
set_option linter.unusedVariables false
set_option linter.unusedSimpArgs false
set_option linter.unusedSectionVars false
def Asn.ft (p : World → Prop) (ok : Nat → Prop) : Asn :=
  ⟨fun _ => False, ok, fun W => Foot p W ok, fun W W' h e => Foot.step h (fun k hk _ => e k (.inr hk))⟩
abbrev Asn.rd {α : Type} (d : Kd α) (ok : Nat → Prop) (A : Option Addr) (n : Nat) (xs : List α) : Asn := Asn.ft (fun W => d.C W A n xs) ok
abbrev Asn.fk {α : Type} (d : Kd α) (ok : Nat → Prop) (x : α) (c : List Value) : Asn := Asn.ft (fun W => d.K W x c) ok
def Queue {α : Type} (d : Kd α) (T : TypeId) (v : Value) (xs : List α) (ok : Nat → Prop) (W : World) : Prop :=
  (∀ k, ok k → v.ownBlock ≠ some k) ∧ ∃ cs : List (List Value), Kd.Q (Kd.raw d.sz) T W 0 (fun _ => True) v cs ∧ cs.length = xs.length ∧
    ∀ (j : Nat) (t : α) (c : List Value), xs[j]? = some t → cs[j]? = some c → Foot (fun W => d.K W t c) W ok
section
variable {α : Type} {d : Kd α} {T : TypeId} {v : Value} {xs : List α} {ok ok' : Nat → Prop} {W W' w : World} {S R : Nat → Prop} {M : List Asn}
theorem Queue.move (h : Queue d T v xs ok W) (hm : ∀ k, v.ownBlock = some k ∨ ok k → W'.heap[k]? = W.heap[k]?) : Queue d T v xs ok W' := by
  obtain ⟨h0, cs, h1, h2, h3⟩ := h
  have h1' : Kd.Q (Kd.raw d.sz) T W 0 (fun k => v.ownBlock = some k) v cs := by
    obtain ⟨_, inner, ho, hr⟩ := h1
    exact ⟨fun k hk => hk, inner, ho, hr.imp_ (fun _ _ hp => hp)⟩
  refine ⟨h0, cs, Kd.Q_mono (Kd.Q_step h1' (fun k hk _ => hm k (.inl hk))) (fun _ _ => trivial), h2, fun j t c a b => Foot.step (h3 j t c a b) (fun k hk _ => hm k (.inr hk))⟩
theorem Queue.form (h : Queue d T v xs ok W) : ∃ A c, v = .slice A xs.length c ∧ xs.length ≤ c := by
  obtain ⟨_, cs, h1, h2, _⟩ := h
  obtain ⟨A, c, e, l⟩ := Kd.Q_slice h1
  exact ⟨A, c, by rw [e, h2], by omega⟩
theorem Queue.lt (h : Queue d T v xs ok W) : ∀ k, v.ownBlock = some k → k < W.heap.size := by
  obtain ⟨_, cs, h1, _⟩ := h
  exact Kd.Q_lt h1
theorem cells_C {A : Option Addr} {n : Nat} {cs : List (List Value)} (h : (Kd.raw d.sz).C W A n cs) (hl : cs.length = xs.length)
    (hK : ∀ (j : Nat) (t : α) (c : List Value), xs[j]? = some t → cs[j]? = some c → d.K W t c) : d.C W A n xs := by
  obtain ⟨h1, h2, h3⟩ := h
  refine ⟨by omega, h2, fun hp => ?_⟩
  obtain ⟨ad, ha, hc⟩ := h3 hp
  refine ⟨ad, ha, fun j p hj => ?_⟩
  have hjl := (List.getElem?_eq_some_iff.1 hj).1
  have hcj : cs[j]? = some cs[j] := List.getElem?_eq_getElem (by omega)
  obtain ⟨c, c1, ⟨rfl, c2, c3⟩, c4⟩ := hc j _ hcj
  exact ⟨_, c2, hK j p _ hj hcj, c4⟩
theorem Queue.read {A : Option Addr} {n c : Nat} (h : Queue d T (.slice A n c) xs ok W) : n = xs.length ∧ n ≤ c ∧ d.C W A n xs := by
  obtain ⟨_, cs, h1, h2, h3⟩ := h
  obtain ⟨q1, q2, q3⟩ := Kd.Q_reads' h1
  exact ⟨by omega, q2, cells_C (by rw [q1]; exact q1 ▸ q3) h2 (fun j t c a b => Foot.now (h3 j t c a b))⟩
theorem Queue.nil (d : Kd α) (T : TypeId) (ok : Nat → Prop) (W : World) : Queue d T (.slice none 0 0) [] ok W :=
  ⟨fun _ _ => by simp [Value.ownBlock], [], Kd.Q_nil _ _ _ _ _, rfl, fun j t c h => by simp at h⟩
theorem Queue.drop {A : Option Addr} {k n c : Nat} (h : Queue d T (.slice A n c) xs ok W) (hk : k ≤ xs.length) : Queue d T (.slice (if c = k then A else A.map (·.add (k * d.sz))) (n - k) (c - k)) (xs.drop k) ok W := by
  obtain ⟨h0, cs, h1, h2, h3⟩ := h
  have hb : (Value.slice (if c = k then A else A.map (·.add (k * d.sz))) (n - k) (c - k)).ownBlock = (Value.slice A n c).ownBlock := by
    split
    · cases A <;> rfl
    · cases A with
      | none => rfl
      | some a => simp [Value.ownBlock]; unfold Addr.add; split <;> rfl
  refine ⟨fun j hj => by rw [hb]; exact h0 j hj, cs.drop k, Kd.Q_drop h1 (by omega), by simp [h2], fun j t c a b => ?_⟩
  rw [List.getElem?_drop] at a b
  exact h3 _ t c a b
theorem Queue.mono (h : Queue d T v xs ok W) (hi : ∀ k, ok k → ok' k) (hn : ∀ k, ok' k → v.ownBlock ≠ some k) : Queue d T v xs ok' W := by
  obtain ⟨_, cs, h1, h2, h3⟩ := h
  exact ⟨hn, cs, h1, h2, fun j t c a b => Foot.mono (h3 j t c a b) hi⟩
def Asn.qu {α : Type} (d : Kd α) (T : TypeId) (v : Value) (xs : List α) (ok : Nat → Prop) : Asn :=
  ⟨fun k => v.ownBlock = some k, ok, Queue d T v xs ok, fun W W' h e => h.move e⟩
theorem St.quNil (H : St w S R M W) (d : Kd α) (T : TypeId) : St w S R (M ++ [Asn.qu d T (.slice none 0 0) ([] : List α) (fun _ => False)]) W :=
  H.add _ (Queue.nil d T _ W) (fun k hk => by rcases hk with hk | hk; exact absurd (show (Value.slice none 0 0).ownBlock = some k from hk) (by simp [Value.ownBlock]); exact hk.elim) (fun k hk => absurd (show (Value.slice none 0 0).ownBlock = some k from hk) (by simp [Value.ownBlock])) (fun k hk => hk.elim)
theorem St.old (H : St w (fun _ => False) (fun _ => True) M W) (p : World → Prop) (hp : Foot p w (fun k => k < w.heap.size)) (hM : ∀ B ∈ M, ∀ k, B.wf k → w.heap.size ≤ k) : St w (fun _ => False) (fun _ => True) (M ++ [Asn.ft p (fun k => k < w.heap.size)]) W :=
  H.add _ (Foot.step hp (fun k hk _ => H.low.block k hk (fun h => h))) (fun k hk => by rcases hk with hk | hk; exact hk.elim; exact Nat.lt_of_lt_of_le hk H.low.size) (fun k hk => hk.elim) (fun k hk => ⟨.inr (.inl trivial), fun B hB hb => by have := hM B hB k hb; have : k < w.heap.size := hk; omega⟩)
theorem St.freshF (H : St w S R M W) (hb : Below W.heap.size W W') (p : World → Prop) (ok : Nat → Prop) (hh : Foot p W' ok) (hf : ∀ k, ok k → W.heap.size ≤ k) : St w S R (M ++ [Asn.ft p (fun k => ok k ∧ k < W'.heap.size)]) W' :=
  H.fresh hb _ (Foot.bound hh) (fun k hk => by rcases hk with hk | hk; exact hk.elim; exact ⟨hf k hk.1, hk.2⟩)
theorem St.rd (H : St w S R M W) (k : Nat) {p : World → Prop} (h : M[k]? = some (Asn.ft p ok)) : p W := Foot.now (H.get k h)
theorem St.qu (H : St w S R M W) (k : Nat) (h : M[k]? = some (Asn.qu d T v xs ok)) : Queue d T v xs ok W := H.get k h
theorem Queue.foot {A : Option Addr} {n c : Nat} (h : Queue d T (.slice A n c) xs ok W) (hb : ∀ k, ((Value.slice A n c).ownBlock = some k ∨ ok k) → k < W.heap.size) : Foot (fun W => d.C W A n xs) W (fun k => (Value.slice A n c).ownBlock = some k ∨ ok k) :=
  fun W' hW => (h.move (fun k hk => hW k hk (hb k hk))).read.2.2
end
section
variable {P : Program} {ops : Array Oper} {Q : Exit → Act → World → Prop} {V : World → Prop} {ds : List Nat} {π : List (Nat × Nat)} {a : Act} {W W' w : World} {n i j d1 d2 : Nat} {L : List (Nat × Value)} {ty ty' t T : TypeId} {S R : Nat → Prop} {M : List Asn}
theorem Fr.skip (H : Fr n L a) {d : Nat} (h : L.lookup d = none) (v : Value) : Fr n L (a.put (some d) v) := by
  refine ⟨by simp [Act.put, H.sz], H.df, fun i u hi => ?_⟩
  simp only [Act.put, Array.getElem?_setIfInBounds, H.sz]
  rw [if_neg (fun e => by subst e; rw [h] at hi; cases hi)]
  exact H.ev i u hi
theorem qu_run {α : Type} {d : Kd α} {W : World} (t ty e : TypeId) (z : Value) (bytes : Nat)
    (ht : P.underlying t = some (.slice e)) (hinfo : (P.info? e).map (fun i => (i.zero, i.size, i.bytes)) = some (some z, d.sz, bytes)) (hz : z.cells.size = d.sz) (hs0 : 0 < d.sz) (hb0 : 0 < bytes)
    (v : Value) (xs : List α) (p : α) (cs : List Value) (ok okp : Nat → Prop) (hq : Queue d e v xs ok W) (hp : Foot (fun W => d.K W p cs) W okp) (hb : ∀ k, ok k ∨ okp k → k < W.heap.size) (hn : ∀ k, okp k → v.ownBlock ≠ some k) (hl : (xs.length + 1) * bytes ≤ 140737488355328) :
    ∃ v1 w1, (Builtin.append_ #[t, t] ty #[v, .slice (some ⟨W.heap.size, 0, none⟩) 1 1]).run P (W.alloc (.cells cs.toArray e)) = .ok v1 w1 ∧ Queue d e v1 (xs ++ [p]) (fun k => ok k ∨ okp k) w1 ∧ Only (fun k => v.ownBlock = some k) W w1 ∧ (∀ k, v1.ownBlock = some k → v.ownBlock = some k ∨ W.heap.size ≤ k) := by
  obtain ⟨h0, es, h1, h2, h3⟩ := hq
  have hcl := d.K_len (Foot.now hp)
  have hone := d.K_one (Foot.now hp)
  have hM : (Kd.raw d.sz).M W 0 (fun _ => False) cs cs := ⟨rfl, hcl, hone⟩
  obtain ⟨v1, w1, r0, r1, r2, r3, r4⟩ := Kd.Q_run (P := P) (Kd.raw d.sz) 0 t ty e z bytes ht hinfo hz hs0 hb0 v es cs cs (fun _ => True) (fun _ => False) hM (fun k hk => hk.elim) (fun k _ => trivial) h1 (Below.refl 0 W) (Nat.zero_le _) (by rw [h2]; exact hl)
  have hat : ∀ k, v1.ownBlock = some k → v.ownBlock = some k ∨ W.heap.size ≤ k := by
    intro k hk
    rcases r4 with e | ⟨b, e, le⟩
    · exact .inl (e ▸ hk)
    · rw [e] at hk; cases hk; exact .inr le
  have hO : Only (fun k => v.ownBlock = some k) W w1 := ⟨r3.os, r3.tape, r3.output, r3.size, fun k hk hn => r3.block k hk (fun e => hn e.symm)⟩
  refine ⟨v1, w1, r0, ⟨fun k hk he => ?_, es ++ [cs], r1, by simp [h2], fun j t c ha hb' => ?_⟩, hO, hat⟩
  · rcases hat k he with q | q
    · rcases hk with hk | hk
      · exact h0 k hk q
      · exact hn k hk q
    · have := hb k hk; omega
  · have mv : ∀ k, ok k ∨ okp k → w1.heap[k]? = W.heap[k]? := fun k hk => hO.block k (hb k hk) (fun q => by
      rcases hk with hk | hk
      · exact h0 k hk q
      · exact hn k hk q)
    rcases Nat.lt_or_ge j xs.length with hj | hj
    · rw [List.getElem?_append_left hj] at ha
      rw [List.getElem?_append_left (by omega)] at hb'
      exact Foot.mono (Foot.step (h3 j t c ha hb') (fun k hk _ => mv k (.inl hk))) (fun k hk => .inl hk)
    · rw [List.getElem?_append_right hj] at ha
      rw [List.getElem?_append_right (by omega)] at hb'
      have : j - xs.length = 0 := by
        have := (List.getElem?_eq_some_iff.1 ha).1
        simpa using this
      rw [this] at ha
      rw [h2, this] at hb'
      simp at ha hb'
      subst ha hb'
      exact Foot.mono (Foot.step hp (fun k hk _ => mv k (.inr hk))) (fun k hk => .inr hk)
theorem Queue.bound {α : Type} {d : Kd α} {v : Value} {xs : List α} {ok : Nat → Prop} (h : Queue d T v xs ok W) : ∀ k, v.ownBlock = some k → k < W.heap.size := h.lt
theorem Fr.drop1 {d : Nat} {v : Value} (H : Fr n ((d, v) :: L) a) (h : L.lookup d = none) : Fr n L a :=
  ⟨H.sz, H.df, fun i u hi => H.ev i u (by
    have : (i == d) = false := beq_false_of_ne (fun e => by subst e; rw [h] at hi; cases hi)
    simpa [List.lookup, this] using hi)⟩
theorem run_build1 {t n bytes : Nat} {z xv : Value} (hu : P.underlying t = some (.slice T)) (hi : (P.info? T).map (fun i => (i.zero, i.size, i.bytes)) = some (some z, n, bytes)) (hz : z.cells.size = n) (h0 : 0 < n) (hn : n ≤ 16777216) (hx : xv.cells.size = n) (W : World) :
    (Instr.buildSlice t 1 #[(0, xv)]).run P W = .ok (.slice (some ⟨W.heap.size, 0, none⟩) 1 1) (W.alloc (.cells xv.cells T)) := by
  cases hie : P.info? T with
  | none => simp [hie] at hi
  | some ie =>
    simp only [hie, Option.map_some, Option.some.injEq, Prod.mk.injEq] at hi
    obtain ⟨h1, h2, h3⟩ := hi
    refine run_buildSlice W t T 1 _ xv.cells ie z hu hie h1 (by rw [h2]; omega) (by rw [h2]; omega) ?_
    rw [h2]
    have := Great.fill_whole h0 [xv] ((Array.range (1 * n)).map (z.cells[· % z.cells.size]!)) (by simpa using hx) (by simp)
    simpa using this
theorem sq_bapp {α : Type} (d : Kd α) {g1 g2 : Option (Nat × Bool)} {s x : Operand} {xv v : Value} {xs : List α} {p : α} {cs : List Value} {ok okp : Nat → Prop} {z : Value} {bytes : Nat} (k k' : Nat) (hkk : k ≠ k')
    (hi : (ops[i]?).map sk = some (some d1, .buildSlice t 1 #[(0, x)], ty, g1)) (hg1 : On ops L g1)
    (hj : (ops[j]?).map sk = some (some d2, .call { callee := .builtin .append, args := #[s, .tmp d1], argTypes := #[t, t] }, ty', g2)) (hg2 : ∀ u, On ops ((d1, u) :: L) g2)
    (F : Fr n L a) (h1n : d1 < n) (h2n : d2 < n) (hd : L.lookup d1 = none) (hs : ∀ a, Fr n L a → a.eval s = v) (hx : a.eval x = xv) (hxc : xv.cells = cs.toArray)
    (ht : P.underlying t = some (.slice T)) (hinfo : (P.info? T).map (fun i => (i.zero, i.size, i.bytes)) = some (some z, d.sz, bytes)) (hz : z.cells.size = d.sz) (hs0 : 0 < d.sz) (hs1 : d.sz ≤ 16777216) (hb0 : 0 < bytes)
    (H : St w S R M W) (hk : M[k]? = some (Asn.qu d T v xs ok)) (hk' : M[k']? = some (Asn.fk d okp p cs)) (hl : (xs.length + 1) * bytes ≤ 140737488355328)
    (hV1 : ∀ W', St w S R M W' → i ∉ ds → V W')
    (h : ∀ v1 W' a', St w S R (M.set k (Asn.qu d T v1 (xs ++ [p]) (fun k => ok k ∨ okp k))) W' → Fr n ((d2, v1) :: L) a' → (j ∉ ds → V W') ∧ wpSeq P ops Q V ds π a' W') : wpSeq P ops Q V ds ((i, 2) :: (j, 2) :: π) a W := by
  have hA := H.has _ (List.mem_of_getElem? hk)
  have hB := H.has _ (List.mem_of_getElem? hk')
  have hap := H.apart hk hk' hkk
  obtain ⟨v1, w1, r0, r1, r2, r3⟩ := qu_run (P := P) t ty' T z bytes ht hinfo hz hs0 hb0 v xs p cs ok okp (H.qu k hk) (H.get k' hk') (fun j hj => by
    rcases hj with hj | hj
    · exact hA.2.1 j (.inr hj)
    · exact hB.2.1 j (.inr hj)) (fun j hj e => (hap j).1 e (.inr hj)) hl
  refine sq2 (v := .slice (some ⟨W.heap.size, 0, none⟩) 1 1) (W' := W.alloc (.cells xv.cells T)) hi hg1 F h1n ?_ (hV1 _ (H.below ((Below.refl _ W).alloc (Nat.le_refl _) _))) (fun a' F' => ?_)
  · have := run_build1 (P := P) ht hinfo hz hs0 hs1 (by rw [hxc]; exact d.K_len (Foot.now (H.get k' hk'))) W (xv := xv)
    simp [ex, execOp, hx, this]
  have F2 := F'.drop1 hd
  have hs2 := hs a' F2
  have hx2 : a'.eval (.tmp d1) = .slice (some ⟨W.heap.size, 0, none⟩) 1 1 := F'.slot (by simp [List.lookup])
  refine sqw hj (hg2 _) F' fun o K ho hK => ?_
  obtain ⟨h1, h2, h3⟩ := sk_eq ho
  rw [← hxc] at r0
  unfold Oper.wp execOp
  rw [h2]
  simp only [resolve, invoke, builtin, Sem.run_bind, Sem.run_pure, Result.andThen_ok, List.map_toArray, List.map_cons, List.map_nil, hs2, hx2, h3, r0, Oper.upon, h1]
  have HN := H.updR k hk (B := Asn.qu d T v1 (xs ++ [p]) (fun k => ok k ∨ okp k)) r2 r1 (fun j hj => ?_) r3 (fun j hj => ?_)
  · have := h v1 w1 _ HN (F2.put d2 h2n v1)
    exact hK _ _ this.1 this.2
  · rcases hj with hj | hj
    · exact r1.lt j hj
    · rcases hj with hj | hj
      · exact Nat.lt_of_lt_of_le (hA.2.1 j (.inr hj)) r2.size
      · exact Nat.lt_of_lt_of_le (hB.2.1 j (.inr hj)) r2.size
  · rcases hj with hj | hj
    · exact .inr (.inl hj)
    · exact .inr (.inr (.inr ⟨k', _, Ne.symm hkk, hk', hj, fun h => h⟩))
end
end Go.Proofs.YtndicjikjcifaaaDoor

/- Regions in which several operations that make memory may come up: a tree of orders. Empty literals, whole rows appended to a queue, queues that are only read from now on. Plain lemmas, no program in sight. -/
namespace Go.Proofs.YtndicjikjcifaaaDoor
open Go.RowKit Go.Proofs.YtndicjikjcifaaaDoorW.PrintWords Go.Proofs.YtndicjikjcifaaaDoorW.PrintLast
set_option linter.unusedVariables false
set_option linter.unusedSimpArgs false
set_option linter.unusedSectionVars false
inductive OT where
  | line (π : List (Nat × Nat))
  | two (π : List (Nat × Nat)) (i : Nat) (t : OT) (j : Nat) (u : OT)
  | three (π : List (Nat × Nat)) (i : Nat) (t : OT) (j : Nat) (u : OT) (k : Nat) (v : OT)
def OT.len : OT → Nat
  | .line π => π.length
  | .two π _ t _ u => π.length + 1 + max t.len u.len
  | .three π _ t _ u _ v => π.length + 1 + max t.len (max u.len v.len)
section
variable {P : Program} {ops : Array Oper} {Q : Exit → Act → World → Prop} {V : World → Prop} {ds B : List Nat}
end
section
variable {P : Program} {Q : Exit → Act → World → Prop} {a : Act} {W : World} {b : Code} {p : List Nat}
end
section
variable {P : Program} {ops : Array Oper} {Q : Exit → Act → World → Prop} {V : World → Prop} {ds : List Nat} {a : Act} {W : World} {π : List (Nat × Nat)} {i j k : Nat} {t u v : OT}
end
/-! ### Rows and queues -/
section
variable {α : Type} {d : Kd α} {T : TypeId} {v : Value} {xs ys : List α} {ok ok' : Nat → Prop} {W W' w : World} {S R : Nat → Prop} {M M' : List Asn} {A : Option Addr} {n c : Nat}
theorem St.perm (H : St w S R M W) (ks : List Nat) (h : ks.map (M[·]?) = M'.map some) (nd : ks.Nodup) : St w S R M' W := by
  have hs := H.select ks M' h nd
  refine ⟨H.low, fun B hB => ?_, hs.dis⟩
  obtain ⟨i, hi⟩ := List.mem_iff_getElem?.1 hB
  have h1 := congrArg (·[i]?) h
  simp only [List.getElem?_map, hi, Option.map_some] at h1
  cases hk : ks[i]? with
  | none => rw [hk] at h1; simp at h1
  | some k =>
    rw [hk] at h1
    exact H.has B (List.mem_of_getElem? (by simpa using h1))
theorem Queue.empty (d : Kd α) (T : TypeId) (g : Nat) (cells : Array Value) (hb : W.heap[g]? = some (.cells cells T (0, 0))) : Queue d T (.slice (some ⟨g, 0, none⟩) 0 0) ([] : List α) (fun _ => False) W :=
  ⟨fun _ h => h.elim, [], ⟨fun _ _ => trivial, [], ⟨by simp, .inl ⟨rfl, some ⟨g, 0, none⟩, rfl, fun a ha => by cases ha; exact ⟨Nat.zero_le _, cells, hb⟩⟩⟩, ⟨by simp, fun j p h => by simp at h⟩⟩, rfl, fun j t c h => by simp at h⟩
theorem rd_rows (hsz : 0 < d.sz) {ad : Addr} (h : Foot (fun W => d.C W (some ad) ys.length ys) W ok) (hp : 0 < ys.length) :
    ok ad.block ∧ ∃ es : List (List Value), es.length = ys.length ∧ (∀ c ∈ es, c.length = d.sz) ∧ (∀ c ∈ es, ∀ u ∈ c, u.oneCell' = true) ∧ (∀ (j : Nat) (c : List Value), es[j]? = some c → ∀ i u, c[i]? = some u → W.cell? (ad.add (j * d.sz + i)) = some u) ∧
      ∀ (j : Nat) (t : α) (c : List Value), ys[j]? = some t → es[j]? = some c → Foot (fun W => d.K W t c) W ok := by
  have ha : ok ad.block := by
    refine Classical.byContradiction fun hn => ?_
    obtain ⟨W', h1, h2⟩ := Kd.emptied W ad.block
    obtain ⟨_, _, h3⟩ := h W' (fun k hk _ => h1 k (fun e => hn (e ▸ hk)))
    obtain ⟨ad', e, h4⟩ := h3 hp
    cases e
    obtain ⟨c, hc, _, h5⟩ := h4 0 _ (List.getElem?_eq_getElem hp)
    have h6 := h5 0 _ (List.getElem?_eq_getElem (by omega))
    rw [h2 _ (by unfold Addr.add; split <;> rfl)] at h6
    cases h6
  obtain ⟨_, _, h3⟩ := h.now
  obtain ⟨ad', e, h4⟩ := h3 hp
  cases e
  have h5 : ∀ j, j < ys.length → ∃ c : List Value, c.length = d.sz ∧ (∃ t, ys[j]? = some t ∧ d.K W t c) ∧ ∀ i u, c[i]? = some u → W.cell? (ad.add (j * d.sz + i)) = some u := fun j hj => by
    obtain ⟨c, h5, h6, h7⟩ := h4 j _ (List.getElem?_eq_getElem hj)
    exact ⟨c, h5, ⟨_, List.getElem?_eq_getElem hj, h6⟩, h7⟩
  have h6 : ∃ es : List (List Value), es.length = ys.length ∧ ∀ j c, es[j]? = some c → c.length = d.sz ∧ (∃ t, ys[j]? = some t ∧ d.K W t c) ∧ ∀ i u, c[i]? = some u → W.cell? (ad.add (j * d.sz + i)) = some u := by
    have : ∀ n, n ≤ ys.length → ∃ es : List (List Value), es.length = n ∧ ∀ j c, es[j]? = some c → c.length = d.sz ∧ (∃ t, ys[j]? = some t ∧ d.K W t c) ∧ ∀ i u, c[i]? = some u → W.cell? (ad.add (j * d.sz + i)) = some u := by
      intro n
      induction n with
      | zero => exact fun _ => ⟨[], rfl, fun j c h => by simp at h⟩
      | succ n ih =>
        intro hn
        obtain ⟨es, h1, h2⟩ := ih (by omega)
        obtain ⟨c, h3⟩ := h5 n (by omega)
        refine ⟨es ++ [c], by simp [h1], fun j c' hj => ?_⟩
        rcases Nat.lt_or_ge j n with hlt | hge
        · rw [List.getElem?_append_left (by omega)] at hj
          exact h2 j c' hj
        · rw [List.getElem?_append_right (by omega), h1] at hj
          have : j - n = 0 := by
            have := (List.getElem?_eq_some_iff.1 hj).1
            simpa using this
          rw [this] at hj
          obtain rfl : c = c' := by simpa using hj
          rw [show j = n by omega]
          exact h3
    exact this _ (Nat.le_refl _)
  obtain ⟨es, e1, e2⟩ := h6
  refine ⟨ha, es, e1, fun c hc => ?_, fun c hc => ?_, fun j c hj => (e2 j c hj).2.2, fun j t c hj hc W' hW => ?_⟩
  · obtain ⟨j, hj⟩ := List.mem_iff_getElem?.1 hc
    exact (e2 j c hj).1
  · obtain ⟨j, hj⟩ := List.mem_iff_getElem?.1 hc
    obtain ⟨t, _, hk⟩ := (e2 j c hj).2.1
    exact d.K_one hk
  · obtain ⟨_, _, h7⟩ := h W' hW
    obtain ⟨ad', e, h8⟩ := h7 hp
    cases e
    obtain ⟨c', h9, h10, h11⟩ := h8 j t hj
    obtain ⟨f1, f2, f3⟩ := e2 j c hc
    have : c' = c := by
      apply List.ext_getElem?
      intro i
      by_cases hi : i < d.sz
      · have g1 := f3 i _ (List.getElem?_eq_getElem (by omega))
        have hlt := World.block_lt_of_cell? W _ g1
        have hbl : (ad.add (j * d.sz + i)).block = ad.block := by unfold Addr.add; split <;> rfl
        have g2 := World.cell?_of_block (w := W) (w' := W') (a := ad.add (j * d.sz + i)) (by rw [hbl] at hlt; rw [hbl]; exact hW ad.block ha hlt)
        rw [g1] at g2
        rw [List.getElem?_eq_getElem (show i < c.length by omega), ← g2]
        have g3 := h11 i _ (List.getElem?_eq_getElem (show i < c'.length by omega))
        rw [List.getElem?_eq_getElem (show i < c'.length by omega), g3]
      · rw [List.getElem?_eq_none (by omega), List.getElem?_eq_none (by omega)]
    exact this ▸ h10
end
section
variable {P : Program} {T : TypeId}
def Rows {α : Type} (d : Kd α) (W : World) (A : Option Addr) (ys : List α) (ok : Nat → Prop) : Prop :=
  ys.length = 0 ∨ ∃ (ad : Addr) (es : List (List Value)), A = some ad ∧ es.length = ys.length ∧ (∀ c ∈ es, c.length = d.sz) ∧ (∀ c ∈ es, ∀ u ∈ c, u.oneCell' = true) ∧ (∀ (j : Nat) (c : List Value), es[j]? = some c → ∀ i u, c[i]? = some u → W.cell? (ad.add (j * d.sz + i)) = some u) ∧
      ∀ (j : Nat) (t : α) (c : List Value), ys[j]? = some t → es[j]? = some c → Foot (fun W => d.K W t c) W ok
theorem Rows.rd {α : Type} {d : Kd α} {W : World} {A : Option Addr} {ys : List α} {ok : Nat → Prop} (hsz : 0 < d.sz) (h : Foot (fun W => d.C W A ys.length ys) W ok) : Rows d W A ys ok := by
  by_cases h0 : ys.length = 0
  · exact .inl h0
  · have hp : 0 < ys.length := by omega
    obtain ⟨ad, rfl, _⟩ := (h.now).2.2 hp
    obtain ⟨_, es, h1⟩ := rd_rows hsz h hp
    exact .inr ⟨ad, es, rfl, h1⟩
theorem Rows.qu {α : Type} {d : Kd α} {W : World} {A : Option Addr} {n c : Nat} {zs : List α} {ok : Nat → Prop} (h : Queue d T (.slice A n c) zs ok W) (m : Nat) (hm : m ≤ zs.length) : Rows d W A (zs.take m) ok := by
  by_cases h0 : (zs.take m).length = 0
  · exact .inl h0
  · obtain ⟨_, cs, h1, h2, h3⟩ := h
    have hl : (zs.take m).length = m := by rw [List.length_take]; omega
    obtain ⟨q1, q2, q3⟩ := Kd.Q_reads' h1
    obtain ⟨_, _, q4⟩ := q3
    obtain ⟨ad, rfl, q5⟩ := q4 (by omega)
    refine .inr ⟨ad, cs.take m, rfl, by rw [List.length_take]; omega, fun c hc => ?_, fun c hc => ?_, fun j c hj i u hu => ?_, fun j t c ht hc => ?_⟩
    · obtain ⟨j, hj⟩ := List.mem_iff_getElem?.1 (List.mem_of_mem_take hc)
      obtain ⟨c', c1, ⟨rfl, c2, c3⟩, c4⟩ := q5 j c hj
      exact c2
    · obtain ⟨j, hj⟩ := List.mem_iff_getElem?.1 (List.mem_of_mem_take hc)
      obtain ⟨c', c1, ⟨rfl, c2, c3⟩, c4⟩ := q5 j c hj
      exact c3
    · have hjm : j < m := by have := (List.getElem?_eq_some_iff.1 hj).1; rw [List.length_take] at this; omega
      rw [List.getElem?_take, if_pos hjm] at hj
      obtain ⟨c', c1, ⟨rfl, c2, c3⟩, c4⟩ := q5 j c hj
      exact c4 i u hu
    · have hjm : j < m := by have := (List.getElem?_eq_some_iff.1 ht).1; omega
      rw [List.getElem?_take, if_pos hjm] at ht hc
      exact h3 j t c ht hc
theorem qu_rows {α : Type} {d : Kd α} {W : World} (t ty e : TypeId) (z : Value) (bytes : Nat)
    (ht : P.underlying t = some (.slice e)) (hinfo : (P.info? e).map (fun i => (i.zero, i.size, i.bytes)) = some (some z, d.sz, bytes)) (hz : z.cells.size = d.sz) (hs0 : 0 < d.sz) (hb0 : 0 < bytes)
    (v : Value) (xs ys : List α) (A : Option Addr) (cy : Nat) (ok oky : Nat → Prop) (hq : Queue d e v xs ok W) (hy : Rows d W A ys oky) (hb : ∀ k, ok k ∨ oky k → k < W.heap.size) (hn : ∀ k, oky k → v.ownBlock ≠ some k) (hl : (xs.length + ys.length) * bytes ≤ 140737488355328) :
    ∃ v1 w1, (Builtin.append_ #[t, t] ty #[v, .slice A ys.length cy]).run P W = .ok v1 w1 ∧ Queue d e v1 (xs ++ ys) (fun k => ok k ∨ oky k) w1 ∧ Only (fun k => v.ownBlock = some k) W w1 ∧ (∀ k, v1.ownBlock = some k → v.ownBlock = some k ∨ W.heap.size ≤ k) := by
  obtain ⟨i0, hi, hzz⟩ := Option.map_eq_some_iff.1 hinfo
  simp only [Prod.mk.injEq] at hzz
  obtain ⟨hz0, hz1, hz2⟩ := hzz
  by_cases h0 : ys.length = 0
  · obtain rfl : ys = [] := List.eq_nil_of_length_eq_zero h0
    obtain ⟨A', cap, rfl, hcap⟩ := hq.form
    refine ⟨_, W, ?_, by rw [List.append_nil]; exact hq.mono (fun k hk => .inl hk) (fun k hk he => hk.elim (fun hk => hq.1 k hk he) (fun hk => hn k hk he)), Only.refl _ _, fun k hk => .inl hk⟩
    cases A' <;> cases A <;> simp [Builtin.append_, Builtin.lenOf, Builtin.firstCells, run_underlying ht, sizeOf, typeInfo, hi, hcap, storeCells, loadCells, loadCellsFrom]
  · have hp : 0 < ys.length := by omega
    obtain ⟨h0', es, h1, h2, h3⟩ := hq
    obtain ⟨ad, fs, rfl, f1, f2, f3, f4, f5⟩ : ∃ (ad : Addr) (es : List (List Value)), A = some ad ∧ _ := hy.resolve_left h0
    have hflen : ∀ (l : List (List Value)), (∀ c ∈ l, c.length = d.sz) → l.flatten.length = l.length * d.sz := by
      intro l
      induction l with
      | nil => intro _; simp
      | cons c r ih =>
        intro hc
        rw [List.flatten_cons, List.length_append, hc c List.mem_cons_self, ih (fun c h => hc c (List.mem_cons_of_mem _ h)), List.length_cons, Nat.succ_mul, Nat.add_comm]
    have hfget : ∀ (l : List (List Value)), (∀ c ∈ l, c.length = d.sz) → ∀ j c, l[j]? = some c → (l.flatten.drop (j * d.sz)).take d.sz = c := by
      intro l
      induction l with
      | nil => intro _ j c h; simp at h
      | cons c0 r ih =>
        intro hc j c hj
        have hc0 := hc c0 List.mem_cons_self
        cases j with
        | zero =>
          obtain rfl : c0 = c := by simpa using hj
          rw [Nat.zero_mul, List.drop_zero, List.flatten_cons, List.take_append_of_le_length (by omega), List.take_of_length_le (by omega)]
        | succ j =>
          rw [List.flatten_cons, Nat.succ_mul, List.drop_append, List.drop_of_length_le (by rw [hc0]; exact Nat.le_add_left _ _), List.nil_append, hc0, Nat.add_sub_cancel]
          exact ih (fun c h => hc c (List.mem_cons_of_mem _ h)) j c (by simpa using hj)
    obtain ⟨hok0, inner, hown, hr⟩ := h1
    obtain ⟨v1, w1, hrun, hq1, hg, hat⟩ := q_append (P := P) W 0 t ty e i0 z d.sz bytes ht hi hz0 hz1 hz2 hz hs0 v es.length inner hown ad ys.length cy fs.flatten (by rw [hflen fs f2, f1])
      (fun j u hj => by
        have hjl := (List.getElem?_eq_some_iff.1 hj).1
        rw [hflen fs f2] at hjl
        have hdm := Nat.div_add_mod j d.sz
        have hml := Nat.mod_lt j hs0
        have hjd : j / d.sz < fs.length := by
          rw [Nat.div_lt_iff_lt_mul hs0]; exact hjl
        have e1 := hfget fs f2 (j / d.sz) _ (List.getElem?_eq_getElem hjd)
        have e2 : (fs[j / d.sz])[j % d.sz]? = some u := by
          rw [← e1, List.getElem?_take, if_pos hml, List.getElem?_drop, Nat.mul_comm, hdm]
          exact hj
        have e3 := f4 (j / d.sz) _ (List.getElem?_eq_getElem hjd) (j % d.sz) u e2
        rw [Nat.mul_comm, hdm] at e3
        exact e3)
      (fun u hu => by
        obtain ⟨c, hc, huc⟩ := List.mem_flatten.1 hu
        exact f3 c hc u huc) hp (by
        have : xs.length + ys.length ≤ 140737488355328 := Nat.le_trans (Nat.le_mul_of_pos_right _ hb0) hl
        simp only [maxLen]; omega) (by rw [h2]; exact hl) (Nat.zero_le _)
    have hat' : ∀ k, v1.ownBlock = some k → v.ownBlock = some k ∨ W.heap.size ≤ k := by
      intro k hk
      rcases hat with e | ⟨b, e, le⟩
      · exact .inl (e ▸ hk)
      · rw [e] at hk; cases hk; exact .inr le
    have hO : Only (fun k => v.ownBlock = some k) W w1 := ⟨hg.os, hg.tape, hg.output, hg.size, fun k hk hn => hg.block k hk (fun e => hn e.symm)⟩
    have mv : ∀ k, ok k ∨ oky k → w1.heap[k]? = W.heap[k]? := fun k hk => hO.block k (hb k hk) (fun q => by
      rcases hk with hk | hk
      · exact h0' k hk q
      · exact hn k hk q)
    refine ⟨v1, w1, hrun, ⟨fun k hk he => ?_, es ++ fs, ⟨fun _ _ => trivial, inner ++ fs.flatten, ?_, ?_⟩, by simp [h2, f1], fun j t c ha hb' => ?_⟩, hO, hat'⟩
    · rcases hat' k he with q | q
      · rcases hk with hk | hk
        · exact h0' k hk q
        · exact hn k hk q
      · have := hb k hk; omega
    · rw [List.length_append, f1]; exact hq1
    · refine Kd.reps_append (hr.imp_ (fun p c hp => ?_)) ⟨by rw [hflen fs f2]; rfl, fun j c hj => ?_⟩
      · exact hp
      · have : (fs.flatten.drop (j * d.sz)).take d.sz = c := hfget fs f2 j c hj
        have hm := List.mem_of_getElem? hj
        exact ⟨this, by show ((fs.flatten.drop (j * d.sz)).take d.sz).length = d.sz; rw [this]; exact f2 c hm, by show ∀ u ∈ (fs.flatten.drop (j * d.sz)).take d.sz, _; rw [this]; exact f3 c hm⟩
    · rcases Nat.lt_or_ge j xs.length with hj | hj
      · rw [List.getElem?_append_left hj] at ha
        rw [List.getElem?_append_left (by omega)] at hb'
        exact Foot.mono (Foot.step (h3 j t c ha hb') (fun k hk _ => mv k (.inl hk))) (fun k hk => .inl hk)
      · rw [List.getElem?_append_right hj] at ha
        rw [List.getElem?_append_right (by omega), h2] at hb'
        exact Foot.mono (Foot.step (f5 _ t c ha hb') (fun k hk _ => mv k (.inr hk))) (fun k hk => .inr hk)
theorem run_build0 {t : TypeId} {n bytes : Nat} {z : Value} (hu : P.underlying t = some (.slice T)) (hi : (P.info? T).map (fun i => (i.zero, i.size, i.bytes)) = some (some z, n, bytes)) (W : World) :
    (Instr.buildSlice t 0 #[]).run P W = .ok (.slice (some ⟨W.heap.size, 0, none⟩) 0 0) (W.alloc (.cells #[] T)) := by
  cases hie : P.info? T with
  | none => simp [hie] at hi
  | some ie =>
    simp [Instr.buildSlice, run_underlying hu, sizeOf, typeInfo, hie, newRow, Instr.fill]
    congr 2
    apply Array.ext'
    simp
end
section
variable {P : Program} {ops : Array Oper} {Q : Exit → Act → World → Prop} {V : World → Prop} {ds : List Nat} {π : List (Nat × Nat)} {a : Act} {W W' w : World} {n i d1 : Nat} {L : List (Nat × Value)} {ty t T : TypeId} {S R : Nat → Prop} {M : List Asn}
theorem sq_lit0 {α : Type} (d : Kd α) {g : Option (Nat × Bool)} {z : Value} {sz bytes : Nat} (hi : (ops[i]?).map sk = some (some d1, .buildSlice t 0 #[], ty, g)) (hg : On ops L g) (F : Fr n L a) (hd : d1 < n)
    (ht : P.underlying t = some (.slice T)) (hinfo : (P.info? T).map (fun i => (i.zero, i.size, i.bytes)) = some (some z, sz, bytes)) (H : St w S R M W)
    (h : ∀ A W' a', St w S R (M ++ [Asn.qu d T (.slice A 0 0) ([] : List α) (fun _ => False)]) W' → Fr n ((d1, .slice A 0 0) :: L) a' → (i ∉ ds → V W') ∧ wpSeq P ops Q V ds π a' W') : wpSeq P ops Q V ds ((i, 2) :: π) a W := by
  have hb : Below W.heap.size W (W.alloc (.cells #[] T)) := (Below.refl _ W).alloc (Nat.le_refl _) _
  have hn : (W.alloc (.cells #[] T)).heap[W.heap.size]? = some (.cells #[] T (0, 0)) := by simpa using blk_new W (.cells #[] T)
  have HN := H.fresh hb (Asn.qu d T (.slice (some ⟨W.heap.size, 0, none⟩) 0 0) ([] : List α) (fun _ => False)) (Queue.empty d T _ _ hn) (fun k hk => by
    rcases hk with hk | hk
    · have : W.heap.size = k := by simpa [Value.ownBlock] using (show (Value.slice (some ⟨W.heap.size, 0, none⟩) 0 0).ownBlock = some k from hk)
      subst this
      simp
    · exact hk.elim)
  have hh := fun a' => h _ _ a' HN
  refine sqw hi hg F fun o K ho hK => ?_
  obtain ⟨h1, h2, h3⟩ := sk_eq ho
  unfold Oper.wp execOp
  rw [h2]
  have := run_build0 (P := P) ht hinfo W
  simp only [Array.map_empty, this, Sem.run_bind, Result.andThen_ok]
  have q := hh _ (F.put d1 hd _)
  rw [← h1] at q
  exact hK _ _ q.1 q.2
theorem sq_rows {α : Type} (d : Kd α) {g : Option (Nat × Bool)} {s x : Operand} {v : Value} {xs ys : List α} {A : Option Addr} {m cy : Nat} {ok oky : Nat → Prop} {z : Value} {bytes : Nat} (k k' : Nat) {B : Asn} (hkk : k ≠ k')
    (hi : (ops[i]?).map sk = some (some d1, .call { callee := .builtin .append, args := #[s, x], argTypes := #[t, t] }, ty, g)) (hg : On ops L g) (F : Fr n L a) (hd : d1 < n)
    (hs : a.eval s = v) (hx : a.eval x = .slice A m cy) (hm : m = ys.length)
    (ht : P.underlying t = some (.slice T)) (hinfo : (P.info? T).map (fun i => (i.zero, i.size, i.bytes)) = some (some z, d.sz, bytes)) (hz : z.cells.size = d.sz) (hs0 : 0 < d.sz) (hb0 : 0 < bytes)
    (H : St w S R M W) (hk : M[k]? = some (Asn.qu d T v xs ok)) (hk' : M[k']? = some B) (hB : ∀ j, oky j → B.rf j) (hBw : ∀ j, oky j → ¬ B.wf j) (hy : Rows d W A ys oky) (hl : (xs.length + ys.length) * bytes ≤ 140737488355328)
    (h : ∀ v1 W' a', St w S R (M.set k (Asn.qu d T v1 (xs ++ ys) (fun k => ok k ∨ oky k))) W' → Fr n ((d1, v1) :: L) a' → (i ∉ ds → V W') ∧ wpSeq P ops Q V ds π a' W') : wpSeq P ops Q V ds ((i, 2) :: π) a W := by
  subst hm
  have hA := H.has _ (List.mem_of_getElem? hk)
  have hB' := H.has _ (List.mem_of_getElem? hk')
  have hap := H.apart hk hk' hkk
  obtain ⟨v1, w1, r0, r1, r2, r3⟩ := qu_rows (P := P) t ty T z bytes ht hinfo hz hs0 hb0 v xs ys A cy ok oky (H.qu k hk) hy (fun j hj => by
    rcases hj with hj | hj
    · exact hA.2.1 j (.inr hj)
    · exact hB'.2.1 j (.inr (hB j hj))) (fun j hj e => (hap j).1 e (.inr (hB j hj))) hl
  refine sqw hi hg F fun o K ho hK => ?_
  obtain ⟨h1, h2, h3⟩ := sk_eq ho
  unfold Oper.wp execOp
  rw [h2]
  simp only [resolve, invoke, builtin, Sem.run_bind, Sem.run_pure, Result.andThen_ok, List.map_toArray, List.map_cons, List.map_nil, hs, hx, h3, r0, Oper.upon, h1]
  have HN := H.updR k hk (B := Asn.qu d T v1 (xs ++ ys) (fun k => ok k ∨ oky k)) r2 r1 (fun j hj => ?_) r3 (fun j hj => ?_)
  · have := h v1 w1 _ HN (F.put d1 hd v1)
    exact hK _ _ this.1 this.2
  · rcases hj with hj | hj
    · exact r1.lt j hj
    · rcases hj with hj | hj
      · exact Nat.lt_of_lt_of_le (hA.2.1 j (.inr hj)) r2.size
      · exact Nat.lt_of_lt_of_le (hB'.2.1 j (.inr (hB j hj))) r2.size
  · rcases hj with hj | hj
    · exact .inr (.inl hj)
    · exact .inr (.inr (.inr ⟨k', _, Ne.symm hkk, hk', hB j hj, hBw j hj⟩))
theorem sq_rapp {α : Type} (d : Kd α) {g : Option (Nat × Bool)} {s x : Operand} {v : Value} {xs ys : List α} {A : Option Addr} {m cy : Nat} {ok oky : Nat → Prop} {z : Value} {bytes : Nat} (k k' : Nat) (hkk : k ≠ k')
    (hi : (ops[i]?).map sk = some (some d1, .call { callee := .builtin .append, args := #[s, x], argTypes := #[t, t] }, ty, g)) (hg : On ops L g) (F : Fr n L a) (hd : d1 < n)
    (hs : a.eval s = v) (hx : a.eval x = .slice A m cy) (hm : m = ys.length)
    (ht : P.underlying t = some (.slice T)) (hinfo : (P.info? T).map (fun i => (i.zero, i.size, i.bytes)) = some (some z, d.sz, bytes)) (hz : z.cells.size = d.sz) (hs0 : 0 < d.sz) (hb0 : 0 < bytes)
    (H : St w S R M W) (hk : M[k]? = some (Asn.qu d T v xs ok)) (hk' : M[k']? = some (Asn.rd d oky A m ys)) (hl : (xs.length + ys.length) * bytes ≤ 140737488355328)
    (h : ∀ v1 W' a', St w S R (M.set k (Asn.qu d T v1 (xs ++ ys) (fun k => ok k ∨ oky k))) W' → Fr n ((d1, v1) :: L) a' → (i ∉ ds → V W') ∧ wpSeq P ops Q V ds π a' W') : wpSeq P ops Q V ds ((i, 2) :: π) a W :=
  sq_rows d k k' hkk hi hg F hd hs hx hm ht hinfo hz hs0 hb0 H hk hk' (fun _ h => h) (fun _ _ h => h) (Rows.rd hs0 (by subst hm; exact H.get k' hk')) hl h
end
section
variable {α : Type} {d : Kd α} {T : TypeId} {v : Value} {xs : List α} {ok : Nat → Prop} {W w : World} {S R : Nat → Prop} {M : List Asn}
theorem Queue.flat (hd : ∀ W W' t c, d.K W t c → d.K W' t c) (h : Queue d T v xs ok W) : Queue d T v xs (fun _ => False) W := by
  obtain ⟨_, cs, h1, h2, h3⟩ := h
  exact ⟨fun _ h => h.elim, cs, h1, h2, fun j t c a b W' _ => hd _ _ _ _ (h3 j t c a b).now⟩
theorem St.quFlat (H : St w S R M W) (k : Nat) (hd : ∀ W W' t c, d.K W t c → d.K W' t c) (h : M[k]? = some (Asn.qu d T v xs ok)) : St w S R (M.set k (Asn.qu d T v xs (fun _ => False))) W := by
  obtain ⟨b1, b2, b3, b4⟩ := H.has _ (List.mem_of_getElem? h)
  exact H.upd k h (Only.refl _ _) _ ((H.qu k h).flat hd) (fun j hj => b2 j (hj.imp id (fun h => h.elim))) (fun j hj => .inl hj) (fun j hj => hj.elim)
theorem St.addF1 (H : St w S R M W) (k : Nat) {A : Asn} (h : M[k]? = some A) (n : ∀ j, ¬ A.wf j) (p : World → Prop) (ok : Nat → Prop) (hok : ∀ j, ok j → A.rf j) (hp : Foot p W ok) : St w S R (M ++ [Asn.ft p ok]) W := by
  have g := H.has _ (List.mem_of_getElem? h)
  refine H.add _ hp (fun j hj => ?_) (fun j hj => hj.elim) (fun j hj => ⟨g.2.2.2 j (hok j hj), fun B hB hw => ?_⟩)
  · rcases hj with hj | hj
    · exact hj.elim
    · exact g.2.1 j (.inr (hok j hj))
  · obtain ⟨i, hi⟩ := List.mem_iff_getElem?.1 hB
    by_cases e : i = k
    · subst e
      rw [hi] at h
      cases h
      exact n j hw
    · exact (H.apart hi h e j).1 hw (.inr (hok j hj))
abbrev Asn.cl (ad : Addr) (cs : List Value) (ok : Nat → Prop) : Asn := Asn.ft (fun W => ∀ i v, cs[i]? = some v → W.cell? (ad.add i) = some v) ok
theorem args_0 {a : Act} : (#[] : Array Operand).map a.eval = #[] := by simp
theorem addr_add_add (q : Addr) (x y : Nat) : (q.add x).add y = q.add (x + y) := by
  rcases q with ⟨_, _, _ | _⟩ <;> by_cases hx : x = 0 <;> by_cases hy : y = 0 <;> simp [Addr.add, hx, hy, Nat.add_assoc]
theorem addr_block (q : Addr) (x : Nat) : (q.add x).block = q.block := by unfold Addr.add; split <;> rfl
theorem cl1 {ad : Addr} {cs : List Value} {ok : Nat → Prop} (h : (Asn.cl ad cs ok).holds W) (o : Nat) {v : Value} (hv : cs[o]? = some v) : W.cell? (ad.add o) = some v := (Foot.now h) o v hv
theorem clnz {ad : Addr} {cs : List Value} {ok : Nat → Prop} (h : (Asn.cl ad cs ok).holds W) (vs : List Value) (hv : cs.take vs.length = vs) : ∀ j u, vs[j]? = some u → W.cell? (ad.add j) = some u := by
  intro j u hj
  have hl := (List.getElem?_eq_some_iff.1 hj).1
  rw [← hv, List.getElem?_take, if_pos hl] at hj
  exact cl1 h j hj
theorem St.elem {α : Type} {d : Kd α} {xs : List α} {ok : Nat → Prop} {A : Option Addr} {n : Nat} (H : St w S R M W) (k : Nat) (h : M[k]? = some (Asn.rd d ok A n xs)) (hsz : 0 < d.sz) (j : Nat) (t : α) (hj : xs[j]? = some t) :
    ∃ ad cs, A = some ad ∧ d.K W t cs ∧ St w S R (M ++ [Asn.fk d ok t cs, Asn.cl (ad.add (j * d.sz)) cs ok]) W := by
  have hC : Foot (fun W => d.C W A n xs) W ok := H.get k h
  have hl := (List.getElem?_eq_some_iff.1 hj).1
  have hn : xs.length = n := hC.now.1
  subst hn
  obtain ⟨ad, rfl, _⟩ := hC.now.2.2 (by omega)
  obtain ⟨ha, es, e1, e2, e3, e4, e5⟩ := rd_rows hsz hC (by omega)
  have hej : es[j]? = some es[j] := List.getElem?_eq_getElem (by omega)
  have hF := e5 j t _ hj hej
  refine ⟨ad, es[j], rfl, hF.now, ?_⟩
  have H1 := H.addF1 k h (fun _ q => q) _ ok (fun _ q => q) hF
  have H2 := H1.addF1 k (p := fun W => ∀ i v, es[j][i]? = some v → W.cell? ((ad.add (j * d.sz)).add i) = some v) (A := Asn.rd d ok (some ad) xs.length xs) (by rw [List.getElem?_append_left (List.getElem?_eq_some_iff.1 h).1]; exact h) (fun _ q => q) ok (fun _ q => q) (fun W' hW i v hi => by
    have hc := e4 j _ hej i v hi
    rw [addr_add_add]
    have hlt := World.block_lt_of_cell? W _ hc
    rw [addr_block] at hlt
    rw [World.cell?_of_block (w := W) (w' := W') (by rw [addr_block]; exact hW _ ha hlt)]
    exact hc)
  rw [List.append_assoc] at H2
  exact H2
end
section
variable {P : Program} {a : Act} {W : World} {x y : Operand} {ty : TypeId}
theorem x_indexE {s e : TypeId} {k : IntKind} {j n c m : Nat} {A : Option Addr} {ad : Addr} (hu : P.underlying s = some (.slice e)) (hz : (sizeOf e).run P W = .ok m W) (hx : a.eval x = .slice A n c) (hA : A = some ad) (hy : a.eval y = .int k (j : Int)) (h1 : j < n) : (ex a (.indexAddr s x y) ty).run P W = .ok (.value (.pointer (some (ad.add (j * m))))) W := by
  subst hA
  have := x_indexSl (P := P) (ty := ty) hu hz hx hy (Int.natCast_nonneg j) (by omega)
  rwa [Int.toNat_natCast] at this
end
end Go.Proofs.YtndicjikjcifaaaDoor
