/- wire.Int, wire.GetInt: the numbers. -/
import Derived.Test.YtndicjikjcifaaaDoorProg
import Derived.ScopeJumps
import Derived.Laws.Shifts
import Derived.Laws.ShiftsVarLaws
import Derived.Lib.Hide
import Derived.Test.YtndicjikjcifaaaDoorBase
import Derived.Lib.EndianBits
import Derived.Laws.BitsAllLaws
namespace Go.Proofs.YtndicjikjcifaaaDoor
open Go.RowKit Go.Proofs.YtndicjikjcifaaaDoorW.PrintWords Go.Proofs.YtndicjikjcifaaaDoorW.PrintLast Go.Proofs.YtndicjikjcifaaaDoorW.PrintMore
set_option linter.unusedVariables false
set_option linter.unusedSimpArgs false

theorem wp_scope_once {P : Program} {a : Act} {w : World} {Q : Exit → Act → World → Prop} {c rest : Code} (l : Nat) (J : Act → World → Prop) (μ : Act → World → Nat) (hf : findLabel c l = some (Code.skip.seq rest))
    (pass : ∀ a w, J a w → rest.wp P (Exit.jump l (fun a' w' => J a' w' ∧ μ a' w' < μ a w) Q) a w)
    (first : (∀ a w, J a w → rest.wp P (Exit.jump l J Q) a w) → c.wp P (Exit.jump l J Q) a w) : (Code.scope c).wp P Q a w :=
  wp_scope_jumps l J μ hf (first fun a w h => wp_mono (pass a w h) (fun e a' w' h' => by
    cases e <;> first | exact h' | exact ⟨h'.1, h'.2.1⟩)) (fun a w h => wp_seq (wp_skip (pass a w h)))

def bn (s : ByteArray) (i : Nat) : Nat := if h : i < s.size then (s[i]'h).toNat else 0
theorem bn_lt (s : ByteArray) (i : Nat) : bn s i < 256 := by
  by_cases h : i < s.size
  · simp only [bn, dif_pos h]; exact UInt8.toNat_lt _
  · simp only [bn, dif_neg h]; omega
theorem b_low (c : Nat) (hc : c < 256) : bits .andNot .u8 (c : Int) 128 = ((c % 128 : Nat) : Int) := by
  have := u8_andNot_nat c 128 hc (by omega)
  rw [show (((128 : Nat)) : Int) = 128 from rfl] at this
  rw [this, show 255 - 128 = 127 from rfl, nat_mask7]
set_option maxRecDepth 10000 in
theorem b_or (c : Nat) (hc : c < 256) : bits .or .u8 (c : Int) 128 = ((c % 128 + 128 : Nat) : Int) := by
  have := u8_or_nat c 128 hc (by omega)
  rw [show (((128 : Nat)) : Int) = 128 from rfl] at this
  rw [this]
  have h : ∀ c : Fin 256, c.val ||| 128 = c.val % 128 + 128 := by decide
  exact congrArg _ (h ⟨c, hc⟩)
theorem b_top (c : Nat) (hc : c < 256) : bits .and .u8 (c : Int) 128 = if c < 128 then 0 else 128 := by
  have := u8_and_nat c 128 hc (by omega)
  rw [show (((128 : Nat)) : Int) = 128 from rfl] at this
  rw [this, show (128 : Nat) = 2 ^ 7 from rfl, nat_bit 7 c]
  by_cases h : c < 2 ^ 7
  · rw [if_pos h, Nat.div_eq_of_lt h]; rfl
  · rw [if_neg h]
    have : c / 2 ^ 7 = 1 := by omega
    rw [this]; rfl
theorem b_pow (i m : Nat) (hi : i ≤ 8) (hm : m < 128) : m * 2 ^ (7 * i) < 9223372036854775808 ∧ 2 ^ (7 * i) * 128 ≤ 9223372036854775808 := by
  have h1 : 2 ^ (7 * i) ≤ 2 ^ 56 := Nat.pow_le_pow_right (by omega) (by omega)
  have h2 : m * 2 ^ (7 * i) ≤ 127 * 2 ^ (7 * i) := Nat.mul_le_mul_right _ (by omega)
  constructor <;> omega
theorem b_sum (n i m : Nat) (hm : m < 128) (hn : n < 2 ^ (7 * i)) : n + m * 2 ^ (7 * i) < 2 ^ (7 * (i + 1)) := by
  have h2 : m * 2 ^ (7 * i) ≤ 127 * 2 ^ (7 * i) := Nat.mul_le_mul_right _ (by omega)
  have h3 : 2 ^ (7 * (i + 1)) = 2 ^ (7 * i) * 2 ^ 7 := by rw [← Nat.pow_add]; congr 1
  omega
theorem b_join (n i m : Nat) (hi : i ≤ 8) (hm : m < 128) (hn : n < 2 ^ (7 * i)) : bits .or .u64 (n : Int) ((m * 2 ^ (7 * i) : Nat) : Int) = ((n + m * 2 ^ (7 * i) : Nat) : Int) := by
  have := b_pow i m hi hm
  rw [u64_or_nat n _ (by omega) (by omega), Nat.or_comm, nat_join (7 * i) _ _ (by simp) hn, Nat.add_comm]
def gi (s : ByteArray) : Nat → Nat → Nat → Int × Int × Int
  | 0, _, _ => (0, 0, 2)
  | k + 1, i, n => if i = s.size then (0, 0, 1) else
    if bn s i < 128 then
      (if n + bn s i * 2 ^ (7 * i) > 4611686018427387903 then (0, 0, 2)
       else if bn s i = 0 ∧ 0 < i then (0, 0, 3) else (((n + bn s i * 2 ^ (7 * i) : Nat) : Int), ((i + 1 : Nat) : Int), 0))
    else gi s k (i + 1) (n + (bn s i - 128) * 2 ^ (7 * i))
def wire_GetInt.f (a0 : ByteArray) : Option (Int × Int × Int) := some (gi a0 9 0 0)

set_option maxHeartbeats 8000000 in
set_option maxRecDepth 100000 in
theorem wire_GetInt.calls (a0 : ByteArray) (r1 r2 r3 : Int) (w : World) (h : wire_GetInt.f a0 = some (r1, r2, r3)) :
    Calls Tryd.prog 60 #[.string a0] w fun e w' => e = .returned (.tuple #[.int .i64 r1, .int .i64 r2, .int .i64 r3]) ∧ Drawn0 w w' := by
  have HR := Lib.hid (Option.some.inj h)
  clear h
  go_enter Tryd.func60, Tryd.ntmps60
  go_wp2
  refine wp_scope_once 0 (fun a' w' => Drawn0 w w' ∧ ∃ (i n : Nat) (u7 u8 u9 u10 u11 u12 u13 u14 u15 u16 u17 u18 u19 u20 u21 u22 u23 u24 u25 u26 u27 u28 u29 u30 u31 u32 u33 u34 u35 u36 u37 u38 u39 u40 u41 u42 u43 u44 : Value), a' = { tmps := #[.string a0, undef, .int .i64 0, .int .i64 0, .int .i64 0, .int .u64 n, .int .i64 i, u7, u8, u9, u10, u11, u12, u13, u14, u15, u16, u17, u18, u19, u20, u21, u22, u23, u24, u25, u26, u27, u28, u29, u30, u31, u32, u33, u34, u35, u36, u37, u38, u39, u40, u41, u42, u43, u44], defers := [] } ∧ i ≤ 9 ∧ i ≤ a0.size ∧ n < 2 ^ (7 * i) ∧ gi a0 (9 - i) i n = (r1, r2, r3)) (fun a' _ => 9 - (match a'.tmps.getD 6 undef with | .int _ q => q.toNat | _ => 0)) rfl ?_ ?_
  · rintro a' w' ⟨⟨nd, rfl⟩, i, n, u7, u8, u9, u10, u11, u12, u13, u14, u15, u16, u17, u18, u19, u20, u21, u22, u23, u24, u25, u26, u27, u28, u29, u30, u31, u32, u33, u34, u35, u36, u37, u38, u39, u40, u41, u42, u43, u44, rfl, hi, his, hn, HG⟩
    have HN := Lib.hid hn
    clear hn HR
    rcases Nat.eq_or_lt_of_le hi with h9 | h9
    · subst h9
      have E := HG
      simp [gi] at E
      obtain ⟨rfl, rfl, rfl⟩ := E
      clear HG
      go_wp2
      simp only [Exit.jump]
      go_ret3
      exact ⟨rfl, ⟨nd, rfl⟩⟩
    obtain ⟨k, hk⟩ : ∃ k, 9 - i = k + 1 := ⟨8 - i, by omega⟩
    rw [hk, gi] at HG
    have b9 : ((i : Int) == 9) = false := by simp; omega
    by_cases hs : i = a0.size
    · rw [if_pos hs] at HG
      have bs : ((i : Int) == (a0.size : Int)) = true := by simp [hs]
      injection HG with e1 e2
      injection e2 with e2 e3
      subst e1 e2 e3
      clear hs
      go_wp2
      simp only [Exit.jump]
      go_ret3
      exact ⟨rfl, ⟨nd, rfl⟩⟩
    · rw [if_neg hs] at HG
      have bs : ((i : Int) == (a0.size : Int)) = false := by simp; omega
      have HG' := Lib.hid HG
      clear HG
      have p6 := eq_true (show 0 ≤ (i : Int) by omega)
      have hlt : i < a0.size := by omega
      · have q6 := eq_true (show (i : Int) < (a0.size : Int) by omega)
        have hc := bn_lt a0 i
        have hx6 : ∀ h : i < a0.size, (a0[i]'h).toNat = bn a0 i := fun h => by simp [bn, h]
        generalize bn a0 i = c at hx6 hc HG'
        obtain ⟨m, hm⟩ : ∃ m, m = c % 128 := ⟨_, rfl⟩
        have hm1 : m < 128 := by omega
        have e1 := b_low c hc
        rw [← hm] at e1
        have e2 : IntKind.u64.wrap (m : Int) = m := wraps_u64 _ (by omega) (by omega)
        have e3 : IntKind.u64.wrap ((m : Int) * 2 ^ (7 * i)) = ((m * 2 ^ (7 * i) : Nat) : Int) := by
          have := b_pow i m (by omega) hm1
          rw [show (m : Int) * 2 ^ (7 * i) = ((m * 2 ^ (7 * i) : Nat) : Int) by simp]
          exact wraps_u64 _ (by omega) (by omega)
        have e4 := b_join n i m (by omega) hm1 HN
        have hs1 := b_sum n i m hm1 HN
        have hs2 := (b_pow i m (by omega) hm1).2
        generalize hM : m * 2 ^ (7 * i) = M at e3 e4 hs1
        have e5 := b_top c hc
        by_cases ht : c < 128
        · rw [if_pos ht] at e5
          have HG := HG'
          rw [if_pos ht] at HG
          have hcm : c = m := by omega
          rw [hcm, hM] at HG
          subst hcm
          have HS1 := Lib.hid hs1
          clear hm
          by_cases hbig : n + M > 4611686018427387903
          · rw [if_pos hbig] at HG
            injection HG with g1 g2
            injection g2 with g2 g3
            subst g1 g2 g3
            have d1 : decide (4611686018427387903 < (n : Int) + (M : Int)) = true := by simp; omega
            clear hbig hs1 hs2 HG' hM ht
            go_wp2
            simp only [Exit.jump]
            go_ret3
            exact ⟨rfl, ⟨nd, rfl⟩⟩
          · rw [if_neg hbig] at HG
            have d1 : decide (4611686018427387903 < (n : Int) + (M : Int)) = false := by simp; omega
            have e7 : wrap64 ((n : Int) + (M : Int)) = ((n + M : Nat) : Int) := by rw [wrap64]; omega
            clear hbig hs1 hs2 HG' hM ht
            by_cases hz : c = 0 ∧ 0 < i
            · rw [if_pos hz] at HG
              injection HG with g1 g2
              injection g2 with g2 g3
              subst g1 g2 g3
              have d2 : ((c : Int) == 0) = true := by simp; omega
              have d3 : decide (1 < (i : Int) + 1) = true := by simp; omega
              clear hz
              go_wp2
              simp only [Exit.jump]
              go_ret3
              exact ⟨rfl, ⟨nd, rfl⟩⟩
            · rw [if_neg hz] at HG
              injection HG with g1 g2
              injection g2 with g2 g3
              subst g1 g2 g3
              by_cases hz0 : c = 0
              · have d2 : ((c : Int) == 0) = true := by simp; omega
                have d3 : decide (1 < (i : Int) + 1) = false := by simp; omega
                clear hz hz0
                go_wp2
                simp only [Exit.jump]
                go_ret3
                exact ⟨rfl, ⟨nd, rfl⟩⟩
              · have d2 : ((c : Int) == 0) = false := by simp; omega
                clear hz hz0
                go_wp2
                simp only [Exit.jump]
                go_ret3
                exact ⟨rfl, ⟨nd, rfl⟩⟩
        · rw [if_neg ht] at e5
          have HG := HG'
          rw [if_neg ht, show c - 128 = m by omega, hM] at HG
          have HS1 := Lib.hid hs1
          have HX := Lib.hid HG
          clear hs1 hs2 HG HG' hM hm
          go_wp2
          refine wp_goto ?_
          refine ⟨rfl, ⟨⟨nd, rfl⟩, i + 1, n + M, _, _, _, _, _, _, _, _, _, _, _, _, _, _, _, _, _, _, _, _, _, _, _, _, _, _, _, _, _, _, _, _, _, _, _, _, _, _, rfl, by omega, by omega, HS1, ?_⟩, ?_⟩
          · rw [show 9 - (i + 1) = k by omega]; exact HX
          · simp; omega
  · intro go
    go_wp2
    refine wp_label ?_
    rename_i hK
    refine hK _ _ (go _ _ ⟨Drawn0.refl _, 0, 0, _, _, _, _, _, _, _, _, _, _, _, _, _, _, _, _, _, _, _, _, _, _, _, _, _, _, _, _, _, _, _, _, _, _, _, _, _, _, rfl, by omega, by omega, by omega, HR⟩)

def vints (n : Nat) : List Int := if h : n < 128 then [(n : Int)] else ((n % 128 + 128 : Nat) : Int) :: vints (n / 128)
termination_by n
def wire_Int.f (a0 : Int) : Option ByteArray := some (if a0 < 0 ∨ a0 > 4611686018427387903 then ⟨#[]⟩ else strOfNums (vints a0.toNat))
def c8 (x : Int) : List Value := [.int .u8 x]
theorem c8_one (x : Int) : ∀ u ∈ c8 x, u.oneCell' = true := by simp [c8, Value.oneCell']
theorem c8_nums {e base : Nat} {w : World} {v : Value} {xs : List Int} (h : FR c8 1 e base w v xs) : w.ownsRow base e 1 v xs.length (nums .u8 xs) := by
  have : xs.flatMap c8 = nums .u8 xs := by
    clear h
    induction xs with
    | nil => rfl
    | cons x xs ih => rw [List.flatMap_cons, ih]; rfl
  rw [← this]; exact h

set_option maxHeartbeats 8000000 in
set_option maxRecDepth 100000 in
theorem wire_Int.calls (a0 : Int) (r : ByteArray) (w : World) (h : wire_Int.f a0 = some r) :
    Calls Tryd.prog 62 #[.int .i64 a0] w fun e w' => e = .returned (.string r) ∧ Below w.heap.size w w' := by
  have HR := Lib.hid (Option.some.inj h)
  clear h
  go_enter Tryd.func62, Tryd.ntmps62
  go_wp2
  refine wp_scope_once 0 (fun a' w' => Below w.heap.size w w' ∧ ∃ (m : Nat) (acc : List Int) (v u1 u4 u5 u6 u7 u8 u9 u10 u11 u12 u13 u14 u15 u16 u17 u18 u19 u20 u21 u22 u23 u24 u25 : Value), a' = { tmps := #[.int .i64 m, u1, .string ⟨#[]⟩, v, u4, u5, u6, u7, u8, u9, u10, u11, u12, u13, u14, u15, u16, u17, u18, u19, u20, u21, u22, u23, u24, u25], defers := [] } ∧ FR c8 1 5 w.heap.size w' v acc ∧ acc.length ≤ 8 ∧ m < 2 ^ (63 - 7 * acc.length) ∧ strOfNums (acc ++ vints m) = r) (fun a' _ => (match a'.tmps.getD 0 undef with | .int _ q => q.toNat | _ => 0)) rfl ?_ ?_
  · rintro a' w' ⟨HB, m, acc, v, u1, u4, u5, u6, u7, u8, u9, u10, u11, u12, u13, u14, u15, u16, u17, u18, u19, u20, u21, u22, u23, u24, u25, rfl, HF, hl, hm, HV⟩
    have HB := Lib.hid HB
    have HF := Lib.hid HF
    by_cases h1 : m < 128
    · have d1 : decide ((128 : Int) ≤ (m : Int)) = false := by simp; omega
      have e1 : IntKind.u8.wrap (m : Int) = m := by rw [IntKind.wrap_u8]; omega
      go_wp2_with (first | (
        (with_reducible refine gate_dst (N := 24) rfl ?_)
        refine fr_app_list (c := c8) rfl (w0 := w') w.heap.size (.tmp 20) (.tmp 23) 104 5 (.int .u8 0) 1 1 rfl Tryd.underlying104 (by kernel_rfl) rfl (by decide) v acc (m : Int) (by simp [Act.eval]) (w'.heap.size) (by simp [Act.eval]) 5 (0, 0) (blk_new _ _) rfl (c8_one _) HF.out ((Below.refl _ w').alloc (Nat.le_refl _) _) HB.out.size (by unfold maxLen; omega) (by omega) ?_
        intro g1 cap w1 HR1 hO hbg hat
        have hcv := own_string (P := Tryd.prog) (src := 104) (dst := 9) Tryd.underlying104 Tryd.underlying5 Tryd.underlying9 (c8_nums HR1)
        have HO := Lib.hid hO
        clear HR1 hO hat))
      simp only [Exit.jump]
      go_ret
      rw [vints, dif_pos h1] at HV
      exact ⟨by rw [← HV]; rfl, (HB.out.alloc HB.out.size _).trans (HO.out.below (by simp; have := HB.out.size; omega) (fun k hk => (HF.out.lt k hk).1))⟩
    · have d1 : decide ((128 : Int) ≤ (m : Int)) = true := by simp; omega
      obtain ⟨q, hq⟩ : ∃ q, q = m % 256 := ⟨_, rfl⟩
      obtain ⟨b, hb⟩ : ∃ b, b = m % 128 + 128 := ⟨_, rfl⟩
      have e1 : IntKind.u8.wrap (m : Int) = (q : Int) := by rw [IntKind.wrap_u8]; omega
      have e2 : bits .or .u8 (q : Int) 128 = (b : Int) := by rw [b_or q (by omega)]; omega
      have hL : acc.length + 1 ≤ 8 := by
        rcases Nat.lt_or_ge acc.length 8 with h | h
        · omega
        · rw [show acc.length = 8 by omega] at hm; omega
      have hm' : m / 128 < 2 ^ (63 - 7 * (acc.length + 1)) := by
        rw [Nat.div_lt_iff_lt_mul (by omega), show (128 : Nat) = 2 ^ 7 from rfl, ← Nat.pow_add, show 63 - 7 * (acc.length + 1) + 7 = 63 - 7 * acc.length by omega]
        exact hm
      rw [vints, dif_neg h1] at HV
      rw [← hb] at HV
      have HM' := Lib.hid hm'
      have HV' := Lib.hid HV
      clear hm' HV hm hb hq
      go_wp2_with (first | (
        (with_reducible refine gate_dst (N := 17) rfl ?_)
        refine fr_app_list (c := c8) rfl (w0 := w') w.heap.size (.tmp 12) (.tmp 16) 104 5 (.int .u8 0) 1 1 rfl Tryd.underlying104 (by kernel_rfl) rfl (by decide) v acc (b : Int) (by simp [Act.eval]) (w'.heap.size) (by simp [Act.eval]) 5 (0, 0) (blk_new _ _) rfl (c8_one _) HF.out ((Below.refl _ w').alloc (Nat.le_refl _) _) HB.out.size (by unfold maxLen; omega) (by omega) ?_
        intro g1 cap w1 HR1 hO hbg hat
        have HF1 := Lib.hid HR1
        have HO := Lib.hid hO
        clear HR1 hO hat))
      refine wp_goto ?_
      refine ⟨rfl, ⟨(HB.out.alloc HB.out.size _).trans (HO.out.below (by simp; have := HB.out.size; omega) (fun k hk => (HF.out.lt k hk).1)), m / 128, acc ++ [(b : Int)], _, _, _, _, _, _, _, _, _, _, _, _, _, _, _, _, _, _, _, _, _, _, _, _, rfl, by simpa using HF1.out, by simpa using hL, by simpa using HM'.out, by simpa using HV'.out⟩, ?_⟩
      simp
      omega
  · intro go
    by_cases h0 : a0 < 0 ∨ a0 > 4611686018427387903
    · have HX := HR
      rw [if_pos h0] at HX
      have HX := Lib.hid HX
      clear HR
      by_cases h1 : a0 < 0
      · have d1 : decide (a0 < 0) = true := by simp; omega
        clear h0 h1 go
        go_wp2
        simp only [Exit.jump]
        go_ret
        exact ⟨by rw [← HX.out.out]; rfl, Below.refl _ w⟩
      · have d1 : decide (a0 < 0) = false := by simp; omega
        have d2 : decide (4611686018427387903 < a0) = true := by simp; omega
        clear h0 h1 go
        go_wp2
        simp only [Exit.jump]
        go_ret
        exact ⟨by rw [← HX.out.out]; rfl, Below.refl _ w⟩
    have HX := HR
    rw [if_neg h0] at HX
    have HX := Lib.hid HX
    clear HR
    obtain ⟨n, rfl⟩ : ∃ n : Nat, a0 = n := ⟨a0.toNat, by omega⟩
    have d1 : decide ((n : Int) < 0) = false := by simp
    have d2 : decide (4611686018427387903 < (n : Int)) = false := by simp; omega
    go_wp2
    refine wp_label ?_
    rename_i hK
    refine hK _ _ (go _ _ ⟨Below.refl _ _, n, [], _, _, _, _, _, _, _, _, _, _, _, _, _, _, _, _, _, _, _, _, _, _, _, _, rfl, FR.nil _ _ _ _ _, by simp, by simp; omega, HX.out⟩)
end Go.Proofs.YtndicjikjcifaaaDoor
