/- tx.Decode: all ways joined. -/
import Derived.Test.YtndicjikjcifaaaDoorTxdecb
import Derived.Test.YtndicjikjcifaaaDoorWirel
namespace Go.Proofs.YtndicjikjcifaaaDoor
open Go.RowKit Go.Shelf Go.Lib Go.Proofs.YtndicjikjcifaaaDoorW.PrintWords Go.Proofs.YtndicjikjcifaaaDoorW.PrintLast
set_option linter.unusedVariables false
set_option linter.unusedSimpArgs false

def bindE {α : Type} (x : α × Int × Int) (s : ByteArray) (k : α → ByteArray → Dec) : Dec := if x.2.2 = 0 then k x.1 (rest s x.2.1) else derr x.2.2
theorem bindE_no {α : Type} {x : α × Int × Int} {s : ByteArray} {k : α → ByteArray → Dec} (h : x.2.2 ≠ 0) : bindE x s k = derr x.2.2 := if_neg h
theorem bindE_ok {α : Type} {x : α × Int × Int} {s s' : ByteArray} {k : α → ByteArray → Dec} {a : α} {n : Int} (h : x = (a, n, 0)) (hr : rest s n = s') : bindE x s k = k a s' := by
  subst h
  subst hr
  exact if_pos rfl
theorem ok_of {α : Type} {x : α × Int × Int} (h : x.2.2 = 0) : ∃ a n, x = (a, n, 0) := ⟨x.1, x.2.1, by rw [← h]⟩
/-- What tx.Decode answers. -/
def dec (s : ByteArray) : Dec :=
  bindE (gi s 9 0 0) s fun kd s1 => bindE (gt s1) s1 fun f s2 => bindE (gt s2) s2 fun t s3 => bindE (gi s3 9 0 0) s3 fun am s4 => bindE (gi s4 9 0 0) s4 fun nc s5 =>
  bindE (gt s5) s5 fun ky' s6 => bindE (gt s6) s6 fun vl s7 => bindE (gl s7 8) s7 fun rs s8 => bindE (gl s8 8) s8 fun ws s9 =>
  if kd ≤ 2 then (if s9.toList.isEmpty = true then fin9 kd f t am nc ky' vl rs ws else derr 6) else derr 2
theorem dec_calls (s : ByteArray) (w : World) (hs : s.size < 4611686018427387904) :
    Calls Tryd.prog 25 #[.string s] w fun e w' => DP (dec s) w e w' := by
  have D : dec s = dec s := rfl
  conv at D => rhs; unfold dec
  by_cases h1 : (gi s 9 0 0).2.2 = 0
  case neg =>
    rw [D.trans (bindE_no h1)]
    exact (dec_no1 s w (Lib.hid h1)).mono fun e w' h => DP_err _ h.1 h.2
  obtain ⟨kd, k1, E1⟩ := ok_of h1
  have hkd := (gi_ok s 9 0 0 (by omega) h1).1
  rw [E1] at hkd
  obtain ⟨s1, R1⟩ : ∃ s1, rest s k1 = s1 := ⟨_, rfl⟩
  have Z1 : s1.size < 4611686018427387904 := by have := rest_size s k1; rw [R1] at this; omega
  have D := D.trans (bindE_ok E1 R1)
  clear h1
  by_cases h2 : (gt s1).2.2 = 0
  case neg =>
    rw [D.trans (bindE_no h2)]
    exact (dec_no2 s s1 kd k1 w (Lib.hid E1) (Lib.hid R1) (Lib.hid Z1) (Lib.hid h2)).mono fun e w' h => DP_err _ h.1 h.2
  obtain ⟨f, k2, E2⟩ := ok_of h2
  obtain ⟨s2, R2⟩ : ∃ s2, rest s1 k2 = s2 := ⟨_, rfl⟩
  have Z2 : s2.size < 4611686018427387904 := by have := rest_size s1 k2; rw [R2] at this; omega
  have D := D.trans (bindE_ok E2 R2)
  clear h2
  by_cases h3 : (gt s2).2.2 = 0
  case neg =>
    rw [D.trans (bindE_no h3)]
    exact (dec_no3 s s1 s2 kd k1 f k2 w (Lib.hid E1) (Lib.hid R1) (Lib.hid Z1) (Lib.hid E2) (Lib.hid R2) (Lib.hid Z2) (Lib.hid h3)).mono fun e w' h => DP_err _ h.1 h.2
  obtain ⟨t, k3, E3⟩ := ok_of h3
  obtain ⟨s3, R3⟩ : ∃ s3, rest s2 k3 = s3 := ⟨_, rfl⟩
  have Z3 : s3.size < 4611686018427387904 := by have := rest_size s2 k3; rw [R3] at this; omega
  have D := D.trans (bindE_ok E3 R3)
  clear h3
  by_cases h4 : (gi s3 9 0 0).2.2 = 0
  case neg =>
    rw [D.trans (bindE_no h4)]
    exact (dec_no4 s s1 s2 s3 kd k1 f k2 t k3 w (Lib.hid E1) (Lib.hid R1) (Lib.hid Z1) (Lib.hid E2) (Lib.hid R2) (Lib.hid Z2) (Lib.hid E3) (Lib.hid R3) (Lib.hid Z3) (Lib.hid h4)).mono fun e w' h => DP_err _ h.1 h.2
  obtain ⟨am, k4, E4⟩ := ok_of h4
  obtain ⟨s4, R4⟩ : ∃ s4, rest s3 k4 = s4 := ⟨_, rfl⟩
  have Z4 : s4.size < 4611686018427387904 := by have := rest_size s3 k4; rw [R4] at this; omega
  have D := D.trans (bindE_ok E4 R4)
  clear h4
  by_cases h5 : (gi s4 9 0 0).2.2 = 0
  case neg =>
    rw [D.trans (bindE_no h5)]
    exact (dec_no5 s s1 s2 s3 s4 kd k1 f k2 t k3 am k4 w (Lib.hid E1) (Lib.hid R1) (Lib.hid Z1) (Lib.hid E2) (Lib.hid R2) (Lib.hid Z2) (Lib.hid E3) (Lib.hid R3) (Lib.hid Z3) (Lib.hid E4) (Lib.hid R4) (Lib.hid Z4) (Lib.hid h5)).mono fun e w' h => DP_err _ h.1 h.2
  obtain ⟨nc, k5, E5⟩ := ok_of h5
  obtain ⟨s5, R5⟩ : ∃ s5, rest s4 k5 = s5 := ⟨_, rfl⟩
  have Z5 : s5.size < 4611686018427387904 := by have := rest_size s4 k5; rw [R5] at this; omega
  have D := D.trans (bindE_ok E5 R5)
  clear h5
  by_cases h6 : (gt s5).2.2 = 0
  case neg =>
    rw [D.trans (bindE_no h6)]
    exact (dec_no6 s s1 s2 s3 s4 s5 kd k1 f k2 t k3 am k4 nc k5 w (Lib.hid E1) (Lib.hid R1) (Lib.hid Z1) (Lib.hid E2) (Lib.hid R2) (Lib.hid Z2) (Lib.hid E3) (Lib.hid R3) (Lib.hid Z3) (Lib.hid E4) (Lib.hid R4) (Lib.hid Z4) (Lib.hid E5) (Lib.hid R5) (Lib.hid Z5) (Lib.hid h6)).mono fun e w' h => DP_err _ h.1 h.2
  obtain ⟨ky', k6, E6⟩ := ok_of h6
  obtain ⟨s6, R6⟩ : ∃ s6, rest s5 k6 = s6 := ⟨_, rfl⟩
  have Z6 : s6.size < 4611686018427387904 := by have := rest_size s5 k6; rw [R6] at this; omega
  have D := D.trans (bindE_ok E6 R6)
  clear h6
  by_cases h7 : (gt s6).2.2 = 0
  case neg =>
    rw [D.trans (bindE_no h7)]
    exact (dec_no7 s s1 s2 s3 s4 s5 s6 kd k1 f k2 t k3 am k4 nc k5 ky' k6 w (Lib.hid E1) (Lib.hid R1) (Lib.hid Z1) (Lib.hid E2) (Lib.hid R2) (Lib.hid Z2) (Lib.hid E3) (Lib.hid R3) (Lib.hid Z3) (Lib.hid E4) (Lib.hid R4) (Lib.hid Z4) (Lib.hid E5) (Lib.hid R5) (Lib.hid Z5) (Lib.hid E6) (Lib.hid R6) (Lib.hid Z6) (Lib.hid h7)).mono fun e w' h => DP_err _ h.1 h.2
  obtain ⟨vl, k7, E7⟩ := ok_of h7
  obtain ⟨s7, R7⟩ : ∃ s7, rest s6 k7 = s7 := ⟨_, rfl⟩
  have Z7 : s7.size < 4611686018427387904 := by have := rest_size s6 k7; rw [R7] at this; omega
  have D := D.trans (bindE_ok E7 R7)
  clear h7
  by_cases h8 : (gl s7 8).2.2 = 0
  case neg =>
    rw [D.trans (bindE_no h8)]
    exact (dec_no8 s s1 s2 s3 s4 s5 s6 s7 kd k1 f k2 t k3 am k4 nc k5 ky' k6 vl k7 w (Lib.hid E1) (Lib.hid R1) (Lib.hid Z1) (Lib.hid E2) (Lib.hid R2) (Lib.hid Z2) (Lib.hid E3) (Lib.hid R3) (Lib.hid Z3) (Lib.hid E4) (Lib.hid R4) (Lib.hid Z4) (Lib.hid E5) (Lib.hid R5) (Lib.hid Z5) (Lib.hid E6) (Lib.hid R6) (Lib.hid Z6) (Lib.hid E7) (Lib.hid R7) (Lib.hid Z7) (Lib.hid h8)).mono fun e w' h => DP_err _ h.1 h.2
  obtain ⟨rs, k8, E8⟩ := ok_of h8
  obtain ⟨s8, R8⟩ : ∃ s8, rest s7 k8 = s8 := ⟨_, rfl⟩
  have Z8 : s8.size < 4611686018427387904 := by have := rest_size s7 k8; rw [R8] at this; omega
  have D := D.trans (bindE_ok E8 R8)
  clear h8
  by_cases h9 : (gl s8 8).2.2 = 0
  case neg =>
    rw [D.trans (bindE_no h9)]
    exact (dec_no9 s s1 s2 s3 s4 s5 s6 s7 s8 kd k1 f k2 t k3 am k4 nc k5 ky' k6 vl k7 rs k8 w (Lib.hid E1) (Lib.hid R1) (Lib.hid Z1) (Lib.hid E2) (Lib.hid R2) (Lib.hid Z2) (Lib.hid E3) (Lib.hid R3) (Lib.hid Z3) (Lib.hid E4) (Lib.hid R4) (Lib.hid Z4) (Lib.hid E5) (Lib.hid R5) (Lib.hid Z5) (Lib.hid E6) (Lib.hid R6) (Lib.hid Z6) (Lib.hid E7) (Lib.hid R7) (Lib.hid Z7) (Lib.hid E8) (Lib.hid R8) (Lib.hid Z8) (Lib.hid h9)).mono fun e w' h => DP_err _ h.1 h.2
  obtain ⟨ws, k9, E9⟩ := ok_of h9
  obtain ⟨s9, R9⟩ : ∃ s9, rest s8 k9 = s9 := ⟨_, rfl⟩
  have Z9 : s9.size < 4611686018427387904 := by have := rest_size s8 k9; rw [R9] at this; omega
  have D := D.trans (bindE_ok E9 R9)
  clear h9
  rw [D]
  clear D
  by_cases hk : kd ≤ 2
  case neg =>
    rw [if_neg hk]
    exact (dec_kind s s1 s2 s3 s4 s5 s6 s7 s8 s9 kd k1 f k2 t k3 am k4 nc k5 ky' k6 vl k7 rs k8 ws k9 w (Lib.hid E1) (Lib.hid R1) (Lib.hid Z1) (Lib.hid E2) (Lib.hid R2) (Lib.hid Z2) (Lib.hid E3) (Lib.hid R3) (Lib.hid Z3) (Lib.hid E4) (Lib.hid R4) (Lib.hid Z4) (Lib.hid E5) (Lib.hid R5) (Lib.hid Z5) (Lib.hid E6) (Lib.hid R6) (Lib.hid Z6) (Lib.hid E7) (Lib.hid R7) (Lib.hid Z7) (Lib.hid E8) (Lib.hid R8) (Lib.hid Z8) (Lib.hid E9) (Lib.hid R9) (Lib.hid Z9) hk).mono fun e w' h => DP_err _ h.1 h.2
  rw [if_pos hk]
  cases hm : s9.toList.isEmpty with
  | false =>
    rw [if_neg (by simp)]
    exact (dec_more s s1 s2 s3 s4 s5 s6 s7 s8 s9 kd k1 f k2 t k3 am k4 nc k5 ky' k6 vl k7 rs k8 ws k9 w (Lib.hid E1) (Lib.hid R1) (Lib.hid Z1) (Lib.hid E2) (Lib.hid R2) (Lib.hid Z2) (Lib.hid E3) (Lib.hid R3) (Lib.hid Z3) (Lib.hid E4) (Lib.hid R4) (Lib.hid Z4) (Lib.hid E5) (Lib.hid R5) (Lib.hid Z5) (Lib.hid E6) (Lib.hid R6) (Lib.hid Z6) (Lib.hid E7) (Lib.hid R7) (Lib.hid Z7) (Lib.hid E8) (Lib.hid R8) (Lib.hid Z8) (Lib.hid E9) (Lib.hid R9) (Lib.hid Z9) hk hm).mono fun e w' h => DP_err _ h.1 h.2
  | true =>
    rw [if_pos rfl]
    exact dec_chk s s1 s2 s3 s4 s5 s6 s7 s8 s9 kd k1 f k2 t k3 am k4 nc k5 ky' k6 vl k7 rs k8 ws k9 w (Lib.hid E1) (Lib.hid R1) (Lib.hid Z1) (Lib.hid E2) (Lib.hid R2) (Lib.hid Z2) (Lib.hid E3) (Lib.hid R3) (Lib.hid Z3) (Lib.hid E4) (Lib.hid R4) (Lib.hid Z4) (Lib.hid E5) (Lib.hid R5) (Lib.hid Z5) (Lib.hid E6) (Lib.hid R6) (Lib.hid Z6) (Lib.hid E7) (Lib.hid R7) (Lib.hid Z7) (Lib.hid E8) (Lib.hid R8) (Lib.hid Z8) (Lib.hid E9) (Lib.hid R9) (Lib.hid Z9) hk hkd hm
/-- The printer's form. -/
def tx_Decode.f (s : ByteArray) : Option Dec := if s.size < 4611686018427387904 then some (dec s) else none
theorem tx_Decode.calls (a0 : ByteArray) (r1 : Int) (r2 r3 : ByteArray) (r4 r5 : Int) (r6 r7 : ByteArray) (l8 l9 : List ByteArray) (r10 : Int) (w : World) (h : tx_Decode.f a0 = some (r1, r2, r3, r4, r5, r6, r7, l8, l9, r10)) :
    Calls Tryd.prog 25 #[.string a0] w fun e w' => ∃ v8 v9, e = .returned (.tuple #[.agg #[.int .i64 r1, .string r2, .string r3, .int .u64 r4, .int .u64 r5, .string r6, .string r7, v8, v9], .int .i64 r10])
      ∧ Kd.R Kd.string 9 w' w.heap.size (fun k => some k ≠ v9.ownBlock) v8 l8 ∧ Kd.R Kd.string 9 w' w.heap.size (fun k => some k ≠ v8.ownBlock) v9 l9 ∧ Below w.heap.size w w' := by
  unfold tx_Decode.f at h
  split at h
  · have e := Option.some.inj h
    have := dec_calls a0 w (by assumption)
    rw [e] at this
    exact this
  · cases h
end Go.Proofs.YtndicjikjcifaaaDoor
