/- TxNames: the walk and the plain law. -/
import Derived.Test.YtndicjikjcifaaaDoorTxworks
import Derived.Test.YtndicjikjcifaaaDoorRefchk
namespace Go.Proofs.YtndicjikjcifaaaDoor
open Go.RowKit Go.Shelf Go.Lib Go.Proofs.YtndicjikjcifaaaDoorW.PrintWords Go.Proofs.YtndicjikjcifaaaDoorW.PrintLast
set_option linter.unusedVariables false
set_option linter.unusedSimpArgs false

def bb : ByteArray := ⟨#[98]⟩
theorem row_one (w : World) (g : Nat) (x : ByteArray) (hb : w.heap[g]? = some (.cells #[.string x] 9 (0, 0))) : Kd.R Kd.string 9 w g (fun _ => True) (.slice (some ⟨g, 0, none⟩) 1 1) [x] :=
  Kd.R_of_own ⟨rfl, .inr ⟨g, 1, _, rfl, Nat.le_refl _, hb, by simp, by decide, by simp, by simp [encs]⟩⟩ (fun _ _ => trivial)
theorem chk00 (k : Int) (f t ky' : ByteArray) (w : World) (x : Int) (hx : ch k f t 0 0 ky' ⟨#[]⟩ [] [] = x) :
    Calls Tryd.prog 41 #[.agg #[.int .i64 k, .string f, .string t, .int .u64 0, .int .u64 0, .string ky', .string ⟨#[]⟩, .slice none 0 0, .slice none 0 0]] w fun e w' => e = .returned (.int .i64 x) ∧ Below w.heap.size w w' := by
  subst hx
  exact chk_calls k f t 0 0 ky' ⟨#[]⟩ none none 0 0 [] [] w (Kd.C_nil _ _) (Nat.le_refl _) (Kd.C_nil _ _) (Nat.le_refl _)
theorem chk10 (k : Int) (f t ky' y : ByteArray) (g : Nat) (w : World) (x : Int) (hx : ch k f t 0 0 ky' ⟨#[]⟩ [y] [] = x) (hb : w.heap[g]? = some (.cells #[.string y] 9 (0, 0))) :
    Calls Tryd.prog 41 #[.agg #[.int .i64 k, .string f, .string t, .int .u64 0, .int .u64 0, .string ky', .string ⟨#[]⟩, .slice (some ⟨g, 0, none⟩) 1 1, .slice none 0 0]] w fun e w' => e = .returned (.int .i64 x) ∧ Below w.heap.size w w' := by
  subst hx
  exact chk_calls k f t 0 0 ky' ⟨#[]⟩ (some ⟨g, 0, none⟩) none 1 0 [y] [] w (C_of_R (row_one w g y hb)) (Nat.le_refl _) (Kd.C_nil _ _) (Nat.le_refl _)
theorem chk01 (k : Int) (f t ky' y : ByteArray) (g : Nat) (w : World) (x : Int) (hx : ch k f t 0 0 ky' ⟨#[]⟩ [] [y] = x) (hb : w.heap[g]? = some (.cells #[.string y] 9 (0, 0))) :
    Calls Tryd.prog 41 #[.agg #[.int .i64 k, .string f, .string t, .int .u64 0, .int .u64 0, .string ky', .string ⟨#[]⟩, .slice none 0 0, .slice (some ⟨g, 0, none⟩) 1 1]] w fun e w' => e = .returned (.int .i64 x) ∧ Below w.heap.size w w' := by
  subst hx
  exact chk_calls k f t 0 0 ky' ⟨#[]⟩ none (some ⟨g, 0, none⟩) 0 1 [] [y] w (Kd.C_nil _ _) (Nat.le_refl _) (C_of_R (row_one w g y hb)) (Nat.le_refl _)
theorem ext_app (a b : UInt8) (s : ByteArray) : ((⟨#[a, b]⟩ : ByteArray) ++ s).extract 2 ((⟨#[a, b]⟩ : ByteArray) ++ s).size = s := by
  have h := ByteArray.extract_append_eq_right (a := (⟨#[a, b]⟩ : ByteArray)) (b := s) (i := 2) (j := ((⟨#[a, b]⟩ : ByteArray) ++ s).size) (hi := rfl) (hj := by rw [ByteArray.size_append])
  exact h
theorem nm_pos {s : ByteArray} (h : nm s = true) : s.size ≠ 0 := (of_decide_eq_true h).1
theorem ky_app (a : UInt8) (ha : a = 97 ∨ a = 107) (s : ByteArray) : ky (⟨#[a, 58]⟩ ++ s) = nm s := by
  have e1 : (⟨#[a, 58]⟩ ++ s : ByteArray).data.toList = a :: 58 :: s.data.toList := by simp
  have e2 : (⟨#[a, 58]⟩ ++ s : ByteArray).size = 2 + s.size := ByteArray.size_append
  rw [ky, ext_app, e1, e2]
  have e3 : (Lib.hasPrefix (a :: 58 :: s.data.toList) [97, 58] || Lib.hasPrefix (a :: 58 :: s.data.toList) [107, 58]) = true := by
    rcases ha with rfl | rfl <;> simp [Lib.hasPrefix, List.isPrefixOf]
  rw [e3]
  cases h : nm s with
  | false => simp
  | true =>
    have := nm_pos h
    simp
    omega
theorem nm_bb : nm bb = true := by decide +kernel
theorem nil_true : (⟨#[]⟩ : ByteArray).toList.isEmpty = true := by rw [Lib.toList_data]; rfl
def wn (s : ByteArray) : Int := if nm s = true then 0 else 3
theorem n1 (s : ByteArray) : ch 1 s bb 0 0 ⟨#[]⟩ ⟨#[]⟩ [] [] = wn s := by
  cases h : nm s <;> simp [ch, chF, chR, ke, keL, wn, h, nm_bb, nil_true]
theorem n2 (s : ByteArray) : ch 1 bb s 0 0 ⟨#[]⟩ ⟨#[]⟩ [] [] = wn s := by
  cases h : nm s <;> simp [ch, chF, chR, ke, keL, wn, h, nm_bb, nil_true]
theorem n3 (s : ByteArray) : ch 2 bb ⟨#[]⟩ 0 0 s ⟨#[]⟩ [] [] = wn s := by
  have e : (⟨#[]⟩ : ByteArray).size = 0 := rfl
  cases h : nm s <;> simp [ch, chF, chR, ke, keL, wn, h, nm_bb, nil_true, e]
theorem n4 (s : ByteArray) : ch 2 bb ⟨#[]⟩ 0 0 bb ⟨#[]⟩ [⟨#[107, 58]⟩ ++ s] [] = wn s := by
  have e : (⟨#[]⟩ : ByteArray).size = 0 := rfl
  have k := ky_app 107 (.inr rfl) s
  cases h : nm s <;> rw [h] at k <;> simp [ch, chF, chR, ke, keL, wn, h, nm_bb, nil_true, e, k]
theorem n5 (s : ByteArray) : ch 2 bb ⟨#[]⟩ 0 0 bb ⟨#[]⟩ [] [⟨#[97, 58]⟩ ++ s] = wn s := by
  have e : (⟨#[]⟩ : ByteArray).size = 0 := rfl
  have k := ky_app 97 (.inl rfl) s
  cases h : nm s <;> rw [h] at k <;> simp [ch, chF, chR, ke, keL, wn, h, nm_bb, nil_true, e, k]
set_option maxHeartbeats 8000000 in
set_option maxRecDepth 100000 in
theorem names_calls (s : ByteArray) (w : World) : Calls Tryd.prog 13 #[.string s] w fun e w' => e = .returned (.bool true) ∧ Below w.heap.size w w' := by
  by_cases h : s.size ≤ 1000
  case neg =>
    have d : decide ((1000 : Int) < (s.size : Int)) = true := by simp; omega
    go_enter Tryd.func13, Tryd.ntmps13
    go_wp2_with (first
      | (go_at_call 48
         go_must (refine (works_calls _).mono ?_)
         rintro e w2 ⟨rfl, hB⟩
         have HB := Lib.hid hB
         clear hB))
    go_ret
    exact ⟨rfl, HB.out⟩
  have d : decide ((1000 : Int) < (s.size : Int)) = false := by simp; omega
  have s1 : (⟨#[97, 58]⟩ : ByteArray).size + s.size ≤ 9223372036854775807 := by have e : (⟨#[97, 58]⟩ : ByteArray).size = 2 := rfl; omega
  have s3 : (⟨#[107, 58]⟩ : ByteArray).size + s.size ≤ 9223372036854775807 := by have e : (⟨#[107, 58]⟩ : ByteArray).size = 2 := rfl; omega
  have HS := Lib.hid (show s.size < 4611686018427387904 by omega)
  have m1 := Lib.hid (n1 s)
  have m2 := Lib.hid (n2 s)
  have m3 := Lib.hid (n3 s)
  have m4 := Lib.hid (n4 s)
  have m5 := Lib.hid (n5 s)
  have hb1 : bb = ⟨#[98]⟩ := rfl
  clear h
  cases hv : nm s with
  | true =>
    have hw : wn s = 0 := if_pos hv
    rw [hw, bb] at m1 m2 m3 m4 m5
    clear hw
    go_enter Tryd.func13, Tryd.ntmps13
    go_wp2_with (first
      | (go_at_call 48
         go_must (refine (works_calls _).mono ?_)
         rintro e w2 ⟨rfl, hB⟩
         have HB := Lib.hid hB
         clear hB)
      | (go_at_call 49
         go_must (refine (name2_calls s _ HS.out).mono ?_)
         rw [hv]
         rintro e w2 ⟨rfl, hB⟩
         have HB := Lib.hid (below_then HB.out HB.out.size hB)
         clear hB)
      | (go_at_call 41
         first
           | (with_reducible refine (chk00 1 s ⟨#[98]⟩ ⟨#[]⟩ _ 0 m1.out).mono ?_)
           | (with_reducible refine (chk00 1 ⟨#[98]⟩ s ⟨#[]⟩ _ 0 m2.out).mono ?_)
           | (with_reducible refine (chk00 2 ⟨#[98]⟩ ⟨#[]⟩ s _ 0 m3.out).mono ?_)
           | (with_reducible refine (chk10 2 ⟨#[98]⟩ ⟨#[]⟩ ⟨#[98]⟩ (⟨#[107, 58]⟩ ++ s) _ _ 0 m4.out (blk_new _ _)).mono ?_
              have HB := Lib.hid (HB.out.alloc HB.out.size (.cells #[.string (⟨#[107, 58]⟩ ++ s)] 9)))
           | (with_reducible refine (chk01 2 ⟨#[98]⟩ ⟨#[]⟩ ⟨#[98]⟩ (⟨#[97, 58]⟩ ++ s) _ _ 0 m5.out (blk_new _ _)).mono ?_
              have HB := Lib.hid (HB.out.alloc HB.out.size (.cells #[.string (⟨#[97, 58]⟩ ++ s)] 9)))
         rintro e w2 ⟨rfl, hB⟩
         have HB := Lib.hid (below_then HB.out HB.out.size hB)
         clear hB))
    go_ret
    exact ⟨rfl, HB.out⟩
  | false =>
    have hw : wn s = 3 := if_neg (by simp [hv])
    rw [hw, bb] at m1 m2 m3 m4 m5
    clear hw
    go_enter Tryd.func13, Tryd.ntmps13
    go_wp2_with (first
      | (go_at_call 48
         go_must (refine (works_calls _).mono ?_)
         rintro e w2 ⟨rfl, hB⟩
         have HB := Lib.hid hB
         clear hB)
      | (go_at_call 49
         go_must (refine (name2_calls s _ HS.out).mono ?_)
         rw [hv]
         rintro e w2 ⟨rfl, hB⟩
         have HB := Lib.hid (below_then HB.out HB.out.size hB)
         clear hB)
      | (go_at_call 41
         first
           | (with_reducible refine (chk00 1 s ⟨#[98]⟩ ⟨#[]⟩ _ 3 m1.out).mono ?_)
           | (with_reducible refine (chk00 1 ⟨#[98]⟩ s ⟨#[]⟩ _ 3 m2.out).mono ?_)
           | (with_reducible refine (chk00 2 ⟨#[98]⟩ ⟨#[]⟩ s _ 3 m3.out).mono ?_)
           | (with_reducible refine (chk10 2 ⟨#[98]⟩ ⟨#[]⟩ ⟨#[98]⟩ (⟨#[107, 58]⟩ ++ s) _ _ 3 m4.out (blk_new _ _)).mono ?_
              have HB := Lib.hid (HB.out.alloc HB.out.size (.cells #[.string (⟨#[107, 58]⟩ ++ s)] 9)))
           | (with_reducible refine (chk01 2 ⟨#[98]⟩ ⟨#[]⟩ ⟨#[98]⟩ (⟨#[97, 58]⟩ ++ s) _ _ 3 m5.out (blk_new _ _)).mono ?_
              have HB := Lib.hid (HB.out.alloc HB.out.size (.cells #[.string (⟨#[97, 58]⟩ ++ s)] 9)))
         rintro e w2 ⟨rfl, hB⟩
         have HB := Lib.hid (below_then HB.out HB.out.size hB)
         clear hB))
    go_ret
    exact ⟨rfl, HB.out⟩
end Go.Proofs.YtndicjikjcifaaaDoor
