/- The bags' methods, each by one contract. -/
import Derived.Test.YtabfngbdbflfaaaTake
import Derived.Test.YtabfngbdbflfaaaRtake
namespace Go.Proofs.Ytabfngbdbflfaaa
open Go.RowKit Go.Proofs.YtabfngbdbflfaaaW.PrintWords Go.Proofs.YtabfngbdbflfaaaW.PrintLast Go.Proofs.Ytabfngbdbflfaaa.PNetKeeps
set_option linter.unusedVariables false
set_option linter.unusedSimpArgs false

def room (xs : List Env) : Bool := decide (xs.length < 256)
def snt (xs : List Env) (x : Env) : List Env := if room xs = true then xs ++ [x] else xs
def lst (xs : List Env) (lost : Int) : Int := if room xs = true then lost else lost + 1
def twn (xs : List Env) (i : Int) : List Env := if inb xs i = true then snt xs (atv xs i) else xs
def twl (xs : List Env) (lost : Int) (i : Int) : Int := if inb xs i = true then lst xs lost else lost
def tkn (xs : List Env) (i : Int) : List Env := if inb xs i = true then xs.eraseIdx i.toNat else xs

theorem bag_len (w : World) (base g : Nat) (ok : Nat → Prop) (xs : List Env) (lost : Int) (hI : IsBag 46 base w ok g xs lost) :
    Calls Try.prog 10 #[.pointer (some ⟨g, 0, none⟩)] w fun e w' => e = .returned (.int .i64 xs.length) ∧ w = w' := by
  obtain ⟨hg, hlt, hokg, v, hb, hR, hv⟩ := hI
  obtain ⟨A, c, rfl, hc⟩ := hR.form
  have c0 : w.cell? ⟨g, 0, none⟩ = some (.slice A xs.length c) := blk_cell hb 0
  have f0 := blk_frozen hb 0
  clear hR hb hv
  go_enter Try.func10, Try.ntmps10
  go_wp2
  go_ret
  exact ⟨rfl, rfl⟩
theorem bag_lost (w : World) (base g : Nat) (ok : Nat → Prop) (xs : List Env) (lost : Int) (hI : IsBag 46 base w ok g xs lost) :
    Calls Try.prog 17 #[.pointer (some ⟨g, 0, none⟩)] w fun e w' => e = .returned (.int .i64 lost) ∧ w = w' := by
  obtain ⟨hg, hlt, hokg, v, hb, hR, hv⟩ := hI
  have c1 : w.cell? ⟨g, 1, none⟩ = some (.int .i64 lost) := blk_cell hb 1
  have f1 := blk_frozen hb 1
  clear hR hb hv
  go_enter Try.func17, Try.ntmps17
  go_wp2
  go_ret
  exact ⟨rfl, rfl⟩

theorem new_bag (w : World) (base : Nat) (hb : base ≤ w.heap.size) :
    Calls Try.prog 7 #[] w fun e w' => e = .returned (.pointer (some ⟨w.heap.size, 0, none⟩)) ∧ IsBag 46 base w' (fun k => w.heap.size ≤ k) w.heap.size [] 0 ∧ Below w.heap.size w w' := by
  go_enter Try.func7, Try.ntmps7
  go_wp2
  go_ret
  exact ⟨rfl, ⟨hb, by simp, Nat.le_refl _, _, blk_new _ _, FR.nil _ _ _ _ _, fun k hk => by cases hk⟩, (Below.refl _ _).alloc (Nat.le_refl _) _⟩

set_option maxHeartbeats 400000 in
theorem send_full (w : World) (base g : Nat) (ok : Nat → Prop) (xs : List Env) (lost : Int) (x : Env) (hI : IsBag 46 base w ok g xs lost)
    (hl : 256 ≤ xs.length) (hm : xs.length ≤ 256) (h0 : 0 ≤ lost) (h1 : lost < 1000000) :
    Calls Try.prog 8 #[.pointer (some ⟨g, 0, none⟩), v28 x] w fun e w' =>
      e = .returned (.bool false) ∧ IsBag 46 base w' ok g xs (lost + 1) ∧ Only ok w w' := by
  obtain ⟨hg, hlt, hokg, v, hb, hR, hv⟩ := hI
  obtain ⟨A, c, rfl, hc⟩ := hR.form
  have c0 : w.cell? ⟨g, 0, none⟩ = some (.slice A xs.length c) := blk_cell hb 0
  have c1 : w.cell? ⟨g, 1, none⟩ = some (.int .i64 lost) := blk_cell hb 1
  have f0 := blk_frozen hb 0
  have f1 := blk_frozen hb 1
  have hl2 : ((xs.length : Int) == 256) = true := beq_iff_eq.2 (by omega)
  have hl3 : (256 : Int) ≤ xs.length := by omega
  have HR := Lib.hid hR
  have HB := Lib.hid hb
  have HV := Lib.hid hv
  clear hR hb hv
  go_enter Try.func8, Try.ntmps8
  go_wp2
  go_ret
  refine ⟨rfl, ⟨hg, by simp; omega, hokg, _, blk_alloc (blk_set HB.out 1 _) _, ?_, HV.out⟩, ((Only.refl _ _).set (.inl hokg) _).alloc _⟩
  exact HR.out.only (((Only.refl (fun k => k = g) w).set (p := ⟨g, 1, none⟩) (.inl rfl) _).alloc _) (fun k hk => (HV.out k hk).2)
set_option maxHeartbeats 400000 in
theorem send_room (w : World) (base g : Nat) (ok : Nat → Prop) (xs : List Env) (lost : Int) (x : Env) (hI : IsBag 46 base w ok g xs lost)
    (hl : xs.length < 256) :
    Calls Try.prog 8 #[.pointer (some ⟨g, 0, none⟩), v28 x] w fun e w' =>
      e = .returned (.bool true) ∧ IsBag 46 base w' (fun k => ok k ∨ w.heap.size ≤ k) g (xs ++ [x]) lost ∧ Only ok w w' := by
  obtain ⟨hg, hlt, hokg, v, hb, hR, hv⟩ := hI
  obtain ⟨A, c, rfl, hc⟩ := hR.form
  have c0 : w.cell? ⟨g, 0, none⟩ = some (.slice A xs.length c) := blk_cell hb 0
  have c1 : w.cell? ⟨g, 1, none⟩ = some (.int .i64 lost) := blk_cell hb 1
  have f0 := blk_frozen hb 0
  have f1 := blk_frozen hb 1
  have hl2 : ((xs.length : Int) == 256) = false := beq_eq_false_iff_ne.2 (by omega)
  have hl3 : ¬ (256 : Int) ≤ xs.length := by omega
  have HR := Lib.hid hR
  have HB := Lib.hid hb
  have HV := Lib.hid hv
  clear hR hb hv
  go_enter Try.func8, Try.ntmps8
  go_wp2
  go_region_law (
    refine fr_app_step (c := c28) rfl (w0 := w) base (.tmp 22) (.tmp 24) 22 28 (.agg #[.int .i64 0, .int .i64 0, .string ByteArray.empty]) 3 32 rfl Try.underlying22 info28 rfl (by decide) (.slice A xs.length c) xs x (by simp [Act.eval]) (w.heap.size + 1) (by simp [Act.eval]) 28 (0, 0) (blk_drew (blk_newAt _ _ (by simp))) (c28_len x) (c28_one x) HR.out (((Below.refl _ w).alloc (Nat.le_refl _) _).alloc (by simp) _).drew (by omega) (by unfold maxLen; omega) (by omega) ?_
    intro g1 cap w1 HR1 hO hbg hat
    have hb1 := blk_only (blk_drew (blk_alloc (blk_alloc HB.out _) _)) hO (fun e => (HV.out g e).2 rfl)
    have c2 : w1.cell? ⟨g, 0, none⟩ = some (.slice A xs.length c) := blk_cell hb1 0
    have f2 := blk_frozen hb1 0
    have hz := hO.size
    simp at hz
    have HAT : Hid ((ok g1 ∨ w.heap.size ≤ g1) ∧ g1 ≠ g) := by
      rcases hat with hat | hat
      · exact ⟨.inl (HV.out g1 hat).1, (HV.out g1 hat).2⟩
      · simp at hat; exact ⟨.inr (by omega), by omega⟩
    have HO := Lib.hid hO
    have HB1 := Lib.hid hb1
    have HRN := Lib.hid HR1
    clear hO hb1 HR1 hat)
  all_goals
    go_wp2
    go_ret
    refine ⟨rfl, ⟨hg, by simp; omega, .inl hokg, _, blk_set HB1.out 0 _, ?_, ?_⟩, ?_⟩
    · have hl : (xs ++ [x]).length = xs.length + 1 := by simp
      exact HRN.out.move (fun k hk => Below.heap_setCell _ _ _ _ (by cases hk; exact HAT.out.2))
    · intro k hk
      cases hk
      exact HAT.out
    · exact (((((Only.refl ok w).alloc _).alloc _).drew).trans HO.out (fun k _ hk => (HV.out k hk).1)).set (.inl hokg) _
theorem send_any (w : World) (base g : Nat) (ok : Nat → Prop) (xs : List Env) (lost : Int) (x : Env) (hI : IsBag 46 base w ok g xs lost)
    (hm : xs.length ≤ 256) (h0 : 0 ≤ lost) (h1 : lost < 1000000) :
    Calls Try.prog 8 #[.pointer (some ⟨g, 0, none⟩), v28 x] w fun e w' =>
      e = .returned (.bool (room xs)) ∧ IsBag 46 base w' (fun k => ok k ∨ w.heap.size ≤ k) g (snt xs x) (lst xs lost) ∧ Only ok w w' := by
  by_cases hl : xs.length < 256
  · have hr : room xs = true := by simp [room, hl]
    have hs : snt xs x = xs ++ [x] := by simp [snt, hr]
    have ht : lst xs lost = lost := by simp [lst, hr]
    rw [hr, hs, ht]
    exact send_room w base g ok xs lost x hI hl
  · have hr : room xs = false := by simp [room]; omega
    have hs : snt xs x = xs := by simp [snt, hr]
    have ht : lst xs lost = lost + 1 := by simp [lst, hr]
    rw [hr, hs, ht]
    refine (send_full w base g ok xs lost x hI (by omega) hm h0 h1).mono ?_
    rintro e w' ⟨he, hb, ho⟩
    exact ⟨he, hb.mono (fun k hk _ => .inl hk), ho⟩
set_option maxHeartbeats 400000 in
theorem rsend_full (w : World) (base g : Nat) (ok : Nat → Prop) (xs : List Env) (lost : Int) (x : Env) (hI : IsBag 40 base w ok g xs lost)
    (hl : 256 ≤ xs.length) (hm : xs.length ≤ 256) (h0 : 0 ≤ lost) (h1 : lost < 1000000) :
    Calls Try.prog 11 #[.pointer (some ⟨g, 0, none⟩), v28 x] w fun e w' =>
      e = .returned (.bool false) ∧ IsBag 40 base w' ok g xs (lost + 1) ∧ Only ok w w' := by
  obtain ⟨hg, hlt, hokg, v, hb, hR, hv⟩ := hI
  obtain ⟨A, c, rfl, hc⟩ := hR.form
  have c0 : w.cell? ⟨g, 0, none⟩ = some (.slice A xs.length c) := blk_cell hb 0
  have c1 : w.cell? ⟨g, 1, none⟩ = some (.int .i64 lost) := blk_cell hb 1
  have f0 := blk_frozen hb 0
  have f1 := blk_frozen hb 1
  have hl2 : ((xs.length : Int) == 256) = true := beq_iff_eq.2 (by omega)
  have hl3 : (256 : Int) ≤ xs.length := by omega
  have HR := Lib.hid hR
  have HB := Lib.hid hb
  have HV := Lib.hid hv
  clear hR hb hv
  go_enter Try.func11, Try.ntmps11
  go_wp2
  go_ret
  refine ⟨rfl, ⟨hg, by simp; omega, hokg, _, blk_alloc (blk_set HB.out 1 _) _, ?_, HV.out⟩, ((Only.refl _ _).set (.inl hokg) _).alloc _⟩
  exact HR.out.only (((Only.refl (fun k => k = g) w).set (p := ⟨g, 1, none⟩) (.inl rfl) _).alloc _) (fun k hk => (HV.out k hk).2)
set_option maxHeartbeats 400000 in
theorem rsend_room (w : World) (base g : Nat) (ok : Nat → Prop) (xs : List Env) (lost : Int) (x : Env) (hI : IsBag 40 base w ok g xs lost)
    (hl : xs.length < 256) :
    Calls Try.prog 11 #[.pointer (some ⟨g, 0, none⟩), v28 x] w fun e w' =>
      e = .returned (.bool true) ∧ IsBag 40 base w' (fun k => ok k ∨ w.heap.size ≤ k) g (xs ++ [x]) lost ∧ Only ok w w' := by
  obtain ⟨hg, hlt, hokg, v, hb, hR, hv⟩ := hI
  obtain ⟨A, c, rfl, hc⟩ := hR.form
  have c0 : w.cell? ⟨g, 0, none⟩ = some (.slice A xs.length c) := blk_cell hb 0
  have c1 : w.cell? ⟨g, 1, none⟩ = some (.int .i64 lost) := blk_cell hb 1
  have f0 := blk_frozen hb 0
  have f1 := blk_frozen hb 1
  have hl2 : ((xs.length : Int) == 256) = false := beq_eq_false_iff_ne.2 (by omega)
  have hl3 : ¬ (256 : Int) ≤ xs.length := by omega
  have HR := Lib.hid hR
  have HB := Lib.hid hb
  have HV := Lib.hid hv
  clear hR hb hv
  go_enter Try.func11, Try.ntmps11
  go_wp2
  go_region_law (
    refine fr_app_step (c := c28) rfl (w0 := w) base (.tmp 22) (.tmp 24) 22 28 (.agg #[.int .i64 0, .int .i64 0, .string ByteArray.empty]) 3 32 rfl Try.underlying22 info28 rfl (by decide) (.slice A xs.length c) xs x (by simp [Act.eval]) (w.heap.size + 1) (by simp [Act.eval]) 28 (0, 0) (blk_drew (blk_newAt _ _ (by simp))) (c28_len x) (c28_one x) HR.out (((Below.refl _ w).alloc (Nat.le_refl _) _).alloc (by simp) _).drew (by omega) (by unfold maxLen; omega) (by omega) ?_
    intro g1 cap w1 HR1 hO hbg hat
    have hb1 := blk_only (blk_drew (blk_alloc (blk_alloc HB.out _) _)) hO (fun e => (HV.out g e).2 rfl)
    have c2 : w1.cell? ⟨g, 0, none⟩ = some (.slice A xs.length c) := blk_cell hb1 0
    have f2 := blk_frozen hb1 0
    have hz := hO.size
    simp at hz
    have HAT : Hid ((ok g1 ∨ w.heap.size ≤ g1) ∧ g1 ≠ g) := by
      rcases hat with hat | hat
      · exact ⟨.inl (HV.out g1 hat).1, (HV.out g1 hat).2⟩
      · simp at hat; exact ⟨.inr (by omega), by omega⟩
    have HO := Lib.hid hO
    have HB1 := Lib.hid hb1
    have HRN := Lib.hid HR1
    clear hO hb1 HR1 hat)
  all_goals
    go_wp2
    go_ret
    refine ⟨rfl, ⟨hg, by simp; omega, .inl hokg, _, blk_set HB1.out 0 _, ?_, ?_⟩, ?_⟩
    · have hl : (xs ++ [x]).length = xs.length + 1 := by simp
      exact HRN.out.move (fun k hk => Below.heap_setCell _ _ _ _ (by cases hk; exact HAT.out.2))
    · intro k hk
      cases hk
      exact HAT.out
    · exact (((((Only.refl ok w).alloc _).alloc _).drew).trans HO.out (fun k _ hk => (HV.out k hk).1)).set (.inl hokg) _
theorem rsend_any (w : World) (base g : Nat) (ok : Nat → Prop) (xs : List Env) (lost : Int) (x : Env) (hI : IsBag 40 base w ok g xs lost)
    (hm : xs.length ≤ 256) (h0 : 0 ≤ lost) (h1 : lost < 1000000) :
    Calls Try.prog 11 #[.pointer (some ⟨g, 0, none⟩), v28 x] w fun e w' =>
      e = .returned (.bool (room xs)) ∧ IsBag 40 base w' (fun k => ok k ∨ w.heap.size ≤ k) g (snt xs x) (lst xs lost) ∧ Only ok w w' := by
  by_cases hl : xs.length < 256
  · have hr : room xs = true := by simp [room, hl]
    have hs : snt xs x = xs ++ [x] := by simp [snt, hr]
    have ht : lst xs lost = lost := by simp [lst, hr]
    rw [hr, hs, ht]
    exact rsend_room w base g ok xs lost x hI hl
  · have hr : room xs = false := by simp [room]; omega
    have hs : snt xs x = xs := by simp [snt, hr]
    have ht : lst xs lost = lost + 1 := by simp [lst, hr]
    rw [hr, hs, ht]
    refine (rsend_full w base g ok xs lost x hI (by omega) hm h0 h1).mono ?_
    rintro e w' ⟨he, hb, ho⟩
    exact ⟨he, hb.mono (fun k hk _ => .inl hk), ho⟩

theorem atv_out {xs : List Env} {i : Int} (h : inb xs i = false) : atv xs i = z28 := by
  have h' : ¬ (0 ≤ i ∧ i < xs.length) := by simpa [inb] using h
  unfold atv
  split
  · rw [List.getD_eq_getElem?_getD, List.getElem?_eq_none (by omega)]; rfl
  · rfl
theorem inb_in {xs : List Env} {i : Int} (h : inb xs i = true) : ∃ n : Nat, i = n ∧ n < xs.length ∧ atv xs i = xs.getD n z28 := by
  have h' : 0 ≤ i ∧ i < xs.length := by simpa [inb] using h
  refine ⟨i.toNat, by omega, by omega, ?_⟩
  unfold atv
  rw [if_pos h'.1]

theorem at_any (w : World) (base g : Nat) (ok : Nat → Prop) (xs : List Env) (lost : Int) (i : Int) (hI : IsBag 46 base w ok g xs lost) (hmax : xs.length ≤ 256) :
    Calls Try.prog 15 #[.pointer (some ⟨g, 0, none⟩), .int .i64 i] w fun e w' =>
      e = .returned (.tuple #[v28 (atv xs i), .bool (inb xs i)]) ∧ Below w.heap.size w w' := by
  by_cases hi : inb xs i = true
  · obtain ⟨n, rfl, hn, ha⟩ := inb_in hi
    rw [hi, ha]
    exact at_in w base g ok xs lost n _ rfl hI hmax hn
  · have hi' : inb xs i = false := by simpa using hi
    rw [hi', atv_out hi']
    exact at_out w base g ok xs lost i hI hmax hi'
theorem rat_any (w : World) (base g : Nat) (ok : Nat → Prop) (xs : List Env) (lost : Int) (i : Int) (hI : IsBag 40 base w ok g xs lost) (hmax : xs.length ≤ 256) :
    Calls Try.prog 16 #[.pointer (some ⟨g, 0, none⟩), .int .i64 i] w fun e w' =>
      e = .returned (.tuple #[v28 (atv xs i), .bool (inb xs i)]) ∧ Below w.heap.size w w' := by
  by_cases hi : inb xs i = true
  · obtain ⟨n, rfl, hn, ha⟩ := inb_in hi
    rw [hi, ha]
    exact rat_in w base g ok xs lost n _ rfl hI hmax hn
  · have hi' : inb xs i = false := by simpa using hi
    rw [hi', atv_out hi']
    exact rat_out w base g ok xs lost i hI hmax hi'
theorem take_any (w : World) (base g : Nat) (ok : Nat → Prop) (xs : List Env) (lost : Int) (i : Int) (hI : IsBag 46 base w ok g xs lost) (hmax : xs.length ≤ 256) :
    Calls Try.prog 9 #[.pointer (some ⟨g, 0, none⟩), .int .i64 i] w fun e w' =>
      e = .returned (.tuple #[v28 (atv xs i), .bool (inb xs i)]) ∧ IsBag 46 base w' (fun k => ok k ∨ w.heap.size ≤ k) g (tkn xs i) lost ∧ Only ok w w' := by
  by_cases hi : inb xs i = true
  · obtain ⟨n, rfl, hn, ha⟩ := inb_in hi
    have ht : tkn xs (n : Int) = xs.eraseIdx n := by simp [tkn, hi]
    rw [hi, ha, ht]
    refine (take_in w base g ok xs lost n hI hmax hn).mono ?_
    rintro e w' ⟨he, hb, ho⟩
    exact ⟨he, hb.mono (fun k hk _ => .inl hk), ho⟩
  · have hi' : inb xs i = false := by simpa using hi
    have ht : tkn xs i = xs := by simp [tkn, hi']
    rw [hi', atv_out hi', ht]
    refine (take_out w base g ok xs lost i hI hmax hi').mono ?_
    rintro e w' ⟨he, hb⟩
    exact ⟨he, (hI.only (S := fun _ => False) (Only.of_below hb) (fun _ _ h => h)).mono (fun k hk _ => .inl hk), Only.of_below hb⟩
theorem rtake_any (w : World) (base g : Nat) (ok : Nat → Prop) (xs : List Env) (lost : Int) (i : Int) (hI : IsBag 40 base w ok g xs lost) (hmax : xs.length ≤ 256) :
    Calls Try.prog 12 #[.pointer (some ⟨g, 0, none⟩), .int .i64 i] w fun e w' =>
      e = .returned (.tuple #[v28 (atv xs i), .bool (inb xs i)]) ∧ IsBag 40 base w' (fun k => ok k ∨ w.heap.size ≤ k) g (tkn xs i) lost ∧ Only ok w w' := by
  by_cases hi : inb xs i = true
  · obtain ⟨n, rfl, hn, ha⟩ := inb_in hi
    have ht : tkn xs (n : Int) = xs.eraseIdx n := by simp [tkn, hi]
    rw [hi, ha, ht]
    refine (rtake_in w base g ok xs lost n hI hmax hn).mono ?_
    rintro e w' ⟨he, hb, ho⟩
    exact ⟨he, hb.mono (fun k hk _ => hk), ho⟩
  · have hi' : inb xs i = false := by simpa using hi
    have ht : tkn xs i = xs := by simp [tkn, hi']
    rw [hi', atv_out hi', ht]
    refine (rtake_out w base g ok xs lost i hI hmax hi').mono ?_
    rintro e w' ⟨he, hb⟩
    exact ⟨he, (hI.only (S := fun _ => False) (Only.of_below hb) (fun _ _ h => h)).mono (fun k hk _ => .inl hk), Only.of_below hb⟩
set_option maxHeartbeats 400000 in
theorem twice_any (w : World) (base g : Nat) (ok : Nat → Prop) (xs : List Env) (lost : Int) (i : Int) (hI : IsBag 46 base w ok g xs lost) (hmax : xs.length ≤ 256) (h0 : 0 ≤ lost) (h1 : lost < 1000000) :
    Calls Try.prog 13 #[.pointer (some ⟨g, 0, none⟩), .int .i64 i] w fun e w' =>
      e = .returned (.bool (inb xs i && room xs)) ∧ IsBag 46 base w' (fun k => ok k ∨ w.heap.size ≤ k) g (twn xs i) (twl xs lost i) ∧ Only ok w w' := by
  have HI := Lib.hid hI
  obtain ⟨x, hx⟩ : ∃ x, atv xs i = x := ⟨_, rfl⟩
  have HX := Lib.hid hx
  have hlt := hI.2.1
  clear hI hx
  by_cases hi : inb xs i = true
  · go_enter Try.func13, Try.ntmps13
    go_wp2_with (first
      | (go_at_call 15
         refine (at_any w base g ok xs lost i HI.out hmax).mono ?_
         rintro e w1 ⟨rfl, hbel⟩
         rw [HX.out, hi]
         have HI1 := Lib.hid (HI.out.only (S := fun _ => False) (Only.of_below hbel) (fun _ _ h => h))
         have HBEL := Lib.hid hbel
         have hsz := hbel.size
         clear hbel)
      | (go_at_call 8
         refine (send_any _ base g ok xs lost x (HI1.out.only (S := fun _ => False) ((Only.refl _ w1).alloc (.cells #[.int .i64 x.f0, .int .i64 x.f1, .string x.f2] 28)) (fun _ _ h => h)) hmax h0 h1).mono ?_
         rintro e w2 ⟨rfl, hb2, ho2⟩
         have HB2 := Lib.hid hb2
         have HO2 := Lib.hid ho2
         clear hb2 ho2))
    go_ret
    refine ⟨by simp [hi], ?_, (((Only.of_below HBEL.out).alloc _).trans HO2.out (fun _ _ h => h))⟩
    rw [show twn xs i = snt xs x by simp [twn, hi, HX.out], show twl xs lost i = lst xs lost by simp [twl, hi]]
    exact HB2.out.mono (fun k hk _ => by
      rcases hk with hk | hk
      · exact .inl hk
      · right; simp at hk; omega)
  · have hi' : inb xs i = false := by simpa using hi
    clear hi
    go_enter Try.func13, Try.ntmps13
    go_wp2_with (
      go_at_call 15
      refine (at_any w base g ok xs lost i HI.out hmax).mono ?_
      rintro e w1 ⟨rfl, hbel⟩
      rw [HX.out, hi']
      have HI1 := Lib.hid (HI.out.only (S := fun _ => False) (Only.of_below hbel) (fun _ _ h => h))
      have HBEL := Lib.hid hbel
      have hsz := hbel.size
      clear hbel)
    go_ret
    refine ⟨by simp [hi'], ?_, ((Only.of_below HBEL.out).alloc _)⟩
    rw [show twn xs i = xs by simp [twn, hi'], show twl xs lost i = lost by simp [twl, hi']]
    exact (HI1.out.only (S := fun _ => False) ((Only.refl _ w1).alloc _) (fun _ _ h => h)).mono (fun k hk _ => .inl hk)
set_option maxHeartbeats 400000 in
theorem rtwice_any (w : World) (base g : Nat) (ok : Nat → Prop) (xs : List Env) (lost : Int) (i : Int) (hI : IsBag 40 base w ok g xs lost) (hmax : xs.length ≤ 256) (h0 : 0 ≤ lost) (h1 : lost < 1000000) :
    Calls Try.prog 14 #[.pointer (some ⟨g, 0, none⟩), .int .i64 i] w fun e w' =>
      e = .returned (.bool (inb xs i && room xs)) ∧ IsBag 40 base w' (fun k => ok k ∨ w.heap.size ≤ k) g (twn xs i) (twl xs lost i) ∧ Only ok w w' := by
  have HI := Lib.hid hI
  obtain ⟨x, hx⟩ : ∃ x, atv xs i = x := ⟨_, rfl⟩
  have HX := Lib.hid hx
  have hlt := hI.2.1
  clear hI hx
  by_cases hi : inb xs i = true
  · go_enter Try.func14, Try.ntmps14
    go_wp2_with (first
      | (go_at_call 16
         refine (rat_any w base g ok xs lost i HI.out hmax).mono ?_
         rintro e w1 ⟨rfl, hbel⟩
         rw [HX.out, hi]
         have HI1 := Lib.hid (HI.out.only (S := fun _ => False) (Only.of_below hbel) (fun _ _ h => h))
         have HBEL := Lib.hid hbel
         have hsz := hbel.size
         clear hbel)
      | (go_at_call 11
         refine (rsend_any _ base g ok xs lost x (HI1.out.only (S := fun _ => False) ((Only.refl _ w1).alloc (.cells #[.int .i64 x.f0, .int .i64 x.f1, .string x.f2] 28)) (fun _ _ h => h)) hmax h0 h1).mono ?_
         rintro e w2 ⟨rfl, hb2, ho2⟩
         have HB2 := Lib.hid hb2
         have HO2 := Lib.hid ho2
         clear hb2 ho2))
    go_ret
    refine ⟨by simp [hi], ?_, (((Only.of_below HBEL.out).alloc _).trans HO2.out (fun _ _ h => h))⟩
    rw [show twn xs i = snt xs x by simp [twn, hi, HX.out], show twl xs lost i = lst xs lost by simp [twl, hi]]
    exact HB2.out.mono (fun k hk _ => by
      rcases hk with hk | hk
      · exact .inl hk
      · right; simp at hk; omega)
  · have hi' : inb xs i = false := by simpa using hi
    clear hi
    go_enter Try.func14, Try.ntmps14
    go_wp2_with (
      go_at_call 16
      refine (rat_any w base g ok xs lost i HI.out hmax).mono ?_
      rintro e w1 ⟨rfl, hbel⟩
      rw [HX.out, hi']
      have HI1 := Lib.hid (HI.out.only (S := fun _ => False) (Only.of_below hbel) (fun _ _ h => h))
      have HBEL := Lib.hid hbel
      have hsz := hbel.size
      clear hbel)
    go_ret
    refine ⟨by simp [hi'], ?_, ((Only.of_below HBEL.out).alloc _)⟩
    rw [show twn xs i = xs by simp [twn, hi'], show twl xs lost i = lost by simp [twl, hi']]
    exact (HI1.out.only (S := fun _ => False) ((Only.refl _ w1).alloc _) (fun _ _ h => h)).mono (fun k hk _ => .inl hk)
end Go.Proofs.Ytabfngbdbflfaaa
