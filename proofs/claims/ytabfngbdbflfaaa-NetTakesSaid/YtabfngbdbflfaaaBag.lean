/- The bags of the program and of the reference: their methods' contracts. -/
import Derived.Test.YtabfngbdbflfaaaPNetKeepsx0
import Derived.Test.YtabfngbdbflfaaaFlat
import Derived.Deep.RegionLaw
import Derived.WalkLawsBesides
import Derived.WalkSpells
import Derived.Outline
namespace Go.Proofs.Ytabfngbdbflfaaa
set_option linter.unusedVariables false
set_option linter.unusedSimpArgs false
open Go.RowKit Go.Proofs.YtabfngbdbflfaaaW.PrintWords Go.Proofs.YtabfngbdbflfaaaW.PrintLast Go.Proofs.Ytabfngbdbflfaaa.PNetKeeps

abbrev Env := S28
def c28 (x : Env) : List Value := [.int .i64 x.f0, .int .i64 x.f1, .string x.f2]
abbrev v28 (x : Env) : Value := .agg #[.int .i64 x.f0, .int .i64 x.f1, .string x.f2]
theorem info28 : (Try.prog.info? 28).map (fun i => (i.zero, i.size, i.bytes)) = some (some (.agg #[.int .i64 0, .int .i64 0, .string ByteArray.empty]), 3, 32) := by kernel_rfl
theorem c28_len (x : Env) : (c28 x).length = 3 := rfl
theorem c28_one (x : Env) : ∀ u ∈ c28 x, u.oneCell' = true := by
  intro u hu
  simp only [c28, List.mem_cons, List.not_mem_nil, or_false] at hu
  rcases hu with rfl | rfl | rfl <;> rfl
theorem flat_len (xs : List Env) : (xs.flatMap c28).length = xs.length * 3 := by
  induction xs with
  | nil => rfl
  | cons x xs ih => rw [List.flatMap_cons, List.length_append, ih, c28_len, List.length_cons]; omega
theorem flat_at (xs : List Env) (i : Nat) (h : i < xs.length) (j : Nat) (hj : j < 3) : (xs.flatMap c28)[i * 3 + j]? = (c28 xs[i])[j]? := by
  induction xs generalizing i with
  | nil => simp at h
  | cons x xs ih =>
    rw [List.flatMap_cons]
    cases i with
    | zero => rw [Nat.zero_mul, Nat.zero_add, List.getElem?_append_left (by rw [c28_len]; omega)]; rfl
    | succ i => rw [List.getElem?_append_right (by rw [c28_len]; omega), c28_len, show (i + 1) * 3 + j - 3 = i * 3 + j by omega, ih i (by simpa using h)]; rfl

def IsBag (T base : Nat) (w : World) (ok : Nat → Prop) (g : Nat) (xs : List Env) (lost : Int) : Prop :=
  base ≤ g ∧ g < w.heap.size ∧ ok g ∧ ∃ v, w.heap[g]? = some (.cells #[v, .int .i64 lost] T (0, 0)) ∧ FR c28 3 28 base w v xs ∧ ∀ k, v.ownBlock = some k → ok k ∧ k ≠ g

theorem IsBag.only {T base : Nat} {w w' : World} {ok S : Nat → Prop} {g : Nat} {xs : List Env} {lost : Int} (h : IsBag T base w ok g xs lost) (ho : Only S w w') (hd : ∀ k, ok k → ¬ S k) : IsBag T base w' ok g xs lost := by
  obtain ⟨h1, h2, h3, v, h4, h5, h6⟩ := h
  exact ⟨h1, Nat.lt_of_lt_of_le h2 ho.size, h3, v, blk_only h4 ho (hd g h3), h5.only ho (fun k hk => hd k (h6 k hk).1), h6⟩
theorem IsBag.mono {T base : Nat} {w : World} {ok ok' : Nat → Prop} {g : Nat} {xs : List Env} {lost : Int} (h : IsBag T base w ok g xs lost) (hd : ∀ k, ok k → k < w.heap.size → ok' k) : IsBag T base w ok' g xs lost := by
  obtain ⟨h1, h2, h3, v, h4, h5, h6⟩ := h
  exact ⟨h1, h2, hd g h3 h2, v, h4, h5, fun k hk => ⟨hd k (h6 k hk).1 (h5.lt k hk).2, (h6 k hk).2⟩⟩

theorem fr_cell {w : World} {b : Nat} {cur : Array Value} {t : TypeId} {fr : Nat × Nat} {xs : List Env} (hb : w.heap[b]? = some (.cells cur t fr)) (hcur : cur.toList.take (xs.length * 3) = xs.flatMap c28) (i : Nat) (hi : i < xs.length) (j : Nat) (hj : j < 3) : w.cell? ⟨b, i * 3 + j, none⟩ = (c28 xs[i])[j]? := by
  rw [cell_of_row w b (i * 3 + j) cur t fr hb, ← flat_at xs i hi j hj, ← hcur, List.getElem?_take, if_pos (by omega)]
  simp

/-- What lies at a place. -/
def atv (xs : List Env) (i : Int) : Env := if 0 ≤ i then xs.getD i.toNat z28 else z28
def inb (xs : List Env) (i : Int) : Bool := decide (0 ≤ i ∧ i < xs.length)

theorem size28 : (Try.prog.info? 28).map (·.size) = some 3 := by kernel_rfl
theorem flat_one (xs : List Env) : ∀ u ∈ xs.flatMap c28, u.oneCell' = true := by
  intro u hu
  obtain ⟨x, _, hx⟩ := List.mem_flatMap.1 hu
  exact c28_one x u hx
theorem flat_take (xs : List Env) (i : Nat) (hi : i ≤ xs.length) : (xs.flatMap c28).take (i * 3) = (xs.take i).flatMap c28 := by
  have h : xs.flatMap c28 = (xs.take i).flatMap c28 ++ (xs.drop i).flatMap c28 := by rw [← List.flatMap_append, List.take_append_drop]
  rw [h, List.take_append_of_le_length (by rw [flat_len, List.length_take]; omega), List.take_of_length_le (by rw [flat_len, List.length_take]; omega)]
/-- The cells behind place i go over by one. -/
theorem shift_facts (xs : List Env) (cur : List Value) (c i : Nat) (hi : i < xs.length) (hc : xs.length ≤ c) (hs : cur.length = c * 3) (hcur : cur.take (xs.length * 3) = xs.flatMap c28) :
    ((xs.drop (i + 1)).flatMap c28).length = Nat.min (xs.length - (i + 1)) (xs.length - i) * 3 ∧
    (∀ j u, ((xs.drop (i + 1)).flatMap c28)[j]? = some u → cur[(i + 1) * 3 + j]? = some u) ∧
    i * 3 + ((xs.drop (i + 1)).flatMap c28).length ≤ cur.length ∧
    (splice cur (i * 3) ((xs.drop (i + 1)).flatMap c28)).length = c * 3 ∧
    (splice cur (i * 3) ((xs.drop (i + 1)).flatMap c28)).take ((xs.length - 1) * 3) = (xs.eraseIdx i).flatMap c28 := by
  have hl : ((xs.drop (i + 1)).flatMap c28).length = (xs.length - (i + 1)) * 3 := by rw [flat_len, List.length_drop]
  have hm : Nat.min (xs.length - (i + 1)) (xs.length - i) = xs.length - (i + 1) := Nat.min_eq_left (by omega)
  have hd : (xs.flatMap c28).drop ((i + 1) * 3) = (xs.drop (i + 1)).flatMap c28 := by
    conv => lhs; rw [← List.take_append_drop (i + 1) xs, List.flatMap_append]
    rw [List.drop_append_of_le_length (by rw [flat_len, List.length_take]; omega), List.drop_eq_nil_of_le (by rw [flat_len, List.length_take]; omega), List.nil_append]
  have ht : (xs.flatMap c28).take (i * 3) = (xs.take i).flatMap c28 := by
    conv => lhs; rw [← List.take_append_drop i xs, List.flatMap_append]
    rw [List.take_append_of_le_length (by rw [flat_len, List.length_take]; omega), List.take_of_length_le (by rw [flat_len, List.length_take]; omega)]
  refine ⟨by rw [hl, hm], ?_, by rw [hl]; omega, ?_, ?_⟩
  · intro j u hu
    rw [← hd, List.getElem?_drop, ← hcur, List.getElem?_take] at hu
    split at hu
    · exact hu
    · cases hu
  · rw [length_splice _ _ _ (by rw [hl]; omega), hs]
  · unfold splice
    rw [← List.append_assoc, List.take_append_of_le_length (by rw [List.length_append, List.length_take, hl]; omega), List.take_of_length_le (by rw [List.length_append, List.length_take, hl]; omega)]
    rw [List.eraseIdx_eq_take_drop_succ, List.flatMap_append, ← ht, ← hcur, List.take_take, show min (i * 3) (xs.length * 3) = i * 3 by omega]

set_option maxHeartbeats 400000 in
theorem at_out (w : World) (base g : Nat) (ok : Nat → Prop) (xs : List Env) (lost : Int) (i : Int) (hI : IsBag 46 base w ok g xs lost) (hmax : xs.length ≤ 256)
    (hi : inb xs i = false) :
    Calls Try.prog 15 #[.pointer (some ⟨g, 0, none⟩), .int .i64 i] w fun e w' =>
      e = .returned (.tuple #[v28 z28, .bool false]) ∧ Below w.heap.size w w' := by
  obtain ⟨hg, hlt, hokg, v, hb, hR, hv⟩ := hI
  obtain ⟨A, c, rfl, hc⟩ := hR.form
  have c0 : w.cell? ⟨g, 0, none⟩ = some (.slice A xs.length c) := blk_cell hb 0
  have f0 := blk_frozen hb 0
  have hi' : ¬ (0 ≤ i ∧ i < xs.length) := by simpa [inb] using hi
  clear hR hb hv hi
  by_cases h0 : 0 ≤ i
  · have h1 : (xs.length : Int) ≤ i := by omega
    have h2 : decide (i < (xs.length : Int)) = false := by simpa using h1
    clear hi'
    go_enter Try.func15, Try.ntmps15
    go_wp2
    exact bodyPost_ret (v := .tuple #[v28 z28, .bool false]) (by simp [results, Try.results15, go_sem, v28]; exact ⟨rfl, rfl, rfl⟩) rfl ⟨rfl, (Below.refl _ _).alloc (Nat.le_refl _) _⟩
  · have h1 : i < 0 := by omega
    clear hi' h0
    go_enter Try.func15, Try.ntmps15
    go_wp2
    exact bodyPost_ret (v := .tuple #[v28 z28, .bool false]) (by simp [results, Try.results15, go_sem, v28]; exact ⟨rfl, rfl, rfl⟩) rfl ⟨rfl, (Below.refl _ _).alloc (Nat.le_refl _) _⟩

set_option maxHeartbeats 400000 in
theorem at_in (w : World) (base g : Nat) (ok : Nat → Prop) (xs : List Env) (lost : Int) (i : Nat) (x : Env) (hx : xs.getD i z28 = x) (hI : IsBag 46 base w ok g xs lost) (hmax : xs.length ≤ 256)
    (hi : i < xs.length) :
    Calls Try.prog 15 #[.pointer (some ⟨g, 0, none⟩), .int .i64 i] w fun e w' =>
      e = .returned (.tuple #[v28 x, .bool true]) ∧ Below w.heap.size w w' := by
  obtain ⟨hg, hlt, hokg, v, hb, hR, hv⟩ := hI
  obtain ⟨b, c, cur, rfl, hbb, hbh, hc, hcm, hcs, hcur⟩ := hR.some (by omega)
  have c0 : w.cell? ⟨g, 0, none⟩ = some (.slice (some ⟨b, 0, none⟩) xs.length c) := blk_cell hb 0
  have f0 := blk_frozen hb 0
  have e0 : w.cell? ⟨b, i * 3, none⟩ = some (.int .i64 (xs.getD i z28).f0) := by
    have := fr_cell hbh hcur i hi 0 (by omega); simpa [c28, List.getD_eq_getElem?_getD, hi] using this
  have e1 : w.cell? ⟨b, i * 3 + 1, none⟩ = some (.int .i64 (xs.getD i z28).f1) := by
    have := fr_cell hbh hcur i hi 1 (by omega); simpa [c28, List.getD_eq_getElem?_getD, hi] using this
  have e2 : w.cell? ⟨b, i * 3 + 2, none⟩ = some (.string (xs.getD i z28).f2) := by
    have := fr_cell hbh hcur i hi 2 (by omega); simpa [c28, List.getD_eq_getElem?_getD, hi] using this
  have hblt := blk_lt hbh
  rw [hx] at e0 e1 e2
  clear hx hR hb hv hbh hcur hcs
  go_enter Try.func15, Try.ntmps15
  go_wp2
  exact bodyPost_ret (v := .tuple #[v28 x, .bool true]) (by simp [results, Try.results15, go_sem, v28]) rfl ⟨rfl, ((Below.refl _ _).alloc (Nat.le_refl _) _)⟩
set_option maxHeartbeats 400000 in
theorem rat_out (w : World) (base g : Nat) (ok : Nat → Prop) (xs : List Env) (lost : Int) (i : Int) (hI : IsBag 40 base w ok g xs lost) (hmax : xs.length ≤ 256)
    (hi : inb xs i = false) :
    Calls Try.prog 16 #[.pointer (some ⟨g, 0, none⟩), .int .i64 i] w fun e w' =>
      e = .returned (.tuple #[v28 z28, .bool false]) ∧ Below w.heap.size w w' := by
  obtain ⟨hg, hlt, hokg, v, hb, hR, hv⟩ := hI
  obtain ⟨A, c, rfl, hc⟩ := hR.form
  have c0 : w.cell? ⟨g, 0, none⟩ = some (.slice A xs.length c) := blk_cell hb 0
  have f0 := blk_frozen hb 0
  have hi' : ¬ (0 ≤ i ∧ i < xs.length) := by simpa [inb] using hi
  clear hR hb hv hi
  by_cases h0 : 0 ≤ i
  · have h1 : (xs.length : Int) ≤ i := by omega
    have h2 : decide (i < (xs.length : Int)) = false := by simpa using h1
    clear hi'
    go_enter Try.func16, Try.ntmps16
    go_wp2
    exact bodyPost_ret (v := .tuple #[v28 z28, .bool false]) (by simp [results, Try.results16, go_sem, v28]; exact ⟨rfl, rfl, rfl⟩) rfl ⟨rfl, (Below.refl _ _).alloc (Nat.le_refl _) _⟩
  · have h1 : i < 0 := by omega
    clear hi' h0
    go_enter Try.func16, Try.ntmps16
    go_wp2
    exact bodyPost_ret (v := .tuple #[v28 z28, .bool false]) (by simp [results, Try.results16, go_sem, v28]; exact ⟨rfl, rfl, rfl⟩) rfl ⟨rfl, (Below.refl _ _).alloc (Nat.le_refl _) _⟩

set_option maxHeartbeats 400000 in
theorem rat_in (w : World) (base g : Nat) (ok : Nat → Prop) (xs : List Env) (lost : Int) (i : Nat) (x : Env) (hx : xs.getD i z28 = x) (hI : IsBag 40 base w ok g xs lost) (hmax : xs.length ≤ 256)
    (hi : i < xs.length) :
    Calls Try.prog 16 #[.pointer (some ⟨g, 0, none⟩), .int .i64 i] w fun e w' =>
      e = .returned (.tuple #[v28 x, .bool true]) ∧ Below w.heap.size w w' := by
  obtain ⟨hg, hlt, hokg, v, hb, hR, hv⟩ := hI
  obtain ⟨b, c, cur, rfl, hbb, hbh, hc, hcm, hcs, hcur⟩ := hR.some (by omega)
  have c0 : w.cell? ⟨g, 0, none⟩ = some (.slice (some ⟨b, 0, none⟩) xs.length c) := blk_cell hb 0
  have f0 := blk_frozen hb 0
  have e0 : w.cell? ⟨b, i * 3, none⟩ = some (.int .i64 (xs.getD i z28).f0) := by
    have := fr_cell hbh hcur i hi 0 (by omega); simpa [c28, List.getD_eq_getElem?_getD, hi] using this
  have e1 : w.cell? ⟨b, i * 3 + 1, none⟩ = some (.int .i64 (xs.getD i z28).f1) := by
    have := fr_cell hbh hcur i hi 1 (by omega); simpa [c28, List.getD_eq_getElem?_getD, hi] using this
  have e2 : w.cell? ⟨b, i * 3 + 2, none⟩ = some (.string (xs.getD i z28).f2) := by
    have := fr_cell hbh hcur i hi 2 (by omega); simpa [c28, List.getD_eq_getElem?_getD, hi] using this
  have hblt := blk_lt hbh
  rw [hx] at e0 e1 e2
  clear hx hR hb hv hbh hcur hcs
  go_enter Try.func16, Try.ntmps16
  go_wp2
  exact bodyPost_ret (v := .tuple #[v28 x, .bool true]) (by simp [results, Try.results16, go_sem, v28]) rfl ⟨rfl, ((Below.refl _ _).alloc (Nat.le_refl _) _)⟩
end Go.Proofs.Ytabfngbdbflfaaa
