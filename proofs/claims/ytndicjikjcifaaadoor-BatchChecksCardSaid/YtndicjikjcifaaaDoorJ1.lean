/- Texts joined by wip/tools/slim2.py: Strle, WWords, WLast, WTab, WFour, WQPut, WApart, WArr, WZeros, WFoot, WKept, WShare, WN, WFootNe, WAt, WEqStruct, WRepsOne, WInv, WInvWords, WGuard, WNEv, WMore, PBx0, WSized, Base, Batl, Lays, Txchk. -/
import Derived.Laws.Cover1
import Derived.Lib.Hide
import Derived.Below
import Derived.Deep.Draws
import Derived.Deep.AppendLies
import Derived.Maps.AppendAt
import Derived.OwnWalk
import Derived.Laws.BytesArg
import Derived.Laws.MakeOwn
import Derived.Laws.OwnMore
import Derived.Deep.OwnRows
import Derived.Tactics
import Derived.Lib.ConvBytes
import Derived.Laws.Slices
import Derived.WalkKit
import Derived.KernelRfl
import Derived.RowKit3
import Derived.Deep.LoopGhost
import Derived.Deep.QuietTactic
import Derived.BigQuiet
import Derived.WideLaws
import Derived.Deep.DeepCutAuto
import Derived.Deep.CutBlock
import Derived.Deep.RegionHeld3
import Derived.Laws.Rows
import Derived.Lib.AppendStr
import Derived.ArgAppend
import Derived.Laws.IdiomCopy
import Derived.RowKit
import Derived.OrdersHeld
import Derived.Laws.BitsLemmas
import Derived.Laws.StructEq
import Derived.Test.YtndicjikjcifaaaDoorProg
import Derived.SizedLaws
import Derived.ChangeSlices
import Derived.Laws.CopyRow
import Derived.Laws.CopyOwn
import Derived.Ground.NamesProg
import Derived.Shelf.Lays
import Derived.Shelf.Strings.SlTrimAscii
import Derived.Defers
import Derived.Recover
import Derived.WalkSmall
import Derived.Laws.Pointers
import Derived.Deep.DeepMust
import Derived.Shelf.Strings.Prefix
import Derived.StillTactics
/- '<=' on strings, told by '<'. -/
namespace Go.Proofs.YtndicjikjcifaaaDoor
open Go
theorem u8_tri (a b : UInt8) : a < b ∨ a = b ∨ b < a := by
  rcases Nat.lt_trichotomy a.toNat b.toNat with h | h | h
  · exact .inl h
  · exact .inr (.inl (UInt8.toNat_inj.1 h))
  · exact .inr (.inr h)
theorem leq_not : ∀ a b : List UInt8, (Op.bytesLess a b || a == b) = !Op.bytesLess b a
  | [], [] => rfl
  | [], b :: y => rfl
  | a :: x, [] => rfl
  | a :: x, b :: y => by
    have ih := leq_not x y
    have hbl : ∀ (a b : UInt8) (x y : List UInt8), Op.bytesLess (a :: x) (b :: y) = (decide (a < b) || (a == b && Op.bytesLess x y)) := fun _ _ _ _ => rfl
    have hcons : ((a :: x) == (b :: y)) = (a == b && x == y) := rfl
    rw [hbl, hbl, hcons]
    rcases u8_tri a b with h | h | h
    · have h1 : ¬ b < a := fun h2 => by have : a.toNat < b.toNat := h; have : b.toNat < a.toNat := h2; omega
      have h2 : (b == a) = false := by
        rw [beq_eq_false_iff_ne]
        rintro rfl
        exact h1 h
      simp [h, h1, h2]
    · subst h
      have h1 : ¬ a < a := fun h2 => by have : a.toNat < a.toNat := h2; omega
      simp [h1, ih]
    · have h1 : ¬ a < b := fun h2 => by have : b.toNat < a.toNat := h; have : a.toNat < b.toNat := h2; omega
      have h2 : (a == b) = false := by
        rw [beq_eq_false_iff_ne]
        rintro rfl
        exact h1 h
      simp [h, h1, h2]
end Go.Proofs.YtndicjikjcifaaaDoor

-- PRINTED WORDS (module Derived/Print/Words.lean): go-wishes' parts 1 to 38 and go-gate-2's additions: AI agents of Go's test side, Mon Nov 16 2026; no person has read them. Plain theorems and definitions: no macro, no elab, no axiom.
set_option linter.unusedVariables false
set_option linter.unusedSimpArgs false
namespace Go.Proofs.YtndicjikjcifaaaDoorW.PrintWords
open Go.RowKit
structure Aside0 (p : Prop) : Prop where mk :: (out : p)
structure Drawn0 (w w' : World) : Prop where mk :: (out : ∃ n, w' = w.drewN n)
theorem Drawn0.refl (w : World) : Drawn0 w w := ⟨⟨0, rfl⟩⟩
theorem Drawn0.step {w w' : World} (h : Drawn0 w w') (n : Nat) : Drawn0 w (w'.drewN n) := by
  obtain ⟨m, rfl⟩ := h
  exact ⟨⟨m + n, World.drewN_drewN ..⟩⟩
theorem Drawn0.grown {w w' : World} (h : Drawn0 w w') : Grown w w' := by
  obtain ⟨n, rfl⟩ := h
  induction n with
  | zero => exact Grown.refl _
  | succ n ih => rw [← World.drew_drewN]; exact Grown.drew ih
theorem Drawn0.below {w w' : World} (h : Drawn0 w w') : Below w.heap.size w w' := by
  obtain ⟨n, rfl⟩ := h
  induction n with
  | zero => exact Below.refl _ _
  | succ n ih => rw [← World.drew_drewN]; exact ih.drew
/-! ### 1. Values and lists -/
def rd (xs : List Int) (i : Int) : Int := xs.getD i.toNat 0
def bt (s : ByteArray) (i : Int) : Int := if h : i.toNat < s.size then ((s[i.toNat]'h).toNat : Int) else 0
theorem bt_at (s : ByteArray) (i : Int) : ∀ h : i.toNat < s.size, ((s[i.toNat]'h).toNat : Int) = bt s i := fun h => by simp [bt, h]
def nums (k : IntKind) (xs : List Int) : List Value := xs.map fun x => .int k x
/-! ### 2. The world -/
theorem below_alloc {w W : World} (h : Below w.heap.size w W) (o : Obj) : Below w.heap.size w (W.alloc o) := h.alloc h.size o
theorem below_drew {B : Nat} {w W : World} (h : Below B w W) : Below B w W.drew := ⟨h.os, h.tape, h.output, h.size, h.block⟩
theorem pw_below_drewN {B : Nat} {w W : World} (h : Below B w W) (n : Nat) : Below B w (W.drewN n) := ⟨h.os, h.tape, h.output, h.size, h.block⟩
theorem below_then {B : Nat} {w w1 w2 : World} (h : Below B w w1) (hB : B ≤ w1.heap.size) (k : Below w1.heap.size w1 w2) : Below B w w2 :=
  h.trans ⟨k.os, k.tape, k.output, k.size, fun i hi => k.block i (Nat.lt_of_lt_of_le hi hB)⟩
theorem grown_of_below {w w1 : World} (h : Below w.heap.size w w1) (row : Option Nat) : w.grownBy w1 row := ⟨h.os, h.tape, h.output, h.size, fun i hi _ => h.block i hi⟩
theorem pw_cell_below {w w1 : World} (h : Below w.heap.size w w1) {a : Addr} {v : Value} (hc : w.cell? a = some v) : w1.cell? a = some v := (h.cell (World.block_lt_of_cell? w a hc)).trans hc
/-! ### 3. A slice of whole numbers that is read; nil, empty and other slices alike -/
def ReadsInt (w : World) (k : IntKind) (A : Option Addr) (n : Nat) (xs : List Int) : Prop :=
  xs.length = n ∧ n ≤ 9223372036854775807 ∧ (0 < n → ∃ ad, A = some ad ∧ ∀ j, j < n → w.cell? (ad.add j) = some (.int k (xs.getD j 0)))
theorem ReadsInt.at_ {w : World} {k : IntKind} {A : Option Addr} {n : Nat} {xs : List Int} (h : ReadsInt w k A n xs) (i : Int) (h0 : 0 ≤ i) (h1 : i < n) : ∃ ad, A = some ad ∧ w.cell? (ad.add i.toNat) = some (.int k (rd xs i)) := by
  obtain ⟨ad, e, hc⟩ := h.2.2 (by omega)
  exact ⟨ad, e, hc _ (by omega)⟩
theorem ReadsInt.below {w w1 : World} {k : IntKind} {A : Option Addr} {n : Nat} {xs : List Int} (h : ReadsInt w k A n xs) (hb : Below w.heap.size w w1) : ReadsInt w1 k A n xs :=
  ⟨h.1, h.2.1, fun hn => by
    obtain ⟨ad, e, hc⟩ := h.2.2 hn
    exact ⟨ad, e, fun j hj => pw_cell_below hb (hc j hj)⟩⟩
/-! ### 4. A row of the call's own -/
theorem own_nil (W : World) (base : Nat) (e : TypeId) (size : Nat) : W.ownsRow base e size (.slice none 0 0) 0 [] := ⟨by simp, .inl ⟨rfl, rfl⟩⟩
theorem own_base {w : World} {base : Nat} {e : TypeId} {size n : Nat} {v : Value} {xs : List Value} (h : w.ownsRow base e size v n xs) (k : Nat) (hk : v.ownBlock = some k) : base ≤ k := by
  rcases h.2 with ⟨rfl, _⟩ | ⟨g, cap, cur, rfl, hb, _⟩
  · simp [Value.ownBlock] at hk
  · have : g = k := by simpa [Value.ownBlock] using hk
    omega
theorem own_lt {w : World} {base : Nat} {e : TypeId} {size n : Nat} {v : Value} {xs : List Value} (h : w.ownsRow base e size v n xs) (k : Nat) (hk : v.ownBlock = some k) : k < w.heap.size := by
  rcases h.2 with ⟨rfl, _⟩ | ⟨g, cap, cur, rfl, hb, hh, _⟩
  · simp [Value.ownBlock] at hk
  · have : g = k := by simpa [Value.ownBlock] using hk
    subst this
    exact (Array.getElem?_eq_some_iff.1 hh).1
theorem pw_own_below {w w1 : World} {base : Nat} {e : TypeId} {size n : Nat} {v : Value} {xs : List Value} (h : w.ownsRow base e size v n xs) (hb : Below w.heap.size w w1) : w1.ownsRow base e size v n xs :=
  h.kept (grown_of_below hb none) (by cases v.ownBlock <;> simp)
theorem own_other {w w1 : World} {base : Nat} {e : TypeId} {size n : Nat} {v : Value} {xs : List Value} (h : w.ownsRow base e size v n xs) {row : Option Nat} (hg : w.grownBy w1 row) (hne : v.ownBlock = none ∨ v.ownBlock ≠ row) : w1.ownsRow base e size v n xs := h.kept hg hne
theorem own_string {P : Program} {w : World} {base n : Nat} {e' src dst e : TypeId} {v : Value} {xs : List Int} (hs : P.underlying src = some (.slice e)) (he : P.underlying e = some (.int .u8)) (hd : P.underlying dst = some .string)
    (h : w.ownsRow base e' 1 v n (nums .u8 xs)) : (convert src dst v).run P w = .ok (.string (strOfNums xs)) w := by
  have hl : xs.length = n := by have := h.1; simp [nums] at this; exact this
  rcases h.2 with ⟨rfl, rfl⟩ | ⟨g, cap, cur, rfl, _⟩
  · obtain rfl : xs = [] := List.eq_nil_of_length_eq_zero hl
    exact run_convert_bytes_nil w src e hs he 0 0 dst hd
  · refine run_convert_bytes_arg w src e hs he g 0 n cap xs hl (fun i hi => ?_) dst hd
    have hc := h.cells (g := g) rfl i (.int .u8 (xs.getD i 0)) (by simp [nums, List.getElem?_eq_getElem (show i < xs.length by omega), List.getD_eq_getElem?_getD])
    have ha : (⟨g, 0, none⟩ : Addr).add i = ⟨g, 0 + i, none⟩ := by unfold Addr.add; split <;> simp_all
    rwa [ha] at hc
/-! ### 5. append(v, x): behind 'at_builtin'; the goal's world is 'W.alloc' of the variadic's box -/
section
variable {P : Program} {ops : Array Oper} {rest : List Oper} {o : Oper} {a : Act} {Q : Exit → Act → World → Prop}
end
/-! ### 6. make([]T, n), n an Int; a literal -/
section
variable {P : Program}
end
/-! ### 7. v[i] read and v[i] = x, v a row of the call's own: 'obtain ⟨g, cap, rfl, hgb, hgl⟩ := HO.out.form (by omega)' first -/
/-! ### 8. append(v, ys...): ys a slice that is read, nil let in; behind 'at_builtin' -/
section
variable {P : Program} {ops : Array Oper} {rest : List Oper} {o : Oper} {a : Act} {Q : Exit → Act → World → Prop}
end
/-! ### 9. []byte(s): a slice that is read (its row bears a conversion's mark: no row of one's own); cuts of a slice that is read -/
def bytesOf (s : ByteArray) : List Int := s.data.toList.map fun b => (b.toNat : Int)
theorem ReadsInt.take_ {w : World} {k : IntKind} {A : Option Addr} {n : Nat} {xs : List Int} (h : ReadsInt w k A n xs) (i : Nat) (hi : i ≤ n) : ReadsInt w k A i (xs.take i) := by
  refine ⟨by rw [List.length_take, h.1]; omega, by have := h.2.1; omega, fun hp => ?_⟩
  obtain ⟨ad, e, hc⟩ := h.2.2 (by omega)
  refine ⟨ad, e, fun j hj => ?_⟩
  rw [hc j (by omega)]
  simp [List.getD_eq_getElem?_getD, hj]
/-! ### 10. Rounds: more rounds give the same answer; what ends gives a number of rounds -/
def LeO {α : Type} (a b : Option α) : Prop := ∀ r, a = some r → b = some r
theorem LeO.refl {α : Type} (a : Option α) : LeO a a := fun _ h => h
theorem LeO.none {α : Type} (b : Option α) : LeO Option.none b := fun _ h => by cases h
theorem LeO.trans {α : Type} {a b c : Option α} (h : LeO a b) (k : LeO b c) : LeO a c := fun r hr => k r (h r hr)
theorem LeO.ite {α : Type} {c : Prop} [Decidable c] {a a' b b' : Option α} (h : LeO a a') (k : LeO b b') : LeO (if c then a else b) (if c then a' else b') := by
  split
  · exact h
  · exact k
theorem LeO.bind {α β : Type} {a a' : Option α} {f f' : α → Option β} (h : LeO a a') (k : ∀ x, LeO (f x) (f' x)) : LeO (a.bind f) (a'.bind f') := by
  intro r hr
  obtain ⟨x, hx, hf⟩ := Option.bind_eq_some_iff.1 hr
  exact Option.bind_eq_some_iff.2 ⟨x, h x hx, k x r hf⟩
theorem LeO.map {α β : Type} {a a' : Option α} (f : α → β) (h : LeO a a') : LeO (a.map f) (a'.map f) := by
  intro r hr
  obtain ⟨x, hx, hf⟩ := Option.map_eq_some_iff.1 hr
  exact Option.map_eq_some_iff.2 ⟨x, h x hx, hf⟩
theorem more_rounds {α : Type} {g : Nat → Option α} (h : ∀ k, LeO (g k) (g (k + 1))) (k : Nat) : ∀ j, LeO (g k) (g (k + j))
  | 0 => LeO.refl _
  | j + 1 => (more_rounds h k j).trans (h (k + j))
theorem at_rounds {α : Type} {g : Nat → Option α} (h : ∀ k, LeO (g k) (g (k + 1))) {k k' : Nat} (hk : k ≤ k') {r : α} (hr : g k = some r) : g k' = some r := by
  have := more_rounds h k (k' - k) r hr
  rwa [Nat.add_sub_cancel' hk] at this
/-! ### 11. Rows of elements of several cells (structs): read, made. R: what an element's cells say ('RepItem w': printed for each type) -/
def Reps {α : Type} (R : α → List Value → Prop) (size : Nat) (ps : List α) (cs : List Value) : Prop :=
  cs.length = ps.length * size ∧ ∀ j p, ps[j]? = some p → R p ((cs.drop (j * size)).take size)
theorem Reps.none {α : Type} (R : α → List Value → Prop) (size : Nat) : Reps R size [] [] := ⟨by simp, fun j p h => by simp at h⟩
theorem Reps.snoc {α : Type} {R : α → List Value → Prop} {size : Nat} {ps : List α} {cs c : List Value} {p : α} (h : Reps R size ps cs) (hp : R p c) (hc : c.length = size) : Reps R size (ps ++ [p]) (cs ++ c) := by
  refine ⟨by rw [List.length_append, h.1, hc, List.length_append, List.length_singleton, Nat.add_mul, Nat.one_mul], fun j q hq => ?_⟩
  rcases Nat.lt_or_ge j ps.length with hj | hj
  · rw [List.getElem?_append_left hj] at hq
    have h1 : j * size + size ≤ cs.length := by rw [h.1, ← Nat.succ_mul]; exact Nat.mul_le_mul_right _ hj
    have h2 := h.2 j q hq
    rw [List.drop_append_of_le_length (by omega), List.take_append_of_le_length (by rw [List.length_drop]; omega)]
    exact h2
  · have hj' : j = ps.length := by
      have := (List.getElem?_eq_some_iff.1 hq).1
      rw [List.length_append, List.length_singleton] at this
      omega
    subst hj'
    have hq' : p = q := by simpa using hq
    subst hq'
    rw [← h.1, List.drop_left, ← hc, List.take_length]
    exact hp
theorem Reps.imp_ {α : Type} {R R' : α → List Value → Prop} {size : Nat} {ps : List α} {cs : List Value} (h : Reps R size ps cs) (hR : ∀ p c, R p c → R' p c) : Reps R' size ps cs := ⟨h.1, fun j p hj => hR _ _ (h.2 j p hj)⟩
def ReadsRow {α : Type} (R : α → List Value → Prop) (size : Nat) (w : World) (A : Option Addr) (n : Nat) (ps : List α) : Prop :=
  ps.length = n ∧ n ≤ 9223372036854775807 ∧ (0 < n → ∃ ad, A = some ad ∧ ∀ j p, ps[j]? = some p → ∃ c, c.length = size ∧ R p c ∧ ∀ i u, c[i]? = some u → w.cell? (ad.add (j * size + i)) = some u)
theorem ReadsRow.get_ {α : Type} {R : α → List Value → Prop} {size : Nat} {w : World} {A : Option Addr} {n : Nat} {ps : List α} (h : ReadsRow R size w A n ps) (d : α) (i : Int) (h0 : 0 ≤ i) (h1 : i < n) :
    ∃ ad c, A = some ad ∧ c.length = size ∧ R (ps.getD i.toNat d) c ∧ ∀ j u, c[j]? = some u → w.cell? (ad.add (i.toNat * size + j)) = some u := by
  obtain ⟨ad, e, hc⟩ := h.2.2 (by omega)
  have hl : i.toNat < ps.length := by have := h.1; omega
  obtain ⟨c, hs, hr, hcell⟩ := hc i.toNat _ (List.getElem?_eq_getElem hl)
  refine ⟨ad, c, e, hs, ?_, hcell⟩
  rw [List.getD_eq_getElem?_getD, List.getElem?_eq_getElem hl]
  exact hr
theorem ReadsRow.imp_ {α : Type} {R R' : α → List Value → Prop} {size : Nat} {w w1 : World} {A : Option Addr} {n : Nat} {ps : List α} (h : ReadsRow R size w A n ps) (hb : Below w.heap.size w w1) (hR : ∀ p c, R p c → R' p c) : ReadsRow R' size w1 A n ps :=
  ⟨h.1, h.2.1, fun hn => by
    obtain ⟨ad, e, hc⟩ := h.2.2 hn
    refine ⟨ad, e, fun j p hj => ?_⟩
    obtain ⟨c, hs, hr, hcell⟩ := hc j p hj
    exact ⟨c, hs, hR _ _ hr, fun i u hu => pw_cell_below hb (hcell i u hu)⟩⟩
theorem own_reads_row {α : Type} {R : α → List Value → Prop} {w : World} {base n size : Nat} {e : TypeId} {v : Value} {ps : List α} {cs : List Value} (h : w.ownsRow base e size v n cs) (hR : Reps R size ps cs) (hn : ps.length = n) :
    ∃ A c, v = .slice A n c ∧ ReadsRow R size w A n ps := by
  rcases Nat.eq_zero_or_pos n with h0 | h0
  · rcases h.2 with ⟨rfl, rfl⟩ | ⟨g, cap, cur, rfl, _⟩
    · exact ⟨none, 0, rfl, hn, by omega, fun hp => absurd hp (by omega)⟩
    · exact ⟨_, cap, rfl, hn, by omega, fun hp => absurd hp (by omega)⟩
  · obtain ⟨g, cap, rfl, _, _⟩ := h.form h0
    have hm : n ≤ 9223372036854775807 := by
      rcases h.2 with ⟨_, h1⟩ | ⟨g', cap', cur, he, _, _, h1, h2, _⟩
      · omega
      · simp only [maxLen] at h2
        omega
    refine ⟨_, cap, rfl, hn, hm, fun _ => ⟨_, rfl, fun j p hj => ⟨(cs.drop (j * size)).take size, ?_, hR.2 j p hj, fun i u hu => ?_⟩⟩⟩
    · have hjl := (List.getElem?_eq_some_iff.1 hj).1
      have h1 : j * size + size ≤ cs.length := by rw [hR.1, ← Nat.succ_mul]; exact Nat.mul_le_mul_right _ hjl
      rw [List.length_take, List.length_drop]
      omega
    · refine h.cells (g := g) rfl _ u ?_
      rw [List.getElem?_take] at hu
      split at hu
      · rw [List.getElem?_drop] at hu
        exact hu
      · cases hu
theorem add_field (ad : Addr) (m j : Nat) (hj : 0 < j) : ad.add (m + j) = ⟨(ad.add m).block, (ad.add m).off + j, none⟩ := by
  unfold Addr.add
  by_cases hm : m = 0
  · subst hm
    simp [Nat.ne_of_gt hj]
  · simp [hm, Nat.add_assoc]
section
variable {P : Program} {ops : Array Oper} {rest : List Oper} {o : Oper} {a : Act} {Q : Exit → Act → World → Prop}
theorem print_append_cells {w0 W : World} (base : Nat) (hgd : o.guard = none) (s x : Operand) (t e : TypeId) (z : Value) (size bytes : Nat)
    (ho : o.op = .call { callee := .builtin .append, args := #[s, x], argTypes := #[t, t] })
    (ht : P.underlying t = some (.slice e)) (hinfo : (P.info? e).map (fun i => (i.zero, i.size, i.bytes)) = some (some z, size, bytes)) (hz : z.cells.size = size) (hs0 : 0 < size) (hb0 : 0 < bytes)
    (v : Value) (n : Nat) (xs ys : List Value) (hs : a.eval s = v) (hx : a.eval x = .slice (some ⟨W.heap.size, 0, none⟩) 1 1) (hys : ys.length = size) (h1 : ∀ u ∈ ys, u.oneCell' = true)
    (HO : W.ownsRow base e size v n xs) (HB : Below base w0 W) (hbase : base ≤ W.heap.size) (hl : (n + 1) * bytes ≤ 140737488355328)
    (h : ∀ v1 w1, w1.ownsRow base e size v1 (n + 1) (xs ++ ys) → Below base w0 w1 → W.grownBy w1 v.ownBlock → (v1.ownBlock = v.ownBlock ∨ ∃ b, v1.ownBlock = some b ∧ W.heap.size ≤ b) → wpList P ops Q rest (a.put o.dst v1) w1) :
    wpList P ops Q (o :: rest) a (W.alloc (.cells ys.toArray e)) := by
  obtain ⟨i0, hi, hzz⟩ := Option.map_eq_some_iff.1 hinfo
  simp only [Prod.mk.injEq] at hzz
  obtain ⟨hz0, hz1, hz2⟩ := hzz
  have hlen : n + 1 ≤ 140737488355328 := Nat.le_trans (Nat.le_mul_of_pos_right _ hb0) hl
  refine wpList_append_own_at (W.alloc (.cells ys.toArray e)) hgd s x t ho base e i0 z size bytes ht hi hz0 hz1 hz2 hz hs0 v n xs hs (HO.alloc _) ⟨W.heap.size, 0, none⟩ 1 1 ys hx (by rw [hys]; simp)
    (by simpa using World.news_of_block (cs := ys.toArray) (t := e) (fr := (0, 0)) (heap_alloc_new W (.cells ys.toArray e))) h1 (by simp only [maxLen]; omega) hl (by simp; omega) ?_
  intro v1 w1 hown hg _ hat
  refine h v1 w1 hown ((HB.alloc hbase _).grown hg (by simp; omega) (own_base HO)) (World.grownBy.trans (World.grownBy_alloc W _ _) hg) ?_
  rcases hat with hat | hat
  · exact .inl hat
  · exact .inr ⟨_, hat, by simp⟩
end
/-! ### 12. A block of one's own that is a state: its cells, what a store leaves -/
theorem own_ne {w : World} {base : Nat} {e t : TypeId} {size n g : Nat} {v : Value} {xs : List Value} {cs : Array Value} (h : w.ownsRow base e size v n xs) (hg : w.heap[g]? = some (.cells cs t (0, 0))) (hne : e ≠ t) : some g ≠ v.ownBlock := by
  rcases h.2 with ⟨rfl, _⟩ | ⟨g', cap, cur, rfl, _, hh, _⟩
  · simp [Value.ownBlock]
  · intro he
    have : g = g' := by simpa [Value.ownBlock] using he
    subst this
    rw [hg] at hh
    injection hh with hh
    injection hh with _ ht
    exact hne ht.symm
theorem blk_set {w : World} {g : Nat} {t : TypeId} {cs : Array Value} (h : w.heap[g]? = some (.cells cs t (0, 0))) (i : Nat) (u : Value) : (w.setCell ⟨g, i, none⟩ u).heap[g]? = some (.cells (cs.setIfInBounds i u) t (0, 0)) := by
  simp [World.setCell, Array.getElem?_modify, h]
theorem blk_far {w : World} {g : Nat} {t : TypeId} {cs : Array Value} (h : w.heap[g]? = some (.cells cs t (0, 0))) {p : Addr} (hp : g ≠ p.block) (u : Value) : (w.setCell p u).heap[g]? = some (.cells cs t (0, 0)) := (Below.heap_setCell w p u g hp).trans h
theorem blk_lt {w : World} {g : Nat} {o : Obj} (h : w.heap[g]? = some o) : g < w.heap.size := (Array.getElem?_eq_some_iff.1 h).1
theorem blk_cell {w : World} {g : Nat} {t : TypeId} {cs : Array Value} (h : w.heap[g]? = some (.cells cs t (0, 0))) (i : Nat) : w.cell? ⟨g, i, none⟩ = cs[i]? := cell_of_row w g i cs t (0, 0) h
theorem blk_frozen {w : World} {g : Nat} {t : TypeId} {cs : Array Value} (h : w.heap[g]? = some (.cells cs t (0, 0))) (i : Nat) : w.frozen? ⟨g, i, none⟩ = false := by simp [World.frozen?, h]
theorem blk_grown {w w1 : World} {g : Nat} {o : Obj} {row : Option Nat} (h : w.heap[g]? = some o) (hg : w.grownBy w1 row) (hne : some g ≠ row) : w1.heap[g]? = some o := (hg.block g (blk_lt h) hne).trans h
/-! ### 13. Two states at once: what a call on the state at block g (its row before: 'row') has turned -/
def KeepBut (w w' : World) (g : Nat) (row : Option Nat) : Prop := w.heap.size ≤ w'.heap.size ∧ ∀ i, i < w.heap.size → i ≠ g → some i ≠ row → w'.heap[i]? = w.heap[i]?
theorem KeepBut.refl (w : World) (g : Nat) (row : Option Nat) : KeepBut w w g row := ⟨Nat.le_refl _, fun _ _ _ _ => rfl⟩
theorem KeepBut.of_below {w w1 : World} (h : Below w.heap.size w w1) (g : Nat) (row : Option Nat) : KeepBut w w1 g row := ⟨h.size, fun i hi _ _ => h.block i hi⟩
theorem KeepBut.trans {w w1 w2 : World} {g : Nat} {row row1 : Option Nat} (h : KeepBut w w1 g row) (k : KeepBut w1 w2 g row1) (hr : row1 = row ∨ ∃ b, row1 = some b ∧ w.heap.size ≤ b) : KeepBut w w2 g row :=
  ⟨Nat.le_trans h.1 k.1, fun i hi hg hn => by
    refine (k.2 i (Nat.lt_of_lt_of_le hi h.1) hg ?_).trans (h.2 i hi hg hn)
    rcases hr with rfl | ⟨b, rfl, hb⟩
    · exact hn
    · intro e
      injection e with e
      omega⟩
theorem KeepBut.blk {w w1 : World} {g g' : Nat} {row : Option Nat} {o : Obj} (h : KeepBut w w1 g row) (hb : w.heap[g']? = some o) (hg : g' ≠ g) (hr : some g' ≠ row) : w1.heap[g']? = some o := (h.2 g' (blk_lt hb) hg hr).trans hb
theorem KeepBut.own {w w1 : World} {g : Nat} {row : Option Nat} {base : Nat} {e : TypeId} {size n : Nat} {v : Value} {xs : List Value} (h : KeepBut w w1 g row) (ho : w.ownsRow base e size v n xs) (hg : v.ownBlock ≠ some g) (hr : v.ownBlock = none ∨ v.ownBlock ≠ row) : w1.ownsRow base e size v n xs := by
  obtain ⟨h1, h2⟩ := ho
  refine ⟨h1, ?_⟩
  rcases h2 with h2 | ⟨b, cap, cur, rfl, hb, hh, r⟩
  · exact .inl h2
  · refine .inr ⟨b, cap, cur, rfl, hb, h.blk hh ?_ ?_, r⟩
    · intro e
      exact hg (by rw [← e]; rfl)
    · rcases hr with hr | hr
      · simp [Value.ownBlock] at hr
      · exact hr
/-! ### 10b. From some number of rounds on -/
def Ev {α : Type} (g : Nat → Option α) (r : α) : Prop := ∃ K, ∀ k, K ≤ k → g k = some r
theorem Ev.of {α : Type} {g : Nat → Option α} {r : α} (hg : ∀ k, LeO (g k) (g (k + 1))) {k : Nat} (h : g k = some r) : Ev g r := ⟨k, fun _ hk => at_rounds hg hk h⟩
theorem Ev.now {α : Type} (r : α) : Ev (fun _ => some r) r := ⟨0, fun _ _ => rfl⟩
theorem Ev.rounds {α : Type} {g : Nat → Option α} {r : α} (h : Ev g r) : ∃ k, g k = some r := by
  obtain ⟨K, h⟩ := h
  exact ⟨K, h K (Nat.le_refl _)⟩
theorem Ev.bind {α β : Type} {g : Nat → Option α} {f : Nat → α → Option β} {a : α} {r : β} (h : Ev g a) (k : Ev (fun n => f n a) r) : Ev (fun n => (g n).bind (f n)) r := by
  obtain ⟨K, h⟩ := h
  obtain ⟨K', k⟩ := k
  refine ⟨max K K', fun n hn => ?_⟩
  have h1 := h n (by omega)
  have h2 := k n (by omega)
  simp only [h1, Option.bind_some]
  exact h2
theorem Ev.step {α : Type} {g f : Nat → Option α} {r : α} (h : ∀ k, g (k + 1) = f k) (k : Ev f r) : Ev g r := by
  obtain ⟨K, k⟩ := k
  refine ⟨K + 1, fun n hn => ?_⟩
  obtain ⟨m, rfl⟩ : ∃ m, n = m + 1 := ⟨n - 1, by omega⟩
  rw [h]
  exact k m (by omega)
theorem Ev.congr {α : Type} {g f : Nat → Option α} {r : α} (h : ∀ k, g k = f k) (k : Ev f r) : Ev g r := by
  obtain ⟨K, k⟩ := k
  exact ⟨K, fun n hn => (h n).trans (k n hn)⟩
/-! ### 14. append as_ one step of a region that draws its order: for 'go_region_law' (and a region walked by hand) -/
section
variable {P : Program} {ops : Array Oper} {o : Oper} {a : Act} {Q : Exit → Act → World → Prop} {K : Act → World → Prop}
end
/-! ### 15. A row's base may be lowered -/
theorem own_weaken {w : World} {base base' : Nat} {e : TypeId} {size n : Nat} {v : Value} {xs : List Value} (h : w.ownsRow base e size v n xs) (hb : base' ≤ base) : w.ownsRow base' e size v n xs := by
  obtain ⟨h1, h2⟩ := h
  refine ⟨h1, ?_⟩
  rcases h2 with h2 | ⟨g, cap, cur, rfl, hg, r⟩
  · exact .inl h2
  · exact .inr ⟨g, cap, cur, rfl, Nat.le_trans hb hg, r⟩
/-! ### 16. Parts 3 to 9 for ANY element of one cell: 'enc' (Value.int k, Value.string, Value.bool), a default 'd' -/
section
variable {α : Type} {enc : α → Value} {d : α}
def encs (enc : α → Value) (xs : List α) : List Value := xs.map enc
def rdOf (d : α) (xs : List α) (i : Int) : α := xs.getD i.toNat d
theorem encs_length (xs : List α) : (encs enc xs).length = xs.length := by simp [encs]
def ReadsOf (enc : α → Value) (d : α) (w : World) (A : Option Addr) (n : Nat) (xs : List α) : Prop :=
  xs.length = n ∧ n ≤ 9223372036854775807 ∧ (0 < n → ∃ ad, A = some ad ∧ ∀ j, j < n → w.cell? (ad.add j) = some (enc (xs.getD j d)))
theorem ReadsOf.at_ {w : World} {A : Option Addr} {n : Nat} {xs : List α} (h : ReadsOf enc d w A n xs) (i : Int) (h0 : 0 ≤ i) (h1 : i < n) : ∃ ad, A = some ad ∧ w.cell? (ad.add i.toNat) = some (enc (rdOf d xs i)) := by
  obtain ⟨ad, e, hc⟩ := h.2.2 (by omega)
  exact ⟨ad, e, hc _ (by omega)⟩
theorem ReadsOf.below {w w1 : World} {A : Option Addr} {n : Nat} {xs : List α} (h : ReadsOf enc d w A n xs) (hb : Below w.heap.size w w1) : ReadsOf enc d w1 A n xs :=
  ⟨h.1, h.2.1, fun hn => by
    obtain ⟨ad, e, hc⟩ := h.2.2 hn
    exact ⟨ad, e, fun j hj => pw_cell_below hb (hc j hj)⟩⟩
theorem ReadsOf.take_ {w : World} {A : Option Addr} {n : Nat} {xs : List α} (h : ReadsOf enc d w A n xs) (i : Nat) (hi : i ≤ n) : ReadsOf enc d w A i (xs.take i) := by
  refine ⟨by rw [List.length_take, h.1]; omega, by have := h.2.1; omega, fun hp => ?_⟩
  obtain ⟨ad, e, hc⟩ := h.2.2 (by omega)
  refine ⟨ad, e, fun j hj => ?_⟩
  rw [hc j (by omega)]
  simp [List.getD_eq_getElem?_getD, hj]
end
section
variable {α : Type} {P : Program} {ops : Array Oper} {rest : List Oper} {o : Oper} {a : Act} {Q : Exit → Act → World → Prop}
end
/-! ### 17. Rows of one element type held at once: no two share a block -/
/-! ### 18. A block behind a new one; behind a draw -/
theorem blk_alloc {w : World} {g : Nat} {o : Obj} (h : w.heap[g]? = some o) (o' : Obj) : (w.alloc o').heap[g]? = some o := (Below.heap_alloc w o' g (blk_lt h)).trans h
theorem blk_drew {w : World} {g : Nat} {o : Obj} (h : w.heap[g]? = some o) : w.drew.heap[g]? = some o := h
theorem blk_drewN {w : World} {g : Nat} {o : Obj} (h : w.heap[g]? = some o) (n : Nat) : (w.drewN n).heap[g]? = some o := h
theorem blk_below {w w1 : World} {g : Nat} {o : Obj} (h : w.heap[g]? = some o) (hb : Below w.heap.size w w1) : w1.heap[g]? = some o := (hb.block g (blk_lt h)).trans h
theorem blk_new (w : World) (o : Obj) : (w.alloc o).heap[w.heap.size]? = some o := heap_alloc_new w o
/-! ### 19. Results that lie in memory beside others -/
section
variable {P : Program}
end
/-! ### 20. Rows of elements of any kind: R is what an element's cells say -/
theorem own_le {w : World} {base n m c size : Nat} {e : TypeId} {A : Option Addr} {xs : List Value} (h : w.ownsRow base e size (.slice A m c) n xs) : m ≤ c := by
  rcases h.2 with ⟨he, _⟩ | ⟨g, cap, cur, he, _, _, hnc, _⟩
  · injection he with _ h2 h3
    omega
  · injection he with _ h2 h3
    omega
def OwnRow {α : Type} (R : α → List Value → Prop) (e : TypeId) (size : Nat) (w : World) (base : Nat) (v : Value) (ps : List α) : Prop :=
  ∃ inner, w.ownsRow base e size v ps.length inner ∧ Reps R size ps inner
section
variable {α : Type} {R R' : α → List Value → Prop} {e : TypeId} {size : Nat} {w w1 : World} {base : Nat} {v : Value} {ps : List α}
theorem OwnRow.none_ (R : α → List Value → Prop) (e : TypeId) (size : Nat) (w : World) (base : Nat) : OwnRow R e size w base (.slice none 0 0) [] := ⟨[], own_nil _ _ _ _, Reps.none _ _⟩
theorem OwnRow.imp_ (h : OwnRow R e size w base v ps) (hR : ∀ p c, R p c → R' p c) : OwnRow R' e size w base v ps := by
  obtain ⟨inner, ho, hr⟩ := h
  exact ⟨inner, ho, hr.imp_ hR⟩
theorem OwnRow.below (h : OwnRow R e size w base v ps) (hb : Below w.heap.size w w1) : OwnRow R e size w1 base v ps := by
  obtain ⟨inner, ho, hr⟩ := h
  exact ⟨inner, pw_own_below ho hb, hr⟩
theorem OwnRow.other (h : OwnRow R e size w base v ps) {row : Option Nat} (hg : w.grownBy w1 row) (hne : v.ownBlock = none ∨ v.ownBlock ≠ row) : OwnRow R e size w1 base v ps := by
  obtain ⟨inner, ho, hr⟩ := h
  exact ⟨inner, own_other ho hg hne, hr⟩
theorem OwnRow.reads (h : OwnRow R e size w base v ps) : ∃ A c, v = .slice A ps.length c ∧ ps.length ≤ c ∧ ReadsRow R size w A ps.length ps := by
  obtain ⟨inner, ho, hr⟩ := h
  obtain ⟨A, c, rfl, hrow⟩ := own_reads_row ho hr rfl
  exact ⟨A, c, rfl, own_le ho, hrow⟩
theorem OwnRow.ne_block (h : OwnRow R e size w base v ps) {g : Nat} {t : TypeId} {cells : Array Value} (hb : w.heap[g]? = some (.cells cells t (0, 0))) (ht : e ≠ t) : some g ≠ v.ownBlock := by
  obtain ⟨inner, ho, hr⟩ := h
  exact own_ne ho hb ht
theorem OwnRow.lit (W : World) (base : Nat) {inner : List Value} (hr : Reps R size ps inner) (hb : base ≤ W.heap.size) (hm : ps.length ≤ 9223372036854775807) :
    OwnRow R e size (W.alloc (.cells inner.toArray e)) base (.slice (some ⟨W.heap.size, 0, none⟩) ps.length ps.length) ps := by
  have h := World.ownsRow_lit (base := base) (e := e) (size := size) W inner.toArray ps.length hb (by simpa [maxLen] using hm) (by simpa using hr.1)
  exact ⟨inner, by simpa using h, hr⟩
end
section
variable {P : Program} {ops : Array Oper} {rest : List Oper} {o : Oper} {a : Act} {Q : Exit → Act → World → Prop} {α : Type} {R : α → List Value → Prop}
theorem OwnRow.append {w0 W : World} (base : Nat) (hgd : o.guard = none) (s x : Operand) (t e : TypeId) (z : Value) (size bytes : Nat)
    (ho : o.op = .call { callee := .builtin .append, args := #[s, x], argTypes := #[t, t] })
    (ht : P.underlying t = some (.slice e)) (hinfo : (P.info? e).map (fun i => (i.zero, i.size, i.bytes)) = some (some z, size, bytes)) (hz : z.cells.size = size) (hs0 : 0 < size) (hb0 : 0 < bytes)
    (v : Value) (ps : List α) (p : α) (cs : List Value) (hs : a.eval s = v) (hx : a.eval x = .slice (some ⟨W.heap.size, 0, none⟩) 1 1) (hp : R p cs) (hcs : cs.length = size) (h1 : ∀ u ∈ cs, u.oneCell' = true)
    (HO : OwnRow R e size W base v ps) (HB : Below base w0 W) (hbase : base ≤ W.heap.size) (hl : (ps.length + 1) * bytes ≤ 140737488355328)
    (h : ∀ v1 w1, OwnRow R e size w1 base v1 (ps ++ [p]) → Below base w0 w1 → W.grownBy w1 v.ownBlock → (v1.ownBlock = v.ownBlock ∨ ∃ b, v1.ownBlock = some b ∧ W.heap.size ≤ b) → wpList P ops Q rest (a.put o.dst v1) w1) :
    wpList P ops Q (o :: rest) a (W.alloc (.cells cs.toArray e)) := by
  obtain ⟨inner, hown, hr⟩ := HO
  refine print_append_cells base hgd s x t e z size bytes ho ht hinfo hz hs0 hb0 v ps.length inner cs hs hx hcs h1 hown HB hbase hl ?_
  intro v1 w1 hown1 hb1 hg1 hat1
  exact h v1 w1 ⟨inner ++ cs, by rw [List.length_append, List.length_singleton]; exact hown1, hr.snoc hp hcs⟩ hb1 hg1 hat1
end
section
variable {P : Program} {ops : Array Oper} {o : Oper} {a : Act} {Q : Exit → Act → World → Prop} {K : Act → World → Prop} {α : Type} {R : α → List Value → Prop}
end
theorem ReadsRow.inner_ {α : Type} {R : α → List Value → Prop} {size : Nat} {w : World} {ad : Addr} {n : Nat} {ps : List α} (h : ReadsRow R size w (some ad) n ps) :
    ∃ inner, Reps R size ps inner ∧ ∀ j u, inner[j]? = some u → w.cell? (ad.add j) = some u := by
  have key : ∀ m, m ≤ ps.length → ∃ inner, Reps R size (ps.take m) inner ∧ ∀ j u, inner[j]? = some u → w.cell? (ad.add j) = some u := by
    intro m
    induction m with
    | zero => exact fun _ => ⟨[], Reps.none _ _, fun j u hu => by simp at hu⟩
    | succ m ih =>
      intro hm
      obtain ⟨inner, hr, hc⟩ := ih (by omega)
      obtain ⟨ad', he, hcell⟩ := h.2.2 (by have := h.1; omega)
      injection he with he
      subst he
      obtain ⟨c, hcl, hp, hcc⟩ := hcell m _ (List.getElem?_eq_getElem (show m < ps.length by omega))
      refine ⟨inner ++ c, ?_, fun j u hu => ?_⟩
      · rw [List.take_succ_eq_append_getElem (show m < ps.length by omega)]
        exact hr.snoc hp hcl
      · have hil : inner.length = m * size := by rw [hr.1, List.length_take, Nat.min_eq_left (by omega)]
        rcases Nat.lt_or_ge j inner.length with hj | hj
        · rw [List.getElem?_append_left hj] at hu
          exact hc j u hu
        · rw [List.getElem?_append_right hj] at hu
          have := hcc (j - inner.length) u hu
          rwa [hil, Nat.add_sub_cancel' (by omega)] at this
  obtain ⟨inner, hr, hc⟩ := key ps.length (Nat.le_refl _)
  rw [List.take_length] at hr
  exact ⟨inner, hr, hc⟩
/-! ### 21. Cuts of a slice that came in, lengths spelled as_ the lists' -/
section
variable {α : Type} {P : Program}
theorem ReadsOf.len_ {enc : α → Value} {d : α} {w : World} {A : Option Addr} {n : Nat} {xs : List α} (h : ReadsOf enc d w A n xs) : ReadsOf enc d w A xs.length xs := by rw [h.1]; exact h
end
/-! ### 22. append([]byte, s...), s a string; behind 'at_builtin'. (No word on where the new row lies: two rows of bytes at once don't go by it.) -/
section
variable {P : Program} {ops : Array Oper} {rest : List Oper} {o : Oper} {a : Act} {Q : Exit → Act → World → Prop}
end
/-! ### 23. KINDS: what a value's cells say, read (K) and made (M), kind by kind; every mover proved once -/
structure Kd (α : Type) where
  sz : Nat
  E : List Nat
  K : World → α → List Value → Prop
  M : World → Nat → (Nat → Prop) → α → List Value → Prop
  K_len : ∀ {w x cs}, K w x cs → cs.length = sz
  K_one : ∀ {w x cs}, K w x cs → ∀ u ∈ cs, u.oneCell' = true
  K_below : ∀ {w w1 : World} {x cs}, Below w.heap.size w w1 → K w x cs → K w1 x cs
  K_of_M : ∀ {w base ok x cs}, M w base ok x cs → K w x cs
  M_mono : ∀ {w base ok ok' x cs}, (∀ k, ok k → ok' k) → M w base ok x cs → M w base ok' x cs
  M_bound : ∀ {w : World} {base ok x cs}, M w base ok x cs → M w base (fun k => ok k ∧ base ≤ k ∧ k < w.heap.size ∧ ∃ q, q ∈ E ∧ ∃ cells, w.heap[k]? = some (.cells cells q (0, 0))) x cs
  M_move : ∀ {w w1 : World} {base ok x cs}, (∀ k, ok k → w1.heap[k]? = w.heap[k]?) → M w base ok x cs → M w1 base ok x cs
  M_lower : ∀ {w base base' ok x cs}, base' ≤ base → M w base ok x cs → M w base' ok x cs
theorem own_move {w w1 : World} {base : Nat} {e : TypeId} {size n : Nat} {v : Value} {xs : List Value} (h : w.ownsRow base e size v n xs) (hm : ∀ k, v.ownBlock = some k → w1.heap[k]? = w.heap[k]?) : w1.ownsRow base e size v n xs := by
  obtain ⟨h1, h2⟩ := h
  refine ⟨h1, ?_⟩
  rcases h2 with h2 | ⟨g, cap, cur, rfl, hg, hh, r⟩
  · exact .inl h2
  · exact .inr ⟨g, cap, cur, rfl, hg, (hm g (by simp [Value.ownBlock])).trans hh, r⟩
theorem own_typed {w : World} {base : Nat} {e : TypeId} {size n : Nat} {v : Value} {xs : List Value} (h : w.ownsRow base e size v n xs) (k : Nat) (hk : v.ownBlock = some k) : ∃ cells, w.heap[k]? = some (.cells cells e (0, 0)) := by
  rcases h.2 with ⟨rfl, _⟩ | ⟨g, cap, cur, rfl, hg, hh, r⟩
  · simp [Value.ownBlock] at hk
  · have : g = k := by simpa [Value.ownBlock] using hk
    subst this
    exact ⟨cur, hh⟩
namespace Kd
def C {α : Type} (d : Kd α) (w : World) (A : Option Addr) (n : Nat) (xs : List α) : Prop := ReadsRow (d.K w) d.sz w A n xs
def R {α : Type} (d : Kd α) (e : Nat) (w : World) (base : Nat) (ok : Nat → Prop) (v : Value) (xs : List α) : Prop :=
  (∀ k, v.ownBlock = some k → ok k) ∧ OwnRow (d.M w base (fun k => ok k ∧ some k ≠ v.ownBlock)) e d.sz w base v xs
section
variable {α : Type} {d : Kd α} {e : Nat} {w w1 : World} {base : Nat} {ok ok' : Nat → Prop} {v : Value} {xs : List α}
theorem C_below {A : Option Addr} {n : Nat} (h : d.C w A n xs) (hb : Below w.heap.size w w1) : d.C w1 A n xs := ReadsRow.imp_ h hb (fun _ _ hp => d.K_below hb hp)
theorem R_nil (d : Kd α) (e : Nat) (w : World) (base : Nat) (ok : Nat → Prop) : d.R e w base ok (.slice none 0 0) [] := ⟨fun k hk => by simp [Value.ownBlock] at hk, OwnRow.none_ _ _ _ _ _⟩
theorem R_mono (h : d.R e w base ok v xs) (hok : ∀ k, ok k → ok' k) : d.R e w base ok' v xs := ⟨fun k hk => hok k (h.1 k hk), h.2.imp_ (fun _ _ hp => d.M_mono (fun k hk => ⟨hok k hk.1, hk.2⟩) hp)⟩
theorem R_bound (h : d.R e w base ok v xs) : d.R e w base (fun k => ok k ∧ base ≤ k ∧ k < w.heap.size ∧ ∃ q, q ∈ e :: d.E ∧ ∃ cells, w.heap[k]? = some (.cells cells q (0, 0))) v xs := by
  obtain ⟨h0, inner, ho, hr⟩ := h
  refine ⟨fun k hk => ?_, inner, ho, hr.imp_ (fun _ _ hp => d.M_mono (fun k hk => ?_) (d.M_bound hp))⟩
  · obtain ⟨cells, hc⟩ := own_typed ho k hk
    exact ⟨h0 k hk, own_base ho k hk, own_lt ho k hk, e, List.mem_cons_self, cells, hc⟩
  · obtain ⟨⟨h1, h2⟩, h3, h4, q, hq, hc⟩ := hk
    exact ⟨⟨h1, h3, h4, q, List.mem_cons_of_mem _ hq, hc⟩, h2⟩
theorem R_move (h : d.R e w base ok v xs) (hm : ∀ k, ok k → w1.heap[k]? = w.heap[k]?) : d.R e w1 base ok v xs := by
  obtain ⟨h0, inner, ho, hr⟩ := h
  exact ⟨h0, inner, own_move ho (fun k hk => hm k (h0 k hk)), hr.imp_ (fun _ _ hp => d.M_move (fun k hk => hm k hk.1) hp)⟩
theorem R_lower {base' : Nat} (h : d.R e w base ok v xs) (hb : base' ≤ base) : d.R e w base' ok v xs := by
  obtain ⟨h0, inner, ho, hr⟩ := h
  exact ⟨h0, inner, own_weaken ho hb, hr.imp_ (fun _ _ hp => d.M_lower hb hp)⟩
theorem R_step (h : d.R e w base ok v xs) (hm : ∀ k, ok k → k < w.heap.size → w1.heap[k]? = w.heap[k]?) : d.R e w1 base ok v xs :=
  R_mono (R_move (R_bound h) (fun k hk => hm k hk.1 hk.2.2.1)) (fun _ hk => hk.1)
theorem M_step {x : α} {cs : List Value} (h : d.M w base ok x cs) (hm : ∀ k, ok k → k < w.heap.size → w1.heap[k]? = w.heap[k]?) : d.M w1 base ok x cs :=
  d.M_mono (fun _ hk => hk.1) (d.M_move (fun k hk => hm k hk.1 hk.2.2.1) (d.M_bound h))
theorem R_below (h : d.R e w base ok v xs) (hb : Below w.heap.size w w1) : d.R e w1 base ok v xs := R_step h (fun k _ hk => hb.block k hk)
theorem M_below {x : α} {cs : List Value} (h : d.M w base ok x cs) (hb : Below w.heap.size w w1) : d.M w1 base ok x cs := M_step h (fun k _ hk => hb.block k hk)
theorem R_far (h : d.R e w base ok v xs) {p : Addr} (hok : ∀ k, ok k → k ≠ p.block) (u : Value) : d.R e (w.setCell p u) base ok v xs := R_step h (fun k ho _ => Below.heap_setCell w p u k (hok k ho))
theorem R_types (h : d.R e w base ok v xs) {g t : Nat} {cells : Array Value} (hb : w.heap[g]? = some (.cells cells t (0, 0))) (ht : ∀ q, q ∈ e :: d.E → q ≠ t) : d.R e w base (fun k => ok k ∧ k ≠ g) v xs :=
  R_mono (R_bound h) (fun k hk => ⟨hk.1, by
    obtain ⟨_, _, _, q, hq, cells', hc⟩ := hk
    rintro rfl
    rw [hc] at hb
    injection hb with hb
    injection hb with _ hb
    exact ht q hq hb⟩)
theorem R_set (h : d.R e w base ok v xs) {g t : Nat} {cells : Array Value} (hb : w.heap[g]? = some (.cells cells t (0, 0))) (ht : ∀ q, q ∈ e :: d.E → q ≠ t) (j : Nat) (u : Value) : d.R e (w.setCell ⟨g, j, none⟩ u) base ok v xs :=
  R_mono (R_far (p := ⟨g, j, none⟩) (R_types h hb ht) (fun _ hk => hk.2) u) (fun _ hk => hk.1)
theorem R_reads (h : d.R e w base ok v xs) : ∃ A c, v = .slice A xs.length c ∧ xs.length ≤ c ∧ d.C w A xs.length xs := by
  obtain ⟨A, c, he, hl, hr⟩ := OwnRow.reads h.2
  exact ⟨A, c, he, hl, hr.imp_ (Below.refl _ _) (fun _ _ hp => d.K_of_M hp)⟩
theorem R_slice (h : d.R e w base ok v xs) : ∃ A c, v = .slice A xs.length c := by
  obtain ⟨A, c, he, _⟩ := R_reads h
  exact ⟨A, c, he⟩
theorem R_own (h : d.R e w base ok v xs) : ∃ inner, w.ownsRow base e d.sz v xs.length inner := by
  obtain ⟨_, inner, ho, _⟩ := h
  exact ⟨inner, ho⟩
theorem R_ne (h : d.R e w base ok v xs) {g t : Nat} {cells : Array Value} (hb : w.heap[g]? = some (.cells cells t (0, 0))) (ht : e ≠ t) : some g ≠ v.ownBlock := OwnRow.ne_block h.2 hb ht
end
/-! #### the kinds -/
def scalar {α : Type} (enc : α → Value) (h1 : ∀ x, (enc x).oneCell' = true) : Kd α where
  sz := 1
  E := []
  K := fun _ x cs => cs = [enc x]
  M := fun _ _ _ x cs => cs = [enc x]
  K_len := fun h => by rw [h]; rfl
  K_one := fun h u hu => by
    rw [h] at hu
    rw [List.mem_singleton.1 hu]
    exact h1 _
  K_below := fun _ h => h
  K_of_M := fun h => h
  M_mono := fun _ h => h
  M_bound := fun h => h
  M_move := fun _ h => h
  M_lower := fun _ h => h
def int (k : IntKind) : Kd Int := scalar (Value.int k) (fun _ => rfl)
def bool : Kd Bool := scalar Value.bool (fun _ => rfl)
def string : Kd ByteArray := scalar Value.string (fun _ => rfl)
def slice {α : Type} (e : Nat) (d : Kd α) : Kd (List α) where
  sz := 1
  E := e :: d.E
  K := fun w xs cs => ∃ A c, cs = [.slice A xs.length c] ∧ xs.length ≤ c ∧ d.C w A xs.length xs
  M := fun w base ok xs cs => ∃ v, cs = [v] ∧ d.R e w base ok v xs
  K_len := by
    rintro w x cs ⟨A, c, rfl, _⟩
    rfl
  K_one := by
    rintro w x cs ⟨A, c, rfl, _⟩ u hu
    rw [List.mem_singleton.1 hu]
    rfl
  K_below := by
    rintro w w1 x cs hb ⟨A, c, rfl, hl, hr⟩
    exact ⟨A, c, rfl, hl, C_below hr hb⟩
  K_of_M := by
    rintro w base ok x cs ⟨v, rfl, h⟩
    obtain ⟨A, c, rfl, hl, hr⟩ := R_reads h
    exact ⟨A, c, rfl, hl, hr⟩
  M_mono := by
    rintro w base ok ok' x cs hok ⟨v, rfl, h⟩
    exact ⟨v, rfl, R_mono h hok⟩
  M_bound := by
    rintro w base ok x cs ⟨v, rfl, h⟩
    exact ⟨v, rfl, R_bound h⟩
  M_move := by
    rintro w w1 base ok x cs hm ⟨v, rfl, h⟩
    exact ⟨v, rfl, R_move h hm⟩
  M_lower := by
    rintro w base base' ok x cs hb ⟨v, rfl, h⟩
    exact ⟨v, rfl, R_lower h hb⟩
def pair {α β : Type} (a : Kd α) (b : Kd β) : Kd (α × β) where
  sz := a.sz + b.sz
  E := a.E ++ b.E
  K := fun w x cs => ∃ c0 c1, cs = c0 ++ c1 ∧ a.K w x.1 c0 ∧ b.K w x.2 c1
  M := fun w base ok x cs => ∃ c0 c1, cs = c0 ++ c1 ∧ a.M w base ok x.1 c0 ∧ b.M w base ok x.2 c1
  K_len := by
    rintro w x cs ⟨c0, c1, rfl, h0, h1⟩
    rw [List.length_append, a.K_len h0, b.K_len h1]
  K_one := by
    rintro w x cs ⟨c0, c1, rfl, h0, h1⟩ u hu
    rcases List.mem_append.1 hu with hu | hu
    · exact a.K_one h0 u hu
    · exact b.K_one h1 u hu
  K_below := by
    rintro w w1 x cs hb ⟨c0, c1, rfl, h0, h1⟩
    exact ⟨c0, c1, rfl, a.K_below hb h0, b.K_below hb h1⟩
  K_of_M := by
    rintro w base ok x cs ⟨c0, c1, rfl, h0, h1⟩
    exact ⟨c0, c1, rfl, a.K_of_M h0, b.K_of_M h1⟩
  M_mono := by
    rintro w base ok ok' x cs hok ⟨c0, c1, rfl, h0, h1⟩
    exact ⟨c0, c1, rfl, a.M_mono hok h0, b.M_mono hok h1⟩
  M_bound := by
    rintro w base ok x cs ⟨c0, c1, rfl, h0, h1⟩
    refine ⟨c0, c1, rfl, a.M_mono ?_ (a.M_bound h0), b.M_mono ?_ (b.M_bound h1)⟩
    · rintro k ⟨h2, h3, h4, q, hq, hc⟩
      exact ⟨h2, h3, h4, q, List.mem_append_left _ hq, hc⟩
    · rintro k ⟨h2, h3, h4, q, hq, hc⟩
      exact ⟨h2, h3, h4, q, List.mem_append_right _ hq, hc⟩
  M_move := by
    rintro w w1 base ok x cs hm ⟨c0, c1, rfl, h0, h1⟩
    exact ⟨c0, c1, rfl, a.M_move hm h0, b.M_move hm h1⟩
  M_lower := by
    rintro w base base' ok x cs hb ⟨c0, c1, rfl, h0, h1⟩
    exact ⟨c0, c1, rfl, a.M_lower hb h0, b.M_lower hb h1⟩
def iso {α β : Type} (d : Kd α) (f : β → α) : Kd β where
  sz := d.sz
  E := d.E
  K := fun w x cs => d.K w (f x) cs
  M := fun w base ok x cs => d.M w base ok (f x) cs
  K_len := d.K_len
  K_one := d.K_one
  K_below := d.K_below
  K_of_M := d.K_of_M
  M_mono := d.M_mono
  M_bound := d.M_bound
  M_move := d.M_move
  M_lower := d.M_lower
def bot {α : Type} (sz : Nat) (E : List Nat) : Kd α where
  sz := sz
  E := E
  K := fun _ _ _ => False
  M := fun _ _ _ _ _ => False
  K_len := fun h => h.elim
  K_one := fun h => h.elim
  K_below := fun _ h => h
  K_of_M := fun h => h
  M_mono := fun _ h => h
  M_bound := fun h => h
  M_move := fun _ h => h
  M_lower := fun _ h => h
def upto {α : Type} (F : Kd α → Kd α) (sz : Nat) (E : List Nat) : Nat → Kd α
  | 0 => bot sz E
  | n + 1 => F (upto F sz E n)
/-! #### an element of a row that is read; an element appended -/
theorem C_get {α : Type} {d : Kd α} {w : World} {A : Option Addr} {n : Nat} {xs : List α} (h : d.C w A n xs) (z : α) (i : Int) (h0 : 0 ≤ i) (h1 : i < n) :
    ∃ ad c, A = some ad ∧ c.length = d.sz ∧ d.K w (xs.getD i.toNat z) c ∧ ∀ j u, c[j]? = some u → w.cell? (ad.add (i.toNat * d.sz + j)) = some u := ReadsRow.get_ h z i h0 h1
section
variable {P : Program} {ops : Array Oper} {rest : List Oper} {o : Oper} {a : Act} {Q : Exit → Act → World → Prop} {α : Type}
end
section
variable {P : Program} {ops : Array Oper} {o : Oper} {a : Act} {Q : Exit → Act → World → Prop} {Kc : Act → World → Prop} {α : Type}
end
theorem own_of_R {α : Type} {enc : α → Value} {h1 : ∀ x, (enc x).oneCell' = true} {e : Nat} {w : World} {base : Nat} {ok : Nat → Prop} {v : Value} {xs : List α} (h : (scalar enc h1).R e w base ok v xs) : w.ownsRow base e 1 v xs.length (encs enc xs) := by
  obtain ⟨_, inner, ho, hr⟩ := h
  have : inner = encs enc xs := by
    apply List.ext_getElem?
    intro j
    rcases Nat.lt_or_ge j xs.length with hj | hj
    · have h2 := hr.2 j _ (List.getElem?_eq_getElem hj)
      have hl : j < inner.length := by have := hr.1; simp [scalar] at this; omega
      have h3 : (inner.drop (j * 1)).take 1 = [enc xs[j]] := h2
      rw [Nat.mul_one, List.drop_eq_getElem_cons hl] at h3
      have h4 : inner[j] = enc xs[j] := by
        have h5 := congrArg List.head? h3
        rw [List.take_succ_cons] at h5
        exact Option.some.inj h5
      rw [List.getElem?_eq_getElem hl, h4]
      simp [encs, List.getElem?_eq_getElem hj]
    · have h3 : inner.length = xs.length := by have := hr.1; simp [scalar] at this; omega
      rw [List.getElem?_eq_none (by omega), List.getElem?_eq_none (by rw [encs_length]; omega)]
  rw [← this]
  exact ho
theorem reads_of_C {α : Type} {enc : α → Value} {d : α} {h1 : ∀ x, (enc x).oneCell' = true} {w : World} {A : Option Addr} {n : Nat} {xs : List α} (h : (scalar enc h1).C w A n xs) : ReadsOf enc d w A n xs := by
  refine ⟨h.1, h.2.1, fun hn => ?_⟩
  obtain ⟨ad, e, hc⟩ := h.2.2 hn
  refine ⟨ad, e, fun j hj => ?_⟩
  have hl : j < xs.length := by have := h.1; omega
  obtain ⟨c, _, hK, hcell⟩ := hc j _ (List.getElem?_eq_getElem hl)
  have hK' : c = [enc xs[j]] := hK
  subst hK'
  have := hcell 0 _ rfl
  simpa [scalar, List.getD_eq_getElem?_getD, List.getElem?_eq_getElem hl] using this
end Kd
/-! ### 24. Kinds nested in themselves -/
namespace Kd
structure Mono {α β : Type} (F : Kd α → Kd β) : Prop where
  sz : ∀ d d' : Kd α, d.sz = d'.sz → (F d).sz = (F d').sz
  K : ∀ d d' : Kd α, d.sz = d'.sz → (∀ w x cs, d.K w x cs → d'.K w x cs) → ∀ w x cs, (F d).K w x cs → (F d').K w x cs
  M : ∀ d d' : Kd α, d.sz = d'.sz → (∀ w base ok x cs, d.M w base ok x cs → d'.M w base ok x cs) → ∀ w base ok x cs, (F d).M w base ok x cs → (F d').M w base ok x cs
def Sub {α β : Type} (F : Kd α → Kd β) (E : List Nat) : Prop := ∀ d : Kd α, (∀ q, q ∈ d.E → q ∈ E) → ∀ q, q ∈ (F d).E → q ∈ E
section
variable {α : Type} {F : Kd α → Kd α} {sz : Nat} {E : List Nat} {hs : ∀ n, (upto F sz E n).sz = sz} {hE : ∀ n q, q ∈ (upto F sz E n).E → q ∈ E}
theorem bounded {P : Nat → Nat → Prop} (hP : ∀ n m j, n ≤ m → P n j → P m j) : ∀ m, (∀ j, j < m → ∃ n, P n j) → ∃ N, ∀ j, j < m → P N j
  | 0, _ => ⟨0, fun j hj => absurd hj (Nat.not_lt_zero j)⟩
  | m + 1, h => by
    obtain ⟨N, hN⟩ := bounded hP m (fun j hj => h j (by omega))
    obtain ⟨n, hn⟩ := h m (by omega)
    refine ⟨max N n, fun j hj => ?_⟩
    rcases Nat.lt_or_ge j m with hj' | hj'
    · exact hP N _ j (Nat.le_max_left _ _) (hN j hj')
    · have : j = m := by omega
      subst this
      exact hP n _ j (Nat.le_max_right _ _) hn
end
end Kd
/-! ### 25. What is held while another row is written: 'ok' says that its rows are none of that row's block -/
namespace Kd
theorem R_after {α : Type} {d : Kd α} {e base : Nat} {ok : Nat → Prop} {W w1 : World} {u v v1 : Value} {xs : List α} (h : d.R e W base (fun k => ok k ∧ some k ≠ v.ownBlock) u xs) (hg : W.grownBy w1 v.ownBlock) (hat : v1.ownBlock = v.ownBlock ∨ ∃ b, v1.ownBlock = some b ∧ W.heap.size ≤ b) : d.R e w1 base (fun k => ok k ∧ some k ≠ v1.ownBlock) u xs := by
  refine R_mono (R_move (R_bound h) (fun k hk => hg.block k hk.2.2.1 hk.1.2)) (fun k hk => ⟨hk.1.1, ?_⟩)
  rcases hat with hat | ⟨b, hb, hle⟩
  · rw [hat]; exact hk.1.2
  · rw [hb]
    intro he
    injection he with he
    have := hk.2.2.1
    omega
end Kd
/-! ### 26. Words for a printer that takes every slice by its kind -/
namespace Kd
section
variable {α β : Type} {d : Kd α} {d' : Kd β} {e e' : Nat} {w w1 W : World} {base b b' : Nat} {ok ok' okv oku : Nat → Prop} {v u : Value} {xs : List α} {ys : List β}
theorem R_alloc (h : d.R e w base ok v xs) (o : Obj) : d.R e (w.alloc o) base ok v xs := R_below h (below_alloc (Below.refl _ _) o)
theorem R_drew (h : d.R e w base ok v xs) : d.R e w.drew base ok v xs := R_below h (below_drew (Below.refl _ _))
theorem R_drewN (h : d.R e w base ok v xs) (m : Nat) : d.R e (w.drewN m) base ok v xs := R_below h (pw_below_drewN (Below.refl _ _) m)
theorem C_alloc {A : Option Addr} {n : Nat} (h : d.C w A n xs) (o : Obj) : d.C (w.alloc o) A n xs := C_below h (below_alloc (Below.refl _ _) o)
theorem C_drew {A : Option Addr} {n : Nat} (h : d.C w A n xs) : d.C w.drew A n xs := C_below h (below_drew (Below.refl _ _))
theorem C_drewN {A : Option Addr} {n : Nat} (h : d.C w A n xs) (m : Nat) : d.C (w.drewN m) A n xs := C_below h (pw_below_drewN (Below.refl _ _) m)
theorem C_max {A : Option Addr} {n : Nat} (h : d.C w A n xs) : n ≤ 9223372036854775807 := h.2.1
theorem R_reads' {A : Option Addr} {n c : Nat} (h : d.R e w base ok (.slice A n c) xs) : n = xs.length ∧ n ≤ c ∧ d.C w A xs.length xs := by
  obtain ⟨A', c', he, hl, hr⟩ := R_reads h
  injection he with h1 h2 h3
  subst h1
  exact ⟨h2, by omega, hr⟩
theorem R_lt (h : d.R e w base ok v xs) : ∀ k, v.ownBlock = some k → k < w.heap.size := by
  obtain ⟨inner, ho⟩ := R_own h
  exact own_lt ho
theorem R_base (h : d.R e w base ok v xs) : ∀ k, v.ownBlock = some k → base ≤ k := by
  obtain ⟨inner, ho⟩ := R_own h
  exact own_base ho
end
/-! #### scalars -/
section
variable {w W : World} {A : Option Addr} {n : Nat}
theorem at_string {xs : List ByteArray} (h : Kd.string.C w A n xs) (i : Int) (h0 : 0 ≤ i) (h1 : i < n) : ∃ ad, A = some ad ∧ w.cell? (ad.add i.toNat) = some (.string (rdOf ByteArray.empty xs i)) :=
  ReadsOf.at_ (reads_of_C (enc := Value.string) (d := ByteArray.empty) (h1 := fun _ => rfl) h) i h0 h1
variable {α : Type} {enc : α → Value} {h1 : ∀ x, (enc x).oneCell' = true} {e base g cap : Nat} {ok : Nat → Prop} {xs : List α}
end
/-! #### events: a letter for what make and a literal leave -/
section
variable {P : Program} {ops : Array Oper} {rest : List Oper} {o : Oper} {a : Act} {Q : Exit → Act → World → Prop}
theorem event_run {W w1 : World} {v : Value} (hgd : o.guard = none) (hrun : (execOp a.eval o).run P W = .ok (.value v) w1) (h : wpList P ops Q rest (a.put o.dst v) w1) : wpList P ops Q (o :: rest) a W := by
  refine wpList_plain hgd fun K hK => ?_
  unfold Oper.wp
  rw [hrun]
  exact hK _ _ h
variable {α : Type}
theorem R_lit (d : Kd α) {w0 W : World} (base e : Nat) (hgd : o.guard = none) {N : Tmp} (_hd : o.dst = some N) {xs : List α} {inner : List Value} {ok okp : Nat → Prop}
    (hrun : (execOp a.eval o).run P W = .ok (.value (.slice (some ⟨W.heap.size, 0, none⟩) xs.length xs.length)) (W.alloc (.cells inner.toArray e)))
    (hrep : Reps (d.M W base okp) d.sz xs inner) (hok : ∀ k, okp k → ok k) (hfresh : ok W.heap.size) (HB : Below base w0 W) (hbase : base ≤ W.heap.size) (hm : xs.length ≤ 9223372036854775807)
    (h : ∀ v1 w1, d.R e w1 base ok v1 xs → Below base w0 w1 → W.grownBy w1 none → (∃ b, v1.ownBlock = some b ∧ W.heap.size ≤ b) → wpList P ops Q rest (a.put o.dst v1) w1) : wpList P ops Q (o :: rest) a W := by
  refine event_run hgd hrun (h _ _ ⟨fun k hk => ?_, inner, ?_, ?_⟩ (HB.alloc hbase _) (World.grownBy_alloc W _ none) ⟨W.heap.size, by simp [Value.ownBlock], Nat.le_refl _⟩)
  · have : W.heap.size = k := by simpa [Value.ownBlock] using hk
    subst this
    exact hfresh
  · have h2 := World.ownsRow_lit (base := base) (e := e) (size := d.sz) W inner.toArray xs.length hbase (by simpa [maxLen] using hm) (by simpa using hrep.1)
    simpa using h2
  · refine hrep.imp_ (fun p c hp => d.M_mono (fun k hk => ⟨hok k hk.1, fun he => ?_⟩) (M_below (d.M_bound hp) (below_alloc (Below.refl _ _) _)))
    have h3 : k = W.heap.size := by simpa [Value.ownBlock] using he
    have := hk.2.2.1
    omega
end
end Kd
/-! ### 27. Cuts of a row of one's own: 'xs = xs[:n]' stays a row (R_take); 'xs = xs[k:]' is a row that begins inside its block (Kd.Q), append goes on it too -/
section
variable {P : Program}
theorem cut_from (t e : TypeId) (kl : IntKind) {i : TypeInfo} (ht : P.underlying t = some (.slice e)) (hi : P.info? e = some i) (size : Nat) (hsz : i.size = size) (A : Option Addr) (n c : Nat) (j : Int) (h0 : 0 ≤ j) (hm : j ≤ n) :
    ∀ W : World, (Instr.slice t (.slice A n c) (some (.int kl j)) none none).run P W = .ok (.slice (if c = j.toNat then A else A.map (·.add (j.toNat * size))) (n - j.toNat) (c - j.toNat)) W := by
  intro W
  have hel : P.elem t = e := by simp [Program.elem, ht]
  have hu : P.underlying t = some (.slice (P.elem t)) := by rw [hel]; exact ht
  rw [run_slice_l W t A n c hu kl j h0 hm, hel]
  simp [sizeOf, typeInfo, hi, hsz, sliced, Result.andThen]
end
def QRow (w : World) (base : Nat) (e : TypeId) (size : Nat) (v : Value) (n : Nat) (xs : List Value) : Prop :=
  xs.length = n * size ∧
  ((n = 0 ∧ ∃ A, v = .slice A 0 0 ∧ ∀ a, A = some a → base ≤ a.block ∧ ∃ cur, w.heap[a.block]? = some (.cells cur e (0, 0))) ∨
   ∃ g off cap cur, v = .slice (some ⟨g, off * size, none⟩) n cap ∧ base ≤ g ∧ w.heap[g]? = some (.cells cur e (0, 0)) ∧ n ≤ cap ∧ off + cap ≤ maxLen ∧ cur.size = (off + cap) * size ∧ (cur.toList.drop (off * size)).take (n * size) = xs)
section
variable {w w1 : World} {base n size : Nat} {e : TypeId} {v : Value} {xs : List Value}
theorem q_of_own (h : w.ownsRow base e size v n xs) : QRow w base e size v n xs := by
  obtain ⟨h1, h2⟩ := h
  refine ⟨h1, ?_⟩
  rcases h2 with ⟨rfl, h0⟩ | ⟨g, cap, cur, rfl, hb, hh, hnc, hcm, hcs, ht⟩
  · exact .inl ⟨h0, none, rfl, fun a ha => by cases ha⟩
  · exact .inr ⟨g, 0, cap, cur, by rw [Nat.zero_mul], hb, hh, hnc, by rw [Nat.zero_add]; exact hcm, by rw [Nat.zero_add]; exact hcs, by rw [Nat.zero_mul, List.drop_zero]; exact ht⟩
theorem q_move (h : QRow w base e size v n xs) (hm : ∀ k, v.ownBlock = some k → w1.heap[k]? = w.heap[k]?) : QRow w1 base e size v n xs := by
  obtain ⟨h1, h2⟩ := h
  refine ⟨h1, ?_⟩
  rcases h2 with ⟨h0, A, rfl, hA⟩ | ⟨g, off, cap, cur, rfl, hg, hh, r⟩
  · refine .inl ⟨h0, A, rfl, fun a ha => ?_⟩
    obtain ⟨hb, cur, hc⟩ := hA a ha
    subst ha
    exact ⟨hb, cur, (hm a.block (by simp [Value.ownBlock])).trans hc⟩
  · exact .inr ⟨g, off, cap, cur, rfl, hg, (hm g (by simp [Value.ownBlock])).trans hh, r⟩
theorem q_typed (h : QRow w base e size v n xs) (k : Nat) (hk : v.ownBlock = some k) : base ≤ k ∧ ∃ cells, w.heap[k]? = some (.cells cells e (0, 0)) := by
  rcases h.2 with ⟨_, A, rfl, hA⟩ | ⟨g, off, cap, cur, rfl, hg, hh, r⟩
  · cases A with
    | none => simp [Value.ownBlock] at hk
    | some a =>
      have : a.block = k := by simpa [Value.ownBlock] using hk
      subst this
      exact hA a rfl
  · have : g = k := by simpa [Value.ownBlock] using hk
    subst this
    exact ⟨hg, cur, hh⟩
theorem q_lt (h : QRow w base e size v n xs) (k : Nat) (hk : v.ownBlock = some k) : k < w.heap.size := by
  obtain ⟨_, cells, hc⟩ := q_typed h k hk
  exact (Array.getElem?_eq_some_iff.1 hc).1
theorem q_lower {base' : Nat} (h : QRow w base e size v n xs) (hb : base' ≤ base) : QRow w base' e size v n xs := by
  obtain ⟨h1, h2⟩ := h
  refine ⟨h1, ?_⟩
  rcases h2 with ⟨h0, A, rfl, hA⟩ | ⟨g, off, cap, cur, rfl, hg, r⟩
  · exact .inl ⟨h0, A, rfl, fun a ha => ⟨Nat.le_trans hb (hA a ha).1, (hA a ha).2⟩⟩
  · exact .inr ⟨g, off, cap, cur, rfl, Nat.le_trans hb hg, r⟩
theorem q_slice (h : QRow w base e size v n xs) : ∃ A c, v = .slice A n c ∧ n ≤ c := by
  rcases h.2 with ⟨h0, A, rfl, _⟩ | ⟨g, off, cap, cur, rfl, hg, hh, hnc, r⟩
  · exact ⟨A, 0, by rw [h0], by omega⟩
  · exact ⟨_, cap, rfl, hnc⟩
theorem q_max (h : QRow w base e size v n xs) : n ≤ 9223372036854775807 := by
  rcases h.2 with ⟨h0, _⟩ | ⟨g, off, cap, cur, rfl, hg, hh, hnc, hm, r⟩
  · omega
  · simp only [maxLen] at hm
    omega
theorem add_at (g o j : Nat) : (⟨g, o, none⟩ : Addr).add j = ⟨g, o + j, none⟩ := by unfold Addr.add; split <;> simp_all
theorem q_cells {A : Option Addr} {c : Nat} (h : QRow w base e size (.slice A n c) n xs) (hn : 0 < n) : ∃ ad, A = some ad ∧ ∀ j u, xs[j]? = some u → w.cell? (ad.add j) = some u := by
  rcases h.2 with ⟨h0, _⟩ | ⟨g, off, cap, cur, he, hg, hh, hnc, hm, hcs, ht⟩
  · omega
  · injection he with ha _ hc
    subst ha
    refine ⟨_, rfl, fun j u hu => ?_⟩
    rw [add_at, cell_of_row w g _ cur e (0, 0) hh]
    rw [← ht, List.getElem?_take] at hu
    split at hu
    · rw [List.getElem?_drop] at hu
      rw [← Array.getElem?_toList]
      exact hu
    · cases hu
theorem q_drop {A : Option Addr} {c k : Nat} (h : QRow w base e size (.slice A n c) n xs) (hk : k ≤ n) : QRow w base e size (.slice (if c = k then A else A.map (·.add (k * size))) (n - k) (c - k)) (n - k) (xs.drop (k * size)) := by
  obtain ⟨h1, h2⟩ := h
  refine ⟨by rw [List.length_drop, h1, Nat.sub_mul], ?_⟩
  rcases h2 with ⟨h0, A', he, hA⟩ | ⟨g, off, cap, cur, he, hb, hh, hnc, hcm, hcs, ht⟩
  · injection he with ha hb hc
    subst ha; subst hc
    have hk0 : k = 0 := by omega
    subst hk0
    exact .inl ⟨by omega, A, by rw [if_pos rfl, h0], hA⟩
  · injection he with ha _ hc
    subst ha; subst hc
    by_cases hck : c = k
    · rw [if_pos hck]
      refine .inl ⟨by omega, some ⟨g, off * size, none⟩, ?_, fun a ha => ?_⟩
      · rw [show n - k = 0 by omega, show c - k = 0 by omega]
      · injection ha with ha
        subst ha
        exact ⟨hb, cur, hh⟩
    · rw [if_neg hck]
      refine .inr ⟨g, off + k, c - k, cur, ?_, hb, hh, by omega, by omega, by rw [hcs]; congr 1; omega, ?_⟩
      · rw [Option.map_some, add_at, Nat.add_mul]
      · rw [← ht, List.drop_take, List.drop_drop, Nat.add_mul, Nat.sub_mul]
theorem setCells_far {g : Nat} : ∀ (vs : List Value) (o : Nat) {w : World} (k : Nat), k ≠ g → (w.setCells g o vs).heap[k]? = w.heap[k]?
  | [], _, _, _, _ => rfl
  | v :: r, o, w, k, hk => by
    rw [World.setCells, setCells_far r (o + 1) k hk]
    exact Below.heap_setCell w ⟨g, o, none⟩ v k hk
theorem setCells_same (g : Nat) : ∀ (vs : List Value) (o : Nat) (w : World), (w.setCells g o vs).os = w.os ∧ (w.setCells g o vs).tape = w.tape ∧ (w.setCells g o vs).output = w.output ∧ (w.setCells g o vs).heap.size = w.heap.size
  | [], _, _ => ⟨rfl, rfl, rfl, rfl⟩
  | v :: r, o, w => by
    obtain ⟨h1, h2, h3, h4⟩ := setCells_same g r (o + 1) (w.setCell ⟨g, o, none⟩ v)
    rw [World.setCells]
    exact ⟨h1, h2, h3, by rw [h4]; simp [World.setCell]⟩
theorem setCells_row {g : Nat} {e : TypeId} : ∀ (vs : List Value) (o : Nat) (w : World) (cur : Array Value), w.heap[g]? = some (.cells cur e (0, 0)) → o + vs.length ≤ cur.size →
    ∃ cur', (w.setCells g o vs).heap[g]? = some (.cells cur' e (0, 0)) ∧ cur'.size = cur.size ∧ cur'.toList = cur.toList.take o ++ vs ++ cur.toList.drop (o + vs.length)
  | [], o, w, cur, h, _ => ⟨cur, h, rfl, by simp⟩
  | v :: r, o, w, cur, h, hl => by
    have h2 := blk_set h o v
    simp only [List.length_cons] at hl
    obtain ⟨cur', h3, h4, h5⟩ := setCells_row r (o + 1) (w.setCell ⟨g, o, none⟩ v) _ h2 (by simp; omega)
    refine ⟨cur', h3, by rw [h4]; simp, ?_⟩
    rw [h5, Array.toList_setIfInBounds]
    have ho : o < cur.toList.length := by rw [Array.length_toList]; omega
    rw [List.take_set, List.drop_set_of_lt (by omega)]
    simp only [List.length_cons]
    rw [show o + 1 + r.length = o + (r.length + 1) by omega]
    congr 1
    rw [List.take_succ_eq_append_getElem ho, List.set_append_right _ _ (by rw [List.length_take]; omega)]
    have ho' : o < cur.size := by omega
    simp [Nat.min_eq_left (Nat.le_of_lt ho')]
end
section
variable {P : Program}
theorem q_append (w : World) (base : Nat) (t ty e : TypeId) (i : TypeInfo) (z : Value) (size bytes : Nat) (ht : P.underlying t = some (.slice e)) (hi : P.info? e = some i) (hz : i.zero = some z)
    (hsize : i.size = size) (hby : i.bytes = bytes) (hzs : z.cells.size = size) (hsz : 0 < size)
    (v : Value) (n : Nat) (xs : List Value) (hown : QRow w base e size v n xs)
    (a : Addr) (m c : Nat) (news : List Value) (hl : news.length = m * size) (hnews : ∀ j u, news[j]? = some u → w.cell? (a.add j) = some u) (h1 : ∀ u ∈ news, u.oneCell' = true) (hm : 0 < m)
    (h63 : n + m ≤ maxLen) (hbytes : (n + m) * bytes ≤ 140737488355328) (hbase : base ≤ w.heap.size) :
    ∃ v' w', (Builtin.append_ #[t, t] ty #[v, .slice (some a) m c]).run P w = .ok v' w' ∧ QRow w' base e size v' (n + m) (xs ++ news) ∧ w.grownBy w' v.ownBlock ∧ (v'.ownBlock = v.ownBlock ∨ ∃ b, v'.ownBlock = some b ∧ w.heap.size ≤ b) := by
  have grows : ∀ (b : Addr) (cap : Nat), cap < n + m → (∀ j u, xs[j]? = some u → w.cell? (b.add j) = some u) → v = .slice (some b) n cap →
      ∃ v' w', (Builtin.append_ #[t, t] ty #[v, .slice (some a) m c]).run P w = .ok v' w' ∧ QRow w' base e size v' (n + m) (xs ++ news) ∧ w.grownBy w' v.ownBlock ∧ (v'.ownBlock = v.ownBlock ∨ ∃ b, v'.ownBlock = some b ∧ w.heap.size ≤ b) := by
    intro b cap hcap hcells hv
    obtain ⟨v', w', hr, ho, hg⟩ := run_append_arg_grows (P := P) (w := w) t ty e i z size bytes ht hi hz hsize hby hzs hsz b n cap xs hown.1 hcells a m c news hl hnews hcap h63 hbytes
    refine ⟨v', w', by rw [hv]; exact hr, q_lower (q_of_own ho) hbase, ⟨hg.os, hg.tape, hg.output, hg.size, fun k hk _ => hg.block k hk (by simp)⟩, ?_⟩
    obtain ⟨g', cap', he, hb, _⟩ := ho.form (by omega)
    exact .inr ⟨g', by rw [he]; simp [Value.ownBlock], hb⟩
  rcases hown.2 with ⟨h0, A, hv, hA⟩ | ⟨g, off, cap, cur, hv, hbg, hg, hnc, hcm, hcs, htake⟩
  · cases A with
    | none =>
      subst h0
      have ho : w.ownsRow base e size v 0 xs := ⟨hown.1, .inl ⟨hv, rfl⟩⟩
      obtain ⟨v', w', hr, ho', hg, _, hat⟩ := run_append_own_at (P := P) w base t ty e i z size bytes ht hi hz hsize hby hzs hsz v 0 xs ho a m c news hl hnews h1 h63 hbytes hbase
      refine ⟨v', w', hr, q_of_own ho', hg, ?_⟩
      rcases hat with hat | hat
      · exact .inl hat
      · exact .inr ⟨_, hat, Nat.le_refl _⟩
    | some b =>
      have hx : xs = [] := List.eq_nil_of_length_eq_zero (by rw [hown.1, h0, Nat.zero_mul])
      exact grows b 0 (by omega) (fun j u hu => by rw [hx] at hu; simp at hu) (by rw [hv, h0])
  · by_cases hroom : n + m ≤ cap
    · have hfit : off * size + n * size + news.length ≤ cur.size := by
        rw [hl, hcs, ← Nat.add_mul, ← Nat.add_mul]
        exact Nat.mul_le_mul_right _ (by omega)
      subst hsize
      have hr := run_append_room_cells (P := P) (w := w) t ty e i ht hi g (off * i.size) n cap a m c news hl hnews h1 hroom
        (fun j hj => by rw [cell_of_row w g _ cur e (0, 0) hg]; simp; omega) (fun j _ => blk_frozen hg _)
      obtain ⟨cur', h3, h4, h5⟩ := setCells_row news (off * i.size + n * i.size) w cur hg hfit
      obtain ⟨s1, s2, s3, s4⟩ := setCells_same g news (off * i.size + n * i.size) w
      refine ⟨_, _, by rw [hv]; exact hr, ⟨by rw [List.length_append, hown.1, hl, Nat.add_mul], .inr ⟨g, off, cap, cur', rfl, hbg, h3, hroom, hcm, by rw [h4, hcs], ?_⟩⟩,
        ⟨s1, s2, s3, by rw [s4]; exact Nat.le_refl _, fun k _ hk => setCells_far news _ k (fun he => hk (by rw [hv, he]; simp [Value.ownBlock]))⟩, .inl (by rw [hv]; rfl)⟩
      rw [h5, List.append_assoc, List.drop_append_of_le_length (by rw [List.length_take, Array.length_toList]; omega), List.drop_take]
      rw [show off * i.size + n * i.size - off * i.size = n * i.size by omega, htake]
      rw [← List.append_assoc]
      exact List.take_left' (by rw [List.length_append, hown.1, hl, Nat.add_mul])
    · refine grows ⟨g, off * size, none⟩ cap (by omega) (fun j u hu => ?_) hv
      rw [add_at, cell_of_row w g _ cur e (0, 0) hg]
      rw [← htake, List.getElem?_take] at hu
      split at hu
      · rw [List.getElem?_drop] at hu
        rw [← Array.getElem?_toList]
        exact hu
      · cases hu
end
/-! ### 28. The kinds' words for cuts: R_take; Q (a row that may begin inside its block) with all of R's movers -/
namespace Kd
theorem reps_drop {α : Type} {R : α → List Value → Prop} {size m : Nat} {ps : List α} {cs : List Value} (h : Reps R size ps cs) : Reps R size (ps.drop m) (cs.drop (m * size)) := by
  refine ⟨by rw [List.length_drop, List.length_drop, h.1, Nat.sub_mul], fun j p hj => ?_⟩
  rw [List.getElem?_drop] at hj
  have := h.2 (m + j) p hj
  rw [List.drop_drop, ← Nat.add_mul]
  exact this
def Q {α : Type} (d : Kd α) (e : Nat) (w : World) (base : Nat) (ok : Nat → Prop) (v : Value) (xs : List α) : Prop :=
  (∀ k, v.ownBlock = some k → ok k) ∧ ∃ inner, QRow w base e d.sz v xs.length inner ∧ Reps (d.M w base (fun k => ok k ∧ some k ≠ v.ownBlock)) d.sz xs inner
section
variable {α : Type} {d : Kd α} {e : Nat} {w w1 W : World} {base : Nat} {ok ok' : Nat → Prop} {v : Value} {xs : List α}
theorem Q_of_R (h : d.R e w base ok v xs) : d.Q e w base ok v xs := by
  obtain ⟨h0, inner, ho, hr⟩ := h
  exact ⟨h0, inner, q_of_own ho, hr⟩
theorem Q_nil (d : Kd α) (e : Nat) (w : World) (base : Nat) (ok : Nat → Prop) : d.Q e w base ok (.slice none 0 0) [] := Q_of_R (R_nil d e w base ok)
theorem Q_mono (h : d.Q e w base ok v xs) (hok : ∀ k, ok k → ok' k) : d.Q e w base ok' v xs := by
  obtain ⟨h0, inner, ho, hr⟩ := h
  exact ⟨fun k hk => hok k (h0 k hk), inner, ho, hr.imp_ (fun _ _ hp => d.M_mono (fun k hk => ⟨hok k hk.1, hk.2⟩) hp)⟩
theorem Q_bound (h : d.Q e w base ok v xs) : d.Q e w base (fun k => ok k ∧ base ≤ k ∧ k < w.heap.size ∧ ∃ q, q ∈ e :: d.E ∧ ∃ cells, w.heap[k]? = some (.cells cells q (0, 0))) v xs := by
  obtain ⟨h0, inner, ho, hr⟩ := h
  refine ⟨fun k hk => ?_, inner, ho, hr.imp_ (fun _ _ hp => d.M_mono (fun k hk => ?_) (d.M_bound hp))⟩
  · obtain ⟨hb, cells, hc⟩ := q_typed ho k hk
    exact ⟨h0 k hk, hb, q_lt ho k hk, e, List.mem_cons_self, cells, hc⟩
  · obtain ⟨⟨h1, h2⟩, h3, h4, q, hq, hc⟩ := hk
    exact ⟨⟨h1, h3, h4, q, List.mem_cons_of_mem _ hq, hc⟩, h2⟩
theorem Q_move (h : d.Q e w base ok v xs) (hm : ∀ k, ok k → w1.heap[k]? = w.heap[k]?) : d.Q e w1 base ok v xs := by
  obtain ⟨h0, inner, ho, hr⟩ := h
  exact ⟨h0, inner, q_move ho (fun k hk => hm k (h0 k hk)), hr.imp_ (fun _ _ hp => d.M_move (fun k hk => hm k hk.1) hp)⟩
theorem Q_step (h : d.Q e w base ok v xs) (hm : ∀ k, ok k → k < w.heap.size → w1.heap[k]? = w.heap[k]?) : d.Q e w1 base ok v xs := Q_mono (Q_move (Q_bound h) (fun k hk => hm k hk.1 hk.2.2.1)) (fun _ hk => hk.1)
theorem Q_lt (h : d.Q e w base ok v xs) : ∀ k, v.ownBlock = some k → k < w.heap.size := by
  obtain ⟨_, inner, ho, _⟩ := h
  exact q_lt ho
theorem Q_base (h : d.Q e w base ok v xs) : ∀ k, v.ownBlock = some k → base ≤ k := by
  obtain ⟨_, inner, ho, _⟩ := h
  exact fun k hk => (q_typed ho k hk).1
theorem Q_slice (h : d.Q e w base ok v xs) : ∃ A c, v = .slice A xs.length c ∧ xs.length ≤ c := by
  obtain ⟨_, inner, ho, _⟩ := h
  exact q_slice ho
theorem Q_reads' {A : Option Addr} {n c : Nat} (h : d.Q e w base ok (.slice A n c) xs) : n = xs.length ∧ n ≤ c ∧ d.C w A xs.length xs := by
  obtain ⟨_, inner, ho, hr⟩ := h
  obtain ⟨A', c', he, hl⟩ := q_slice ho
  injection he with h1 h2 h3
  subst h1; subst h2; subst h3
  refine ⟨rfl, hl, rfl, q_max ho, fun hp => ?_⟩
  obtain ⟨ad, ha, hc⟩ := q_cells ho hp
  refine ⟨ad, ha, fun j p hj => ⟨(inner.drop (j * d.sz)).take d.sz, ?_, d.K_of_M (hr.2 j p hj), fun i u hu => ?_⟩⟩
  · have hjl := (List.getElem?_eq_some_iff.1 hj).1
    have h1 : j * d.sz + d.sz ≤ inner.length := by rw [hr.1, ← Nat.succ_mul]; exact Nat.mul_le_mul_right _ hjl
    rw [List.length_take, List.length_drop]
    omega
  · refine hc _ u ?_
    rw [List.getElem?_take] at hu
    split at hu
    · rw [List.getElem?_drop] at hu
      exact hu
    · cases hu
theorem Q_drop {A : Option Addr} {k n c : Nat} (h : d.Q e w base ok (.slice A n c) xs) (hk : k ≤ xs.length) : d.Q e w base ok (.slice (if c = k then A else A.map (·.add (k * d.sz))) (n - k) (c - k)) (xs.drop k) := by
  have hn : n = xs.length := (Q_reads' h).1
  subst hn
  obtain ⟨h0, inner, ho, hr⟩ := h
  have hb : (Value.slice (if c = k then A else A.map (·.add (k * d.sz))) (xs.length - k) (c - k)).ownBlock = (Value.slice A xs.length c).ownBlock := by
    split
    · cases A <;> rfl
    · cases A with
      | none => rfl
      | some a => simp [Value.ownBlock]; unfold Addr.add; split <;> rfl
  refine ⟨fun j hj => h0 j (by rw [← hb]; exact hj), inner.drop (k * d.sz), ?_, ?_⟩
  · rw [List.length_drop]
    exact q_drop ho hk
  · rw [hb]
    exact reps_drop hr
theorem Q_appended {okp : Nat → Prop} {v1 : Value} {p : α} {inner cs : List Value} (h0 : ∀ k, v.ownBlock = some k → ok k) (hr : Reps (d.M W base (fun k => ok k ∧ some k ≠ v.ownBlock)) d.sz xs inner) (hp : d.M W base okp p cs) (hokp : ∀ k, okp k → ok k ∧ some k ≠ v.ownBlock) (hfresh : ∀ k, W.heap.size ≤ k → ok k)
    (hown : QRow w1 base e d.sz v1 (xs.length + 1) (inner ++ cs)) (hg : W.grownBy w1 v.ownBlock) (hat : v1.ownBlock = v.ownBlock ∨ ∃ b, v1.ownBlock = some b ∧ W.heap.size ≤ b) : d.Q e w1 base ok v1 (xs ++ [p]) := by
  have hne : ∀ k, some k ≠ v.ownBlock → k < W.heap.size → some k ≠ v1.ownBlock := by
    intro k hk hlt
    rcases hat with hat | ⟨b, hb, hle⟩
    · rw [hat]; exact hk
    · rw [hb]
      intro he
      injection he with he
      omega
  have step : ∀ {q : α} {c : List Value} {o : Nat → Prop}, d.M W base o q c → (∀ k, o k → ok k ∧ some k ≠ v.ownBlock) → d.M w1 base (fun k => ok k ∧ some k ≠ v1.ownBlock) q c := by
    intro q c o hq ho
    have h1 := d.M_move (w1 := w1) (fun k hk => hg.block k hk.2.2.1 (ho k hk.1).2) (d.M_bound hq)
    exact d.M_mono (fun k hk => ⟨(ho k hk.1).1, hne k (ho k hk.1).2 hk.2.2.1⟩) h1
  refine ⟨fun k hk => ?_, inner ++ cs, by rw [List.length_append, List.length_singleton]; exact hown, ?_⟩
  · rcases hat with hat | ⟨b, hb, hle⟩
    · exact h0 k (hat ▸ hk)
    · rw [hb] at hk
      injection hk with hk
      exact hfresh k (by omega)
  · exact (hr.imp_ (fun _ _ hq => step hq (fun _ hk => hk))).snoc (step hp hokp) (d.K_len (d.K_of_M hp))
end
section
variable {P : Program} {ops : Array Oper} {rest : List Oper} {o : Oper} {a : Act} {Q' : Exit → Act → World → Prop} {Kc : Act → World → Prop} {α : Type}
theorem Q_run (d : Kd α) {w0 W : World} (base : Nat) (t ty e : TypeId) (z : Value) (bytes : Nat)
    (ht : P.underlying t = some (.slice e)) (hinfo : (P.info? e).map (fun i => (i.zero, i.size, i.bytes)) = some (some z, d.sz, bytes)) (hz : z.cells.size = d.sz) (hs0 : 0 < d.sz) (hb0 : 0 < bytes)
    (v : Value) (xs : List α) (p : α) (cs : List Value) (ok okp : Nat → Prop) (hp : d.M W base okp p cs) (hokp : ∀ k, okp k → ok k ∧ some k ≠ v.ownBlock) (hfresh : ∀ k, W.heap.size ≤ k → ok k)
    (HO : d.Q e W base ok v xs) (HB : Below base w0 W) (hbase : base ≤ W.heap.size) (hl : (xs.length + 1) * bytes ≤ 140737488355328) :
    ∃ v1 w1, (Builtin.append_ #[t, t] ty #[v, .slice (some ⟨W.heap.size, 0, none⟩) 1 1]).run P (W.alloc (.cells cs.toArray e)) = .ok v1 w1 ∧ d.Q e w1 base ok v1 (xs ++ [p]) ∧ Below base w0 w1 ∧ W.grownBy w1 v.ownBlock ∧ (v1.ownBlock = v.ownBlock ∨ ∃ b, v1.ownBlock = some b ∧ W.heap.size ≤ b) := by
  obtain ⟨h0, inner, hown, hr⟩ := HO
  obtain ⟨i0, hi, hzz⟩ := Option.map_eq_some_iff.1 hinfo
  simp only [Prod.mk.injEq] at hzz
  obtain ⟨hz0, hz1, hz2⟩ := hzz
  have hlen : xs.length + 1 ≤ 140737488355328 := Nat.le_trans (Nat.le_mul_of_pos_right _ hb0) hl
  have hcl := d.K_len (d.K_of_M hp)
  have hq : QRow (W.alloc (.cells cs.toArray e)) base e d.sz v xs.length inner := q_move hown (fun k hk => Below.heap_alloc W _ k (q_lt hown k hk))
  obtain ⟨v1, w1, hrun, hq1, hg1, hat⟩ := q_append (P := P) (W.alloc (.cells cs.toArray e)) base t ty e i0 z d.sz bytes ht hi hz0 hz1 hz2 hz hs0 v xs.length inner hq ⟨W.heap.size, 0, none⟩ 1 1 cs (by rw [hcl, Nat.one_mul])
    (by simpa using World.news_of_block (cs := cs.toArray) (t := e) (fr := (0, 0)) (heap_alloc_new W (.cells cs.toArray e))) (d.K_one (d.K_of_M hp)) (by omega) (by simp only [maxLen]; omega) hl (by simp; omega)
  have hg : W.grownBy w1 v.ownBlock := World.grownBy.trans (World.grownBy_alloc W _ _) hg1
  have hat' : v1.ownBlock = v.ownBlock ∨ ∃ b, v1.ownBlock = some b ∧ W.heap.size ≤ b := by
    rcases hat with hat | ⟨b, hb, hle⟩
    · exact .inl hat
    · exact .inr ⟨b, hb, by rw [World.size_alloc] at hle; omega⟩
  exact ⟨v1, w1, hrun, Q_appended h0 hr hp hokp hfresh hq1 hg hat', HB.grown hg hbase (fun k hk => (q_typed hown k hk).1), hg, hat'⟩
end
end Kd
/-! ### 29. Movers that ask of another row no more than they need: for R and for Q -/
namespace Kd
section
variable {α : Type} {d : Kd α} {e e' : Nat} {w w1 W : World} {base : Nat} {ok : Nat → Prop} {u v : Value} {xs : List α}
theorem R_elder' (hu : d.R e W base ok u xs) (hbase : ∀ k, v.ownBlock = some k → W.heap.size ≤ k) (hb : Below W.heap.size W w1) : d.R e w1 base (fun k => ok k ∧ some k ≠ v.ownBlock) u xs :=
  R_mono (R_move (R_bound hu) (fun k hk => hb.block k hk.2.2.1)) (fun k hk => ⟨hk.1, fun he => by have := hbase k he.symm; have := hk.2.2.1; omega⟩)
theorem R_new' (h : d.R e w1 W.heap.size ok v xs) (hlt : ∀ k, u.ownBlock = some k → k < W.heap.size) : d.R e w1 W.heap.size (fun k => ok k ∧ some k ≠ u.ownBlock) v xs :=
  R_mono (R_bound h) (fun k hk => ⟨hk.1, fun he => by have := hlt k he.symm; have := hk.2.1; omega⟩)
theorem fresh' (hlt : ∀ k, u.ownBlock = some k → k < W.heap.size) : ∀ k, W.heap.size ≤ k → some k ≠ u.ownBlock := fun k hk he => by have := hlt k he.symm; omega
end
end Kd
/-! ### 30. Elements written: x[i] = T{..}, x[i].f = v, swaps, in a row of elements of any kind -/
namespace Kd
section
variable {α : Type} {d : Kd α} {e base g n cap : Nat} {ok okp : Nat → Prop} {W : World} {xs : List α}
end
end Kd
/-! ### 31. What came in, put into what is made: 'fixed d w0' (read in w0, whatever happens since), 'or_ a b', 'mix' (a slice that came in, or one that is made) -/
namespace Kd
def fixed {α : Type} (d : Kd α) (w0 : World) : Kd α where
  sz := d.sz
  E := []
  K := fun _ x cs => d.K w0 x cs
  M := fun _ _ _ x cs => d.K w0 x cs
  K_len := d.K_len
  K_one := d.K_one
  K_below := fun _ h => h
  K_of_M := fun h => h
  M_mono := fun _ h => h
  M_bound := fun h => h
  M_move := fun _ h => h
  M_lower := fun _ h => h
def or_ {α : Type} (a b : Kd α) (h : b.sz = a.sz) : Kd α where
  sz := a.sz
  E := a.E ++ b.E
  K := fun w x cs => a.K w x cs ∨ b.K w x cs
  M := fun w base ok x cs => a.M w base ok x cs ∨ b.M w base ok x cs
  K_len := fun hk => hk.elim a.K_len (fun hk => (b.K_len hk).trans h)
  K_one := fun hk => hk.elim a.K_one b.K_one
  K_below := fun hb hk => hk.imp (a.K_below hb) (b.K_below hb)
  K_of_M := fun hk => hk.imp a.K_of_M b.K_of_M
  M_mono := fun hok hk => hk.imp (a.M_mono hok) (b.M_mono hok)
  M_bound := fun hk => hk.imp
    (fun hk => a.M_mono (fun _ ⟨h1, h2, h3, q, hq, hc⟩ => ⟨h1, h2, h3, q, List.mem_append_left _ hq, hc⟩) (a.M_bound hk))
    (fun hk => b.M_mono (fun _ ⟨h1, h2, h3, q, hq, hc⟩ => ⟨h1, h2, h3, q, List.mem_append_right _ hq, hc⟩) (b.M_bound hk))
  M_move := fun hm hk => hk.imp (a.M_move hm) (b.M_move hm)
  M_lower := fun hb hk => hk.imp (a.M_lower hb) (b.M_lower hb)
def mix {α : Type} (e : Nat) (d dm : Kd α) (w0 : World) : Kd (List α) := or_ (fixed (slice e d) w0) (slice e dm) rfl
section
variable {α : Type} {F : Kd α → Kd α} {sz : Nat} {E : List Nat} {hs : ∀ n, (upto F sz E n).sz = sz} {hE : ∀ n q, q ∈ (upto F sz E n).E → q ∈ E}
end
end Kd
/-! ### 32. A whole row appended, of elements of any kind; copy onto a row of scalars of one's own -/
namespace Kd
theorem reps_append {α : Type} {R : α → List Value → Prop} {size : Nat} {ps qs : List α} {cs ds : List Value} (h : Reps R size ps cs) (h' : Reps R size qs ds) : Reps R size (ps ++ qs) (cs ++ ds) := by
  refine ⟨by rw [List.length_append, List.length_append, h.1, h'.1, Nat.add_mul], fun j p hj => ?_⟩
  rcases Nat.lt_or_ge j ps.length with hlt | hge
  · rw [List.getElem?_append_left hlt] at hj
    have hle : j * size + size ≤ cs.length := by rw [h.1, ← Nat.succ_mul]; exact Nat.mul_le_mul_right _ hlt
    rw [List.drop_append_of_le_length (by omega), List.take_append_of_le_length (by rw [List.length_drop]; omega)]
    exact h.2 j p hj
  · rw [List.getElem?_append_right hge] at hj
    have h2 := h'.2 (j - ps.length) p hj
    have hle : ps.length * size ≤ j * size := Nat.mul_le_mul_right _ hge
    rw [List.drop_append, List.drop_eq_nil_of_le (by rw [h.1]; exact hle), List.nil_append, h.1, ← Nat.sub_mul]
    exact h2
section
variable {P : Program} {ops : Array Oper} {rest : List Oper} {o : Oper} {a : Act} {Q : Exit → Act → World → Prop} {α : Type}
theorem R_append_rows (d : Kd α) {Rr : α → List Value → Prop} {w0 W : World} (base : Nat) (hgd : o.guard = none) (s x : Operand) (t e : TypeId) (z : Value) (bytes : Nat)
    (ho : o.op = .call { callee := .builtin .append, args := #[s, x], argTypes := #[t, t] })
    (ht : P.underlying t = some (.slice e)) (hinfo : (P.info? e).map (fun i => (i.zero, i.size, i.bytes)) = some (some z, d.sz, bytes)) (hz : z.cells.size = d.sz) (hs0 : 0 < d.sz) (hb0 : 0 < bytes)
    (v : Value) (xs ys : List α) (A : Option Addr) (m c : Nat) (ok okp : Nat → Prop) (hs : a.eval s = v) (hx : a.eval x = .slice A m c)
    (HO : d.R e W base ok v xs) (HR : ReadsRow Rr d.sz W A m ys) (hKM : ∀ x cs, Rr x cs → d.M W base okp x cs) (hokp : ∀ k, okp k → ok k ∧ some k ≠ v.ownBlock) (hfresh : ∀ k, W.heap.size ≤ k → ok k)
    (HB : Below base w0 W) (hbase : base ≤ W.heap.size) (hl : (xs.length + m) * bytes ≤ 140737488355328)
    (h : ∀ v1 w1, d.R e w1 base ok v1 (xs ++ ys) → Below base w0 w1 → W.grownBy w1 v.ownBlock → (v1.ownBlock = v.ownBlock ∨ ∃ b, v1.ownBlock = some b ∧ W.heap.size ≤ b) → wpList P ops Q rest (a.put o.dst v1) w1) :
    wpList P ops Q (o :: rest) a W := by
  obtain ⟨i0, hi, hzz⟩ := Option.map_eq_some_iff.1 hinfo
  simp only [Prod.mk.injEq] at hzz
  obtain ⟨hz0, hz1, hz2⟩ := hzz
  have hm : ys.length = m := HR.1
  have hlen : xs.length + m ≤ 140737488355328 := Nat.le_trans (Nat.le_mul_of_pos_right _ hb0) hl
  obtain ⟨hok, inner, hown, hr⟩ := HO
  have hrun : ∃ v1 w1, (Builtin.append_ #[t, t] o.type #[v, .slice A m c]).run P W = .ok v1 w1 ∧ d.R e w1 base ok v1 (xs ++ ys) ∧ W.grownBy w1 v.ownBlock ∧ (v1.ownBlock = v.ownBlock ∨ ∃ b, v1.ownBlock = some b ∧ W.heap.size ≤ b) := by
    rcases A with _ | ad
    · have h0 : m = 0 := by
        rcases Nat.eq_zero_or_pos m with h0 | h0
        · exact h0
        · obtain ⟨ad, h, _⟩ := HR.2.2 h0
          cases h
      subst h0
      obtain rfl : ys = [] := List.eq_nil_of_length_eq_zero hm
      refine ⟨v, W, ?_, by rw [List.append_nil]; exact ⟨hok, inner, hown, hr⟩, World.grownBy.refl W _, .inl rfl⟩
      rcases hown.2 with ⟨rfl, hn⟩ | ⟨g, cap, cur, rfl, _, _, hnc, _⟩
      · simp [Builtin.append_, run_underlying ht, sizeOf, typeInfo, hi, Builtin.lenOf, Builtin.firstCells]
      · simp [Builtin.append_, run_underlying ht, sizeOf, typeInfo, hi, Builtin.lenOf, Builtin.firstCells, hnc, storeCells]
    · obtain ⟨news, hnr, hnc⟩ := ReadsRow.inner_ HR
      have hnM : Reps (d.M W base okp) d.sz ys news := hnr.imp_ (fun p c hp => hKM p c hp)
      have hone : ∀ u ∈ news, u.oneCell' = true := by
        intro u hu
        obtain ⟨q, hq, rfl⟩ := List.mem_iff_getElem.1 hu
        have hql : q / d.sz < ys.length := by
          rw [Nat.div_lt_iff_lt_mul hs0]
          rw [← hnM.1]
          exact hq
        have hc := hnM.2 (q / d.sz) _ (List.getElem?_eq_getElem hql)
        refine d.K_one (d.K_of_M hc) _ ?_
        rw [List.mem_iff_getElem?]
        refine ⟨q % d.sz, ?_⟩
        rw [List.getElem?_take, if_pos (Nat.mod_lt _ hs0), List.getElem?_drop, Nat.mul_comm, Nat.div_add_mod, List.getElem?_eq_getElem hq]
      obtain ⟨v1, w1, hrun, h2, hg, _, hat⟩ := run_append_own_at (P := P) W base t o.type e i0 z d.sz bytes ht hi hz0 hz1 hz2 hz hs0 v xs.length inner hown ad m c news (by rw [hnM.1, hm]) hnc hone (by simp only [maxLen]; omega) hl hbase
      have hat' : v1.ownBlock = v.ownBlock ∨ ∃ b, v1.ownBlock = some b ∧ W.heap.size ≤ b := by
        rcases hat with hat | hat
        · exact .inl hat
        · exact .inr ⟨_, hat, Nat.le_refl _⟩
      have hne : ∀ k, some k ≠ v.ownBlock → k < W.heap.size → some k ≠ v1.ownBlock := by
        intro k hk hlt
        rcases hat' with hat | ⟨b, hb, hle⟩
        · rw [hat]; exact hk
        · rw [hb]
          intro he
          injection he with he
          omega
      have step : ∀ {q : α} {c : List Value} {o : Nat → Prop}, d.M W base o q c → (∀ k, o k → ok k ∧ some k ≠ v.ownBlock) → d.M w1 base (fun k => ok k ∧ some k ≠ v1.ownBlock) q c := by
        intro q c o hq ho
        have h1 := d.M_move (w1 := w1) (fun k hk => hg.block k hk.2.2.1 (ho k hk.1).2) (d.M_bound hq)
        exact d.M_mono (fun k hk => ⟨(ho k hk.1).1, hne k (ho k hk.1).2 hk.2.2.1⟩) h1
      refine ⟨v1, w1, hrun, ⟨fun k hk => ?_, inner ++ news, by rw [List.length_append, hm]; exact h2, reps_append (hr.imp_ (fun _ _ hq => step hq (fun _ hk => hk))) (hnM.imp_ (fun _ _ hq => step hq hokp))⟩, hg, hat'⟩
      rcases hat' with hat | ⟨b, hb, hle⟩
      · exact hok k (hat ▸ hk)
      · rw [hb] at hk
        injection hk with hk
        exact hfresh k (by omega)
  obtain ⟨v1, w1, hr1, h1, hg, hat⟩ := hrun
  refine wpList_plain hgd fun K hK => ?_
  unfold Oper.wp execOp
  simp only [ho, resolve, invoke, builtin, Sem.run_bind, Sem.run_pure, Result.andThen_ok, List.map_toArray, List.map_cons, List.map_nil, hs, hx, hr1]
  exact hK _ _ (h v1 w1 h1 (HB.grown hg hbase (own_base hown)) hg hat)
end
end Kd
/-! ### 33. A store into a row of one's own, as_ an event: no go_simp -/
namespace Kd
section
variable {P : Program} {ops : Array Oper} {rest : List Oper} {o : Oper} {a : Act} {Q : Exit → Act → World → Prop} {α : Type}
end
end Kd
/-! ### 34. Cuts that are only read, of any row -/
theorem add_add (a : Addr) (i j : Nat) : (a.add i).add j = a.add (i + j) := by
  unfold Addr.add
  by_cases h1 : i = 0 <;> by_cases h2 : j = 0 <;> simp [h1, h2, Nat.add_assoc]
namespace Kd
section
variable {α : Type} {k : Kd α} {w : World} {A : Option Addr} {xs : List α} {m c : Nat}
end
end Kd
section
variable {P : Program}
end
/-! ### 35. string(b), b read (a cut too) -/
/-! ### 6. What the printer adds -/
theorem below_size {w W : World} (h : Below w.heap.size w W) : w.heap.size ≤ W.heap.size := h.size
theorem below_step {w W w2 : World} (h : Below w.heap.size w W) (k : Below W.heap.size W w2) : Below w.heap.size w w2 := below_then h h.size k
theorem ReadsInt.nil (W : World) (k : IntKind) : ReadsInt W k none ([] : List Int).length [] := ⟨rfl, by simp, fun h => absurd h (Nat.lt_irrefl 0)⟩
theorem ReadsInt.drewN {W : World} {k : IntKind} {A : Option Addr} {n : Nat} {xs : List Int} (h : ReadsInt W k A n xs) (m : Nat) : ReadsInt (W.drewN m) k A n xs := h
theorem below_set {w W : World} {g j : Nat} {v : Value} (h : Below w.heap.size w W) (hg : w.heap.size ≤ g) : Below w.heap.size w (W.setCell ⟨g, j, none⟩ v) := h.setCell hg _
theorem add_block (a : Addr) (i : Nat) : (a.add i).block = a.block := by unfold Addr.add; split <;> rfl
theorem ReadsOf.nil {α : Type} (enc : α → Value) (d : α) (W : World) : ReadsOf enc d W none ([] : List α).length [] := ⟨rfl, by simp, fun h => absurd h (Nat.lt_irrefl 0)⟩
theorem ReadsOf.drewN {α : Type} {enc : α → Value} {d : α} {W : World} {A : Option Addr} {n : Nat} {xs : List α} (h : ReadsOf enc d W A n xs) (m : Nat) : ReadsOf enc d (W.drewN m) A n xs := h
theorem blk_put {w : World} {g : Nat} {t : TypeId} {cs cs' : Array Value} (h : w.heap[g]? = some (.cells cs t (0, 0))) (i : Nat) (u : Value) (e : cs.setIfInBounds i u = cs') : (w.setCell ⟨g, i, none⟩ u).heap[g]? = some (.cells cs' t (0, 0)) := e ▸ blk_set h i u
theorem below_drew1 {base : Nat} {w W : World} (h : Below base w W) : Below base w W.drew := h.drew
namespace Kd
section
variable {α β : Type} {d : Kd α} {d' : Kd β} {e e' base base' n : Nat} {ok ok' : Nat → Prop} {w W w1 W1 : World} {v u : Value} {xs : List α} {ys : List β} {A : Option Addr} {c : Nat}
end
section
variable {α : Type} {enc : α → Value} {h1 : ∀ x, (enc x).oneCell' = true} {w W : World} {A : Option Addr} {n g : Nat} {xs : List α}
end
end Kd
namespace Kd
section
variable {α : Type} {d : Kd α} {e base g : Nat} {ok : Nat → Prop} {w w1 : World} {v : Value} {xs : List α} {o : Obj}
end
end Kd
section
variable {P : Program} {ops : Array Oper} {rest : List Oper} {o : Oper} {a : Act} {Q : Exit → Act → World → Prop}
theorem box_event {W : World} (hgd : o.guard = none) {N : Tmp} (_hd : o.dst = some N) {cs : Array Value} {t : TypeId}
    (hrun : (execOp a.eval o).run P W = .ok (.value (.pointer (some ⟨W.heap.size, 0, none⟩))) (W.alloc (.cells cs t (0, 0))))
    (h : ∀ g, g = W.heap.size → ∀ w1, w1.heap[g]? = some (.cells cs t (0, 0)) → Below W.heap.size W w1 → wpList P ops Q rest (a.put o.dst (.pointer (some ⟨g, 0, none⟩))) w1) : wpList P ops Q (o :: rest) a W :=
  Kd.event_run hgd hrun (h _ rfl _ (blk_new W _) (below_alloc (Below.refl _ _) _))
end
namespace Kd
section
variable {α : Type} {enc : α → Value} {h1 : ∀ x, (enc x).oneCell' = true} {e base g n cap : Nat} {ok : Nat → Prop} {W : World} {xs : List α}
end
end Kd
section
variable {P : Program} {ops : Array Oper} {rest : List Oper} {o : Oper} {a : Act} {Q : Exit → Act → World → Prop}
end
namespace Kd
section
variable {α : Type} {enc : α → Value} {h1 : ∀ x, (enc x).oneCell' = true} {e base g n cap : Nat} {ok : Nat → Prop} {W : World} {xs : List α}
end
end Kd
section
variable {P : Program} {ops : Array Oper} {rest : List Oper} {o : Oper} {a : Act} {Q : Exit → Act → World → Prop} {W : World}
theorem gate_dst {N : Tmp} (_hN : o.dst = some N) (h : wpList P ops Q (o :: rest) a W) : wpList P ops Q (o :: rest) a W := h
end
/-! ### 36. Events as_ one step of a region that draws (for one_, two_, three_) -/
section
variable {P : Program} {ops : Array Oper} {o : Oper} {a : Act} {Q : Exit → Act → World → Prop} {Kc : Act → World → Prop}
theorem event_step {W w1 : World} {v : Value} (hw : Region.wanted o (yielded ops a.tmps) = true) (hrun : (execOp a.eval o).run P W = .ok (.value v) w1) (h : Kc (a.put o.dst v) w1) : if Region.wanted o (yielded ops a.tmps) = true then Oper.wp P o a W Kc Q else Kc (a.put o.dst undef) W := by
  rw [if_pos hw]
  unfold Oper.wp
  rw [hrun]
  exact h
namespace Kd
variable {α : Type}
theorem R_lit_step (d : Kd α) {w0 W : World} (base e : Nat) (hw : Region.wanted o (yielded ops a.tmps) = true) {N : Tmp} (_hd : o.dst = some N) {xs : List α} {inner : List Value} {ok okp : Nat → Prop}
    (hrun : (execOp a.eval o).run P W = .ok (.value (.slice (some ⟨W.heap.size, 0, none⟩) xs.length xs.length)) (W.alloc (.cells inner.toArray e)))
    (hrep : Reps (d.M W base okp) d.sz xs inner) (hok : ∀ k, okp k → ok k) (hfresh : ok W.heap.size) (HB : Below base w0 W) (hbase : base ≤ W.heap.size) (hm : xs.length ≤ 9223372036854775807)
    (h : ∀ v1 w1, d.R e w1 base ok v1 xs → Below base w0 w1 → W.grownBy w1 none → (∃ b, v1.ownBlock = some b ∧ W.heap.size ≤ b) → Kc (a.put o.dst v1) w1) : if Region.wanted o (yielded ops a.tmps) = true then Oper.wp P o a W Kc Q else Kc (a.put o.dst undef) W := by
  refine event_step hw hrun (h _ _ ⟨fun k hk => ?_, inner, ?_, ?_⟩ (HB.alloc hbase _) (World.grownBy_alloc W _ none) ⟨W.heap.size, by simp [Value.ownBlock], Nat.le_refl _⟩)
  · have : W.heap.size = k := by simpa [Value.ownBlock] using hk
    subst this
    exact hfresh
  · have h2 := World.ownsRow_lit (base := base) (e := e) (size := d.sz) W inner.toArray xs.length hbase (by simpa [maxLen] using hm) (by simpa using hrep.1)
    simpa using h2
  · refine hrep.imp_ (fun p c hp => d.M_mono (fun k hk => ⟨hok k hk.1, fun he => ?_⟩) (M_below (d.M_bound hp) (below_alloc (Below.refl _ _) _)))
    have h3 : k = W.heap.size := by simpa [Value.ownBlock] using he
    have := hk.2.2.1
    omega
end Kd
end
/-! ### 37. Results of any shape -/
inductive Vals (P : Program) (tmps : Array Value) (w : World) : List ResultVar → List Value → Prop where
  | nil : Vals P tmps w [] []
  | tmp {u : Tmp} {rs : List ResultVar} {vs : List Value} (h : Vals P tmps w rs vs) : Vals P tmps w (.tmp u :: rs) (tmps.getD u undef :: vs)
  | cell {p : Tmp} {ty : TypeId} {rs : List ResultVar} {vs : List Value} (g : Nat) (t : TypeId) (cs : Array Value) (fr : Nat × Nat) (d : TypeDesc)
      (hp : tmps.getD p undef = .pointer (some ⟨g, 0, none⟩)) (hg : w.heap[g]? = some (.cells cs t fr))
      (hu : P.underlying ty = some d) (hd : (match d with | .struct _ | .array _ _ => true | _ => false) = true) (hi : (P.info? ty).map (·.size) = some cs.size)
      (h : Vals P tmps w rs vs) : Vals P tmps w (.cell p ty :: rs) (.agg cs :: vs)
section
variable {P : Program} {tmps : Array Value} {w : World}
theorem vals_run {rs : List ResultVar} {vs : List Value} (hv : Vals P tmps w rs vs) (f : ResultVar → Sem Value) (hf : ∀ u, f (.tmp u) = pure (tmps.getD u undef)) (hc : ∀ a t, f (.cell a t) = (do loadVar t (← asAddr (tmps.getD a undef)))) :
    (rs.mapM f).run P w = .ok vs w := by
  induction hv with
  | nil => simp
  | tmp h ih => simp [List.mapM_cons, hf, ih]
  | cell g t cs fr d hp hg hu hd hi h ih =>
    rw [List.mapM_cons, hc, hp]
    simp [asAddr, run_loadVar_row w g t _ cs fr d hg hu hd hi, ih]
theorem results_list {fn : Func} {rs : List ResultVar} {vs : List Value} (h : fn.results = rs.toArray) (hl : vs.length ≠ 1) (hv : Vals P tmps w rs vs) : (results fn tmps).run P w = .ok (.tuple vs.toArray) w := by
  unfold results
  rw [h, List.mapM_toArray]
  simp only [Sem.run_bind, Sem.run_map]
  rw [vals_run hv]
  · simp [hl]
  · intro u
    rfl
  · intro a t
    rfl
end
/-! ### 38. 'out = append(out[:k], out[k+1:]...)': an element taken out of a row of one's own, in place -/
namespace Kd
section
variable {P : Program} {α : Type}
end
section
variable {P : Program} {ops : Array Oper} {rest : List Oper} {o : Oper} {a : Act} {Q : Exit → Act → World → Prop} {Kc : Act → World → Prop} {α : Type}
end
end Kd
end Go.Proofs.YtndicjikjcifaaaDoorW.PrintWords

/-
  PRINTED WORDS, second file: A REGION THAT DRAWS ITS ORDER, WALKED BY HAND, where its last store writes what its own loads read ('x.f = append(x.f, f(i))'). Plain theorems; no macro, no elab. A claim may hold it (turn the namespace's name).
  A load may be taken first in every world that meets S; behind the operations of ds nothing is shown; sound because each of ds waits for what is taken (Region.lastB). The kernel checks it.
  By an AI agent of Go's test side, Mon Nov 16 2026. No person has read it.
-/
namespace Go.Proofs.YtndicjikjcifaaaDoorW.PrintLast
section
variable {P : Program} {ops : Array Oper} {Q : Exit → Act → World → Prop} {md : Region.Mode} {S : World → Prop} {ds : List Nat}
def Region.reachB (md : Region.Mode) (ops : Array Oper) (i : Nat) : Nat → Nat → Bool
  | 0, _ => false
  | fuel + 1, d => match ops[d]? with
    | some o => o.after.any fun e => Region.binds md e && (e.on == i || Region.reachB md ops i fuel e.on)
    | none => false
def Region.closedB (md : Region.Mode) (ops : Array Oper) (listed : Array Bool) : Bool :=
  (List.range ops.size).all fun j => !listed.getD j false || match ops[j]? with
    | some o => o.after.all fun e => !Region.binds md e || listed.getD e.on false
    | none => true
def Region.lastB (md : Region.Mode) (ops : Array Oper) (listed : Array Bool) (ds : List Nat) (i : Nat) : Bool :=
  ds.all fun d => listed.getD d true || Region.reachB md ops i ops.size d
def ListedClosed (md : Region.Mode) (ops : Array Oper) (listed : Array Bool) : Prop :=
  ∀ j oj, ops[j]? = some oj → listed.getD j false = true → ∀ e ∈ oj.after, Region.binds md e = true → listed.getD e.on false = true
theorem Region.closedB_spec {listed : Array Bool} (h : Region.closedB md ops listed = true) : ListedClosed md ops listed := by
  intro j oj hj hl e he hb
  have hlt : j < ops.size := (Array.getElem?_eq_some_iff.1 hj).1
  have h1 := List.all_eq_true.1 h j (List.mem_range.2 hlt)
  simp only [hl, hj, Bool.not_true, Bool.false_or] at h1
  have h2 := Array.all_eq_true_iff_forall_mem.1 h1 e he
  simpa [hb] using h2
theorem ListedClosed.set {listed : Array Bool} {i : Nat} (h : ListedClosed md ops listed) (hi : i ∈ Region.ready md ops listed) : ListedClosed md ops (listed.setIfInBounds i true) := by
  obtain ⟨_, oi, hoi, hall⟩ := mem_ready.1 hi
  intro j oj hj hl e he hb
  by_cases hij : i = j
  · subst hij
    have : oj = oi := Option.some.inj (hj.symm.trans hoi)
    subst this
    exact getD_set_true (hall e he hb)
  · rw [getD_set_ne false hij] at hl
    exact getD_set_true (h j oj hj hl e he hb)
theorem Region.reach_listed {listed : Array Bool} {i : Nat} (hc : ListedClosed md ops listed) : ∀ (fuel d : Nat), Region.reachB md ops i fuel d = true → listed.getD d false = true → listed.getD i false = true
  | 0, _, h, _ => by simp [Region.reachB] at h
  | fuel + 1, d, h, hl => by
    unfold Region.reachB at h
    cases ho : ops[d]? with
    | none => rw [ho] at h; simp at h
    | some o =>
      rw [ho] at h
      obtain ⟨e, he, h1⟩ := Array.any_eq_true'.1 h
      simp only [Bool.and_eq_true, Bool.or_eq_true, beq_iff_eq] at h1
      have hle := hc d o ho hl e he h1.1
      rcases h1.2 with h2 | h2
      · rw [← h2]; exact hle
      · exact Region.reach_listed hc fuel e.on h2 hle
theorem Region.reach_not_ready {listed : Array Bool} {i d fuel : Nat} (hc : ListedClosed md ops listed) (hr : Region.reachB md ops i fuel d = true) (hun : listed.getD i true = false) : d ∉ Region.ready md ops listed := by
  intro hd
  obtain ⟨_, o, ho, hall⟩ := mem_ready.1 hd
  have hi : listed.getD i false = true := by
    cases fuel with
    | zero => simp [Region.reachB] at hr
    | succ n =>
      unfold Region.reachB at hr
      rw [ho] at hr
      obtain ⟨e, he, h1⟩ := Array.any_eq_true'.1 hr
      simp only [Bool.and_eq_true, Bool.or_eq_true, beq_iff_eq] at h1
      have hle := hall e he h1.1
      rcases h1.2 with h2 | h2
      · rw [← h2]; exact hle
      · exact Region.reach_listed hc n e.on h2 hle
  rcases Nat.lt_or_ge i listed.size with h' | h'
  · simp [h'] at hun hi
    rw [hun] at hi
    cases hi
  · simp [Array.getElem?_eq_none h'] at hun
def wpAnyLast (P : Program) (md : Region.Mode) (ops : Array Oper) (Q : Exit → Act → World → Prop) (S : World → Prop) (ds : List Nat) : Nat → Array Bool → Act → World → Prop
  | 0, listed, a, w => Region.ready md ops listed = [] ∧ Q .normal a w
  | fuel + 1, listed, a, w =>
    (Region.ready md ops listed = [] → Q .normal a w) ∧
    ∀ i ∈ Region.ready md ops listed, wpOp P ops Q i (fun a' w' => (i ∉ ds → S w → S w') ∧ wpAnyLast P md ops Q S ds fuel (listed.setIfInBounds i true) a' w') a w
theorem wpAny_of_last : ∀ (fuel : Nat) (listed : Array Bool) (a : Act) (w : World), wpAnyLast P md ops Q S ds fuel listed a w → wpAny P md ops Q fuel listed a w
  | 0, _, _, _, h => h
  | fuel + 1, _, _, _, h => ⟨h.1, fun i hi => wpOp_mono (fun a' w' h' => wpAny_of_last fuel _ a' w' h'.2) (h.2 i hi)⟩
theorem wpAnyLast_first {i : Nat} {oi : Oper} {v : Value} (hi : ops[i]? = some oi) (hsel : ∀ (j : Nat) (o : Oper) cs b, ops[j]? = some o → o.op ≠ .select cs b)
    (hQ : ∀ c a w, Q (.panic c) (a.put oi.dst v) w → Q (.panic c) a w) (n : Nat) :
    ∀ (fuel : Nat) (listed : Array Bool) (a : Act) (w : World),
      (∀ j oj, ops[j]? = some oj → j ≠ i → listed.getD j true = false → (∀ e ∈ oj.after, Region.binds md e = true → e.on ≠ i) → oi.apart ops oj = true) →
      ListedClosed md ops listed → (∀ d ∈ ds, listed.getD d true = false → Region.reachB md ops i n d = true) →
      i ∈ Region.ready md ops listed → YieldsIf P ops S oi v a → S w →
      wpAnyLast P md ops Q S ds fuel (listed.setIfInBounds i true) (a.put oi.dst v) w → wpAnyLast P md ops Q S ds (fuel + 1) listed a w := by
  intro fuel
  induction fuel with
  | zero =>
    intro listed a w _ _ _ hr hy hS H
    refine ⟨fun h => (by rw [h] at hr; cases hr), fun j hj => ?_⟩
    by_cases hji : j = i
    · subst hji; exact hy.wpOp hi hS ⟨fun _ h => h, H⟩
    · have := ready_mono hj hji
      rw [H.1] at this
      cases this
  | succ fuel ih =>
    intro listed a w hfree hc hd hr hy hS H
    refine ⟨fun h => (by rw [h] at hr; cases hr), fun j hj => ?_⟩
    by_cases hji : j = i
    · subst hji; exact hy.wpOp hi hS ⟨fun _ h => h, H⟩
    · have h1 := H.2 j (ready_mono hj hji)
      obtain ⟨hjun, oj, hoj, hall⟩ := mem_ready.1 hj
      have hiun := (mem_ready.1 hr).1
      have hnot : ∀ e ∈ oj.after, Region.binds md e = true → e.on ≠ i := fun e he hb heq => by
        have h1 := hall e he hb
        rw [heq] at h1
        rcases Nat.lt_or_ge i listed.size with h' | h'
        · simp [h'] at hiun h1; rw [hiun] at h1; cases h1
        · simp [Array.getElem?_eq_none h'] at h1
      have hjd : j ∉ ds := fun hm => Region.reach_not_ready hc (hd j hm hjun) hiun hj
      have h2 := wpOp_putIf hoj (hfree j oj hoj hji hjun hnot) (fun cs b => hsel i oi cs b hi) (fun cs b => hsel j oj cs b hoj) hQ hy h1
      have hfree' : ∀ k ok, ops[k]? = some ok → k ≠ i → (listed.setIfInBounds j true).getD k true = false →
          (∀ e ∈ ok.after, Region.binds md e = true → e.on ≠ i) → oi.apart ops ok = true := fun k ok hk hki hun hno => by
        refine hfree k ok hk hki ?_ hno
        by_cases hjk : j = k
        · subst hjk; exact hjun
        · rw [getD_set_ne true hjk] at hun; exact hun
      have hd' : ∀ d ∈ ds, (listed.setIfInBounds j true).getD d true = false → Region.reachB md ops i n d = true := fun d hm hun => by
        refine hd d hm ?_
        by_cases hjk : j = d
        · subst hjk; exact hjun
        · rw [getD_set_ne true hjk] at hun; exact hun
      refine wpOp_mono (fun a' w' h3 => ⟨h3.2.1, ih (listed.setIfInBounds j true) a' w' hfree' (hc.set hj) hd' (ready_mono hr (Ne.symm hji)) h3.1 (h3.2.1 hjd hS) ?_⟩) h2
      rw [Array.setIfInBounds_comm _ _ hji]
      exact h3.2.2
theorem wpAnyLast_any {i : Nat} {oi : Oper} {v : Value} (hi : ops[i]? = some oi) (hsel : ∀ (j : Nat) (o : Oper) cs b, ops[j]? = some o → o.op ≠ .select cs b)
    (hQ : ∀ c a w, Q (.panic c) (a.put oi.dst v) w → Q (.panic c) a w) :
    ∀ (fuel : Nat) (listed : Array Bool) (a : Act) (w : World),
      (∀ j oj, ops[j]? = some oj → j ≠ i → listed.getD j true = false → (∀ e ∈ oj.after, Region.binds md e = true → e.on ≠ i) → oi.apart ops oj = true) →
      i ∈ Region.ready md ops listed → Yields P ops oi v a →
      wpAnyLast P md ops Q S ds fuel (listed.setIfInBounds i true) (a.put oi.dst v) w → wpAnyLast P md ops Q S ds (fuel + 1) listed a w := by
  intro fuel
  induction fuel with
  | zero =>
    intro listed a w _ hr hy H
    refine ⟨fun h => (by rw [h] at hr; cases hr), fun j hj => ?_⟩
    by_cases hji : j = i
    · subst hji; exact (hy.yieldsIf (S := fun _ => True)).wpOp hi trivial ⟨fun _ h => h, H⟩
    · have := ready_mono hj hji
      rw [H.1] at this
      cases this
  | succ fuel ih =>
    intro listed a w hfree hr hy H
    refine ⟨fun h => (by rw [h] at hr; cases hr), fun j hj => ?_⟩
    by_cases hji : j = i
    · subst hji; exact (hy.yieldsIf (S := fun _ => True)).wpOp hi trivial ⟨fun _ h => h, H⟩
    · have h1 := H.2 j (ready_mono hj hji)
      obtain ⟨hjun, oj, hoj, hall⟩ := mem_ready.1 hj
      have hiun := (mem_ready.1 hr).1
      have hnot : ∀ e ∈ oj.after, Region.binds md e = true → e.on ≠ i := fun e he hb heq => by
        have h1 := hall e he hb
        rw [heq] at h1
        rcases Nat.lt_or_ge i listed.size with h' | h'
        · simp [h'] at hiun h1; rw [hiun] at h1; cases h1
        · simp [Array.getElem?_eq_none h'] at h1
      have h2 := wpOp_put hoj (hfree j oj hoj hji hjun hnot) (fun cs b => hsel i oi cs b hi) (fun cs b => hsel j oj cs b hoj) hQ hy h1
      have hfree' : ∀ k ok, ops[k]? = some ok → k ≠ i → (listed.setIfInBounds j true).getD k true = false →
          (∀ e ∈ ok.after, Region.binds md e = true → e.on ≠ i) → oi.apart ops ok = true := fun k ok hk hki hun hno => by
        refine hfree k ok hk hki ?_ hno
        by_cases hjk : j = k
        · subst hjk; exact hjun
        · rw [getD_set_ne true hjk] at hun; exact hun
      refine wpOp_mono (fun a' w' h3 => ⟨h3.2.1, ih (listed.setIfInBounds j true) a' w' hfree' (ready_mono hr (Ne.symm hji)) h3.1 ?_⟩) h2
      rw [Array.setIfInBounds_comm _ _ hji]
      exact h3.2.2
theorem wpAnyLast_take {i : Nat} {oi : Oper} {v : Value} {fuel : Nat} {listed : Array Bool} {a : Act} {w : World} (hi : ops[i]? = some oi)
    (hs : Region.noSelect ops = true) (hf : Region.free md ops listed i = true) (hr : (Region.ready md ops listed).contains i = true)
    (hc : Region.closedB md ops listed = true) (hl : Region.lastB md ops listed ds i = true)
    (hQ : ∀ c a w, Q (.panic c) (a.put oi.dst v) w → Q (.panic c) a w) (hy : YieldsIf P ops S oi v a) (hS : S w)
    (h : wpAnyLast P md ops Q S ds fuel (listed.setIfInBounds i true) (a.put oi.dst v) w) : wpAnyLast P md ops Q S ds (fuel + 1) listed a w :=
  wpAnyLast_first hi (Region.noSelect_spec hs) hQ ops.size fuel listed a w (Region.free_spec hi hf) (Region.closedB_spec hc)
    (fun d hm hun => by have := List.all_eq_true.1 hl d hm; rw [hun] at this; simpa using this) (by simpa using hr) hy hS h
theorem wpAnyLast_all {rs : List Nat} {fuel : Nat} {listed : Array Bool} {a : Act} {w : World} (hr : Region.ready md ops listed = rs) (hne : rs ≠ [])
    (h : ∀ i ∈ rs, wpOp P ops Q i (fun a' w' => (i ∉ ds → S w → S w') ∧ wpAnyLast P md ops Q S ds fuel (listed.setIfInBounds i true) a' w') a w) : wpAnyLast P md ops Q S ds (fuel + 1) listed a w :=
  ⟨fun h0 => absurd (hr ▸ h0) hne, hr ▸ h⟩
theorem wpAnyLast_done {listed : Array Bool} {a : Act} {w : World} (hr : Region.ready md ops listed = []) (h : Q .normal a w) :
    ∀ fuel, wpAnyLast P md ops Q S ds fuel listed a w
  | 0 => ⟨hr, h⟩
  | _ + 1 => ⟨fun _ => h, by rw [hr]; simp⟩
theorem wp_region_last {id : Nat} {a : Act} {w : World} (hm : P.follows .mixedOrders = true)
    (h : wpAnyLast P .any ops Q S ds ops.size (Array.replicate ops.size false) a { w with drawn := w.drawn + 1 }) : (Code.region id ops true).wp P Q a w :=
  wp_region_any hm (wpAny_of_last _ _ _ _ h)
end
section
variable {P : Program} {ops : Array Oper} {Q : Exit → Act → World → Prop} {md : Region.Mode} {S : World → Prop} {ds : List Nat}
def AllReadyL (P : Program) (md : Region.Mode) (ops : Array Oper) (Q : Exit → Act → World → Prop) (S : World → Prop) (ds : List Nat) (fuel : Nat) (listed : Array Bool) (a : Act) (w : World) (rs : List Nat) : Prop :=
  ∀ i ∈ rs, wpOp P ops Q i (fun a' w' => (i ∉ ds → S w → S w') ∧ wpAnyLast P md ops Q S ds fuel (listed.setIfInBounds i true) a' w') a w
theorem AllReadyL.nil {fuel : Nat} {listed : Array Bool} {a : Act} {w : World} : AllReadyL P md ops Q S ds fuel listed a w [] := fun _ h => by cases h
theorem AllReadyL.cons {fuel : Nat} {listed : Array Bool} {a : Act} {w : World} {i : Nat} {o : Oper} {rs : List Nat} (ho : ops[i]? = some o) (hd : i ∉ ds)
    (h : ∀ K' : Act → World → Prop, Shut (∀ a w, S w → (S w → wpAnyLast P md ops Q S ds fuel (listed.setIfInBounds i true) a w) → K' a w) → if Region.wanted o (yielded ops a.tmps) = true then Oper.wp P o a w K' Q else K' (a.put o.dst undef) w)
    (hs : AllReadyL P md ops Q S ds fuel listed a w rs) : AllReadyL P md ops Q S ds fuel listed a w (i :: rs) := fun j hj => by
  rcases List.mem_cons.1 hj with rfl | hj
  · exact wpOp_step ho (fun K' hK => h K' (fun a w hS hW => hK a w ⟨fun _ _ => hS, hW hS⟩))
  · exact hs j hj
theorem AllReadyL.cons_last {fuel : Nat} {listed : Array Bool} {a : Act} {w : World} {i : Nat} {o : Oper} {rs : List Nat} (ho : ops[i]? = some o) (hd : i ∈ ds)
    (h : ∀ K' : Act → World → Prop, Shut (∀ a w, wpAnyLast P md ops Q S ds fuel (listed.setIfInBounds i true) a w → K' a w) → if Region.wanted o (yielded ops a.tmps) = true then Oper.wp P o a w K' Q else K' (a.put o.dst undef) w)
    (hs : AllReadyL P md ops Q S ds fuel listed a w rs) : AllReadyL P md ops Q S ds fuel listed a w (i :: rs) := fun j hj => by
  rcases List.mem_cons.1 hj with rfl | hj
  · exact wpOp_step ho (fun K' hK => h K' (fun a w hW => hK a w ⟨fun hn => absurd hd hn, hW⟩))
  · exact hs j hj
theorem wpAnyLast_ready {rs : List Nat} {fuel : Nat} {listed : Array Bool} {a : Act} {w : World} (hr : Region.ready md ops listed = rs) (hne : rs ≠ [])
    (h : AllReadyL P md ops Q S ds fuel listed a w rs) : wpAnyLast P md ops Q S ds (fuel + 1) listed a w := wpAnyLast_all hr hne h
theorem start_ {id n : Nat} {a : Act} {w : World} (l : Array Bool) (hm : P.follows .mixedOrders = true) (hn : ops.size = n) (hl : Array.replicate n false = l) (hS : S w.drew)
    (h : S w.drew → wpAnyLast P .any ops Q S ds n l a w.drew) : (Code.region id ops true).wp P Q a w := by
  subst hn
  subst hl
  exact wp_region_last hm (h hS)
def takeB (md : Region.Mode) (ops : Array Oper) (ds : List Nat) (l l' : Array Bool) (i : Nat) : Bool :=
  Region.noSelect ops && Region.free md ops l i && (Region.ready md ops l).contains i && Region.closedB md ops l && Region.lastB md ops l ds i && (l.setIfInBounds i true == l')
theorem take_ {i : Nat} {N : Option Tmp} {oi : Oper} {v : Value} {fuel : Nat} {l : Array Bool} {a : Act} {w : World} (l' : Array Bool) (hi : ops[i]? = some oi) (hN : oi.dst = N) (hc : takeB md ops ds l l' i = true)
    (hQ : ∀ c a w, Q (.panic c) (a.put oi.dst v) w → Q (.panic c) a w) (hy : YieldsIf P ops S oi v a) (hS : S w) {a' : Act} (ha : a.put N v = a')
    (h : wpAnyLast P md ops Q S ds fuel l' a' w) : wpAnyLast P md ops Q S ds (fuel + 1) l a w := by
  subst ha
  subst hN
  simp only [takeB, Bool.and_eq_true, beq_iff_eq] at hc
  obtain ⟨⟨⟨⟨⟨h1, h2⟩, h3⟩, h4⟩, h5⟩, h6⟩ := hc
  subst h6
  exact wpAnyLast_take hi h1 h2 h3 h4 h5 hQ hy hS h
def anyB (md : Region.Mode) (ops : Array Oper) (l l' : Array Bool) (i : Nat) : Bool :=
  Region.noSelect ops && Region.free md ops l i && (Region.ready md ops l).contains i && (l.setIfInBounds i true == l')
theorem pure_ {i : Nat} {N : Option Tmp} {oi : Oper} {v : Value} {fuel : Nat} {l : Array Bool} {a : Act} {w : World} (l' : Array Bool) (hi : ops[i]? = some oi) (hN : oi.dst = N) (hc : anyB md ops l l' i = true)
    (hQ : ∀ c a w, Q (.panic c) (a.put oi.dst v) w → Q (.panic c) a w) (hy : Yields P ops oi v a) {a' : Act} (ha : a.put N v = a')
    (h : wpAnyLast P md ops Q S ds fuel l' a' w) : wpAnyLast P md ops Q S ds (fuel + 1) l a w := by
  subst ha
  subst hN
  simp only [anyB, Bool.and_eq_true, beq_iff_eq] at hc
  obtain ⟨⟨⟨h1, h2⟩, h3⟩, h6⟩ := hc
  subst h6
  exact wpAnyLast_any hi (Region.noSelect_spec h1) hQ fuel l a w (Region.free_spec hi h2) (by simpa using h3) hy h
def readyB (md : Region.Mode) (ops : Array Oper) (l l' : Array Bool) (i : Nat) : Bool := (Region.ready md ops l == [i]) && (l.setIfInBounds i true == l')
theorem one_ {i : Nat} {N : Option Tmp} {oi : Oper} {fuel : Nat} {l : Array Bool} {a : Act} {w : World} (l' : Array Bool) (hi : ops[i]? = some oi) (hN : oi.dst = N) (hc : readyB md ops l l' i = true) (hd : i ∉ ds)
    (h : ∀ K : Act → World → Prop, Shut (∀ a' w', S w' → (S w' → wpAnyLast P md ops Q S ds fuel l' a' w') → K a' w') → if Region.wanted oi (yielded ops a.tmps) = true then Oper.wp P oi a w K Q else K (a.put N undef) w) :
    wpAnyLast P md ops Q S ds (fuel + 1) l a w := by
  subst hN
  simp only [readyB, Bool.and_eq_true, beq_iff_eq] at hc
  obtain ⟨h1, h2⟩ := hc
  subst h2
  exact wpAnyLast_ready h1 (by simp) (AllReadyL.cons hi hd (fun K hK => h K hK) AllReadyL.nil)
theorem last_ {i : Nat} {N : Option Tmp} {oi : Oper} {fuel : Nat} {l : Array Bool} {a : Act} {w : World} (l' : Array Bool) (hi : ops[i]? = some oi) (hN : oi.dst = N) (hc : readyB md ops l l' i = true) (hd : i ∈ ds)
    (h : ∀ K : Act → World → Prop, Shut (∀ a' w', wpAnyLast P md ops Q S ds fuel l' a' w' → K a' w') → if Region.wanted oi (yielded ops a.tmps) = true then Oper.wp P oi a w K Q else K (a.put N undef) w) :
    wpAnyLast P md ops Q S ds (fuel + 1) l a w := by
  subst hN
  simp only [readyB, Bool.and_eq_true, beq_iff_eq] at hc
  obtain ⟨h1, h2⟩ := hc
  subst h2
  exact wpAnyLast_ready h1 (by simp) (AllReadyL.cons_last hi hd (fun K hK => h K hK) AllReadyL.nil)
theorem done_ {l : Array Bool} {a : Act} {w : World} {n : Nat} (hr : (Region.ready md ops l == []) = true) (h : Q .normal a w) : wpAnyLast P md ops Q S ds n l a w := wpAnyLast_done (by simpa using hr) h n
/-! ### Several operations that write or call may come up: each order is walked, what follows is shown once (join_) -/
theorem two_ {i j : Nat} {Ni Nj : Option Tmp} {oi oj : Oper} {fuel : Nat} {l : Array Bool} {a : Act} {w : World} (li lj : Array Bool) (hi : ops[i]? = some oi) (hj : ops[j]? = some oj) (hNi : oi.dst = Ni) (hNj : oj.dst = Nj)
    (hc : (Region.ready md ops l == [i, j] && l.setIfInBounds i true == li && l.setIfInBounds j true == lj) = true) (hdi : i ∉ ds) (hdj : j ∉ ds)
    (h1 : ∀ K : Act → World → Prop, Shut (∀ a' w', S w' → (S w' → wpAnyLast P md ops Q S ds fuel li a' w') → K a' w') → if Region.wanted oi (yielded ops a.tmps) = true then Oper.wp P oi a w K Q else K (a.put Ni undef) w)
    (h2 : ∀ K : Act → World → Prop, Shut (∀ a' w', S w' → (S w' → wpAnyLast P md ops Q S ds fuel lj a' w') → K a' w') → if Region.wanted oj (yielded ops a.tmps) = true then Oper.wp P oj a w K Q else K (a.put Nj undef) w) :
    wpAnyLast P md ops Q S ds (fuel + 1) l a w := by
  subst hNi
  subst hNj
  simp only [Bool.and_eq_true, beq_iff_eq] at hc
  obtain ⟨⟨h3, h4⟩, h5⟩ := hc
  subst h4
  subst h5
  exact wpAnyLast_ready h3 (by simp) (AllReadyL.cons hi hdi (fun K hK => h1 K hK) (AllReadyL.cons hj hdj (fun K hK => h2 K hK) AllReadyL.nil))
def putAll : Act → List (Tmp × Value) → Act
  | a, [] => a
  | a, (n, v) :: r => putAll (a.put (some n) v) r
theorem join_ {σ : Type} {fuel : Nat} {l : Array Bool} {a : Act} {w : World} (fuel' : Nat) (l' : Array Bool) (ns : σ → List (Tmp × Value)) (F : σ → World → Prop)
    (hcont : ∀ s w', F s w' → wpAnyLast P md ops Q S ds fuel' l' (putAll a (ns s)) w')
    (h : (∀ s w', F s w' → wpAnyLast P md ops Q S ds fuel' l' (putAll a (ns s)) w') → wpAnyLast P md ops Q S ds fuel l a w) : wpAnyLast P md ops Q S ds fuel l a w := h hcont
theorem norm_ {fuel : Nat} {l : Array Bool} {a a' : Act} {w : World} (ha : a = a') (h : wpAnyLast P md ops Q S ds fuel l a' w) : wpAnyLast P md ops Q S ds fuel l a w := by
  subst ha
  exact h
theorem call_ {oi : Oper} {N : Option Tmp} {a : Act} {w : World} {K : Act → World → Prop} (f : FuncId) (args : Array Value) (hw : Region.wanted oi (yielded ops a.tmps) = true) (hN : oi.dst = N) (hrun : (execOp a.eval oi).run P w = .ok (.enter f args) w)
    (h : Calls P f args w fun e w' => ∃ v, e = .returned v ∧ K (a.put N v) w') : if Region.wanted oi (yielded ops a.tmps) = true then Oper.wp P oi a w K Q else K (a.put N undef) w := by
  rw [if_pos hw]
  subst hN
  unfold Oper.wp
  rw [hrun, Oper.upon_enter]
  refine h.mono fun e w'' hh => ?_
  obtain ⟨v, rfl, hk⟩ := hh
  exact hk
theorem enters_ {f : FuncId} {fn : Func} (hf : P.funcs[f]? = some fn) (hname : (fn.name == "runtime.NumGoroutine") = false) (hb : fn.body.isSome = true) (args : Array Value) (w : World) : (callFunc f args).run P w = .ok (.enter f args) w := by
  have h1 : fn.name ≠ "runtime.NumGoroutine" := by simpa using hname
  obtain ⟨c, hc⟩ := Option.isSome_iff_exists.1 hb
  simp [callFunc, hf, h1, hc]
theorem goes_ {oi : Oper} {N : Option Tmp} {a : Act} {w : World} {K : Act → World → Prop} {f : FuncId} {fn : Func} {as_ : Array Operand} {ts : Array TypeId} (hf : P.funcs[f]? = some fn) (hname : (fn.name == "runtime.NumGoroutine") = false) (hb : fn.body.isSome = true) (args : Array Value)
    (hw : Region.wanted oi (yielded ops a.tmps) = true) (hN : oi.dst = N) (hop : oi.op = .call { callee := .value (.func f), args := as_, argTypes := ts }) (hargs : as_.map a.eval = args)
    (h : Calls P f args w fun e w' => ∃ v, e = .returned v ∧ K (a.put N v) w') : if Region.wanted oi (yielded ops a.tmps) = true then Oper.wp P oi a w K Q else K (a.put N undef) w := by
  refine call_ f args hw hN ?_ h
  have he := enters_ hf hname hb args w
  unfold execOp
  simp [hop, resolve, Deferred.ofValue, invoke, Act.eval, hargs, he]
theorem goesL_ {rest : List Oper} {oi : Oper} {a : Act} {w : World} (N : Option Tmp) (hd : oi.dst = N) (hg : oi.guard = none) {f : FuncId} {fn : Func} {as_ : Array Operand} {ts : Array TypeId} (hf : P.funcs[f]? = some fn) (hname : (fn.name == "runtime.NumGoroutine") = false) (hb : fn.body.isSome = true) (args : Array Value)
    (hop : oi.op = .call { callee := .value (.func f), args := as_, argTypes := ts }) (hargs : as_.map a.eval = args)
    (h : Calls P f args w fun e w' => ∃ v, e = .returned v ∧ wpList P ops Q rest (a.put N v) w') : wpList P ops Q (oi :: rest) a w := by
  refine wpList_plain hg fun K hK => ?_
  have he := enters_ hf hname hb args w
  have hrun : (execOp a.eval oi).run P w = .ok (.enter f args) w := by
    unfold execOp
    simp [hop, resolve, Deferred.ofValue, invoke, Act.eval, hargs, he]
  unfold Oper.wp
  rw [hrun, Oper.upon_enter]
  refine h.mono fun e w'' hh => ?_
  obtain ⟨v, rfl, hk⟩ := hh
  subst hd
  exact hK _ _ hk
theorem value_ {oi : Oper} {N : Option Tmp} {a : Act} {w w1 : World} {v : Value} {K : Act → World → Prop} (hw : Region.wanted oi (yielded ops a.tmps) = true) (hN : oi.dst = N) (hrun : (execOp a.eval oi).run P w = .ok (.value v) w1)
    (h : K (a.put N v) w1) : if Region.wanted oi (yielded ops a.tmps) = true then Oper.wp P oi a w K Q else K (a.put N undef) w := by
  rw [if_pos hw]
  subst hN
  unfold Oper.wp
  rw [hrun]
  exact h
theorem i64_w (n : Int) : IntKind.i64.wrap n = Go.RowKit.wrap64 n := by unfold Go.RowKit.wrap64; exact IntKind.wrap_i64 n
theorem i32_w (n : Int) : IntKind.i32.wrap n = Go.RowKit.wrap32 n := by unfold Go.RowKit.wrap32; exact IntKind.wrap_i32 n
end
end Go.Proofs.YtndicjikjcifaaaDoorW.PrintLast

/-! ### 50. A region's order in a table, made once a region: each step asks the table (numbers alone), not the operations -/
namespace Go.Proofs.YtndicjikjcifaaaDoorW.PrintLast
open Go.Proofs.YtndicjikjcifaaaDoorW.PrintWords (Aside0)
def needsOf (md : Region.Mode) (o : Oper) : List Nat := (o.after.toList.filter (fun e => Region.binds md e)).map (fun e => e.on)
def clashOf (md : Region.Mode) (ops : Array Oper) (i : Nat) (oi : Oper) : List Nat := (List.range ops.size).filter fun j => !(j == i) && match ops[j]? with
  | some oj => !(oj.after.any (fun e => Region.binds md e && e.on == i) || oi.apart ops oj)
  | none => false
def rtab (md : Region.Mode) (ops : Array Oper) : Bool × List (List Nat × List Nat) := (Region.noSelect ops, (List.range ops.size).map fun i => match ops[i]? with
  | some o => (needsOf md o, clashOf md ops i o)
  | none => ([], []))
def readyAt (T : List (List Nat × List Nat)) (l : List Bool) (i : Nat) : Bool := !l.getD i true && match T[i]? with
  | some r => r.1.all (fun j => l.getD j false)
  | none => false
def readyT (T : List (List Nat × List Nat)) (l : List Bool) : List Nat := (List.range T.length).filter (readyAt T l)
def freeT (T : List (List Nat × List Nat)) (l : List Bool) (i : Nat) : Bool := match T[i]? with
  | some r => r.2.all (fun j => l.getD j true)
  | none => false
def closedT (T : List (List Nat × List Nat)) (l : List Bool) : Bool := (List.range T.length).all fun j => !l.getD j false || match T[j]? with
  | some r => r.1.all (fun k => l.getD k false)
  | none => true
def reachT (T : List (List Nat × List Nat)) (i : Nat) : Nat → Nat → Bool
  | 0, _ => false
  | fuel + 1, d => match T[d]? with
    | some r => r.1.any fun j => j == i || reachT T i fuel j
    | none => false
def lastT (T : List (List Nat × List Nat)) (l : List Bool) (ds : List Nat) (i : Nat) : Bool := ds.all fun d => l.getD d true || reachT T i T.length d
section
variable {md : Region.Mode} {ops : Array Oper} {T : Bool × List (List Nat × List Nat)} {l l' li lj lk : Array Bool} {ds : List Nat} {i j k : Nat}
theorem gd (l : Array Bool) (j : Nat) (b : Bool) : l.getD j b = l.toList.getD j b := by simp [Array.getD_eq_getD_getElem?, List.getD_eq_getElem?_getD]
theorem needs_all (o : Oper) (p : Nat → Bool) : o.after.all (fun e => !Region.binds md e || p e.on) = (needsOf md o).all p := by
  unfold needsOf
  rw [← Array.all_toList]
  induction o.after.toList with
  | nil => rfl
  | cons e r ih =>
    rw [List.all_cons, ih, List.filter_cons]
    cases h : Region.binds md e <;> simp
theorem needs_any (o : Oper) (p : Nat → Bool) : o.after.any (fun e => Region.binds md e && p e.on) = (needsOf md o).any p := by
  unfold needsOf
  rw [← Array.any_toList]
  induction o.after.toList with
  | nil => rfl
  | cons e r ih =>
    rw [List.any_cons, ih, List.filter_cons]
    cases h : Region.binds md e <;> simp
theorem rtab_length : (rtab md ops).2.length = ops.size := by simp [rtab]
theorem rtab_some {o : Oper} (h : ops[i]? = some o) : (rtab md ops).2[i]? = some (needsOf md o, clashOf md ops i o) := by
  have hi := (Array.getElem?_eq_some_iff.1 h).1
  unfold rtab
  rw [List.getElem?_map, List.getElem?_range hi, Option.map_some, h]
theorem rtab_none (h : ops[i]? = none) : (rtab md ops).2[i]? = none := by
  have hi : ops.size ≤ i := Array.getElem?_eq_none_iff.1 h
  exact List.getElem?_eq_none (by rw [rtab_length]; exact hi)
theorem readyAt_eq : readyAt (rtab md ops).2 l.toList i = (!l.getD i true && ((ops[i]?).map (·.after.all fun e => !Region.binds md e || l.getD e.on false)).getD false) := by
  unfold readyAt
  rw [gd]
  cases h : ops[i]? with
  | none => rw [rtab_none h]; rfl
  | some o =>
    rw [rtab_some h]
    simp only [Option.map_some, Option.getD_some]
    rw [← needs_all]
    simp only [gd]
theorem ready_eq : Region.ready md ops l = readyT (rtab md ops).2 l.toList := by
  unfold Region.ready readyT
  rw [rtab_length]
  refine List.filter_congr (fun i _ => ?_)
  rw [readyAt_eq]
theorem free_eq : Region.free md ops l i = freeT (rtab md ops).2 l.toList i := by
  unfold Region.free freeT
  cases h : ops[i]? with
  | none => rw [rtab_none h]
  | some oi =>
    rw [rtab_some h]
    simp only [clashOf]
    rw [List.all_filter]
    congr 1
    funext j
    rw [gd]
    cases hj : ops[j]? with
    | none => cases (j == i) <;> cases (l.toList.getD j true) <;> simp
    | some oj =>
      cases (j == i) <;> cases (l.toList.getD j true) <;> cases (oj.after.any (fun e => Region.binds md e && e.on == i) || oi.apart ops oj) <;> simp_all
theorem closed_eq : Region.closedB md ops l = closedT (rtab md ops).2 l.toList := by
  unfold Region.closedB closedT
  rw [rtab_length]
  congr 1
  funext j
  rw [gd]
  cases h : ops[j]? with
  | none => rw [rtab_none h]
  | some o =>
    rw [rtab_some h]
    simp only
    rw [← needs_all]
    simp only [gd]
theorem reach_eq : ∀ (fuel d : Nat), Region.reachB md ops i fuel d = reachT (rtab md ops).2 i fuel d
  | 0, _ => rfl
  | fuel + 1, d => by
    unfold Region.reachB reachT
    cases h : ops[d]? with
    | none => rw [rtab_none h]
    | some o =>
      rw [rtab_some h]
      simp only
      rw [← needs_any]
      congr 1
      funext e
      rw [reach_eq fuel]
theorem last_eq : Region.lastB md ops l ds i = lastT (rtab md ops).2 l.toList ds i := by
  unfold Region.lastB lastT
  rw [rtab_length]
  congr 1
  funext d
  rw [gd, reach_eq]
theorem readyAt_mem (h : readyAt T.2 l.toList i = true) (hT : rtab md ops = T) : (Region.ready md ops l).contains i = true := by
  subst hT
  rw [ready_eq]
  unfold readyT
  rw [List.contains_iff_mem, List.mem_filter, List.mem_range]
  refine ⟨?_, h⟩
  unfold readyAt at h
  rw [Bool.and_eq_true] at h
  cases hq : (rtab md ops).2[i]? with
  | none => rw [hq] at h; simp at h
  | some r => exact (List.getElem?_eq_some_iff.1 hq).1
theorem set_of (h : (l.toList.set i true == l'.toList) = true) : (l.setIfInBounds i true == l') = true := by
  rw [beq_iff_eq] at h ⊢
  apply Array.ext'
  rw [Array.toList_setIfInBounds]
  exact h
def anyT (T : Bool × List (List Nat × List Nat)) (l l' : List Bool) (i : Nat) : Bool := T.1 && freeT T.2 l i && readyAt T.2 l i && (l.set i true == l')
theorem any_of (hT : rtab md ops = T) (h : anyT T l.toList l'.toList i = true) : anyB md ops l l' i = true := by
  simp only [anyT, Bool.and_eq_true] at h
  obtain ⟨⟨⟨h1, h2⟩, h3⟩, h4⟩ := h
  have h5 := readyAt_mem h3 hT
  have h6 := set_of h4
  subst hT
  simp only [anyB, Bool.and_eq_true]
  exact ⟨⟨⟨h1, by rw [free_eq]; exact h2⟩, h5⟩, h6⟩
def takeT (T : Bool × List (List Nat × List Nat)) (ds : List Nat) (l l' : List Bool) (i : Nat) : Bool := T.1 && freeT T.2 l i && readyAt T.2 l i && closedT T.2 l && lastT T.2 l ds i && (l.set i true == l')
theorem take_of (hT : rtab md ops = T) (h : takeT T ds l.toList l'.toList i = true) : takeB md ops ds l l' i = true := by
  simp only [takeT, Bool.and_eq_true] at h
  obtain ⟨⟨⟨⟨⟨h1, h2⟩, h3⟩, h4⟩, h5⟩, h6⟩ := h
  have h7 := readyAt_mem h3 hT
  have h8 := set_of h6
  subst hT
  simp only [takeB, Bool.and_eq_true]
  exact ⟨⟨⟨⟨⟨h1, by rw [free_eq]; exact h2⟩, h7⟩, by rw [closed_eq]; exact h4⟩, by rw [last_eq]; exact h5⟩, h8⟩
theorem one_of (hT : rtab md ops = T) (h : (readyT T.2 l.toList == [i] && l.toList.set i true == l'.toList) = true) : readyB md ops l l' i = true := by
  simp only [Bool.and_eq_true] at h
  obtain ⟨h1, h2⟩ := h
  subst hT
  simp only [readyB, Bool.and_eq_true]
  exact ⟨by rw [ready_eq]; exact h1, set_of h2⟩
theorem two_of (hT : rtab md ops = T) (h : (readyT T.2 l.toList == [i, j] && l.toList.set i true == li.toList && l.toList.set j true == lj.toList) = true) : (Region.ready md ops l == [i, j] && l.setIfInBounds i true == li && l.setIfInBounds j true == lj) = true := by
  simp only [Bool.and_eq_true] at h ⊢
  obtain ⟨⟨h1, h2⟩, h3⟩ := h
  subst hT
  exact ⟨⟨by rw [ready_eq]; exact h1, set_of h2⟩, set_of h3⟩
theorem done_of (hT : rtab md ops = T) (h : (readyT T.2 l.toList == []) = true) : (Region.ready md ops l == []) = true := by
  subst hT
  rw [ready_eq]
  exact h
def upM (B : List Nat) (d : Nat) : List Nat → Nat
  | [] => 0
  | n :: r => (2 ^ n ||| (if n < d then B.getD n 0 else 0)) ||| upM B d r
def waitsOk (T : List (List Nat × List Nat)) (B : List Nat) : Bool := (List.range T.length).all fun d => match T[d]? with
  | some r => (B.getD d 0 ||| upM B d r.1) == upM B d r.1
  | none => false
theorem upM_bit {B : List Nat} {d i : Nat} : ∀ {ns : List Nat}, (upM B d ns).testBit i = true → ∃ n ∈ ns, n = i ∨ (n < d ∧ (B.getD n 0).testBit i = true)
  | [], h => by simp [upM] at h
  | n :: r, h => by
    unfold upM at h
    rw [Nat.testBit_or, Nat.testBit_or, Bool.or_eq_true, Bool.or_eq_true] at h
    rcases h with (h | h) | h
    · rw [Nat.testBit_two_pow] at h
      exact ⟨n, List.mem_cons_self, .inl (by simpa using h)⟩
    · by_cases hn : n < d
      · rw [if_pos hn] at h
        exact ⟨n, List.mem_cons_self, .inr ⟨hn, h⟩⟩
      · rw [if_neg hn] at h
        simp at h
    · obtain ⟨m, hm, h2⟩ := upM_bit h
      exact ⟨m, List.mem_cons_of_mem _ hm, h2⟩
theorem reach_bit {T : List (List Nat × List Nat)} {B : List Nat} (hB : waitsOk T B = true) : ∀ (fuel d : Nat), d < fuel → d < T.length → (B.getD d 0).testBit i = true → reachT T i fuel d = true
  | 0, d, h, _, _ => by omega
  | fuel + 1, d, h, hd, hb => by
    have h1 := List.all_eq_true.1 hB d (List.mem_range.2 hd)
    cases hr : T[d]? with
    | none => rw [hr] at h1; simp at h1
    | some r =>
      rw [hr] at h1
      simp only [beq_iff_eq] at h1
      have h2 : (upM B d r.1).testBit i = true := by rw [← h1, Nat.testBit_or, hb, Bool.true_or]
      obtain ⟨n, hn, h3⟩ := upM_bit h2
      unfold reachT
      rw [hr]
      simp only
      rw [List.any_eq_true]
      refine ⟨n, hn, ?_⟩
      rcases h3 with rfl | ⟨h4, h5⟩
      · simp
      · rw [reach_bit hB fuel n (by omega) (by omega) h5, Bool.or_true]
def lastW (T : List (List Nat × List Nat)) (B : List Nat) (l : List Bool) (ds : List Nat) (i : Nat) : Bool := ds.all fun d => l.getD d true || (decide (d < T.length) && (B.getD d 0).testBit i)
def takeW (T : Bool × List (List Nat × List Nat)) (B : List Nat) (ds : List Nat) (l l' : List Bool) (i : Nat) : Bool := T.1 && freeT T.2 l i && readyAt T.2 l i && closedT T.2 l && lastW T.2 B l ds i && (l.set i true == l')
theorem take_ofW {B : List Nat} (hT : rtab md ops = T) (hB : waitsOk T.2 B = true) (h : takeW T B ds l.toList l'.toList i = true) : takeB md ops ds l l' i = true := by
  refine take_of hT ?_
  simp only [takeW, takeT, Bool.and_eq_true] at h ⊢
  obtain ⟨⟨⟨⟨⟨h1, h2⟩, h3⟩, h4⟩, h5⟩, h6⟩ := h
  refine ⟨⟨⟨⟨⟨h1, h2⟩, h3⟩, h4⟩, ?_⟩, h6⟩
  unfold lastW at h5
  unfold lastT
  rw [List.all_eq_true] at h5 ⊢
  intro d hd
  have h7 := h5 d hd
  rw [Bool.or_eq_true, Bool.and_eq_true, decide_eq_true_eq] at h7
  rcases h7 with h7 | ⟨h8, h9⟩
  · rw [h7, Bool.true_or]
  · rw [reach_bit hB _ d h8 h8 h9, Bool.or_true]
theorem with_tabW {P : Program} {Q : Exit → Act → World → Prop} {S : World → Prop} {n : Nat} {a : Act} {w : World} {B : List Nat} (hT : rtab md ops = T) (hB : waitsOk T.2 B = true) (h : Aside0 (rtab md ops = T) → Aside0 (waitsOk T.2 B = true) → wpAnyLast P md ops Q S ds n l a w) : wpAnyLast P md ops Q S ds n l a w := h ⟨hT⟩ ⟨hB⟩
end
def opsIn : Code → Nat → Option (Array Oper)
  | .region id ops _, k => if id == k then some ops else none
  | .seq a b, k => match opsIn a k with
    | some o => some o
    | none => opsIn b k
  | .cond _ a b, k => match opsIn a k with
    | some o => some o
    | none => opsIn b k
  | .block _ c, k => opsIn c k
  | .loop c, k => opsIn c k
  | .scope c, k => opsIn c k
  | .rangeFunc _ _ a b, k => match opsIn a k with
    | some o => some o
    | none => opsIn b k
  | _, _ => none
def opsOf (f : Func) (k : Nat) : Array Oper := ((f.body.bind fun c => opsIn c k)).getD #[]
end Go.Proofs.YtndicjikjcifaaaDoorW.PrintLast

/-! ### 56. Four, five, six operations that may come up next, in any order -/
namespace Go.Proofs.YtndicjikjcifaaaDoorW.PrintLast
section
variable {P : Program} {ops : Array Oper} {Q : Exit → Act → World → Prop} {md : Region.Mode} {S : World → Prop} {ds : List Nat} {T : Bool × List (List Nat × List Nat)}
end
end Go.Proofs.YtndicjikjcifaaaDoorW.PrintLast

/-! ### 39. Stores into a row that may begin inside its block (Q): Q_form, Q_elem, Q_seg; scalars: Q_cell, Q_putg -/
namespace Go.Proofs.YtndicjikjcifaaaDoorW.PrintWords
open Go.RowKit
namespace Kd
section
variable {α : Type} {d : Kd α} {e base g o n cap : Nat} {ok okp : Nat → Prop} {w W : World} {v : Value} {xs : List α}
end
section
variable {α : Type} {enc : α → Value} {h1 : ∀ x, (enc x).oneCell' = true} {e base g o n cap : Nat} {ok : Nat → Prop} {W : World} {xs : List α}
end
end Kd
end Go.Proofs.YtndicjikjcifaaaDoorW.PrintWords

/-! ### 40. Elements whose inner rows lie apart: what is stored into one says nothing of the others.
   S: as R, with an owner function f (block to element's index). H: as S with a hole: of element i its cells alone are told, its blocks are oki. -/
namespace Go.Proofs.YtndicjikjcifaaaDoorW.PrintWords
open Go.RowKit
namespace Kd
def tag {α : Type} (f : Nat → Nat) (d : Kd α) : Kd (α × Nat) where
  sz := d.sz
  E := d.E
  K := fun w x cs => d.K w x.1 cs
  M := fun w base ok x cs => d.M w base (fun k => ok k ∧ f k = x.2) x.1 cs
  K_len := fun h => d.K_len h
  K_one := fun h => d.K_one h
  K_below := fun hb h => d.K_below hb h
  K_of_M := fun h => d.K_of_M h
  M_mono := fun hok h => d.M_mono (fun k hk => ⟨hok k hk.1, hk.2⟩) h
  M_bound := fun h => d.M_mono (fun _ hk => ⟨⟨hk.1.1, hk.2⟩, hk.1.2⟩) (d.M_bound h)
  M_move := fun hm h => d.M_move (fun k hk => hm k hk.1) h
  M_lower := fun hb h => d.M_lower hb h
def raw (sz : Nat) : Kd (List Value) where
  sz := sz
  E := []
  K := fun _ x cs => cs = x ∧ cs.length = sz ∧ ∀ u ∈ cs, u.oneCell' = true
  M := fun _ _ _ x cs => cs = x ∧ cs.length = sz ∧ ∀ u ∈ cs, u.oneCell' = true
  K_len := fun h => h.2.1
  K_one := fun h => h.2.2
  K_below := fun _ h => h
  K_of_M := fun h => h
  M_mono := fun _ h => h
  M_bound := fun h => h
  M_move := fun _ h => h
  M_lower := fun _ h => h
def S {α : Type} (d : Kd α) (e : Nat) (w : World) (base : Nat) (ok : Nat → Prop) (v : Value) (xs : List α) : Prop := ∃ f, (tag f d).R e w base ok v xs.zipIdx
section
variable {α β : Type} {d : Kd α} {d' : Kd β} {e e' : Nat} {w w1 W : World} {base b : Nat} {ok ok' okv oku : Nat → Prop} {u v : Value} {xs : List α} {ys : List β}
end
section
variable {α β : Type} {d : Kd α} {d' : Kd β} {e e' g : Nat} {w w1 W : World} {base b : Nat} {ok ok' okv oku : Nat → Prop} {u v : Value} {xs : List α} {ys : List β}
end
/-! #### append, make, literals: the new element's blocks are none of the elder ones' -/
section
variable {P : Program} {ops : Array Oper} {rest : List Oper} {o : Oper} {a : Act} {Q : Exit → Act → World → Prop} {Kc : Act → World → Prop} {α : Type}
end
/-! #### a row with a hole: element i is lent, its blocks are oki; of it the row says its cells alone -/
def gap {α : Type} (f : Nat → Nat) (d : Kd α) (i : Nat) (c : List Value) : Kd (α × Nat) where
  sz := d.sz
  E := d.E
  K := fun w x cs => (x.2 = i → cs = c ∧ cs.length = d.sz ∧ ∀ u ∈ cs, u.oneCell' = true) ∧ (x.2 ≠ i → d.K w x.1 cs)
  M := fun w base ok x cs => (x.2 = i → cs = c ∧ cs.length = d.sz ∧ ∀ u ∈ cs, u.oneCell' = true) ∧ (x.2 ≠ i → d.M w base (fun k => ok k ∧ f k = x.2) x.1 cs)
  K_len := fun {w x cs} h => by
    by_cases hx : x.2 = i
    · exact (h.1 hx).2.1
    · exact d.K_len (h.2 hx)
  K_one := fun {w x cs} h => by
    by_cases hx : x.2 = i
    · exact (h.1 hx).2.2
    · exact d.K_one (h.2 hx)
  K_below := fun hb h => ⟨h.1, fun hx => d.K_below hb (h.2 hx)⟩
  K_of_M := fun h => ⟨h.1, fun hx => d.K_of_M (h.2 hx)⟩
  M_mono := fun hok h => ⟨h.1, fun hx => d.M_mono (fun k hk => ⟨hok k hk.1, hk.2⟩) (h.2 hx)⟩
  M_bound := fun h => ⟨h.1, fun hx => d.M_mono (fun _ hk => ⟨⟨hk.1.1, hk.2⟩, hk.1.2⟩) (d.M_bound (h.2 hx))⟩
  M_move := fun hm h => ⟨h.1, fun hx => d.M_move (fun k hk => hm k hk.1) (h.2 hx)⟩
  M_lower := fun hb h => ⟨h.1, fun hx => d.M_lower hb (h.2 hx)⟩
def H {α : Type} (d : Kd α) (e : Nat) (w : World) (base : Nat) (ok : Nat → Prop) (v : Value) (xs : List α) (i : Int) (oki : Nat → Prop) (c : List Value) : Prop :=
  (∀ k, oki k → ok k) ∧ ∃ f, (gap f d i.toNat c).R e w base (fun k => ok k ∧ ¬ oki k) v xs.zipIdx
section
variable {α β : Type} {d : Kd α} {e e' g n cap : Nat} {w w1 W : World} {base : Nat} {ok ok' oki okp : Nat → Prop} {u v : Value} {xs : List α} {i : Int} {c : List Value}
end
section
variable {P : Program} {ops : Array Oper} {rest : List Oper} {o : Oper} {a : Act} {Q : Exit → Act → World → Prop} {α : Type}
end
end Kd
end Go.Proofs.YtndicjikjcifaaaDoorW.PrintWords

/-! ### 41. Arrays '[n]T' as_ values: a kind (a field, an element of a row), an element read, an element set -/
namespace Go.Proofs.YtndicjikjcifaaaDoorW.PrintWords
open Go.RowKit
namespace Kd
section
variable {α : Type} {n : Nat} {d : Kd α} {hs : 0 < d.sz} {w : World} {base : Nat} {ok : Nat → Prop} {xs : List α} {cs : List Value}
end
section
variable {α : Type} {n : Nat} {enc : α → Value} {h1 : ∀ x, (enc x).oneCell' = true} {hs : 0 < (scalar enc h1).sz} {w : World} {base : Nat} {ok : Nat → Prop} {xs : List α} {cs : List Value}
end
end Kd
end Go.Proofs.YtndicjikjcifaaaDoorW.PrintWords

/-! ### 42. append(v, make([]T, n)...): the operation comes as_ append with the number in the second place -/
namespace Go.Proofs.YtndicjikjcifaaaDoorW.PrintWords
open Go.RowKit
section
variable {P : Program}
end
namespace Kd
section
variable {P : Program} {ops : Array Oper} {rest : List Oper} {o : Oper} {a : Act} {Q : Exit → Act → World → Prop} {Kc : Act → World → Prop} {α : Type}
end
/-! #### the same for rows whose elements lie apart -/
section
variable {α : Type} {d : Kd α} {e : Nat} {w : World} {base : Nat} {ok : Nat → Prop} {v : Value} {xs : List α}
end
section
variable {P : Program} {ops : Array Oper} {rest : List Oper} {o : Oper} {a : Act} {Q : Exit → Act → World → Prop} {Kc : Act → World → Prop} {α : Type}
end
end Kd
end Go.Proofs.YtndicjikjcifaaaDoorW.PrintWords

/-! ### 43. What is read beside a state: it stays read whatever the state's calls turn ('∀ W', KeepBut w W' g none → d.C W' A n xs') -/
namespace Go.Proofs.YtndicjikjcifaaaDoorW.PrintWords
open Go.RowKit
namespace Kd
structure Heap {α : Type} (d : Kd α) : Prop where
  K : ∀ {w w1 : World} {x : α} {cs : List Value}, (∀ k, k < w.heap.size → w1.heap[k]? = w.heap[k]?) → d.K w x cs → d.K w1 x cs
theorem cell_heap {w w1 : World} (hb : ∀ k, k < w.heap.size → w1.heap[k]? = w.heap[k]?) {a : Addr} {v : Value} (h : w.cell? a = some v) : w1.cell? a = some v := by
  have := hb a.block (World.block_lt_of_cell? w a h)
  simpa [World.cell?, this] using h
theorem Heap.C {α : Type} {d : Kd α} (hd : Heap d) {w w1 : World} {A : Option Addr} {n : Nat} {xs : List α} (hb : ∀ k, k < w.heap.size → w1.heap[k]? = w.heap[k]?) (h : d.C w A n xs) : d.C w1 A n xs :=
  ⟨h.1, h.2.1, fun hn => by
    obtain ⟨ad, e, hc⟩ := h.2.2 hn
    refine ⟨ad, e, fun j p hj => ?_⟩
    obtain ⟨c, hs, hr, hcell⟩ := hc j p hj
    exact ⟨c, hs, hd.K hb hr, fun i u hu => cell_heap hb (hcell i u hu)⟩⟩
theorem heap_int (k : IntKind) : Heap (Kd.int k) := ⟨fun _ h => h⟩
theorem heap_string : Heap Kd.string := ⟨fun _ h => h⟩
theorem heap_slice {α : Type} {d : Kd α} (e : Nat) (hd : Heap d) : Heap (slice e d) := ⟨by
  rintro w w1 x cs hb ⟨A, c, rfl, hl, hr⟩
  exact ⟨A, c, rfl, hl, hd.C hb hr⟩⟩
theorem heap_pair {α β : Type} {a : Kd α} {b : Kd β} (ha : Heap a) (hb' : Heap b) : Heap (pair a b) := ⟨by
  rintro w w1 x cs hb ⟨c0, c1, rfl, h0, h1⟩
  exact ⟨c0, c1, rfl, ha.K hb h0, hb'.K hb h1⟩⟩
theorem heap_iso {α β : Type} {d : Kd α} (f : β → α) (hd : Heap d) : Heap (iso d f) := ⟨fun hb h => hd.K hb h⟩
section
variable {α : Type} {d : Kd α} {e base g n c : Nat} {ok : Nat → Prop} {w w0 W : World} {A : Option Addr} {xs : List α}
end
end Kd
end Go.Proofs.YtndicjikjcifaaaDoorW.PrintWords

/-! ### 45. What a call keeps: all but the blocks of S (the rows that it was given to write) and what is new since -/
namespace Go.Proofs.YtndicjikjcifaaaDoorW.PrintWords
open Go.RowKit
def Kept (w W : World) (S : Nat → Prop) : Prop := w.heap.size ≤ W.heap.size ∧ ∀ i, i < w.heap.size → ¬ S i → W.heap[i]? = w.heap[i]?
section
variable {w W W2 : World} {S S2 S' : Nat → Prop}
theorem Kept.refl (w : World) (S : Nat → Prop) : Kept w w S := ⟨Nat.le_refl _, fun _ _ _ => rfl⟩
theorem Kept.of_below (h : Below w.heap.size w W) (S : Nat → Prop) : Kept w W S := ⟨h.size, fun i hi _ => h.block i hi⟩
theorem Kept.mono (h : Kept w W S) (hs : ∀ k, S k → S' k) : Kept w W S' := ⟨h.1, fun i hi hn => h.2 i hi (fun hk => hn (hs i hk))⟩
theorem Kept.then_ (h : Kept w W S) (k : Kept W W2 S2) (hs : ∀ k, S2 k → S k ∨ w.heap.size ≤ k) : Kept w W2 S :=
  ⟨Nat.le_trans h.1 k.1, fun i hi hn => (k.2 i (Nat.lt_of_lt_of_le hi h.1) (fun h2 => (hs i h2).elim hn (fun h3 => by omega))).trans (h.2 i hi hn)⟩
theorem Kept.below (h : Kept w W S) (hb : Below W.heap.size W W2) : Kept w W2 S := h.then_ (Kept.of_below hb (fun _ => False)) (fun _ hk => hk.elim)
theorem Kept.alloc (h : Kept w W S) (o : Obj) : Kept w (W.alloc o) S := h.below (below_alloc (Below.refl _ _) o)
theorem Kept.drew (h : Kept w W S) : Kept w W.drew S := h
theorem Kept.drewN (h : Kept w W S) (m : Nat) : Kept w (W.drewN m) S := h
theorem Kept.setCell (h : Kept w W S) {p : Addr} (hp : S p.block ∨ w.heap.size ≤ p.block) (u : Value) : Kept w (W.setCell p u) S :=
  h.then_ (S2 := fun k => k = p.block) ⟨by simp [World.setCell], fun i _ hn => Below.heap_setCell W p u i hn⟩ (fun k hk => by rw [hk]; exact hp)
end
namespace Kd
section
variable {α : Type} {d : Kd α} {e base n c : Nat} {ok oki S S2 : Nat → Prop} {w w0 W W1 W2 : World} {v : Value} {A : Option Addr} {xs : List α} {i : Int} {cs : List Value}
end
end Kd
end Go.Proofs.YtndicjikjcifaaaDoorW.PrintWords

/-! ### 46. Values that share: what is only read, with the blocks it lies in (its footprint 'ok'): Foot, F (a row that is read), FK (an element's cells) -/
namespace Go.Proofs.YtndicjikjcifaaaDoorW.PrintWords
open Go.RowKit
def Foot (P : World → Prop) (W : World) (ok : Nat → Prop) : Prop := ∀ W' : World, (∀ k, ok k → k < W.heap.size → W'.heap[k]? = W.heap[k]?) → P W'
theorem heap_lt {W W1 : World} {k : Nat} (h : W1.heap[k]? = W.heap[k]?) (hlt : k < W.heap.size) : k < W1.heap.size := by
  rw [Array.getElem?_eq_getElem hlt] at h
  exact (Array.getElem?_eq_some_iff.1 h).1
namespace Foot
variable {P Q : World → Prop} {W W1 : World} {ok ok' : Nat → Prop}
theorem now (h : Foot P W ok) : P W := h W (fun _ _ _ => rfl)
theorem mono (h : Foot P W ok) (hok : ∀ k, ok k → ok' k) : Foot P W ok' := fun W' hW => h W' (fun k hk hlt => hW k (hok k hk) hlt)
theorem bound (h : Foot P W ok) : Foot P W (fun k => ok k ∧ k < W.heap.size) := fun W' hW => h W' (fun k hk hlt => hW k ⟨hk, hlt⟩ hlt)
theorem step (h : Foot P W ok) (hm : ∀ k, ok k → k < W.heap.size → W1.heap[k]? = W.heap[k]?) : Foot P W1 ok := fun W' hW => h W' (fun k hk hlt => (hW k hk (heap_lt (hm k hk hlt) hlt)).trans (hm k hk hlt))
theorem imp (h : Foot P W ok) (hi : ∀ W', P W' → Q W') : Foot Q W ok := fun W' hW => hi W' (h W' hW)
theorem old (h : Foot P W ok) (hb : Below W.heap.size W W1) : Foot P W1 (fun k => ok k ∧ k < W.heap.size) := (h.bound).step (fun k _ hlt => hb.block k hlt)
end Foot
namespace Kd
def F {α : Type} (d : Kd α) (W : World) (ok : Nat → Prop) (A : Option Addr) (n : Nat) (xs : List α) : Prop := Foot (fun W => d.C W A n xs) W ok
def FK {α : Type} (d : Kd α) (W : World) (ok : Nat → Prop) (x : α) (c : List Value) : Prop := Foot (fun W => d.K W x c) W ok
section
variable {α β : Type} {d : Kd α} {e base n n' cc g N : Nat} {ok ok' okp S : Nat → Prop} {w w0 w1 W W1 : World} {A A' : Option Addr} {u v v1 : Value} {xs : List α} {xs' : List β} {d' : Kd β} {x : α} {c : List Value}
theorem F_now (h : F d W ok A n xs) : d.C W A n xs := Foot.now h
theorem R_F (h : d.R e W base ok (.slice A n cc) xs) : F d W ok A n xs := fun W' hW => by
  have h2 := R_reads' (R_step h hW)
  rw [h2.1]
  exact h2.2.2
theorem FK_now (h : FK d W ok x c) : d.K W x c := Foot.now h
theorem FK_mono (h : FK d W ok x c) (hok : ∀ k, ok k → ok' k) : FK d W ok' x c := Foot.mono h hok
theorem FK_bound (h : FK d W ok x c) : FK d W (fun k => ok k ∧ k < W.heap.size) x c := Foot.bound h
theorem FK_step (h : FK d W ok x c) (hm : ∀ k, ok k → k < W.heap.size → W1.heap[k]? = W.heap[k]?) : FK d W1 ok x c := Foot.step h hm
theorem emptied (W : World) (g : Nat) : ∃ W' : World, (∀ k, k ≠ g → W'.heap[k]? = W.heap[k]?) ∧ ∀ a : Addr, a.block = g → W'.cell? a = none := by
  refine ⟨{ W with heap := W.heap.setIfInBounds g (.cells #[] 0) }, fun k hk => by simp [Ne.symm hk], fun a ha => ?_⟩
  subst ha
  by_cases hlt : a.block < W.heap.size
  · simp [World.cell?, hlt]
  · simp [World.cell?, hlt]
end
end Kd
end Go.Proofs.YtndicjikjcifaaaDoorW.PrintWords

/-! ### 47. N: a row of the call's own whose elements share (what they lead to is only read) -/
namespace Go.Proofs.YtndicjikjcifaaaDoorW.PrintWords
open Go.RowKit
namespace Kd
section
variable {α : Type} {d : Kd α} {e base n cc g : Nat} {ok ok' okp S : Nat → Prop} {w w1 W W1 : World} {A : Option Addr} {u v v1 : Value} {xs : List α} {x : α} {c : List Value}
theorem F_get (h : F d W ok A n xs) (z : α) (i : Int) (h0 : 0 ≤ i) (h1 : i < n) :
    ∃ ad c, A = some ad ∧ c.length = d.sz ∧ FK d W ok (xs.getD i.toNat z) c ∧ (∀ j u, c[j]? = some u → W.cell? (ad.add (i.toNat * d.sz + j)) = some u) ∧ (0 < d.sz → ok ad.block) := by
  obtain ⟨ad, c, rfl, hcl, hK, hcc⟩ := C_get (F_now h) z i h0 h1
  have hin : 0 < d.sz → ok ad.block := by
    intro hs
    by_cases hk : ok ad.block
    · exact hk
    · obtain ⟨W', h2, h3⟩ := emptied W ad.block
      obtain ⟨ad', c', he, hcl', _, hcc'⟩ := C_get (h W' (fun k hk' _ => h2 k (fun e => hk (e ▸ hk')))) z i h0 h1
      injection he with he
      subst he
      have h4 := hcc' 0 _ (List.getElem?_eq_getElem (by omega))
      rw [h3 _ (add_block _ _)] at h4
      cases h4
  refine ⟨ad, c, rfl, hcl, fun W' hW => ?_, hcc, hin⟩
  obtain ⟨ad', c', he, hcl', hK', hcc'⟩ := C_get (h W' hW) z i h0 h1
  injection he with he
  subst he
  have hc : c = c' := by
    apply List.ext_getElem?
    intro j
    by_cases hj : j < d.sz
    · have hb : W'.heap[ad.block]? = W.heap[ad.block]? := by
        have h5 := hcc j _ (List.getElem?_eq_getElem (by omega))
        have h6 := World.block_lt_of_cell? W _ h5
        rw [add_block] at h6
        exact hW _ (hin (by omega)) h6
      have h5 := hcc j _ (List.getElem?_eq_getElem (by omega))
      have h6 := hcc' j _ (List.getElem?_eq_getElem (by omega))
      have h7 : W'.cell? (ad.add (i.toNat * d.sz + j)) = W.cell? (ad.add (i.toNat * d.sz + j)) := by simp [World.cell?, add_block, hb]
      rw [h7, h5] at h6
      rw [List.getElem?_eq_getElem (by omega), List.getElem?_eq_getElem (by omega)]
      exact h6
    · rw [List.getElem?_eq_none (by omega), List.getElem?_eq_none (by omega)]
  rw [hc]
  exact hK'
def N {α : Type} (d : Kd α) (e : Nat) (w : World) (base : Nat) (ok : Nat → Prop) (v : Value) (xs : List α) : Prop :=
  (∀ k, v.ownBlock = some k → ok k) ∧ ∃ rows : List (List Value), rows.length = xs.length ∧ (raw d.sz).R e w base (fun k => some k = v.ownBlock) v rows ∧ ∀ (j : Nat) (x : α) (c : List Value), xs[j]? = some x → rows[j]? = some c → FK d w (fun k => ok k ∧ some k ≠ v.ownBlock) x c
end
end Kd
end Go.Proofs.YtndicjikjcifaaaDoorW.PrintWords

/-! ### 52. A row that stays read whatever happens to a block (a set of blocks) doesn't lie there -/
namespace Go.Proofs.YtndicjikjcifaaaDoorW.PrintWords
open Go.RowKit
namespace Kd
section
variable {α : Type} {d : Kd α} {W : World} {g n : Nat} {S ok : Nat → Prop} {A : Option Addr} {ad : Addr} {xs : List α}
end
end Kd
end Go.Proofs.YtndicjikjcifaaaDoorW.PrintWords

/-! ### 54. Behind orders that were drawn quietly: the same facts at the world's new name; a flat row's foot -/
namespace Go.Proofs.YtndicjikjcifaaaDoorW.PrintWords
open Go.RowKit
section
variable {w w' u : World} {m B g : Nat} {o : Obj} {row : Option Nat} {S : Nat → Prop} {a : Addr} {v : Value}
end
namespace Kd
section
variable {α : Type} {d : Kd α} {e base n m : Nat} {ok : Nat → Prop} {w w' : World} {v : Value} {A : Option Addr} {xs : List α}
end
end Kd
end Go.Proofs.YtndicjikjcifaaaDoorW.PrintWords

/-! ### 53. '==' of structs as_ one Bool -/
namespace Go.Proofs.YtndicjikjcifaaaDoorW.PrintWords
open Go.RowKit
section
variable {P : Program} {d : Nat} {xs ys : Array Value} {f : Field} {fs : List Field} {a b : Value} {r s : Bool} {w : World}
end
end Go.Proofs.YtndicjikjcifaaaDoorW.PrintWords

/-! ### 55. Reps told from the front, no append: for rows of one-cell elements and of wider ones -/
namespace Go.Proofs.YtndicjikjcifaaaDoorW.PrintWords
theorem Reps.one {α : Type} {R : α → List Value → Prop} {ps : List α} {cs : List Value} {p : α} {v : Value} (hp : R p [v]) (h : Reps R 1 ps cs) : Reps R 1 (p :: ps) (v :: cs) := by
  refine ⟨by simp [h.1], fun j q hq => ?_⟩
  cases j with
  | zero =>
    simp only [List.getElem?_cons_zero, Option.some.injEq] at hq
    subst hq
    simpa using hp
  | succ j =>
    simp only [List.getElem?_cons_succ] at hq
    have h1 := h.2 j q hq
    simpa [Nat.mul_one] using h1
theorem Reps.front {α : Type} {R : α → List Value → Prop} {size : Nat} {ps : List α} {cs c all : List Value} {p : α} (hp : R p c) (hc : c.length = size) (h : Reps R size ps cs) (ha : c ++ cs = all) : Reps R size (p :: ps) all := by
  subst ha
  refine ⟨by rw [List.length_append, hc, h.1, List.length_cons, Nat.succ_mul, Nat.add_comm], fun j q hq => ?_⟩
  cases j with
  | zero =>
    simp only [List.getElem?_cons_zero, Option.some.injEq] at hq
    subst hq
    rw [Nat.zero_mul, List.drop_zero, List.take_append_of_le_length (by omega), List.take_of_length_le (by omega)]
    exact hp
  | succ j =>
    simp only [List.getElem?_cons_succ] at hq
    have h1 := h.2 j q hq
    rw [Nat.succ_mul, List.drop_append, List.drop_of_length_le (by rw [hc]; exact Nat.le_add_left _ _), List.nil_append, hc, Nat.add_sub_cancel]
    exact h1
theorem Reps.c2 {α : Type} {R : α → List Value → Prop} {ps : List α} {cs : List Value} {p : α} {va vb : Value} (hp : R p [va, vb]) (h : Reps R 2 ps cs) : Reps R 2 (p :: ps) (va :: vb :: cs) := Reps.front hp rfl h rfl
theorem Reps.c3 {α : Type} {R : α → List Value → Prop} {ps : List α} {cs : List Value} {p : α} {va vb vc : Value} (hp : R p [va, vb, vc]) (h : Reps R 3 ps cs) : Reps R 3 (p :: ps) (va :: vb :: vc :: cs) := Reps.front hp rfl h rfl
theorem Reps.c4 {α : Type} {R : α → List Value → Prop} {ps : List α} {cs : List Value} {p : α} {va vb vc vd : Value} (hp : R p [va, vb, vc, vd]) (h : Reps R 4 ps cs) : Reps R 4 (p :: ps) (va :: vb :: vc :: vd :: cs) := Reps.front hp rfl h rfl
theorem Reps.c5 {α : Type} {R : α → List Value → Prop} {ps : List α} {cs : List Value} {p : α} {va vb vc vd ve : Value} (hp : R p [va, vb, vc, vd, ve]) (h : Reps R 5 ps cs) : Reps R 5 (p :: ps) (va :: vb :: vc :: vd :: ve :: cs) := Reps.front hp rfl h rfl
theorem Reps.c6 {α : Type} {R : α → List Value → Prop} {ps : List α} {cs : List Value} {p : α} {va vb vc vd ve vf : Value} (hp : R p [va, vb, vc, vd, ve, vf]) (h : Reps R 6 ps cs) : Reps R 6 (p :: ps) (va :: vb :: vc :: vd :: ve :: vf :: cs) := Reps.front hp rfl h rfl
theorem Reps.c7 {α : Type} {R : α → List Value → Prop} {ps : List α} {cs : List Value} {p : α} {va vb vc vd ve vf vg : Value} (hp : R p [va, vb, vc, vd, ve, vf, vg]) (h : Reps R 7 ps cs) : Reps R 7 (p :: ps) (va :: vb :: vc :: vd :: ve :: vf :: vg :: cs) := Reps.front hp rfl h rfl
theorem Reps.c8 {α : Type} {R : α → List Value → Prop} {ps : List α} {cs : List Value} {p : α} {va vb vc vd ve vf vg vh : Value} (hp : R p [va, vb, vc, vd, ve, vf, vg, vh]) (h : Reps R 8 ps cs) : Reps R 8 (p :: ps) (va :: vb :: vc :: vd :: ve :: vf :: vg :: vh :: cs) := Reps.front hp rfl h rfl
theorem Reps.c9 {α : Type} {R : α → List Value → Prop} {ps : List α} {cs : List Value} {p : α} {va vb vc vd ve vf vg vh vi : Value} (hp : R p [va, vb, vc, vd, ve, vf, vg, vh, vi]) (h : Reps R 9 ps cs) : Reps R 9 (p :: ps) (va :: vb :: vc :: vd :: ve :: vf :: vg :: vh :: vi :: cs) := Reps.front hp rfl h rfl
theorem Reps.c10 {α : Type} {R : α → List Value → Prop} {ps : List α} {cs : List Value} {p : α} {va vb vc vd ve vf vg vh vi vj : Value} (hp : R p [va, vb, vc, vd, ve, vf, vg, vh, vi, vj]) (h : Reps R 10 ps cs) : Reps R 10 (p :: ps) (va :: vb :: vc :: vd :: ve :: vf :: vg :: vh :: vi :: vj :: cs) := Reps.front hp rfl h rfl
end Go.Proofs.YtndicjikjcifaaaDoorW.PrintWords

/-! ### 57. A region of open order by ONE relation over what is listed so far: each operation is shown once, whatever came up before it -/
namespace Go.Proofs.YtndicjikjcifaaaDoorW.PrintLast
def up (b : Nat → Bool) (i : Nat) : Nat → Bool := fun j => if j = i then true else b j
section
variable {P : Program} {ops : Array Oper} {Q : Exit → Act → World → Prop} {md : Region.Mode} {T : Bool × List (List Nat × List Nat)} {B : List Nat} {O : List Nat} {b : Nat → Bool} {i j n : Nat}
/-! The frame: what is listed has its destination filled. -/
end
end Go.Proofs.YtndicjikjcifaaaDoorW.PrintLast

namespace Go.Proofs.YtndicjikjcifaaaDoorW.PrintWords
open Go.RowKit
end Go.Proofs.YtndicjikjcifaaaDoorW.PrintWords
namespace Go.Proofs.YtndicjikjcifaaaDoorW.PrintLast
section
variable {ops : Array Oper} {a : Act} {o og : Oper} {g : Nat} {t : Tmp} {u : Bool}
end
end Go.Proofs.YtndicjikjcifaaaDoorW.PrintLast

/-! ### 58. A guarded operation whose guard is known to want it: the same goal without the guard -/
namespace Go.Proofs.YtndicjikjcifaaaDoorW.PrintWords
open Go.RowKit
section
variable {P : Program} {ops : Array Oper} {rest : List Oper} {o : Oper} {a : Act} {Q : Exit → Act → World → Prop} {W : World}
end
end Go.Proofs.YtndicjikjcifaaaDoorW.PrintWords

/-! ### 48. N's events: append, a whole row appended, zeros appended, literals, make, stores, cuts, an element taken out -/
namespace Go.Proofs.YtndicjikjcifaaaDoorW.PrintWords
open Go.RowKit
namespace Kd
section
variable {α : Type} {d : Kd α} {e base n cap g : Nat} {ok ok' okp : Nat → Prop} {w w1 W : World} {v v1 : Value} {xs ys : List α}
end
section
variable {P : Program} {ops : Array Oper} {rest : List Oper} {o : Oper} {a : Act} {Q : Exit → Act → World → Prop} {Kc : Act → World → Prop} {α : Type}
end
end Kd
end Go.Proofs.YtndicjikjcifaaaDoorW.PrintWords

-- PRINTED WORDS (module Derived/Print/More.lean): go-gate-2's additions: an AI agent of Go's test side, Tue Nov 17 2026; no person has read it. Lean checks it.
namespace Go.Proofs.YtndicjikjcifaaaDoorW.PrintMore
open Go.RowKit Go.Proofs.YtndicjikjcifaaaDoorW.PrintWords
namespace Kd
open Go.Proofs.YtndicjikjcifaaaDoorW.PrintWords.Kd
end Kd
namespace Kd
open Go.Proofs.YtndicjikjcifaaaDoorW.PrintWords.Kd
section
variable {α : Type} {d : Kd α} {e base g N : Nat} {ok : Nat → Prop} {W w1 : World} {u v : Value} {xs : List α}
end
end Kd
theorem max2_int (k k' : IntKind) (x y : Int) : Builtin.max2 (.int k x) (.int k' y) = pure (.int k (if x < y then y else x)) := by simp only [Builtin.max2, gt_iff_lt]
theorem min2_int (k k' : IntKind) (x y : Int) : Builtin.min2 (.int k x) (.int k' y) = pure (.int k (if y < x then y else x)) := by simp only [Builtin.min2]
theorem max_two (ats : Array TypeId) (ty : TypeId) (a b : Value) : Builtin.max_ ats ty #[a, b] = (Builtin.max2 a b >>= fun s => pure s) := by simp only [Builtin.max_, List.foldlM_cons, List.foldlM_nil]
theorem min_two (ats : Array TypeId) (ty : TypeId) (a b : Value) : Builtin.min_ ats ty #[a, b] = (Builtin.min2 a b >>= fun s => pure s) := by simp only [Builtin.min_, List.foldlM_cons, List.foldlM_nil]
theorem max_three (ats : Array TypeId) (ty : TypeId) (a b c : Value) : Builtin.max_ ats ty #[a, b, c] = (Builtin.max2 a b >>= fun s => Builtin.max2 s c >>= fun s => pure s) := by simp only [Builtin.max_, List.foldlM_cons, List.foldlM_nil]
theorem min_three (ats : Array TypeId) (ty : TypeId) (a b c : Value) : Builtin.min_ ats ty #[a, b, c] = (Builtin.min2 a b >>= fun s => Builtin.min2 s c >>= fun s => pure s) := by simp only [Builtin.min_, List.foldlM_cons, List.foldlM_nil]
theorem max_four (ats : Array TypeId) (ty : TypeId) (a b c d : Value) : Builtin.max_ ats ty #[a, b, c, d] = (Builtin.max2 a b >>= fun s => Builtin.max2 s c >>= fun s => Builtin.max2 s d >>= fun s => pure s) := by simp only [Builtin.max_, List.foldlM_cons, List.foldlM_nil]
theorem min_four (ats : Array TypeId) (ty : TypeId) (a b c d : Value) : Builtin.min_ ats ty #[a, b, c, d] = (Builtin.min2 a b >>= fun s => Builtin.min2 s c >>= fun s => Builtin.min2 s d >>= fun s => pure s) := by simp only [Builtin.min_, List.foldlM_cons, List.foldlM_nil]
end Go.Proofs.YtndicjikjcifaaaDoorW.PrintMore
namespace Go.Proofs.YtndicjikjcifaaaDoorW.PrintWords
open Go.RowKit
section
variable {P : Program} {ops : Array Oper} {rest : List Oper} {o : Oper} {a : Act} {Q : Exit → Act → World → Prop} {W : World}
theorem gate_callee {f : FuncId} {as_ : Array Operand} {ts : Array TypeId} (_ho : o.op = .call { callee := .value (.func f), args := as_, argTypes := ts }) (h : wpList P ops Q (o :: rest) a W) : wpList P ops Q (o :: rest) a W := h
theorem gate_builtin {b : Builtin} {xs : Array Operand} {ts : Array TypeId} (_ho : o.op = .call { callee := .builtin b, args := xs, argTypes := ts }) (h : wpList P ops Q (o :: rest) a W) : wpList P ops Q (o :: rest) a W := h
end
def mx (a b : Int) : Int := if a < b then b else a
def mn (a b : Int) : Int := if b < a then b else a
def shl (k : IntKind) (x y : Int) : Int := k.wrap (x * 2 ^ min y.toNat k.bits)
def shr (k : IntKind) (x y : Int) : Int := x / 2 ^ min y.toNat k.bits
namespace Kd
section
variable {α : Type} {d : Kd α} {e base : Nat} {ok : Nat → Prop} {W w1 : World} {v : Value} {xs : List α}
end
section
variable {α : Type} {d : Kd α} {e base g n cap : Nat} {ok oki okp : Nat → Prop} {W : World} {xs : List α} {i : Int} {c : List Value}
end
section
variable {α : Type} {d : Kd α} {e base b b' g N : Nat} {ok ok1 : Nat → Prop} {W W2 w1 : World} {u v : Value} {xs ys : List α} {S : Nat → Prop}
end
end Kd
end Go.Proofs.YtndicjikjcifaaaDoorW.PrintWords
namespace Go.Proofs.YtndicjikjcifaaaDoorW.PrintWords
open Go.RowKit
namespace Kd
def V {α : Type} (d : Kd α) (_e : Nat) (W : World) (_base : Nat) (ok : Nat → Prop) (v : Value) (xs : List α) : Prop := ∃ A c, v = .slice A xs.length c ∧ xs.length ≤ c ∧ F d W ok A xs.length xs
section
variable {α β : Type} {d : Kd α} {e base base' n m c g N' lo hi : Nat} {ok ok' S : Nat → Prop} {w W w1 : World} {A : Option Addr} {ad : Addr} {u v v1 : Value} {xs : List α}
end
end Kd
end Go.Proofs.YtndicjikjcifaaaDoorW.PrintWords

namespace Go.Proofs.YtndicjikjcifaaaDoor.PB
open Go.RowKit Go.Proofs.YtndicjikjcifaaaDoorW.PrintWords Go.Proofs.YtndicjikjcifaaaDoorW.PrintLast Go.Proofs.YtndicjikjcifaaaDoorW.PrintMore
attribute [local go_sem] max2_int min2_int max_two min_two max_three min_three max_four min_four   -- for this text's walks alone
set_option linter.unusedVariables false
set_option linter.unusedSimpArgs false
def errW : Option Int → Value
  | none => .nilIface
  | some c => .iface 0 (.int .i64 c)
theorem errW_none : errW none = .nilIface := rfl
theorem errW_some (c : Int) : errW (some c) = .iface 0 (.int .i64 c) := rfl
theorem info9 : (Tryd.prog.info? 9).map (fun i => (i.zero, i.size, i.bytes)) = some (some (.string ⟨#[]⟩), 1, 16) := by kernel_rfl
theorem info33 : (Tryd.prog.info? 33).map (fun i => (i.zero, i.size, i.bytes)) = some (some (.agg #[(.int .i64 0), (.string ⟨#[]⟩), (.string ⟨#[]⟩), (.int .u64 0), (.int .u64 0), (.string ⟨#[]⟩), (.string ⟨#[]⟩), (.slice none 0 0), (.slice none 0 0)]), 9, 136) := by kernel_rfl
-- the values' own types
/-! #### struct type 33 -/
structure S33 where
  f0 : Int
  f1 : ByteArray
  f2 : ByteArray
  f3 : Int
  f4 : Int
  f5 : ByteArray
  f6 : ByteArray
  f7 : (List ByteArray)
  f8 : (List ByteArray)
def z33 : S33 := ⟨(0 : Int), (⟨#[]⟩ : ByteArray), (⟨#[]⟩ : ByteArray), (0 : Int), (0 : Int), (⟨#[]⟩ : ByteArray), (⟨#[]⟩ : ByteArray), ([] : List ByteArray), ([] : List ByteArray)⟩
def k33 : Kd S33 := Kd.iso (Kd.pair (Kd.int .i64) (Kd.pair Kd.string (Kd.pair Kd.string (Kd.pair (Kd.int .u64) (Kd.pair (Kd.int .u64) (Kd.pair Kd.string (Kd.pair Kd.string (Kd.pair (Kd.slice 9 Kd.string) (Kd.slice 9 Kd.string))))))))) (fun x : S33 => (x.f0, x.f1, x.f2, x.f3, x.f4, x.f5, x.f6, x.f7, x.f8))
theorem k33_open {w : World} {x : S33} {cs : List Value} (h : k33.K w x cs) : ∃ A7 c7 A8 c8, cs = [.int .i64 x.f0, .string x.f1, .string x.f2, .int .u64 x.f3, .int .u64 x.f4, .string x.f5, .string x.f6, .slice A7 x.f7.length c7, .slice A8 x.f8.length c8] ∧ x.f7.length ≤ c7 ∧ Kd.string.C w A7 x.f7.length x.f7 ∧ x.f8.length ≤ c8 ∧ Kd.string.C w A8 x.f8.length x.f8 := by
  obtain ⟨_, _, rfl, rfl, ⟨_, _, rfl, rfl, ⟨_, _, rfl, rfl, ⟨_, _, rfl, rfl, ⟨_, _, rfl, rfl, ⟨_, _, rfl, rfl, ⟨_, _, rfl, rfl, ⟨_, _, rfl, ⟨A7, c7, rfl, l7, g7⟩, ⟨A8, c8, rfl, l8, g8⟩⟩⟩⟩⟩⟩⟩⟩⟩ := h
  exact ⟨A7, c7, A8, c8, rfl, l7, g7, l8, g8⟩
theorem k33_mk (w : World) (x : S33) {A7 : Option Addr} {c7 : Nat} (l7 : x.f7.length ≤ c7) (g7 : Kd.string.C w A7 x.f7.length x.f7) {A8 : Option Addr} {c8 : Nat} (l8 : x.f8.length ≤ c8) (g8 : Kd.string.C w A8 x.f8.length x.f8) : k33.K w x [.int .i64 x.f0, .string x.f1, .string x.f2, .int .u64 x.f3, .int .u64 x.f4, .string x.f5, .string x.f6, .slice A7 x.f7.length c7, .slice A8 x.f8.length c8] := ⟨[.int .i64 x.f0], [.string x.f1, .string x.f2, .int .u64 x.f3, .int .u64 x.f4, .string x.f5, .string x.f6, .slice A7 x.f7.length c7, .slice A8 x.f8.length c8], rfl, rfl, ⟨[.string x.f1], [.string x.f2, .int .u64 x.f3, .int .u64 x.f4, .string x.f5, .string x.f6, .slice A7 x.f7.length c7, .slice A8 x.f8.length c8], rfl, rfl, ⟨[.string x.f2], [.int .u64 x.f3, .int .u64 x.f4, .string x.f5, .string x.f6, .slice A7 x.f7.length c7, .slice A8 x.f8.length c8], rfl, rfl, ⟨[.int .u64 x.f3], [.int .u64 x.f4, .string x.f5, .string x.f6, .slice A7 x.f7.length c7, .slice A8 x.f8.length c8], rfl, rfl, ⟨[.int .u64 x.f4], [.string x.f5, .string x.f6, .slice A7 x.f7.length c7, .slice A8 x.f8.length c8], rfl, rfl, ⟨[.string x.f5], [.string x.f6, .slice A7 x.f7.length c7, .slice A8 x.f8.length c8], rfl, rfl, ⟨[.string x.f6], [.slice A7 x.f7.length c7, .slice A8 x.f8.length c8], rfl, rfl, ⟨[.slice A7 x.f7.length c7], [.slice A8 x.f8.length c8], rfl, ⟨A7, c7, rfl, l7, g7⟩, ⟨A8, c8, rfl, l8, g8⟩⟩⟩⟩⟩⟩⟩⟩⟩
def rd_T33 (xs : List S33) (i : Int) : S33 := xs.getD i.toNat z33
theorem at_T33 {w : World} {A : Option Addr} {n : Nat} {xs : List S33} (h : Kd.C k33 w A n xs) (i : Int) (h0 : 0 ≤ i) (h1 : i < n) : ∃ ad A7 c7 A8 c8, A = some ad ∧ w.cell? (ad.add (i.toNat * 9)) = some (.int .i64 (rd_T33 xs i).f0) ∧ w.cell? ⟨(ad.add (i.toNat * 9)).block, (ad.add (i.toNat * 9)).off + 1, none⟩ = some (.string (rd_T33 xs i).f1) ∧ w.cell? ⟨(ad.add (i.toNat * 9)).block, (ad.add (i.toNat * 9)).off + 2, none⟩ = some (.string (rd_T33 xs i).f2) ∧ w.cell? ⟨(ad.add (i.toNat * 9)).block, (ad.add (i.toNat * 9)).off + 3, none⟩ = some (.int .u64 (rd_T33 xs i).f3) ∧ w.cell? ⟨(ad.add (i.toNat * 9)).block, (ad.add (i.toNat * 9)).off + 4, none⟩ = some (.int .u64 (rd_T33 xs i).f4) ∧ w.cell? ⟨(ad.add (i.toNat * 9)).block, (ad.add (i.toNat * 9)).off + 5, none⟩ = some (.string (rd_T33 xs i).f5) ∧ w.cell? ⟨(ad.add (i.toNat * 9)).block, (ad.add (i.toNat * 9)).off + 6, none⟩ = some (.string (rd_T33 xs i).f6) ∧ w.cell? ⟨(ad.add (i.toNat * 9)).block, (ad.add (i.toNat * 9)).off + 7, none⟩ = some (.slice A7 (rd_T33 xs i).f7.length c7) ∧ w.cell? ⟨(ad.add (i.toNat * 9)).block, (ad.add (i.toNat * 9)).off + 8, none⟩ = some (.slice A8 (rd_T33 xs i).f8.length c8) ∧ (rd_T33 xs i).f7.length ≤ c7 ∧ Kd.string.C w A7 (rd_T33 xs i).f7.length (rd_T33 xs i).f7 ∧ (rd_T33 xs i).f8.length ≤ c8 ∧ Kd.string.C w A8 (rd_T33 xs i).f8.length (rd_T33 xs i).f8 := by
  obtain ⟨ad, c, e, _, hK, hc0⟩ := Kd.C_get h z33 i h0 h1
  have hc : ∀ j u, c[j]? = some u → w.cell? (ad.add (i.toNat * 9 + j)) = some u := hc0
  obtain ⟨A7, c7, A8, c8, rfl, l7, g7, l8, g8⟩ := k33_open hK
  exact ⟨ad, A7, c7, A8, c8, e, hc 0 _ rfl, by rw [← add_field _ _ 1 (by omega)]; exact hc 1 _ rfl, by rw [← add_field _ _ 2 (by omega)]; exact hc 2 _ rfl, by rw [← add_field _ _ 3 (by omega)]; exact hc 3 _ rfl, by rw [← add_field _ _ 4 (by omega)]; exact hc 4 _ rfl, by rw [← add_field _ _ 5 (by omega)]; exact hc 5 _ rfl, by rw [← add_field _ _ 6 (by omega)]; exact hc 6 _ rfl, by rw [← add_field _ _ 7 (by omega)]; exact hc 7 _ rfl, by rw [← add_field _ _ 8 (by omega)]; exact hc 8 _ rfl, l7, g7, l8, g8⟩
end Go.Proofs.YtndicjikjcifaaaDoor.PB

-- PRINTED WORDS (module Derived/Print/Sized.lean): go-gate-2's, for the rows of laws over slices: an AI agent of Go's test side, Tue Nov 17 2026; no person has read it. Lean checks it.
namespace Go.Proofs.YtndicjikjcifaaaDoorW.PrintWords
open Go.ChangeShapes Go.WideShapes
end Go.Proofs.YtndicjikjcifaaaDoorW.PrintWords

/- Words on worlds of which only some blocks may have changed: plain lemmas, no program in sight. -/
namespace Go.Proofs.YtndicjikjcifaaaDoor
open Go.RowKit Go.Proofs.YtndicjikjcifaaaDoorW.PrintWords Go.Proofs.YtndicjikjcifaaaDoorW.PrintLast
structure Only (S : Nat → Prop) (w w' : World) : Prop where
  os : w'.os = w.os
  tape : w'.tape = w.tape
  output : w'.output = w.output
  size : w.heap.size ≤ w'.heap.size
  block : ∀ k, k < w.heap.size → ¬ S k → w'.heap[k]? = w.heap[k]?
theorem Only.refl (S : Nat → Prop) (w : World) : Only S w w := ⟨rfl, rfl, rfl, Nat.le_refl _, fun _ _ _ => rfl⟩
theorem Only.of_below {S : Nat → Prop} {w w' : World} (h : Below w.heap.size w w') : Only S w w' :=
  ⟨h.os, h.tape, h.output, h.size, fun k hk _ => h.block k hk⟩
theorem Only.trans {S S' : Nat → Prop} {a b c : World} (h : Only S a b) (k : Only S' b c) (hS : ∀ i, i < a.heap.size → S' i → S i) : Only S a c :=
  ⟨k.os.trans h.os, k.tape.trans h.tape, k.output.trans h.output, Nat.le_trans h.size k.size, fun i hi hn =>
    (k.block i (Nat.lt_of_lt_of_le hi h.size) (fun hs => hn (hS i hi hs))).trans (h.block i hi hn)⟩
theorem Only.mono {S S' : Nat → Prop} {a b : World} (h : Only S a b) (hS : ∀ i, S i → S' i) : Only S' a b :=
  ⟨h.os, h.tape, h.output, h.size, fun i hi hn => h.block i hi (fun hs => hn (hS i hs))⟩
theorem Only.below {S : Nat → Prop} {a b : World} (h : Only S a b) {B : Nat} (hB : B ≤ a.heap.size) (hS : ∀ i, S i → B ≤ i) : Below B a b :=
  ⟨h.os, h.tape, h.output, h.size, fun i hi => h.block i (Nat.lt_of_lt_of_le hi hB) (fun hs => by have := hS i hs; omega)⟩
theorem Only.drew {S : Nat → Prop} {a w : World} (h : Only S a w) : Only S a w.drew := ⟨h.os, h.tape, h.output, h.size, h.block⟩
theorem Only.drewN {S : Nat → Prop} {a w : World} (h : Only S a w) (n : Nat) : Only S a (w.drewN n) := ⟨h.os, h.tape, h.output, h.size, h.block⟩
theorem Only.alloc {S : Nat → Prop} {a w : World} (h : Only S a w) (o : Obj) : Only S a (w.alloc o) :=
  h.trans (Only.of_below ((Below.refl _ w).alloc (Nat.le_refl _) o) (S := S)) (fun _ _ h => h)
theorem Only.set {S : Nat → Prop} {a w : World} (h : Only S a w) {p : Addr} (hp : S p.block ∨ a.heap.size ≤ p.block) (u : Value) : Only S a (w.setCell p u) :=
  ⟨h.os, h.tape, h.output, by simpa [World.setCell] using h.size, fun i hi hn => (Below.heap_setCell w p u i (fun e => by
    subst e
    rcases hp with hp | hp
    · exact hn hp
    · omega)).trans (h.block i hi hn)⟩
theorem Only.grown {S : Nat → Prop} {a w w' : World} {row : Option Nat} (h : Only S a w) (hg : w.grownBy w' row) (hr : ∀ k, row = some k → S k ∨ a.heap.size ≤ k) : Only S a w' :=
  ⟨hg.os.trans h.os, hg.tape.trans h.tape, hg.output.trans h.output, Nat.le_trans h.size hg.size, fun i hi hn =>
    (hg.block i (Nat.lt_of_lt_of_le hi h.size) (fun e => by
      rcases hr i e.symm with hp | hp
      · exact hn hp
      · omega)).trans (h.block i hi hn)⟩
theorem blk_newAt (w : World) (o : Obj) {n : Nat} (h : w.heap.size = n) : (w.alloc o).heap[n]? = some o := by
  subst h
  exact blk_new w o
theorem Kd.R_only {α : Type} {d : Kd α} {e : Nat} {w w' : World} {base : Nat} {ok S : Nat → Prop} {v : Value} {xs : List α} (h : Kd.R d e w base ok v xs) (ho : Only S w w') (hd : ∀ k, ok k → ¬ S k) : Kd.R d e w' base ok v xs :=
  Kd.R_step h (fun k hk hlt => ho.block k hlt (hd k hk))
end Go.Proofs.YtndicjikjcifaaaDoor
/- Laws of append on rows of the call's own, told over an elder world: plain lemmas, no program in sight. -/
namespace Go.Proofs.YtndicjikjcifaaaDoor
open Go.RowKit Go.Proofs.YtndicjikjcifaaaDoorW.PrintWords Go.Proofs.YtndicjikjcifaaaDoorW.PrintLast
section
variable {P : Program} {ops : Array Oper} {o : Oper} {a : Act} {Q : Exit → Act → World → Prop} {α : Type}
theorem add0 (B j : Nat) : (⟨B, 0, none⟩ : Addr).add j = ⟨B, j, none⟩ := by unfold Addr.add; split <;> simp_all
theorem addo (B o j : Nat) : (⟨B, o, none⟩ : Addr).add j = ⟨B, o + j, none⟩ := by unfold Addr.add; split <;> simp_all
theorem add_block (ad : Addr) (j : Nat) : (ad.add j).block = ad.block := by unfold Addr.add; split <;> simp_all
end
end Go.Proofs.YtndicjikjcifaaaDoor
/- Rows of flat elements: append of one, copy within a row. Plain lemmas, no program in sight. -/
namespace Go.Proofs.YtndicjikjcifaaaDoor
open Go.RowKit Go.Proofs.YtndicjikjcifaaaDoorW.PrintWords Go.Proofs.YtndicjikjcifaaaDoorW.PrintLast
def FR {α : Type} (c : α → List Value) (sz e base : Nat) (w : World) (v : Value) (xs : List α) : Prop := w.ownsRow base e sz v xs.length (xs.flatMap c)
section
variable {P : Program} {ops : Array Oper} {o : Oper} {a : Act} {Q : Exit → Act → World → Prop} {α : Type} {c : α → List Value} {sz e base : Nat} {w w' : World} {v : Value} {xs : List α}
theorem FR.nil (c : α → List Value) (sz e base : Nat) (w : World) : FR c sz e base w (.slice none 0 0) [] := ⟨by simp, .inl ⟨rfl, rfl⟩⟩
theorem FR.move (h : FR c sz e base w v xs) (hm : ∀ k, v.ownBlock = some k → w'.heap[k]? = w.heap[k]?) : FR c sz e base w' v xs := own_move h hm
theorem FR.lt (h : FR c sz e base w v xs) (k : Nat) (hk : v.ownBlock = some k) : base ≤ k ∧ k < w.heap.size := ⟨own_base h k hk, own_lt h k hk⟩
theorem FR.only {S : Nat → Prop} (h : FR c sz e base w v xs) (ho : Only S w w') (hd : ∀ k, v.ownBlock = some k → ¬ S k) : FR c sz e base w' v xs :=
  h.move (fun k hk => ho.block k (h.lt k hk).2 (hd k hk))
theorem FR.below (h : FR c sz e base w v xs) (hb : Below w.heap.size w w') : FR c sz e base w' v xs :=
  h.move (fun k hk => hb.block k (h.lt k hk).2)
theorem FR.form (h : FR c sz e base w v xs) : ∃ A cap, v = .slice A xs.length cap ∧ xs.length ≤ cap := by
  rcases h.2 with ⟨rfl, h0⟩ | ⟨g, cap, cur, rfl, _, _, hc, _⟩
  · exact ⟨none, 0, by rw [h0], by omega⟩
  · exact ⟨_, _, rfl, hc⟩
theorem FR.some (h : FR c sz e base w v xs) (hn : 0 < xs.length) : ∃ b cap cur, v = .slice (some ⟨b, 0, none⟩) xs.length cap ∧ base ≤ b ∧ w.heap[b]? = some (.cells cur e (0, 0)) ∧ xs.length ≤ cap ∧ cap ≤ maxLen ∧ cur.size = cap * sz ∧ cur.toList.take (xs.length * sz) = xs.flatMap c := by
  rcases h.2 with ⟨_, h0⟩ | h
  · omega
  · exact h
theorem fr_app_wp {Kc : Act → World → Prop} {W w0 : World} (base : Nat) (s x : Operand) (t e : TypeId) (z : Value) (sz bytes : Nat)
    (ho : o.op = .call { callee := .builtin .append, args := #[s, x], argTypes := #[t, t] })
    (ht : P.underlying t = some (.slice e)) (hinfo : (P.info? e).map (fun i => (i.zero, i.size, i.bytes)) = some (some z, sz, bytes)) (hz : z.cells.size = sz) (hs0 : 0 < sz)
    (v : Value) (xs : List α) (p : α) (hs : a.eval s = v) (B : Nat) (hx : a.eval x = .slice (some ⟨B, 0, none⟩) 1 1)
    (te : TypeId) (fr : Nat × Nat) (hB : W.heap[B]? = some (.cells (c p).toArray te fr)) (hcl : (c p).length = sz) (h1 : ∀ u ∈ c p, u.oneCell' = true)
    (HR : FR c sz e base w0 v xs) (HW : Below w0.heap.size w0 W) (hbase : base ≤ w0.heap.size) (h63 : xs.length + 1 ≤ maxLen) (hl : (xs.length + 1) * bytes ≤ 140737488355328)
    (h : ∀ g cap w1, FR c sz e base w1 (.slice (some ⟨g, 0, none⟩) (xs.length + 1) cap) (xs ++ [p]) → Only (fun k => v.ownBlock = some k) W w1 → base ≤ g → (v.ownBlock = some g ∨ g = W.heap.size) → Kc (a.put o.dst (.slice (some ⟨g, 0, none⟩) (xs.length + 1) cap)) w1) :
    Oper.wp P o a W Kc Q := by
  obtain ⟨i0, hi, hz0, hz1, hz2⟩ := info_parts hinfo
  refine wp_append_lies W s x t ho base e i0 z sz bytes ht hi hz0 hz1 hz2 hz hs0 v xs.length (xs.flatMap c) hs (HR.below HW) ⟨B, 0, none⟩ 1 1 (c p) hx (by omega) ?_ h1 (by omega) h63 hl (Nat.le_trans hbase HW.size) _ rfl ?_
  · intro j u hu
    rw [add0, World.cell?, hB]
    simpa using hu
  · intro g cap w1 hown1 hg1 hat hlt
    have hF : FR c sz e base w1 (.slice (some ⟨g, 0, none⟩) (xs.length + 1) cap) (xs ++ [p]) := by
      unfold FR
      rw [List.flatMap_append, List.length_append]
      simpa using hown1
    exact h g cap w1 hF ⟨hg1.os, hg1.tape, hg1.output, hg1.size, fun k hk hn => hg1.block k hk (fun e => hn e.symm)⟩ (hF.lt g rfl).1 hat
theorem fr_app_list {rest : List Oper} (hgd : o.guard = none) {W w0 : World} (base : Nat) (s x : Operand) (t e : TypeId) (z : Value) (sz bytes : Nat)
    (ho : o.op = .call { callee := .builtin .append, args := #[s, x], argTypes := #[t, t] })
    (ht : P.underlying t = some (.slice e)) (hinfo : (P.info? e).map (fun i => (i.zero, i.size, i.bytes)) = some (some z, sz, bytes)) (hz : z.cells.size = sz) (hs0 : 0 < sz)
    (v : Value) (xs : List α) (p : α) (hs : a.eval s = v) (B : Nat) (hx : a.eval x = .slice (some ⟨B, 0, none⟩) 1 1)
    (te : TypeId) (fr : Nat × Nat) (hB : W.heap[B]? = some (.cells (c p).toArray te fr)) (hcl : (c p).length = sz) (h1 : ∀ u ∈ c p, u.oneCell' = true)
    (HR : FR c sz e base w0 v xs) (HW : Below w0.heap.size w0 W) (hbase : base ≤ w0.heap.size) (h63 : xs.length + 1 ≤ maxLen) (hl : (xs.length + 1) * bytes ≤ 140737488355328)
    (h : ∀ g cap w1, FR c sz e base w1 (.slice (some ⟨g, 0, none⟩) (xs.length + 1) cap) (xs ++ [p]) → Only (fun k => v.ownBlock = some k) W w1 → base ≤ g → (v.ownBlock = some g ∨ g = W.heap.size) → wpList P ops Q rest (a.put o.dst (.slice (some ⟨g, 0, none⟩) (xs.length + 1) cap)) w1) :
    wpList P ops Q (o :: rest) a W :=
  wpList_plain hgd fun _ hK => fr_app_wp base s x t e z sz bytes ho ht hinfo hz hs0 v xs p hs B hx te fr hB hcl h1 HR HW hbase h63 hl (fun g cap w1 h1 h2 h3 h4 => hK _ _ (h g cap w1 h1 h2 h3 h4))
end
end Go.Proofs.YtndicjikjcifaaaDoor

/- A queue of transactions in memory: the cells are owned, what the cells lead to is read. No program's text in sight. -/
namespace Go.Proofs.YtndicjikjcifaaaDoor
open Go.RowKit Go.Proofs.YtndicjikjcifaaaDoorW.PrintWords Go.Proofs.YtndicjikjcifaaaDoorW.PrintLast
open PB (S33 k33)
abbrev txc (t : S33) (A : Option Addr) (c : Nat) (B : Option Addr) (d : Nat) : List Value := [.int .i64 t.f0, .string t.f1, .string t.f2, .int .u64 t.f3, .int .u64 t.f4, .string t.f5, .string t.f6, .slice A t.f7.length c, .slice B t.f8.length d]
set_option linter.unusedVariables false
set_option linter.unusedSimpArgs false
def TQ (X : List Nat) (base : Nat) (w : World) (v : Value) (xs : List S33) : Prop :=
  ∃ cs : List (List Value), Kd.Q (Kd.raw 9) 33 w base (fun k => k ∉ X) v cs ∧ cs.length = xs.length ∧
    ∀ (j : Nat) (t : S33) (c : List Value), xs[j]? = some t → cs[j]? = some c → Kd.FK k33 w (fun k => k ∉ X ∧ some k ≠ v.ownBlock) t c
section
variable {X Y : List Nat} {base : Nat} {w w1 : World} {v : Value} {xs : List S33}
theorem TQ.nil (X : List Nat) (base : Nat) (w : World) : TQ X base w (.slice none 0 0) [] := ⟨[], Kd.Q_nil _ _ _ _ _, rfl, fun j t c h => by simp at h⟩
theorem TQ.step (h : TQ X base w v xs) (hm : ∀ k, k ∉ X → k < w.heap.size → w1.heap[k]? = w.heap[k]?) : TQ X base w1 v xs := by
  obtain ⟨cs, h1, h2, h3⟩ := h
  exact ⟨cs, Kd.Q_step h1 hm, h2, fun j t c a b => Kd.FK_step (h3 j t c a b) (fun k hk => hm k hk.1)⟩
theorem TQ.below (h : TQ X base w v xs) (hb : Below w.heap.size w w1) : TQ X base w1 v xs := h.step (fun k _ hk => hb.block k hk)
theorem TQ.only (h : TQ X base w v xs) {S : Nat → Prop} (ho : Only S w w1) (hS : ∀ k, S k → k ∈ X) : TQ X base w1 v xs := h.step (fun k hk hl => ho.block k hl (fun hs => hk (hS k hs)))
theorem TQ.set (h : TQ X base w v xs) {g : Nat} (hg : g ∈ X) (j : Nat) (u : Value) : TQ X base (w.setCell ⟨g, j, none⟩ u) v xs := h.step (fun k hk _ => Below.heap_setCell _ _ _ _ (fun e => hk (e ▸ hg)))
theorem TQ.less (h : TQ X base w v xs) (hs : ∀ k, k ∈ Y → k ∈ X) : TQ Y base w v xs := by
  obtain ⟨cs, h1, h2, h3⟩ := h
  exact ⟨cs, Kd.Q_mono h1 (fun k hk hy => hk (hs k hy)), h2, fun j t c a b => Kd.FK_mono (h3 j t c a b) (fun k hk => ⟨fun hy => hk.1 (hs k hy), hk.2⟩)⟩
theorem TQ.more (h : TQ X base w v xs) (hs : ∀ k, k ∈ Y → k ∈ X ∨ w.heap.size ≤ k) : TQ Y base w v xs := by
  obtain ⟨cs, h1, h2, h3⟩ := h
  refine ⟨cs, Kd.Q_mono (Kd.Q_bound h1) (fun k hk hy => ?_), h2, fun j t c a b => Kd.FK_mono (Kd.FK_bound (h3 j t c a b)) (fun k hk => ⟨fun hy => ?_, hk.1.2⟩)⟩
  · rcases hs k hy with e | e
    · exact hk.1 e
    · exact absurd hk.2.2.1 (by omega)
  · rcases hs k hy with e | e
    · exact hk.1.1 e
    · exact absurd hk.2 (by omega)
theorem TQ.form (h : TQ X base w v xs) : ∃ A c, v = .slice A xs.length c ∧ xs.length ≤ c := by
  obtain ⟨cs, h1, h2, h3⟩ := h
  obtain ⟨A, c, e, l⟩ := Kd.Q_slice h1
  exact ⟨A, c, by rw [e, h2], by omega⟩
theorem TQ.apart (h : TQ X base w v xs) : ∀ k, v.ownBlock = some k → k ∉ X := by
  obtain ⟨cs, h1, h2, h3⟩ := h
  exact h1.1
theorem TQ.lt (h : TQ X base w v xs) : ∀ k, v.ownBlock = some k → base ≤ k ∧ k < w.heap.size := by
  obtain ⟨cs, h1, h2, h3⟩ := h
  exact fun k hk => ⟨Kd.Q_base h1 k hk, Kd.Q_lt h1 k hk⟩
theorem C_cells {A : Option Addr} {n : Nat} {cs : List (List Value)} (h : (Kd.raw 9).C w A n cs) (hl : cs.length = xs.length)
    (hK : ∀ (j : Nat) (t : S33) (c : List Value), xs[j]? = some t → cs[j]? = some c → k33.K w t c) : k33.C w A n xs := by
  obtain ⟨h1, h2, h3⟩ := h
  refine ⟨by omega, h2, fun hp => ?_⟩
  obtain ⟨ad, ha, hc⟩ := h3 hp
  refine ⟨ad, ha, fun j p hj => ?_⟩
  have hjl := (List.getElem?_eq_some_iff.1 hj).1
  have hcj : cs[j]? = some cs[j] := List.getElem?_eq_getElem (by omega)
  obtain ⟨c, c1, ⟨rfl, c2, c3⟩, c4⟩ := hc j _ hcj
  exact ⟨_, c2, hK j p _ hj hcj, c4⟩
theorem TQ.read {A : Option Addr} {n c : Nat} (h : TQ X base w (.slice A n c) xs) : n = xs.length ∧ n ≤ c ∧ k33.C w A xs.length xs := by
  obtain ⟨cs, h1, h2, h3⟩ := h
  obtain ⟨q1, q2, q3⟩ := Kd.Q_reads' h1
  refine ⟨by omega, q2, ?_⟩
  rw [h2] at q3
  exact C_cells q3 h2 (fun j t c a b => Kd.FK_now (h3 j t c a b))
theorem TQ.drop {A : Option Addr} {k n c : Nat} (h : TQ X base w (.slice A n c) xs) (hk : k ≤ xs.length) : TQ X base w (.slice (if c = k then A else A.map (·.add (k * 9))) (n - k) (c - k)) (xs.drop k) := by
  obtain ⟨cs, h1, h2, h3⟩ := h
  have hb : (Value.slice (if c = k then A else A.map (·.add (k * 9))) (n - k) (c - k)).ownBlock = (Value.slice A n c).ownBlock := by
    split
    · cases A <;> rfl
    · cases A with
      | none => rfl
      | some a => simp [Value.ownBlock]; unfold Addr.add; split <;> rfl
  refine ⟨cs.drop k, Kd.Q_drop h1 (by omega), by simp [h2], fun j t c a b => ?_⟩
  rw [hb]
  rw [List.getElem?_drop] at a b
  exact h3 _ t c a b
theorem fk_tx {ok : Nat → Prop} (t : S33) {A B : Option Addr} {c d : Nat} (h1 : t.f7.length ≤ c) (g1 : Kd.F Kd.string w ok A t.f7.length t.f7) (h2 : t.f8.length ≤ d) (g2 : Kd.F Kd.string w ok B t.f8.length t.f8) :
    Kd.FK k33 w ok t [.int .i64 t.f0, .string t.f1, .string t.f2, .int .u64 t.f3, .int .u64 t.f4, .string t.f5, .string t.f6, .slice A t.f7.length c, .slice B t.f8.length d] :=
  fun W hW => PB.k33_mk W t h1 (g1 W hW) h2 (g2 W hW)
end
section
variable {P : Program} {ops : Array Oper} {rest : List Oper} {o : Oper} {a : Act} {Q' : Exit → Act → World → Prop} {Kc : Act → World → Prop}
end
end Go.Proofs.YtndicjikjcifaaaDoor

/-
  DERIVED: THE SHELF's CONTRACTS AT THIS DUMP, IN PLAIN WORDS (tools/lay-plain.mjs out of 'YtndicjikjcifaaaDoorLays0.lean', which tools/lay-shelf.mjs wrote): THE SAME DECLARATIONS UNDER THE SAME NAMES: 'import', 'namespace', 'open', 'def', 'theorem' AND NOTHING ELSE: no command of the shelf's: FOR A HAND-IN. Each laying: the table of numbers ('.._ren') and one theorem, a field a fact of the dump's own or the kernel's comparison; each contract: ONE APPLICATION.
-/
namespace Go.Proofs
open Go.Shelf
def Tryd.lays160_ren : Go.Shelf.Ren := ⟨fun | 160 => 90 | 232 => 104 | 231 => 103 | 227 => 105 | 234 => 107 | 233 => 106 | 236 => 109 | 235 => 108 | 228 => 128 | 271 => 131 | 151 => 130 | 197 => 129 | 120 => 143 | 152 => 142 | 260 => 141 | 137 => 145 | 119 => 146 | 224 => 147 | 225 => 148 | 217 => 149 | 266 => 150 | n => n, fun | 9 => 9 | 4 => 4 | 3 => 3 | 5 => 5 | 117 => 136 | 116 => 135 | 0 => 0 | 124 => 139 | 21 => 21 | 105 => 165 | 46 => 105 | 119 => 178 | 139 => 181 | 138 => 180 | n => n, fun | 3 => 3 | 4 => 4 | n => n⟩
theorem Tryd.lays160 : Go.Proofs.Lays.n160 Tryd.prog Tryd.lays160_ren := {
  mixed := by kernel_rfl
  f119 := Tryd.func146.trans (congrArg some (by kernel_rfl))
  f120 := Tryd.func143.trans (congrArg some (by kernel_rfl))
  f137 := Tryd.func145.trans (congrArg some (by kernel_rfl))
  f151 := Tryd.func130.trans (congrArg some (by kernel_rfl))
  f152 := Tryd.func142.trans (congrArg some (by kernel_rfl))
  f160 := Tryd.func90.trans (congrArg some (by kernel_rfl))
  f197 := Tryd.func129.trans (congrArg some (by kernel_rfl))
  f217 := Tryd.func149.trans (congrArg some (by kernel_rfl))
  f224 := Tryd.func147.trans (congrArg some (by kernel_rfl))
  f225 := Tryd.func148.trans (congrArg some (by kernel_rfl))
  f227 := Tryd.func105.trans (congrArg some (by kernel_rfl))
  f228 := Tryd.func128.trans (congrArg some (by kernel_rfl))
  f231 := Tryd.func103.trans (congrArg some (by kernel_rfl))
  f232 := Tryd.func104.trans (congrArg some (by kernel_rfl))
  f233 := Tryd.func106.trans (congrArg some (by kernel_rfl))
  f234 := Tryd.func107.trans (congrArg some (by kernel_rfl))
  f235 := Tryd.func108.trans (congrArg some (by kernel_rfl))
  f236 := Tryd.func109.trans (congrArg some (by kernel_rfl))
  f260 := Tryd.func141.trans (congrArg some (by kernel_rfl))
  f266 := Tryd.func150.trans (congrArg some (by kernel_rfl))
  f271 := Tryd.func131.trans (congrArg some (by kernel_rfl))
  t0 := Tryd.underlying0
  a0 := Tryd.isAgg0
  z0 := Tryd.sizeOf0
  v0 := Tryd.zeroValue0
  t3 := Tryd.underlying3
  a3 := Tryd.isAgg3
  z3 := Tryd.sizeOf3
  v3 := Tryd.zeroValue3
  t4 := Tryd.underlying4
  a4 := Tryd.isAgg4
  z4 := Tryd.sizeOf4
  v4 := Tryd.zeroValue4
  t5 := Tryd.underlying5
  a5 := Tryd.isAgg5
  z5 := Tryd.sizeOf5
  v5 := Tryd.zeroValue5
  t9 := Tryd.underlying9
  a9 := Tryd.isAgg9
  z9 := Tryd.sizeOf9
  v9 := Tryd.zeroValue9
  t21 := Tryd.underlying21
  a21 := Tryd.isAgg21
  z21 := Tryd.sizeOf21
  v21 := Tryd.zeroValue21
  t46 := Tryd.underlying105
  a46 := Tryd.isAgg105
  z46 := Tryd.sizeOf105
  v46 := Tryd.zeroValue105
  t105 := Tryd.underlying165
  a105 := Tryd.isAgg165
  z105 := Tryd.sizeOf165
  v105 := Tryd.zeroValue165
  t116 := Tryd.underlying135
  a116 := Tryd.isAgg135
  z116 := Tryd.sizeOf135
  t117 := Tryd.underlying136
  a117 := Tryd.isAgg136
  z117 := Tryd.sizeOf136
  v117 := Tryd.zeroValue136
  t119 := Tryd.underlying178
  a119 := Tryd.isAgg178
  z119 := Tryd.sizeOf178
  t124 := Tryd.underlying139
  a124 := Tryd.isAgg139
  z124 := Tryd.sizeOf139
  v124 := Tryd.zeroValue139
  t138 := Tryd.underlying180
  a138 := Tryd.isAgg180
  z138 := Tryd.sizeOf180
  v138 := Tryd.zeroValue180
  t139 := Tryd.underlying181
  a139 := Tryd.isAgg181
  z139 := Tryd.sizeOf181
  v139 := Tryd.zeroValue181
  g3 := by kernel_rfl
  g4 := by kernel_rfl }
def Tryd.lays206_ren : Go.Shelf.Ren := ⟨fun | 206 => 132 | n => n, fun | 9 => 9 | 4 => 4 | 3 => 3 | n => n, fun | n => n⟩
theorem Tryd.lays206 : Go.Proofs.Lays.n206 Tryd.prog Tryd.lays206_ren := {
  mixed := by kernel_rfl
  f206 := Tryd.func132.trans (congrArg some (by kernel_rfl))
  t3 := Tryd.underlying3
  a3 := Tryd.isAgg3
  z3 := Tryd.sizeOf3
  v3 := Tryd.zeroValue3
  t4 := Tryd.underlying4
  a4 := Tryd.isAgg4
  z4 := Tryd.sizeOf4
  v4 := Tryd.zeroValue4
  t9 := Tryd.underlying9
  a9 := Tryd.isAgg9
  z9 := Tryd.sizeOf9
  v9 := Tryd.zeroValue9 }
def Tryd.lays156_ren : Go.Shelf.Ren := ⟨fun | 156 => 69 | 165 => 89 | 166 => 84 | 169 => 85 | 240 => 96 | 241 => 102 | 276 => 122 | 277 => 127 | n => n, fun | 31 => 31 | 9 => 9 | 3 => 3 | 4 => 4 | 0 => 0 | 20 => 20 | 72 => 108 | 76 => 111 | 70 => 106 | 37 => 104 | 75 => 110 | 127 => 123 | 164 => 151 | 5 => 5 | 80 => 79 | n => n, fun | n => n⟩
theorem Tryd.lays156 : Go.Proofs.Lays.n156 Tryd.prog Tryd.lays156_ren := {
  mixed := by kernel_rfl
  f156 := Tryd.func69.trans (congrArg some (by kernel_rfl))
  f165 := Tryd.func89.trans (congrArg some (by kernel_rfl))
  f166 := Tryd.func84.trans (congrArg some (by kernel_rfl))
  f169 := Tryd.func85.trans (congrArg some (by kernel_rfl))
  f240 := Tryd.func96.trans (congrArg some (by kernel_rfl))
  f241 := Tryd.func102.trans (congrArg some (by kernel_rfl))
  f276 := Tryd.func122.trans (congrArg some (by kernel_rfl))
  f277 := Tryd.func127.trans (congrArg some (by kernel_rfl))
  t0 := Tryd.underlying0
  a0 := Tryd.isAgg0
  z0 := Tryd.sizeOf0
  v0 := Tryd.zeroValue0
  t3 := Tryd.underlying3
  a3 := Tryd.isAgg3
  z3 := Tryd.sizeOf3
  v3 := Tryd.zeroValue3
  t4 := Tryd.underlying4
  a4 := Tryd.isAgg4
  z4 := Tryd.sizeOf4
  v4 := Tryd.zeroValue4
  t9 := Tryd.underlying9
  a9 := Tryd.isAgg9
  z9 := Tryd.sizeOf9
  v9 := Tryd.zeroValue9
  t20 := Tryd.underlying20
  a20 := Tryd.isAgg20
  z20 := Tryd.sizeOf20
  v20 := Tryd.zeroValue20
  t31 := Tryd.underlying31
  a31 := Tryd.isAgg31
  z31 := Tryd.sizeOf31
  v31 := Tryd.zeroValue31
  t37 := Tryd.underlying104
  a37 := Tryd.isAgg104
  z37 := Tryd.sizeOf104
  v37 := Tryd.zeroValue104
  t70 := Tryd.underlying106
  a70 := Tryd.isAgg106
  z70 := Tryd.sizeOf106
  v70 := Tryd.zeroValue106
  t72 := Tryd.underlying108
  a72 := Tryd.isAgg108
  z72 := Tryd.sizeOf108
  v72 := Tryd.zeroValue108
  t75 := Tryd.underlying110
  a75 := Tryd.isAgg110
  z75 := Tryd.sizeOf110
  v75 := Tryd.zeroValue110
  t76 := Tryd.underlying111
  a76 := Tryd.isAgg111
  z76 := Tryd.sizeOf111
  v76 := Tryd.zeroValue111
  t127 := Tryd.underlying123
  a127 := Tryd.isAgg123
  z127 := Tryd.sizeOf123
  v127 := Tryd.zeroValue123
  t164 := Tryd.underlying151
  a164 := Tryd.isAgg151
  z164 := Tryd.sizeOf151
  v164 := Tryd.zeroValue151 }
def Tryd.lays169_ren : Go.Shelf.Ren := ⟨fun | 169 => 85 | n => n, fun | 70 => 106 | 9 => 9 | 0 => 0 | 72 => 108 | 37 => 104 | 127 => 123 | 3 => 3 | 5 => 5 | n => n, fun | n => n⟩
theorem Tryd.lays169 : Go.Proofs.Lays.n169 Tryd.prog Tryd.lays169_ren := {
  mixed := by kernel_rfl
  f169 := Tryd.func85.trans (congrArg some (by kernel_rfl))
  t0 := Tryd.underlying0
  a0 := Tryd.isAgg0
  z0 := Tryd.sizeOf0
  v0 := Tryd.zeroValue0
  t3 := Tryd.underlying3
  a3 := Tryd.isAgg3
  z3 := Tryd.sizeOf3
  v3 := Tryd.zeroValue3
  t9 := Tryd.underlying9
  a9 := Tryd.isAgg9
  z9 := Tryd.sizeOf9
  v9 := Tryd.zeroValue9
  t37 := Tryd.underlying104
  a37 := Tryd.isAgg104
  z37 := Tryd.sizeOf104
  v37 := Tryd.zeroValue104
  t70 := Tryd.underlying106
  a70 := Tryd.isAgg106
  z70 := Tryd.sizeOf106
  v70 := Tryd.zeroValue106
  t72 := Tryd.underlying108
  a72 := Tryd.isAgg108
  z72 := Tryd.sizeOf108
  v72 := Tryd.zeroValue108
  t127 := Tryd.underlying123
  a127 := Tryd.isAgg123
  z127 := Tryd.sizeOf123
  v127 := Tryd.zeroValue123 }
end Go.Proofs

/- tx.check, tx.caught, tx.name, tx.key: what is thrown, and what a name is. -/
namespace Go.Proofs
open Go.Shelf
end Go.Proofs
namespace Go.Proofs.YtndicjikjcifaaaDoor
open Go.RowKit Go.Shelf Go.Lib Go.Proofs.YtndicjikjcifaaaDoorW.PrintWords Go.Proofs.YtndicjikjcifaaaDoorW.PrintLast
set_option linter.unusedVariables false
set_option linter.unusedSimpArgs false
def thr (x : Int) : Ending := .panicked [{ v := .iface 24 (.int .i64 x), recovered := false }]
def okOr (x : Int) : Ending := if x = 0 then .returned (.tuple #[]) else thr x
theorem check_ok (x : Int) (w : World) : Calls Tryd.prog 55 #[.bool true, .int .i64 x] w fun e w' => e = .returned (.tuple #[]) ∧ w' = w := by
  go_enter Tryd.func55, Tryd.ntmps55
  go_wp2
  go_end0
  exact ⟨rfl, rfl⟩
theorem check_no (x : Int) (w : World) : Calls Tryd.prog 55 #[.bool false, .int .i64 x] w fun e w' => e = .panicked [{ v := .iface 24 (.int .i64 x), recovered := false }] ∧ w' = w := by
  go_enter Tryd.func55, Tryd.ntmps55
  go_wp2
  exact ⟨rfl, rfl, rfl⟩
theorem assert_yes (W : World) (x : Int) : (Instr.typeAssert (.iface 24 (.int .i64 x)) 20 24 true).run Tryd.prog W = .ok (.tuple #[.int .i64 x, .bool true]) W := by kernel_rfl
set_option maxHeartbeats 2000000 in
set_option maxRecDepth 100000 in
theorem caught_panicking (p : Addr) (x0 x : Int) (older : List PanicEntry) (w : World) (hc : w.cell? p = some (.int .i64 x0)) (hz : w.frozen? p = false) :
    CallsD Tryd.prog 51 #[.pointer (some p)] (.panicking ({ v := .iface 24 (.int .i64 x), recovered := false } :: older)) w fun e u' w' =>
      e = .returned (.tuple #[]) ∧ u' = .panicking ({ v := .iface 24 (.int .i64 x), recovered := true } :: older) ∧ w' = w.setCell p (.int .i64 x) := by
  have ha := fun W => assert_yes W x
  refine callsD_of_wpS Tryd.func51 rfl fun c₀ cs hu => ?_
  apply wpS_seq
  apply wpS_region
  simp [wpOpsS, go_sem, recoverD, hu, Tryd.ntmps51, Exit.thenS]
  refine wpS_of_wp ?_
  go_wp2
  cases c₀
  simp_all [bodyPostS, results, Tryd.results51]
theorem caught_idle (p : Addr) (w : World) :
    CallsD Tryd.prog 51 #[.pointer (some p)] .returning w fun e u' w' => e = .returned (.tuple #[]) ∧ u' = .returning ∧ w' = w := by
  refine callsD_of_wpS Tryd.func51 rfl fun c₀ cs hu => ?_
  apply wpS_seq
  apply wpS_region
  simp [wpOpsS, go_sem, recoverD, hu, Tryd.ntmps51, Exit.thenS]
  refine wpS_of_wp ?_
  simp only [Array.replicate]
  go_wp2
  cases c₀
  simp_all [bodyPostS, results, Tryd.results51]
def cutset : List UInt8 := [97, 98, 99, 100, 101, 102, 103, 104, 105, 106, 107, 108, 109, 110, 111, 112, 113, 114, 115, 116, 117, 118, 119, 120, 121, 122, 48, 49, 50, 51, 52, 53, 54, 55, 56, 57]
set_option maxRecDepth 10000 in
theorem cut_ascii : cutset.toArray.toList.all (fun b => decide (b.toNat < 128)) = true := by decide
def nm (s : ByteArray) : Bool := decide (s.size ≠ 0 ∧ s.size ≤ 32 ∧ Lib.trimS s.data.toList cutset = [])
theorem name_calls (s : ByteArray) (w : World) :
    Calls Tryd.prog 71 #[.string s] w fun e w' => e = .returned (.bool (nm s)) ∧ Below w.heap.size w w' := by
  go_enter Tryd.func71, Tryd.ntmps71
  by_cases h0 : s.size = 0
  · have e1 : nm s = false := by simp [nm, h0]
    have e2 : s.toList.isEmpty = true := by
      have : s = ⟨#[]⟩ := ByteArray.size_eq_zero_iff.1 h0
      rw [this, ByteArray.toList_eq]; rfl
    rw [e1]
    clear e1 h0
    go_wp2
    go_ret
    exact ⟨rfl, Below.refl _ _⟩
  have e2 : s.toList.isEmpty = false := by
    rw [ByteArray.toList_eq]
    cases h : s.data.toList with
    | nil => exact absurd (show s.size = 0 from by have := congrArg List.length h; rw [Array.length_toList] at this; exact this) h0
    | cons => rfl
  by_cases h1 : s.size ≤ 32
  · have e3 : decide ((s.size : Int) ≤ 32) = true := by simp; omega
    have hcon := Any.strings_Trim_laid Tryd.lays160 (by kernel_rfl) s ⟨cutset.toArray⟩ w (by omega) (by decide) (ascii_of_all cut_ascii)
    change Calls Tryd.prog 90 _ _ (fun e w' => e = .returned (.string ⟨(Lib.trimS s.data.toList cutset).toArray⟩) ∧ Below w.heap.size w w') at hcon
    have e4 : (Lib.trimS s.data.toList cutset = []) ↔ nm s = true := by
      unfold nm
      rw [decide_eq_true_iff]
      exact ⟨fun h => ⟨h0, h1, h⟩, fun h => h.2.2⟩
    have e5 : (⟨(Lib.trimS s.data.toList cutset).toArray⟩ : ByteArray).toList.isEmpty = nm s := by
      rw [Bool.eq_iff_iff, ← e4, ByteArray.toList_eq]
      exact List.isEmpty_iff
    generalize (⟨(Lib.trimS s.data.toList cutset).toArray⟩ : ByteArray) = r at hcon e5
    clear e4 h0 h1
    generalize nm s = q at e5 ⊢
    go_wp2_with (go_at_call 90; go_must (refine hcon.mono ?_); rintro e w' ⟨rfl, hB⟩)
    go_ret
    exact ⟨rfl, hB⟩
  · have e3 : decide ((s.size : Int) ≤ 32) = false := by simp; omega
    have e1 : nm s = false := by simp [nm, h1]
    rw [e1]
    clear e1 h0 h1
    go_wp2
    go_ret
    exact ⟨rfl, Below.refl _ _⟩
end Go.Proofs.YtndicjikjcifaaaDoor
/- tx.key, tx.keys: what a key is; what is wrong with a row of keys. -/
namespace Go.Proofs
open Go.Shelf
end Go.Proofs
namespace Go.Proofs.YtndicjikjcifaaaDoor
open Go.RowKit Go.Shelf Go.Lib Go.Proofs.YtndicjikjcifaaaDoorW.PrintWords Go.Proofs.YtndicjikjcifaaaDoorW.PrintLast
set_option linter.unusedVariables false
set_option linter.unusedSimpArgs false
theorem hasPrefix_calls (s p : ByteArray) (w : World) :
    Calls Tryd.prog 110 #[.string s, .string p] w fun e w' => e = .returned (.bool (Lib.hasPrefix s.data.toList p.data.toList)) ∧ w' = w := by
  have hcon := Any.stringslite_HasPrefix Tryd.lays206 s p w
  change Calls Tryd.prog 132 _ _ _ at hcon
  generalize Lib.hasPrefix s.data.toList p.data.toList = r at hcon ⊢
  go_enter Tryd.func110, Tryd.ntmps110
  go_wp2_with (go_at_call 132; go_must (refine hcon.mono ?_); rintro e w' ⟨rfl, rfl⟩)
  go_ret
  exact ⟨rfl, rfl⟩
def ky (s : ByteArray) : Bool := decide (2 < s.size) && (Lib.hasPrefix s.data.toList [97, 58] || Lib.hasPrefix s.data.toList [107, 58]) && nm (s.extract 2 s.size)
set_option maxHeartbeats 4000000 in
theorem key_calls (s : ByteArray) (w : World) :
    Calls Tryd.prog 91 #[.string s] w fun e w' => e = .returned (.bool (ky s)) ∧ Below w.heap.size w w' := by
  have hA := hasPrefix_calls s ⟨#[97, 58]⟩ w
  have hK := hasPrefix_calls s ⟨#[107, 58]⟩ w
  have hN := name_calls (s.extract 2 s.size) w
  have E : ky s = (decide (2 < s.size) && (Lib.hasPrefix s.data.toList [97, 58] || Lib.hasPrefix s.data.toList [107, 58]) && nm (s.extract 2 s.size)) := rfl
  change Calls _ _ _ _ (fun e w' => e = .returned (.bool (Lib.hasPrefix s.data.toList [97, 58])) ∧ w' = w) at hA
  change Calls _ _ _ _ (fun e w' => e = .returned (.bool (Lib.hasPrefix s.data.toList [107, 58])) ∧ w' = w) at hK
  generalize Lib.hasPrefix s.data.toList [97, 58] = pa at hA E
  generalize Lib.hasPrefix s.data.toList [107, 58] = pk at hK E
  generalize nm (s.extract 2 s.size) = pn at hN E
  rw [E]
  clear E
  go_enter Tryd.func91, Tryd.ntmps91
  by_cases h0 : 2 < s.size
  · have e1 : decide ((2 : Int) < (s.size : Int)) = true := by simp; omega
    have e2 : (2 : Int) ≤ s.size := by omega
    rw [decide_eq_true h0]
    cases pa <;> cases pk <;> simp only [Bool.true_and, Bool.or_true, Bool.or_false, Bool.true_or, Bool.false_or, Bool.false_and]
    all_goals
      go_wp2_with (first | (go_at_call 110; (first | with_reducible refine hA.mono ?_ | with_reducible refine hK.mono ?_); rintro e w' ⟨rfl, rfl⟩) | (go_at_call 71; go_must (refine hN.mono ?_); rintro e w' ⟨rfl, hB⟩))
      go_ret
      first | exact ⟨rfl, hB⟩ | exact ⟨rfl, Below.refl _ _⟩
  · have e1 : decide ((2 : Int) < (s.size : Int)) = false := by simp; omega
    rw [decide_eq_false h0]
    clear h0
    go_wp2
    go_ret
    exact ⟨rfl, Below.refl _ _⟩
def lts (a b : ByteArray) : Bool := Op.bytesLess a.toList b.toList
def keL : Option ByteArray → List ByteArray → Int
  | _, [] => 0
  | p, s :: r => if ky s = false then 3 else if (match p with | none => true | some q => lts q s) = false then 9 else keL (some s) r
def ke (xs : List ByteArray) : Int := if xs.length ≤ 8 then keL none xs else 8
def prv (xs : List ByteArray) : Nat → Option ByteArray
  | 0 => none
  | j + 1 => some (rdOf ByteArray.empty xs (j : Int))
theorem rdOf_nat (xs : List ByteArray) (j : Nat) (hj : j < xs.length) : xs.drop j = rdOf ByteArray.empty xs (j : Int) :: xs.drop (j + 1) := by
  rw [List.drop_eq_getElem_cons hj]
  congr 1
  simp [rdOf, hj]
set_option maxHeartbeats 8000000 in
set_option maxRecDepth 100000 in
theorem keys_calls (A : Option Addr) (c : Nat) (xs : List ByteArray) (w : World) (hr : Kd.C Kd.string w A xs.length xs) (hc : xs.length ≤ c) :
    Calls Tryd.prog 72 #[.slice A xs.length c] w fun e w' => e = okOr (ke xs) ∧ Below w.heap.size w w' := by
  by_cases h8 : xs.length ≤ 8
  · have hE : keL none xs = ke xs := by rw [ke, if_pos h8]
    generalize ke xs = E at hE ⊢
    have e1 : decide ((xs.length : Int) ≤ 8) = true := by simp; omega
    have HR := Lib.hid hr
    clear hr
    go_enter Tryd.func72, Tryd.ntmps72
    go_wp2_with (first | (go_at_call 55; go_must (refine (check_ok _ _).mono ?_); rintro e w' ⟨rfl, hw⟩; have hw := hw.symm; subst hw))
    go_loopg [10] xs.length (fun q v10 wr => ∃ j : Nat, v10 = .int .i64 j ∧ j ≤ xs.length ∧ q + j = xs.length ∧ Hid (Below w.heap.size w wr) ∧ Hid (keL (prv xs j) (xs.drop j) = E))
    case atStart => exact ⟨0, rfl, by omega, by omega, Below.refl _ _, hE⟩
    case round =>
      obtain ⟨j, rfl, hj, hq, HB, HE⟩ := hrel
      rcases Nat.eq_or_lt_of_le hj with hj | hj
      · have e2 : decide ((j : Int) < (xs.length : Int)) = false := by simp; omega
        have hE : E = 0 := by rw [← HE, hj, List.drop_length]; rfl
        clear HE
        subst hE
        go_wp2
        go_end0
        exact ⟨rfl, HB⟩
      · have e2 : decide ((j : Int) < (xs.length : Int)) = true := by simp; omega
        have p1 := eq_true (show 0 ≤ (j : Int) by omega)
        have q1 := eq_true (show (j : Int) < (xs.length : Int) by omega)
        obtain ⟨ad, rfl, hx⟩ := Kd.at_string HR j (by omega) (by omega)
        have hx : wr.cell? (ad.add j) = some (.string (rdOf ByteArray.empty xs (j : Int))) := (HB.out.cell (World.block_lt_of_cell? w _ hx)).trans hx
        rw [rdOf_nat xs j hj] at HE
        generalize hs : rdOf ByteArray.empty xs (j : Int) = s at hx HE
        have hy := key_calls s wr
        cases hk : ky s with
        | false =>
          have hE : E = 3 := by have := HE; simp [keL, hk] at this; exact this.symm
          subst hE
          rw [hk] at hy
          clear HE
          go_wp2_with (first | (go_at_call 91; go_must (refine hy.mono ?_); rintro e w' ⟨rfl, hB⟩) | (go_at_call 55; go_must (refine (check_no _ _).mono ?_); rintro e w'' ⟨rfl, hw⟩; have hw := hw.symm; subst hw))
          exact ⟨rfl, rfl, below_then HB.out HB.out.size hB⟩
        | true =>
          rw [hk] at hy
          by_cases hj0 : j = 0
          · have d3 : ((j : Int) == 0) = true := by simp; omega
            have HE : Hid (keL (some s) (xs.drop (j + 1)) = E) := by have := HE; subst hj0; simpa [keL, hk, prv] using this
            clear hj0
            go_wp2_with (first | (go_at_call 91; go_must (refine hy.mono ?_); rintro e w2 ⟨rfl, hB⟩; have HB2 := Lib.hid (below_then HB.out HB.out.size hB); clear hB) | (go_at_call 55; go_must (refine (check_ok _ _).mono ?_); rintro e w'' ⟨rfl, hw⟩; have hw := hw.symm; subst hw))
            go_roundg (xs.length - (j + 1))
            case measure => omega
            case rel => exact ⟨j + 1, rfl, by omega, by omega, HB2, by rw [prv, hs]; exact HE⟩
          · obtain ⟨m, hm⟩ : ∃ m, j = m + 1 := ⟨j - 1, by omega⟩
            have d3 : ((j : Int) == 0) = false := by simp; omega
            obtain ⟨ad2, e2', hx2⟩ := Kd.at_string HR.out (m : Int) (by omega) (by omega)
            cases e2'
            have hx2 : w.cell? (ad.add m) = some (.string (rdOf ByteArray.empty xs (m : Int))) := hx2
            have hlt2 := World.block_lt_of_cell? w _ hx2
            have p2 := eq_true (show 0 ≤ (m : Int) by omega)
            have q2 := eq_true (show (m : Int) < (xs.length : Int) by omega)
            generalize hs2 : rdOf ByteArray.empty xs (m : Int) = s2 at hx2
            have hz : IntKind.i64.wrap ((j : Int) - 1) = (m : Int) := by rw [IntKind.wrap_i64]; omega
            cases hl : lts s2 s with
            | true =>
              have HE : Hid (keL (some s) (xs.drop (j + 1)) = E) := by have := HE; subst hm; simpa [keL, hk, prv, hs2, hl] using this
              have hl' : Op.bytesLess s2.toList s.toList = true := hl
              clear hj0 hm
              go_wp2_with (first | (go_at_call 91; go_must (refine hy.mono ?_); rintro e w2 ⟨rfl, hB⟩; have HB2 := Lib.hid (below_then HB.out HB.out.size hB); clear hB; have hx3 := (HB2.out.cell hlt2).trans hx2) | (go_at_call 55; go_must (refine (check_ok _ _).mono ?_); rintro e w'' ⟨rfl, hw⟩; have hw := hw.symm; subst hw))
              go_roundg (xs.length - (j + 1))
              case measure => omega
              case rel => exact ⟨j + 1, rfl, by omega, by omega, HB2, by rw [prv, hs]; exact HE⟩
            | false =>
              have hE : E = 9 := by have := HE; subst hm; simp [keL, hk, prv, hs2, hl] at this; exact this.symm
              subst hE
              have hl' : Op.bytesLess s2.toList s.toList = false := hl
              clear HE hj0 hm
              go_wp2_with (first | (go_at_call 91; go_must (refine hy.mono ?_); rintro e w2 ⟨rfl, hB⟩; have HB2 := Lib.hid (below_then HB.out HB.out.size hB); clear hB; have hx3 := (HB2.out.cell hlt2).trans hx2) | (go_at_call 55; first | (with_reducible refine (check_ok _ _).mono ?_; rintro e w'' ⟨rfl, hw⟩; have hw := hw.symm; subst hw) | (with_reducible refine (check_no _ _).mono ?_; rintro e w'' ⟨rfl, hw⟩; have hw := hw.symm; subst hw)))
              exact ⟨rfl, rfl, HB2⟩
  · have hE : ke xs = 8 := by rw [ke, if_neg h8]
    have e1 : decide ((xs.length : Int) ≤ 8) = false := by simp; omega
    rw [hE]
    go_enter Tryd.func72, Tryd.ntmps72
    go_wp2_with (first | (go_at_call 55; go_must (refine (check_no _ _).mono ?_); rintro e w' ⟨rfl, hw⟩; have hw := hw.symm; subst hw))
    exact ⟨rfl, rfl, Below.refl _ _⟩
end Go.Proofs.YtndicjikjcifaaaDoor
/- tx.Check: what is wrong with a transaction. -/
namespace Go.Proofs.YtndicjikjcifaaaDoor
open Go.RowKit Go.Shelf Go.Lib Go.Proofs.YtndicjikjcifaaaDoorW.PrintWords Go.Proofs.YtndicjikjcifaaaDoorW.PrintLast
set_option linter.unusedVariables false
set_option linter.unusedSimpArgs false
def chF (k : Int) (f t ky' vl : ByteArray) (am : Int) : Int :=
  if k = 1 then (if (nm f && nm t && ky'.toList.isEmpty && vl.toList.isEmpty) = true then 0 else 3)
  else if k = 2 then (if (nm f && nm ky' && decide (vl.size ≤ 64) && t.toList.isEmpty && decide (am = 0)) = true then 0 else 3)
  else 5
def chR (am nc : Int) (rs ws : List ByteArray) : Int :=
  if am ≤ 4611686018427387903 ∧ nc ≤ 4611686018427387903 then (if ke rs = 0 then ke ws else ke rs) else 2
def ch (k : Int) (f t : ByteArray) (am nc : Int) (ky' vl : ByteArray) (rs ws : List ByteArray) : Int :=
  if chF k f t ky' vl am = 0 then chR am nc rs ws else chF k f t ky' vl am
theorem keys_ok (A : Option Addr) (c : Nat) (xs : List ByteArray) (w : World) (h0 : ke xs = 0) (hr : Kd.C Kd.string w A xs.length xs) (hc : xs.length ≤ c) :
    Calls Tryd.prog 72 #[.slice A xs.length c] w fun e w' => e = .returned (.tuple #[]) ∧ Below w.heap.size w w' := by
  have := keys_calls A c xs w hr hc
  rw [okOr, if_pos h0] at this
  exact this
theorem keys_no (A : Option Addr) (c : Nat) (xs : List ByteArray) (w : World) (h0 : ke xs ≠ 0) (hr : Kd.C Kd.string w A xs.length xs) (hc : xs.length ≤ c) :
    Calls Tryd.prog 72 #[.slice A xs.length c] w fun e w' => e = .panicked [{ v := .iface 24 (.int .i64 (ke xs)), recovered := false }] ∧ Below w.heap.size w w' := by
  have := keys_calls A c xs w hr hc
  rw [okOr, if_neg h0] at this
  exact this
structure Bx (w : World) (bs : Array Value) (W : World) : Prop where
  low : Below w.heap.size w W
  box : W.heap[w.heap.size]? = some (.cells bs 33 (0, 0))
  res : W.heap[w.heap.size + 1]? = some (.cells #[.int .i64 0] 24 (0, 0))
theorem Bx.size {w W : World} {bs : Array Value} (h : Bx w bs W) : w.heap.size + 1 < W.heap.size := by
  have := h.res
  rcases Nat.lt_or_ge (w.heap.size + 1) W.heap.size with h | h
  · exact h
  · rw [Array.getElem?_eq_none h] at this; cases this
theorem Bx.step {w W W' : World} {bs : Array Value} (h : Bx w bs W) (hb : Below W.heap.size W W') : Bx w bs W' :=
  ⟨below_then h.low h.low.size hb, (hb.block _ (by have := h.size; omega)).trans h.box, (hb.block _ h.size).trans h.res⟩
theorem Bx.first (w : World) (bs : Array Value) : Bx w bs ((w.alloc (.cells bs 33)).alloc (.cells #[.int .i64 0] 24)) :=
  ⟨((Below.refl _ w).alloc (Nat.le_refl _) _).alloc (by simp) _, blk_alloc (blk_new _ _) _, blk_newAt _ _ (by simp)⟩
theorem Bx.resr {w W : World} {bs : Array Value} (h : Bx w bs W) (v : Value) : (W.setCell ⟨w.heap.size + 1, 0, none⟩ v).cell? ⟨w.heap.size + 1, 0, none⟩ = some v := by
  have := blk_cell (blk_set h.res 0 v) 0
  simpa using this
theorem Bx.setr {w W : World} {bs : Array Value} (h : Bx w bs W) (v : Value) : Below w.heap.size w (W.setCell ⟨w.heap.size + 1, 0, none⟩ v) :=
  h.low.setCell (by simp) v
set_option maxHeartbeats 8000000 in
set_option maxRecDepth 100000 in
theorem chk_calls (k : Int) (f t : ByteArray) (am nc : Int) (ky' vl : ByteArray) (A B : Option Addr) (c d : Nat) (rs ws : List ByteArray) (w : World)
    (hr : Kd.C Kd.string w A rs.length rs) (hc : rs.length ≤ c) (hs : Kd.C Kd.string w B ws.length ws) (hd : ws.length ≤ d) :
    Calls Tryd.prog 41 #[.agg #[.int .i64 k, .string f, .string t, .int .u64 am, .int .u64 nc, .string ky', .string vl, .slice A rs.length c, .slice B ws.length d]] w
      fun e w' => e = .returned (.int .i64 (ch k f t am nc ky' vl rs ws)) ∧ Below w.heap.size w w' := by
  have HR := Lib.hid hr
  have HC := Lib.hid hc
  have HS := Lib.hid hs
  have HD := Lib.hid hd
  clear hr hc hs hd
  go_enter_defers Tryd.func41, Tryd.ntmps41
  by_cases h5 : chF k f t ky' vl am = 5
  · have hE : ch k f t am nc ky' vl rs ws = 5 := by rw [ch, h5]; rfl
    have e1 : (k == 1) = false := by
      cases h : (k == 1)
      · rfl
      · simp at h; subst h; simp [chF] at h5; split at h5 <;> cases h5
    have e2 : (k == 2) = false := by
      cases h : (k == 2)
      · rfl
      · simp at h; subst h; simp [chF] at h5; split at h5 <;> cases h5
    rw [hE]
    clear hE h5
    go_wp2
    refine leaves_cons (f := 51) (args := #[.pointer (some ⟨w.heap.size + 1, 0, none⟩)]) (by simp) (by simp [go_sem]) ?_
    refine (caught_idle ⟨w.heap.size + 1, 0, none⟩ _).mono ?_
    rintro e u' w'' ⟨rfl, rfl, rfl⟩
    simp [Leaves, settle, results, Tryd.results41, go_sem]
    exact ((Below.refl _ w).alloc (Nat.le_refl _) _).alloc (by simp) _
  have HX := Lib.hid (Bx.first w #[.int .i64 k, .string f, .string t, .int .u64 am, .int .u64 nc, .string ky', .string vl, .slice A rs.length c, .slice B ws.length d])
  have hnil : ∀ s : ByteArray, s.toList.isEmpty = true ∨ s.toList.isEmpty = false := fun s => by cases s.toList.isEmpty <;> simp
  rcases (show k = 1 ∨ k = 2 by
    by_cases h1 : k = 1
    · exact .inl h1
    · by_cases h2 : k = 2
      · exact .inr h2
      · exact absurd (by simp [chF, h1, h2]) h5) with rfl | rfl
  · clear h5
    cases h1 : nm f with
    | false =>
      have hE : ch 1 f t am nc ky' vl rs ws = 3 := by simp [ch, chF, h1]
      rw [hE]
      clear hE hnil
      go_wp2_with (first
        | (go_at_call 71
           go_must (refine (name_calls _ _).mono ?_)
           rintro e w2 ⟨rfl, hB⟩
           have HX := Lib.hid (HX.out.step hB)
           clear hB
           have c1 : w2.cell? ⟨w.heap.size, 1, none⟩ = some (.string f) := blk_cell HX.out.box 1
           have c2 : w2.cell? ⟨w.heap.size, 2, none⟩ = some (.string t) := blk_cell HX.out.box 2
           have c3 : w2.cell? ⟨w.heap.size, 3, none⟩ = some (.int .u64 am) := blk_cell HX.out.box 3
           have c4 : w2.cell? ⟨w.heap.size, 4, none⟩ = some (.int .u64 nc) := blk_cell HX.out.box 4
           have c5 : w2.cell? ⟨w.heap.size, 5, none⟩ = some (.string ky') := blk_cell HX.out.box 5
           have c6 : w2.cell? ⟨w.heap.size, 6, none⟩ = some (.string vl) := blk_cell HX.out.box 6
           have c7 : w2.cell? ⟨w.heap.size, 7, none⟩ = some (.slice A rs.length c) := blk_cell HX.out.box 7
           have c8 : w2.cell? ⟨w.heap.size, 8, none⟩ = some (.slice B ws.length d) := blk_cell HX.out.box 8
           have r0 : w2.cell? ⟨w.heap.size + 1, 0, none⟩ = some (.int .i64 0) := blk_cell HX.out.res 0
           have z0 := blk_frozen HX.out.res 0
           skip)
        | (go_at_call 55; first | (with_reducible refine (check_ok _ _).mono ?_; rintro e w'' ⟨rfl, hw⟩; have hw := hw.symm; subst hw) | (with_reducible refine (check_no _ _).mono ?_; rintro e w'' ⟨rfl, hw⟩; have hw := hw.symm; subst hw))
        | (go_at_call 72
           first
             | (with_reducible refine (keys_ok A c rs _ k1.out (Kd.C_below HR.out HX.out.low) HC.out).mono ?_)
             | (with_reducible refine (keys_no A c rs _ k1.out (Kd.C_below HR.out HX.out.low) HC.out).mono ?_)
             | (with_reducible refine (keys_ok B d ws _ k2.out (Kd.C_below HS.out HX.out.low) HD.out).mono ?_)
             | (with_reducible refine (keys_no B d ws _ k2.out (Kd.C_below HS.out HX.out.low) HD.out).mono ?_)
           rintro e w2 ⟨rfl, hB⟩
           have HX := Lib.hid (HX.out.step hB)
           clear hB
           have c1 : w2.cell? ⟨w.heap.size, 1, none⟩ = some (.string f) := blk_cell HX.out.box 1
           have c2 : w2.cell? ⟨w.heap.size, 2, none⟩ = some (.string t) := blk_cell HX.out.box 2
           have c3 : w2.cell? ⟨w.heap.size, 3, none⟩ = some (.int .u64 am) := blk_cell HX.out.box 3
           have c4 : w2.cell? ⟨w.heap.size, 4, none⟩ = some (.int .u64 nc) := blk_cell HX.out.box 4
           have c5 : w2.cell? ⟨w.heap.size, 5, none⟩ = some (.string ky') := blk_cell HX.out.box 5
           have c6 : w2.cell? ⟨w.heap.size, 6, none⟩ = some (.string vl) := blk_cell HX.out.box 6
           have c7 : w2.cell? ⟨w.heap.size, 7, none⟩ = some (.slice A rs.length c) := blk_cell HX.out.box 7
           have c8 : w2.cell? ⟨w.heap.size, 8, none⟩ = some (.slice B ws.length d) := blk_cell HX.out.box 8
           have r0 : w2.cell? ⟨w.heap.size + 1, 0, none⟩ = some (.int .i64 0) := blk_cell HX.out.res 0
           have z0 := blk_frozen HX.out.res 0
           skip))
      refine leaves_cons (f := 51) (args := #[.pointer (some ⟨w.heap.size + 1, 0, none⟩)]) (by simp) (by simp [go_sem]) ?_
      refine (caught_panicking ⟨w.heap.size + 1, 0, none⟩ 0 3 [] _ (blk_cell HX.out.res 0) (blk_frozen HX.out.res 0)).mono ?_
      rintro e u' w'' ⟨rfl, rfl, rfl⟩
      have hq := HX.out.resr (.int .i64 3)
      simp [Leaves, settle, results, Tryd.results41, go_sem, hq]
      exact HX.out.setr _
    | true =>
      cases h2 : nm t with
      | false =>
        have hE : ch 1 f t am nc ky' vl rs ws = 3 := by simp [ch, chF, h1, h2]
        rw [hE]
        clear hE hnil
        go_wp2_with (first
          | (go_at_call 71
             go_must (refine (name_calls _ _).mono ?_)
             rintro e w2 ⟨rfl, hB⟩
             have HX := Lib.hid (HX.out.step hB)
             clear hB
             have c1 : w2.cell? ⟨w.heap.size, 1, none⟩ = some (.string f) := blk_cell HX.out.box 1
             have c2 : w2.cell? ⟨w.heap.size, 2, none⟩ = some (.string t) := blk_cell HX.out.box 2
             have c3 : w2.cell? ⟨w.heap.size, 3, none⟩ = some (.int .u64 am) := blk_cell HX.out.box 3
             have c4 : w2.cell? ⟨w.heap.size, 4, none⟩ = some (.int .u64 nc) := blk_cell HX.out.box 4
             have c5 : w2.cell? ⟨w.heap.size, 5, none⟩ = some (.string ky') := blk_cell HX.out.box 5
             have c6 : w2.cell? ⟨w.heap.size, 6, none⟩ = some (.string vl) := blk_cell HX.out.box 6
             have c7 : w2.cell? ⟨w.heap.size, 7, none⟩ = some (.slice A rs.length c) := blk_cell HX.out.box 7
             have c8 : w2.cell? ⟨w.heap.size, 8, none⟩ = some (.slice B ws.length d) := blk_cell HX.out.box 8
             have r0 : w2.cell? ⟨w.heap.size + 1, 0, none⟩ = some (.int .i64 0) := blk_cell HX.out.res 0
             have z0 := blk_frozen HX.out.res 0
             skip)
          | (go_at_call 55; first | (with_reducible refine (check_ok _ _).mono ?_; rintro e w'' ⟨rfl, hw⟩; have hw := hw.symm; subst hw) | (with_reducible refine (check_no _ _).mono ?_; rintro e w'' ⟨rfl, hw⟩; have hw := hw.symm; subst hw))
          | (go_at_call 72
             first
               | (with_reducible refine (keys_ok A c rs _ k1.out (Kd.C_below HR.out HX.out.low) HC.out).mono ?_)
               | (with_reducible refine (keys_no A c rs _ k1.out (Kd.C_below HR.out HX.out.low) HC.out).mono ?_)
               | (with_reducible refine (keys_ok B d ws _ k2.out (Kd.C_below HS.out HX.out.low) HD.out).mono ?_)
               | (with_reducible refine (keys_no B d ws _ k2.out (Kd.C_below HS.out HX.out.low) HD.out).mono ?_)
             rintro e w2 ⟨rfl, hB⟩
             have HX := Lib.hid (HX.out.step hB)
             clear hB
             have c1 : w2.cell? ⟨w.heap.size, 1, none⟩ = some (.string f) := blk_cell HX.out.box 1
             have c2 : w2.cell? ⟨w.heap.size, 2, none⟩ = some (.string t) := blk_cell HX.out.box 2
             have c3 : w2.cell? ⟨w.heap.size, 3, none⟩ = some (.int .u64 am) := blk_cell HX.out.box 3
             have c4 : w2.cell? ⟨w.heap.size, 4, none⟩ = some (.int .u64 nc) := blk_cell HX.out.box 4
             have c5 : w2.cell? ⟨w.heap.size, 5, none⟩ = some (.string ky') := blk_cell HX.out.box 5
             have c6 : w2.cell? ⟨w.heap.size, 6, none⟩ = some (.string vl) := blk_cell HX.out.box 6
             have c7 : w2.cell? ⟨w.heap.size, 7, none⟩ = some (.slice A rs.length c) := blk_cell HX.out.box 7
             have c8 : w2.cell? ⟨w.heap.size, 8, none⟩ = some (.slice B ws.length d) := blk_cell HX.out.box 8
             have r0 : w2.cell? ⟨w.heap.size + 1, 0, none⟩ = some (.int .i64 0) := blk_cell HX.out.res 0
             have z0 := blk_frozen HX.out.res 0
             skip))
        refine leaves_cons (f := 51) (args := #[.pointer (some ⟨w.heap.size + 1, 0, none⟩)]) (by simp) (by simp [go_sem]) ?_
        refine (caught_panicking ⟨w.heap.size + 1, 0, none⟩ 0 3 [] _ (blk_cell HX.out.res 0) (blk_frozen HX.out.res 0)).mono ?_
        rintro e u' w'' ⟨rfl, rfl, rfl⟩
        have hq := HX.out.resr (.int .i64 3)
        simp [Leaves, settle, results, Tryd.results41, go_sem, hq]
        exact HX.out.setr _
      | true =>
        rcases hnil ky' with h3 | h3
        · rcases hnil vl with h4 | h4
          ·
            by_cases a1 : am ≤ 4611686018427387903
            · have d1 : decide (am ≤ 4611686018427387903) = true := by simp; omega
              by_cases a2 : nc ≤ 4611686018427387903
              · have d2 : decide (nc ≤ 4611686018427387903) = true := by simp; omega
                by_cases k1 : ke rs = 0
                · by_cases k2 : ke ws = 0
                  · have hE : ch 1 f t am nc ky' vl rs ws = 0 := by simp [ch, chF, chR, h1, h2, h3, h4, a1, a2, k1, k2]
                    rw [hE]
                    have k1 := Lib.hid k1
                    have k2 := Lib.hid k2
                    clear hE hnil a1 a2
                    go_wp2_with (first
                      | (go_at_call 71
                         go_must (refine (name_calls _ _).mono ?_)
                         rintro e w2 ⟨rfl, hB⟩
                         have HX := Lib.hid (HX.out.step hB)
                         clear hB
                         have c1 : w2.cell? ⟨w.heap.size, 1, none⟩ = some (.string f) := blk_cell HX.out.box 1
                         have c2 : w2.cell? ⟨w.heap.size, 2, none⟩ = some (.string t) := blk_cell HX.out.box 2
                         have c3 : w2.cell? ⟨w.heap.size, 3, none⟩ = some (.int .u64 am) := blk_cell HX.out.box 3
                         have c4 : w2.cell? ⟨w.heap.size, 4, none⟩ = some (.int .u64 nc) := blk_cell HX.out.box 4
                         have c5 : w2.cell? ⟨w.heap.size, 5, none⟩ = some (.string ky') := blk_cell HX.out.box 5
                         have c6 : w2.cell? ⟨w.heap.size, 6, none⟩ = some (.string vl) := blk_cell HX.out.box 6
                         have c7 : w2.cell? ⟨w.heap.size, 7, none⟩ = some (.slice A rs.length c) := blk_cell HX.out.box 7
                         have c8 : w2.cell? ⟨w.heap.size, 8, none⟩ = some (.slice B ws.length d) := blk_cell HX.out.box 8
                         have r0 : w2.cell? ⟨w.heap.size + 1, 0, none⟩ = some (.int .i64 0) := blk_cell HX.out.res 0
                         have z0 := blk_frozen HX.out.res 0
                         skip)
                      | (go_at_call 55; first | (with_reducible refine (check_ok _ _).mono ?_; rintro e w'' ⟨rfl, hw⟩; have hw := hw.symm; subst hw) | (with_reducible refine (check_no _ _).mono ?_; rintro e w'' ⟨rfl, hw⟩; have hw := hw.symm; subst hw))
                      | (go_at_call 72
                         first
                           | (with_reducible refine (keys_ok A c rs _ k1.out (Kd.C_below HR.out HX.out.low) HC.out).mono ?_)
                           | (with_reducible refine (keys_no A c rs _ k1.out (Kd.C_below HR.out HX.out.low) HC.out).mono ?_)
                           | (with_reducible refine (keys_ok B d ws _ k2.out (Kd.C_below HS.out HX.out.low) HD.out).mono ?_)
                           | (with_reducible refine (keys_no B d ws _ k2.out (Kd.C_below HS.out HX.out.low) HD.out).mono ?_)
                         rintro e w2 ⟨rfl, hB⟩
                         have HX := Lib.hid (HX.out.step hB)
                         clear hB
                         have c1 : w2.cell? ⟨w.heap.size, 1, none⟩ = some (.string f) := blk_cell HX.out.box 1
                         have c2 : w2.cell? ⟨w.heap.size, 2, none⟩ = some (.string t) := blk_cell HX.out.box 2
                         have c3 : w2.cell? ⟨w.heap.size, 3, none⟩ = some (.int .u64 am) := blk_cell HX.out.box 3
                         have c4 : w2.cell? ⟨w.heap.size, 4, none⟩ = some (.int .u64 nc) := blk_cell HX.out.box 4
                         have c5 : w2.cell? ⟨w.heap.size, 5, none⟩ = some (.string ky') := blk_cell HX.out.box 5
                         have c6 : w2.cell? ⟨w.heap.size, 6, none⟩ = some (.string vl) := blk_cell HX.out.box 6
                         have c7 : w2.cell? ⟨w.heap.size, 7, none⟩ = some (.slice A rs.length c) := blk_cell HX.out.box 7
                         have c8 : w2.cell? ⟨w.heap.size, 8, none⟩ = some (.slice B ws.length d) := blk_cell HX.out.box 8
                         have r0 : w2.cell? ⟨w.heap.size + 1, 0, none⟩ = some (.int .i64 0) := blk_cell HX.out.res 0
                         have z0 := blk_frozen HX.out.res 0
                         skip))
                    refine leaves_cons (f := 51) (args := #[.pointer (some ⟨w.heap.size + 1, 0, none⟩)]) (by simp) (by simp [go_sem]) ?_
                    refine (caught_idle ⟨w.heap.size + 1, 0, none⟩ _).mono ?_
                    rintro e u' w'' ⟨rfl, rfl, rfl⟩
                    have hq := HX.out.resr (.int .i64 0)
                    simp [Leaves, settle, results, Tryd.results41, go_sem, hq]
                    exact HX.out.setr _
                  · have hE : ch 1 f t am nc ky' vl rs ws = ke ws := by simp [ch, chF, chR, h1, h2, h3, h4, a1, a2, k1]
                    rw [hE]
                    have k1 := Lib.hid k1
                    have k2 := Lib.hid k2
                    clear hE hnil a1 a2
                    go_wp2_with (first
                      | (go_at_call 71
                         go_must (refine (name_calls _ _).mono ?_)
                         rintro e w2 ⟨rfl, hB⟩
                         have HX := Lib.hid (HX.out.step hB)
                         clear hB
                         have c1 : w2.cell? ⟨w.heap.size, 1, none⟩ = some (.string f) := blk_cell HX.out.box 1
                         have c2 : w2.cell? ⟨w.heap.size, 2, none⟩ = some (.string t) := blk_cell HX.out.box 2
                         have c3 : w2.cell? ⟨w.heap.size, 3, none⟩ = some (.int .u64 am) := blk_cell HX.out.box 3
                         have c4 : w2.cell? ⟨w.heap.size, 4, none⟩ = some (.int .u64 nc) := blk_cell HX.out.box 4
                         have c5 : w2.cell? ⟨w.heap.size, 5, none⟩ = some (.string ky') := blk_cell HX.out.box 5
                         have c6 : w2.cell? ⟨w.heap.size, 6, none⟩ = some (.string vl) := blk_cell HX.out.box 6
                         have c7 : w2.cell? ⟨w.heap.size, 7, none⟩ = some (.slice A rs.length c) := blk_cell HX.out.box 7
                         have c8 : w2.cell? ⟨w.heap.size, 8, none⟩ = some (.slice B ws.length d) := blk_cell HX.out.box 8
                         have r0 : w2.cell? ⟨w.heap.size + 1, 0, none⟩ = some (.int .i64 0) := blk_cell HX.out.res 0
                         have z0 := blk_frozen HX.out.res 0
                         skip)
                      | (go_at_call 55; first | (with_reducible refine (check_ok _ _).mono ?_; rintro e w'' ⟨rfl, hw⟩; have hw := hw.symm; subst hw) | (with_reducible refine (check_no _ _).mono ?_; rintro e w'' ⟨rfl, hw⟩; have hw := hw.symm; subst hw))
                      | (go_at_call 72
                         first
                           | (with_reducible refine (keys_ok A c rs _ k1.out (Kd.C_below HR.out HX.out.low) HC.out).mono ?_)
                           | (with_reducible refine (keys_no A c rs _ k1.out (Kd.C_below HR.out HX.out.low) HC.out).mono ?_)
                           | (with_reducible refine (keys_ok B d ws _ k2.out (Kd.C_below HS.out HX.out.low) HD.out).mono ?_)
                           | (with_reducible refine (keys_no B d ws _ k2.out (Kd.C_below HS.out HX.out.low) HD.out).mono ?_)
                         rintro e w2 ⟨rfl, hB⟩
                         have HX := Lib.hid (HX.out.step hB)
                         clear hB
                         have c1 : w2.cell? ⟨w.heap.size, 1, none⟩ = some (.string f) := blk_cell HX.out.box 1
                         have c2 : w2.cell? ⟨w.heap.size, 2, none⟩ = some (.string t) := blk_cell HX.out.box 2
                         have c3 : w2.cell? ⟨w.heap.size, 3, none⟩ = some (.int .u64 am) := blk_cell HX.out.box 3
                         have c4 : w2.cell? ⟨w.heap.size, 4, none⟩ = some (.int .u64 nc) := blk_cell HX.out.box 4
                         have c5 : w2.cell? ⟨w.heap.size, 5, none⟩ = some (.string ky') := blk_cell HX.out.box 5
                         have c6 : w2.cell? ⟨w.heap.size, 6, none⟩ = some (.string vl) := blk_cell HX.out.box 6
                         have c7 : w2.cell? ⟨w.heap.size, 7, none⟩ = some (.slice A rs.length c) := blk_cell HX.out.box 7
                         have c8 : w2.cell? ⟨w.heap.size, 8, none⟩ = some (.slice B ws.length d) := blk_cell HX.out.box 8
                         have r0 : w2.cell? ⟨w.heap.size + 1, 0, none⟩ = some (.int .i64 0) := blk_cell HX.out.res 0
                         have z0 := blk_frozen HX.out.res 0
                         skip))
                    refine leaves_cons (f := 51) (args := #[.pointer (some ⟨w.heap.size + 1, 0, none⟩)]) (by simp) (by simp [go_sem]) ?_
                    refine (caught_panicking ⟨w.heap.size + 1, 0, none⟩ 0 (ke ws) [] _ (blk_cell HX.out.res 0) (blk_frozen HX.out.res 0)).mono ?_
                    rintro e u' w'' ⟨rfl, rfl, rfl⟩
                    have hq := HX.out.resr (.int .i64 (ke ws))
                    simp [Leaves, settle, results, Tryd.results41, go_sem, hq]
                    exact HX.out.setr _
                · have hE : ch 1 f t am nc ky' vl rs ws = ke rs := by simp [ch, chF, chR, h1, h2, h3, h4, a1, a2, k1]
                  rw [hE]
                  have k1 := Lib.hid k1
                  clear hE hnil a1 a2
                  go_wp2_with (first
                    | (go_at_call 71
                       go_must (refine (name_calls _ _).mono ?_)
                       rintro e w2 ⟨rfl, hB⟩
                       have HX := Lib.hid (HX.out.step hB)
                       clear hB
                       have c1 : w2.cell? ⟨w.heap.size, 1, none⟩ = some (.string f) := blk_cell HX.out.box 1
                       have c2 : w2.cell? ⟨w.heap.size, 2, none⟩ = some (.string t) := blk_cell HX.out.box 2
                       have c3 : w2.cell? ⟨w.heap.size, 3, none⟩ = some (.int .u64 am) := blk_cell HX.out.box 3
                       have c4 : w2.cell? ⟨w.heap.size, 4, none⟩ = some (.int .u64 nc) := blk_cell HX.out.box 4
                       have c5 : w2.cell? ⟨w.heap.size, 5, none⟩ = some (.string ky') := blk_cell HX.out.box 5
                       have c6 : w2.cell? ⟨w.heap.size, 6, none⟩ = some (.string vl) := blk_cell HX.out.box 6
                       have c7 : w2.cell? ⟨w.heap.size, 7, none⟩ = some (.slice A rs.length c) := blk_cell HX.out.box 7
                       have c8 : w2.cell? ⟨w.heap.size, 8, none⟩ = some (.slice B ws.length d) := blk_cell HX.out.box 8
                       have r0 : w2.cell? ⟨w.heap.size + 1, 0, none⟩ = some (.int .i64 0) := blk_cell HX.out.res 0
                       have z0 := blk_frozen HX.out.res 0
                       skip)
                    | (go_at_call 55; first | (with_reducible refine (check_ok _ _).mono ?_; rintro e w'' ⟨rfl, hw⟩; have hw := hw.symm; subst hw) | (with_reducible refine (check_no _ _).mono ?_; rintro e w'' ⟨rfl, hw⟩; have hw := hw.symm; subst hw))
                    | (go_at_call 72
                       first
                         | (with_reducible refine (keys_ok A c rs _ k1.out (Kd.C_below HR.out HX.out.low) HC.out).mono ?_)
                         | (with_reducible refine (keys_no A c rs _ k1.out (Kd.C_below HR.out HX.out.low) HC.out).mono ?_)
                         | (with_reducible refine (keys_ok B d ws _ k2.out (Kd.C_below HS.out HX.out.low) HD.out).mono ?_)
                         | (with_reducible refine (keys_no B d ws _ k2.out (Kd.C_below HS.out HX.out.low) HD.out).mono ?_)
                       rintro e w2 ⟨rfl, hB⟩
                       have HX := Lib.hid (HX.out.step hB)
                       clear hB
                       have c1 : w2.cell? ⟨w.heap.size, 1, none⟩ = some (.string f) := blk_cell HX.out.box 1
                       have c2 : w2.cell? ⟨w.heap.size, 2, none⟩ = some (.string t) := blk_cell HX.out.box 2
                       have c3 : w2.cell? ⟨w.heap.size, 3, none⟩ = some (.int .u64 am) := blk_cell HX.out.box 3
                       have c4 : w2.cell? ⟨w.heap.size, 4, none⟩ = some (.int .u64 nc) := blk_cell HX.out.box 4
                       have c5 : w2.cell? ⟨w.heap.size, 5, none⟩ = some (.string ky') := blk_cell HX.out.box 5
                       have c6 : w2.cell? ⟨w.heap.size, 6, none⟩ = some (.string vl) := blk_cell HX.out.box 6
                       have c7 : w2.cell? ⟨w.heap.size, 7, none⟩ = some (.slice A rs.length c) := blk_cell HX.out.box 7
                       have c8 : w2.cell? ⟨w.heap.size, 8, none⟩ = some (.slice B ws.length d) := blk_cell HX.out.box 8
                       have r0 : w2.cell? ⟨w.heap.size + 1, 0, none⟩ = some (.int .i64 0) := blk_cell HX.out.res 0
                       have z0 := blk_frozen HX.out.res 0
                       skip))
                  refine leaves_cons (f := 51) (args := #[.pointer (some ⟨w.heap.size + 1, 0, none⟩)]) (by simp) (by simp [go_sem]) ?_
                  refine (caught_panicking ⟨w.heap.size + 1, 0, none⟩ 0 (ke rs) [] _ (blk_cell HX.out.res 0) (blk_frozen HX.out.res 0)).mono ?_
                  rintro e u' w'' ⟨rfl, rfl, rfl⟩
                  have hq := HX.out.resr (.int .i64 (ke rs))
                  simp [Leaves, settle, results, Tryd.results41, go_sem, hq]
                  exact HX.out.setr _
              · have d2 : decide (nc ≤ 4611686018427387903) = false := by simp; omega
                have hE : ch 1 f t am nc ky' vl rs ws = 2 := by simp [ch, chF, chR, h1, h2, h3, h4, a2]
                rw [hE]
                clear hE hnil a1 a2
                go_wp2_with (first
                  | (go_at_call 71
                     go_must (refine (name_calls _ _).mono ?_)
                     rintro e w2 ⟨rfl, hB⟩
                     have HX := Lib.hid (HX.out.step hB)
                     clear hB
                     have c1 : w2.cell? ⟨w.heap.size, 1, none⟩ = some (.string f) := blk_cell HX.out.box 1
                     have c2 : w2.cell? ⟨w.heap.size, 2, none⟩ = some (.string t) := blk_cell HX.out.box 2
                     have c3 : w2.cell? ⟨w.heap.size, 3, none⟩ = some (.int .u64 am) := blk_cell HX.out.box 3
                     have c4 : w2.cell? ⟨w.heap.size, 4, none⟩ = some (.int .u64 nc) := blk_cell HX.out.box 4
                     have c5 : w2.cell? ⟨w.heap.size, 5, none⟩ = some (.string ky') := blk_cell HX.out.box 5
                     have c6 : w2.cell? ⟨w.heap.size, 6, none⟩ = some (.string vl) := blk_cell HX.out.box 6
                     have c7 : w2.cell? ⟨w.heap.size, 7, none⟩ = some (.slice A rs.length c) := blk_cell HX.out.box 7
                     have c8 : w2.cell? ⟨w.heap.size, 8, none⟩ = some (.slice B ws.length d) := blk_cell HX.out.box 8
                     have r0 : w2.cell? ⟨w.heap.size + 1, 0, none⟩ = some (.int .i64 0) := blk_cell HX.out.res 0
                     have z0 := blk_frozen HX.out.res 0
                     skip)
                  | (go_at_call 55; first | (with_reducible refine (check_ok _ _).mono ?_; rintro e w'' ⟨rfl, hw⟩; have hw := hw.symm; subst hw) | (with_reducible refine (check_no _ _).mono ?_; rintro e w'' ⟨rfl, hw⟩; have hw := hw.symm; subst hw))
                  | (go_at_call 72
                     first
                       | (with_reducible refine (keys_ok A c rs _ k1.out (Kd.C_below HR.out HX.out.low) HC.out).mono ?_)
                       | (with_reducible refine (keys_no A c rs _ k1.out (Kd.C_below HR.out HX.out.low) HC.out).mono ?_)
                       | (with_reducible refine (keys_ok B d ws _ k2.out (Kd.C_below HS.out HX.out.low) HD.out).mono ?_)
                       | (with_reducible refine (keys_no B d ws _ k2.out (Kd.C_below HS.out HX.out.low) HD.out).mono ?_)
                     rintro e w2 ⟨rfl, hB⟩
                     have HX := Lib.hid (HX.out.step hB)
                     clear hB
                     have c1 : w2.cell? ⟨w.heap.size, 1, none⟩ = some (.string f) := blk_cell HX.out.box 1
                     have c2 : w2.cell? ⟨w.heap.size, 2, none⟩ = some (.string t) := blk_cell HX.out.box 2
                     have c3 : w2.cell? ⟨w.heap.size, 3, none⟩ = some (.int .u64 am) := blk_cell HX.out.box 3
                     have c4 : w2.cell? ⟨w.heap.size, 4, none⟩ = some (.int .u64 nc) := blk_cell HX.out.box 4
                     have c5 : w2.cell? ⟨w.heap.size, 5, none⟩ = some (.string ky') := blk_cell HX.out.box 5
                     have c6 : w2.cell? ⟨w.heap.size, 6, none⟩ = some (.string vl) := blk_cell HX.out.box 6
                     have c7 : w2.cell? ⟨w.heap.size, 7, none⟩ = some (.slice A rs.length c) := blk_cell HX.out.box 7
                     have c8 : w2.cell? ⟨w.heap.size, 8, none⟩ = some (.slice B ws.length d) := blk_cell HX.out.box 8
                     have r0 : w2.cell? ⟨w.heap.size + 1, 0, none⟩ = some (.int .i64 0) := blk_cell HX.out.res 0
                     have z0 := blk_frozen HX.out.res 0
                     skip))
                refine leaves_cons (f := 51) (args := #[.pointer (some ⟨w.heap.size + 1, 0, none⟩)]) (by simp) (by simp [go_sem]) ?_
                refine (caught_panicking ⟨w.heap.size + 1, 0, none⟩ 0 2 [] _ (blk_cell HX.out.res 0) (blk_frozen HX.out.res 0)).mono ?_
                rintro e u' w'' ⟨rfl, rfl, rfl⟩
                have hq := HX.out.resr (.int .i64 2)
                simp [Leaves, settle, results, Tryd.results41, go_sem, hq]
                exact HX.out.setr _
            · have d1 : decide (am ≤ 4611686018427387903) = false := by simp; omega
              have hE : ch 1 f t am nc ky' vl rs ws = 2 := by simp [ch, chF, chR, h1, h2, h3, h4, a1]
              rw [hE]
              clear hE hnil a1
              go_wp2_with (first
                | (go_at_call 71
                   go_must (refine (name_calls _ _).mono ?_)
                   rintro e w2 ⟨rfl, hB⟩
                   have HX := Lib.hid (HX.out.step hB)
                   clear hB
                   have c1 : w2.cell? ⟨w.heap.size, 1, none⟩ = some (.string f) := blk_cell HX.out.box 1
                   have c2 : w2.cell? ⟨w.heap.size, 2, none⟩ = some (.string t) := blk_cell HX.out.box 2
                   have c3 : w2.cell? ⟨w.heap.size, 3, none⟩ = some (.int .u64 am) := blk_cell HX.out.box 3
                   have c4 : w2.cell? ⟨w.heap.size, 4, none⟩ = some (.int .u64 nc) := blk_cell HX.out.box 4
                   have c5 : w2.cell? ⟨w.heap.size, 5, none⟩ = some (.string ky') := blk_cell HX.out.box 5
                   have c6 : w2.cell? ⟨w.heap.size, 6, none⟩ = some (.string vl) := blk_cell HX.out.box 6
                   have c7 : w2.cell? ⟨w.heap.size, 7, none⟩ = some (.slice A rs.length c) := blk_cell HX.out.box 7
                   have c8 : w2.cell? ⟨w.heap.size, 8, none⟩ = some (.slice B ws.length d) := blk_cell HX.out.box 8
                   have r0 : w2.cell? ⟨w.heap.size + 1, 0, none⟩ = some (.int .i64 0) := blk_cell HX.out.res 0
                   have z0 := blk_frozen HX.out.res 0
                   skip)
                | (go_at_call 55; first | (with_reducible refine (check_ok _ _).mono ?_; rintro e w'' ⟨rfl, hw⟩; have hw := hw.symm; subst hw) | (with_reducible refine (check_no _ _).mono ?_; rintro e w'' ⟨rfl, hw⟩; have hw := hw.symm; subst hw))
                | (go_at_call 72
                   first
                     | (with_reducible refine (keys_ok A c rs _ k1.out (Kd.C_below HR.out HX.out.low) HC.out).mono ?_)
                     | (with_reducible refine (keys_no A c rs _ k1.out (Kd.C_below HR.out HX.out.low) HC.out).mono ?_)
                     | (with_reducible refine (keys_ok B d ws _ k2.out (Kd.C_below HS.out HX.out.low) HD.out).mono ?_)
                     | (with_reducible refine (keys_no B d ws _ k2.out (Kd.C_below HS.out HX.out.low) HD.out).mono ?_)
                   rintro e w2 ⟨rfl, hB⟩
                   have HX := Lib.hid (HX.out.step hB)
                   clear hB
                   have c1 : w2.cell? ⟨w.heap.size, 1, none⟩ = some (.string f) := blk_cell HX.out.box 1
                   have c2 : w2.cell? ⟨w.heap.size, 2, none⟩ = some (.string t) := blk_cell HX.out.box 2
                   have c3 : w2.cell? ⟨w.heap.size, 3, none⟩ = some (.int .u64 am) := blk_cell HX.out.box 3
                   have c4 : w2.cell? ⟨w.heap.size, 4, none⟩ = some (.int .u64 nc) := blk_cell HX.out.box 4
                   have c5 : w2.cell? ⟨w.heap.size, 5, none⟩ = some (.string ky') := blk_cell HX.out.box 5
                   have c6 : w2.cell? ⟨w.heap.size, 6, none⟩ = some (.string vl) := blk_cell HX.out.box 6
                   have c7 : w2.cell? ⟨w.heap.size, 7, none⟩ = some (.slice A rs.length c) := blk_cell HX.out.box 7
                   have c8 : w2.cell? ⟨w.heap.size, 8, none⟩ = some (.slice B ws.length d) := blk_cell HX.out.box 8
                   have r0 : w2.cell? ⟨w.heap.size + 1, 0, none⟩ = some (.int .i64 0) := blk_cell HX.out.res 0
                   have z0 := blk_frozen HX.out.res 0
                   skip))
              refine leaves_cons (f := 51) (args := #[.pointer (some ⟨w.heap.size + 1, 0, none⟩)]) (by simp) (by simp [go_sem]) ?_
              refine (caught_panicking ⟨w.heap.size + 1, 0, none⟩ 0 2 [] _ (blk_cell HX.out.res 0) (blk_frozen HX.out.res 0)).mono ?_
              rintro e u' w'' ⟨rfl, rfl, rfl⟩
              have hq := HX.out.resr (.int .i64 2)
              simp [Leaves, settle, results, Tryd.results41, go_sem, hq]
              exact HX.out.setr _
          ·
            have hE : ch 1 f t am nc ky' vl rs ws = 3 := by simp [ch, chF, h1, h2, h3, h4]
            rw [hE]
            clear hE hnil
            go_wp2_with (first
              | (go_at_call 71
                 go_must (refine (name_calls _ _).mono ?_)
                 rintro e w2 ⟨rfl, hB⟩
                 have HX := Lib.hid (HX.out.step hB)
                 clear hB
                 have c1 : w2.cell? ⟨w.heap.size, 1, none⟩ = some (.string f) := blk_cell HX.out.box 1
                 have c2 : w2.cell? ⟨w.heap.size, 2, none⟩ = some (.string t) := blk_cell HX.out.box 2
                 have c3 : w2.cell? ⟨w.heap.size, 3, none⟩ = some (.int .u64 am) := blk_cell HX.out.box 3
                 have c4 : w2.cell? ⟨w.heap.size, 4, none⟩ = some (.int .u64 nc) := blk_cell HX.out.box 4
                 have c5 : w2.cell? ⟨w.heap.size, 5, none⟩ = some (.string ky') := blk_cell HX.out.box 5
                 have c6 : w2.cell? ⟨w.heap.size, 6, none⟩ = some (.string vl) := blk_cell HX.out.box 6
                 have c7 : w2.cell? ⟨w.heap.size, 7, none⟩ = some (.slice A rs.length c) := blk_cell HX.out.box 7
                 have c8 : w2.cell? ⟨w.heap.size, 8, none⟩ = some (.slice B ws.length d) := blk_cell HX.out.box 8
                 have r0 : w2.cell? ⟨w.heap.size + 1, 0, none⟩ = some (.int .i64 0) := blk_cell HX.out.res 0
                 have z0 := blk_frozen HX.out.res 0
                 skip)
              | (go_at_call 55; first | (with_reducible refine (check_ok _ _).mono ?_; rintro e w'' ⟨rfl, hw⟩; have hw := hw.symm; subst hw) | (with_reducible refine (check_no _ _).mono ?_; rintro e w'' ⟨rfl, hw⟩; have hw := hw.symm; subst hw))
              | (go_at_call 72
                 first
                   | (with_reducible refine (keys_ok A c rs _ k1.out (Kd.C_below HR.out HX.out.low) HC.out).mono ?_)
                   | (with_reducible refine (keys_no A c rs _ k1.out (Kd.C_below HR.out HX.out.low) HC.out).mono ?_)
                   | (with_reducible refine (keys_ok B d ws _ k2.out (Kd.C_below HS.out HX.out.low) HD.out).mono ?_)
                   | (with_reducible refine (keys_no B d ws _ k2.out (Kd.C_below HS.out HX.out.low) HD.out).mono ?_)
                 rintro e w2 ⟨rfl, hB⟩
                 have HX := Lib.hid (HX.out.step hB)
                 clear hB
                 have c1 : w2.cell? ⟨w.heap.size, 1, none⟩ = some (.string f) := blk_cell HX.out.box 1
                 have c2 : w2.cell? ⟨w.heap.size, 2, none⟩ = some (.string t) := blk_cell HX.out.box 2
                 have c3 : w2.cell? ⟨w.heap.size, 3, none⟩ = some (.int .u64 am) := blk_cell HX.out.box 3
                 have c4 : w2.cell? ⟨w.heap.size, 4, none⟩ = some (.int .u64 nc) := blk_cell HX.out.box 4
                 have c5 : w2.cell? ⟨w.heap.size, 5, none⟩ = some (.string ky') := blk_cell HX.out.box 5
                 have c6 : w2.cell? ⟨w.heap.size, 6, none⟩ = some (.string vl) := blk_cell HX.out.box 6
                 have c7 : w2.cell? ⟨w.heap.size, 7, none⟩ = some (.slice A rs.length c) := blk_cell HX.out.box 7
                 have c8 : w2.cell? ⟨w.heap.size, 8, none⟩ = some (.slice B ws.length d) := blk_cell HX.out.box 8
                 have r0 : w2.cell? ⟨w.heap.size + 1, 0, none⟩ = some (.int .i64 0) := blk_cell HX.out.res 0
                 have z0 := blk_frozen HX.out.res 0
                 skip))
            refine leaves_cons (f := 51) (args := #[.pointer (some ⟨w.heap.size + 1, 0, none⟩)]) (by simp) (by simp [go_sem]) ?_
            refine (caught_panicking ⟨w.heap.size + 1, 0, none⟩ 0 3 [] _ (blk_cell HX.out.res 0) (blk_frozen HX.out.res 0)).mono ?_
            rintro e u' w'' ⟨rfl, rfl, rfl⟩
            have hq := HX.out.resr (.int .i64 3)
            simp [Leaves, settle, results, Tryd.results41, go_sem, hq]
            exact HX.out.setr _
        ·
          have hE : ch 1 f t am nc ky' vl rs ws = 3 := by simp [ch, chF, h1, h2, h3]
          rw [hE]
          clear hE hnil
          go_wp2_with (first
            | (go_at_call 71
               go_must (refine (name_calls _ _).mono ?_)
               rintro e w2 ⟨rfl, hB⟩
               have HX := Lib.hid (HX.out.step hB)
               clear hB
               have c1 : w2.cell? ⟨w.heap.size, 1, none⟩ = some (.string f) := blk_cell HX.out.box 1
               have c2 : w2.cell? ⟨w.heap.size, 2, none⟩ = some (.string t) := blk_cell HX.out.box 2
               have c3 : w2.cell? ⟨w.heap.size, 3, none⟩ = some (.int .u64 am) := blk_cell HX.out.box 3
               have c4 : w2.cell? ⟨w.heap.size, 4, none⟩ = some (.int .u64 nc) := blk_cell HX.out.box 4
               have c5 : w2.cell? ⟨w.heap.size, 5, none⟩ = some (.string ky') := blk_cell HX.out.box 5
               have c6 : w2.cell? ⟨w.heap.size, 6, none⟩ = some (.string vl) := blk_cell HX.out.box 6
               have c7 : w2.cell? ⟨w.heap.size, 7, none⟩ = some (.slice A rs.length c) := blk_cell HX.out.box 7
               have c8 : w2.cell? ⟨w.heap.size, 8, none⟩ = some (.slice B ws.length d) := blk_cell HX.out.box 8
               have r0 : w2.cell? ⟨w.heap.size + 1, 0, none⟩ = some (.int .i64 0) := blk_cell HX.out.res 0
               have z0 := blk_frozen HX.out.res 0
               skip)
            | (go_at_call 55; first | (with_reducible refine (check_ok _ _).mono ?_; rintro e w'' ⟨rfl, hw⟩; have hw := hw.symm; subst hw) | (with_reducible refine (check_no _ _).mono ?_; rintro e w'' ⟨rfl, hw⟩; have hw := hw.symm; subst hw))
            | (go_at_call 72
               first
                 | (with_reducible refine (keys_ok A c rs _ k1.out (Kd.C_below HR.out HX.out.low) HC.out).mono ?_)
                 | (with_reducible refine (keys_no A c rs _ k1.out (Kd.C_below HR.out HX.out.low) HC.out).mono ?_)
                 | (with_reducible refine (keys_ok B d ws _ k2.out (Kd.C_below HS.out HX.out.low) HD.out).mono ?_)
                 | (with_reducible refine (keys_no B d ws _ k2.out (Kd.C_below HS.out HX.out.low) HD.out).mono ?_)
               rintro e w2 ⟨rfl, hB⟩
               have HX := Lib.hid (HX.out.step hB)
               clear hB
               have c1 : w2.cell? ⟨w.heap.size, 1, none⟩ = some (.string f) := blk_cell HX.out.box 1
               have c2 : w2.cell? ⟨w.heap.size, 2, none⟩ = some (.string t) := blk_cell HX.out.box 2
               have c3 : w2.cell? ⟨w.heap.size, 3, none⟩ = some (.int .u64 am) := blk_cell HX.out.box 3
               have c4 : w2.cell? ⟨w.heap.size, 4, none⟩ = some (.int .u64 nc) := blk_cell HX.out.box 4
               have c5 : w2.cell? ⟨w.heap.size, 5, none⟩ = some (.string ky') := blk_cell HX.out.box 5
               have c6 : w2.cell? ⟨w.heap.size, 6, none⟩ = some (.string vl) := blk_cell HX.out.box 6
               have c7 : w2.cell? ⟨w.heap.size, 7, none⟩ = some (.slice A rs.length c) := blk_cell HX.out.box 7
               have c8 : w2.cell? ⟨w.heap.size, 8, none⟩ = some (.slice B ws.length d) := blk_cell HX.out.box 8
               have r0 : w2.cell? ⟨w.heap.size + 1, 0, none⟩ = some (.int .i64 0) := blk_cell HX.out.res 0
               have z0 := blk_frozen HX.out.res 0
               skip))
          refine leaves_cons (f := 51) (args := #[.pointer (some ⟨w.heap.size + 1, 0, none⟩)]) (by simp) (by simp [go_sem]) ?_
          refine (caught_panicking ⟨w.heap.size + 1, 0, none⟩ 0 3 [] _ (blk_cell HX.out.res 0) (blk_frozen HX.out.res 0)).mono ?_
          rintro e u' w'' ⟨rfl, rfl, rfl⟩
          have hq := HX.out.resr (.int .i64 3)
          simp [Leaves, settle, results, Tryd.results41, go_sem, hq]
          exact HX.out.setr _
  · clear h5
    cases h1 : nm f with
    | false =>
      have hE : ch 2 f t am nc ky' vl rs ws = 3 := by simp [ch, chF, h1]
      rw [hE]
      clear hE hnil
      go_wp2_with (first
        | (go_at_call 71
           go_must (refine (name_calls _ _).mono ?_)
           rintro e w2 ⟨rfl, hB⟩
           have HX := Lib.hid (HX.out.step hB)
           clear hB
           have c1 : w2.cell? ⟨w.heap.size, 1, none⟩ = some (.string f) := blk_cell HX.out.box 1
           have c2 : w2.cell? ⟨w.heap.size, 2, none⟩ = some (.string t) := blk_cell HX.out.box 2
           have c3 : w2.cell? ⟨w.heap.size, 3, none⟩ = some (.int .u64 am) := blk_cell HX.out.box 3
           have c4 : w2.cell? ⟨w.heap.size, 4, none⟩ = some (.int .u64 nc) := blk_cell HX.out.box 4
           have c5 : w2.cell? ⟨w.heap.size, 5, none⟩ = some (.string ky') := blk_cell HX.out.box 5
           have c6 : w2.cell? ⟨w.heap.size, 6, none⟩ = some (.string vl) := blk_cell HX.out.box 6
           have c7 : w2.cell? ⟨w.heap.size, 7, none⟩ = some (.slice A rs.length c) := blk_cell HX.out.box 7
           have c8 : w2.cell? ⟨w.heap.size, 8, none⟩ = some (.slice B ws.length d) := blk_cell HX.out.box 8
           have r0 : w2.cell? ⟨w.heap.size + 1, 0, none⟩ = some (.int .i64 0) := blk_cell HX.out.res 0
           have z0 := blk_frozen HX.out.res 0
           skip)
        | (go_at_call 55; first | (with_reducible refine (check_ok _ _).mono ?_; rintro e w'' ⟨rfl, hw⟩; have hw := hw.symm; subst hw) | (with_reducible refine (check_no _ _).mono ?_; rintro e w'' ⟨rfl, hw⟩; have hw := hw.symm; subst hw))
        | (go_at_call 72
           first
             | (with_reducible refine (keys_ok A c rs _ k1.out (Kd.C_below HR.out HX.out.low) HC.out).mono ?_)
             | (with_reducible refine (keys_no A c rs _ k1.out (Kd.C_below HR.out HX.out.low) HC.out).mono ?_)
             | (with_reducible refine (keys_ok B d ws _ k2.out (Kd.C_below HS.out HX.out.low) HD.out).mono ?_)
             | (with_reducible refine (keys_no B d ws _ k2.out (Kd.C_below HS.out HX.out.low) HD.out).mono ?_)
           rintro e w2 ⟨rfl, hB⟩
           have HX := Lib.hid (HX.out.step hB)
           clear hB
           have c1 : w2.cell? ⟨w.heap.size, 1, none⟩ = some (.string f) := blk_cell HX.out.box 1
           have c2 : w2.cell? ⟨w.heap.size, 2, none⟩ = some (.string t) := blk_cell HX.out.box 2
           have c3 : w2.cell? ⟨w.heap.size, 3, none⟩ = some (.int .u64 am) := blk_cell HX.out.box 3
           have c4 : w2.cell? ⟨w.heap.size, 4, none⟩ = some (.int .u64 nc) := blk_cell HX.out.box 4
           have c5 : w2.cell? ⟨w.heap.size, 5, none⟩ = some (.string ky') := blk_cell HX.out.box 5
           have c6 : w2.cell? ⟨w.heap.size, 6, none⟩ = some (.string vl) := blk_cell HX.out.box 6
           have c7 : w2.cell? ⟨w.heap.size, 7, none⟩ = some (.slice A rs.length c) := blk_cell HX.out.box 7
           have c8 : w2.cell? ⟨w.heap.size, 8, none⟩ = some (.slice B ws.length d) := blk_cell HX.out.box 8
           have r0 : w2.cell? ⟨w.heap.size + 1, 0, none⟩ = some (.int .i64 0) := blk_cell HX.out.res 0
           have z0 := blk_frozen HX.out.res 0
           skip))
      refine leaves_cons (f := 51) (args := #[.pointer (some ⟨w.heap.size + 1, 0, none⟩)]) (by simp) (by simp [go_sem]) ?_
      refine (caught_panicking ⟨w.heap.size + 1, 0, none⟩ 0 3 [] _ (blk_cell HX.out.res 0) (blk_frozen HX.out.res 0)).mono ?_
      rintro e u' w'' ⟨rfl, rfl, rfl⟩
      have hq := HX.out.resr (.int .i64 3)
      simp [Leaves, settle, results, Tryd.results41, go_sem, hq]
      exact HX.out.setr _
    | true =>
      cases h2 : nm ky' with
      | false =>
        have hE : ch 2 f t am nc ky' vl rs ws = 3 := by simp [ch, chF, h1, h2]
        rw [hE]
        clear hE hnil
        go_wp2_with (first
          | (go_at_call 71
             go_must (refine (name_calls _ _).mono ?_)
             rintro e w2 ⟨rfl, hB⟩
             have HX := Lib.hid (HX.out.step hB)
             clear hB
             have c1 : w2.cell? ⟨w.heap.size, 1, none⟩ = some (.string f) := blk_cell HX.out.box 1
             have c2 : w2.cell? ⟨w.heap.size, 2, none⟩ = some (.string t) := blk_cell HX.out.box 2
             have c3 : w2.cell? ⟨w.heap.size, 3, none⟩ = some (.int .u64 am) := blk_cell HX.out.box 3
             have c4 : w2.cell? ⟨w.heap.size, 4, none⟩ = some (.int .u64 nc) := blk_cell HX.out.box 4
             have c5 : w2.cell? ⟨w.heap.size, 5, none⟩ = some (.string ky') := blk_cell HX.out.box 5
             have c6 : w2.cell? ⟨w.heap.size, 6, none⟩ = some (.string vl) := blk_cell HX.out.box 6
             have c7 : w2.cell? ⟨w.heap.size, 7, none⟩ = some (.slice A rs.length c) := blk_cell HX.out.box 7
             have c8 : w2.cell? ⟨w.heap.size, 8, none⟩ = some (.slice B ws.length d) := blk_cell HX.out.box 8
             have r0 : w2.cell? ⟨w.heap.size + 1, 0, none⟩ = some (.int .i64 0) := blk_cell HX.out.res 0
             have z0 := blk_frozen HX.out.res 0
             skip)
          | (go_at_call 55; first | (with_reducible refine (check_ok _ _).mono ?_; rintro e w'' ⟨rfl, hw⟩; have hw := hw.symm; subst hw) | (with_reducible refine (check_no _ _).mono ?_; rintro e w'' ⟨rfl, hw⟩; have hw := hw.symm; subst hw))
          | (go_at_call 72
             first
               | (with_reducible refine (keys_ok A c rs _ k1.out (Kd.C_below HR.out HX.out.low) HC.out).mono ?_)
               | (with_reducible refine (keys_no A c rs _ k1.out (Kd.C_below HR.out HX.out.low) HC.out).mono ?_)
               | (with_reducible refine (keys_ok B d ws _ k2.out (Kd.C_below HS.out HX.out.low) HD.out).mono ?_)
               | (with_reducible refine (keys_no B d ws _ k2.out (Kd.C_below HS.out HX.out.low) HD.out).mono ?_)
             rintro e w2 ⟨rfl, hB⟩
             have HX := Lib.hid (HX.out.step hB)
             clear hB
             have c1 : w2.cell? ⟨w.heap.size, 1, none⟩ = some (.string f) := blk_cell HX.out.box 1
             have c2 : w2.cell? ⟨w.heap.size, 2, none⟩ = some (.string t) := blk_cell HX.out.box 2
             have c3 : w2.cell? ⟨w.heap.size, 3, none⟩ = some (.int .u64 am) := blk_cell HX.out.box 3
             have c4 : w2.cell? ⟨w.heap.size, 4, none⟩ = some (.int .u64 nc) := blk_cell HX.out.box 4
             have c5 : w2.cell? ⟨w.heap.size, 5, none⟩ = some (.string ky') := blk_cell HX.out.box 5
             have c6 : w2.cell? ⟨w.heap.size, 6, none⟩ = some (.string vl) := blk_cell HX.out.box 6
             have c7 : w2.cell? ⟨w.heap.size, 7, none⟩ = some (.slice A rs.length c) := blk_cell HX.out.box 7
             have c8 : w2.cell? ⟨w.heap.size, 8, none⟩ = some (.slice B ws.length d) := blk_cell HX.out.box 8
             have r0 : w2.cell? ⟨w.heap.size + 1, 0, none⟩ = some (.int .i64 0) := blk_cell HX.out.res 0
             have z0 := blk_frozen HX.out.res 0
             skip))
        refine leaves_cons (f := 51) (args := #[.pointer (some ⟨w.heap.size + 1, 0, none⟩)]) (by simp) (by simp [go_sem]) ?_
        refine (caught_panicking ⟨w.heap.size + 1, 0, none⟩ 0 3 [] _ (blk_cell HX.out.res 0) (blk_frozen HX.out.res 0)).mono ?_
        rintro e u' w'' ⟨rfl, rfl, rfl⟩
        have hq := HX.out.resr (.int .i64 3)
        simp [Leaves, settle, results, Tryd.results41, go_sem, hq]
        exact HX.out.setr _
      | true =>
        by_cases h3 : vl.size ≤ 64
        · have b3 : decide ((vl.size : Int) ≤ 64) = true := by simp; omega
          rcases hnil t with h4 | h4
          · by_cases h5 : am = 0
            · have b5 : (am == 0) = true := by simp [h5]
              have d1 : decide (am ≤ 4611686018427387903) = true := by simp; omega
              have hk : ∀ x, chR am nc rs ws = x → ch 2 f t am nc ky' vl rs ws = x := fun x h => by simp [ch, chF, h1, h2, h3, h4, h5]; rw [← h5]; exact h
              have a1 : am ≤ 4611686018427387903 := by omega
              clear h5
              clear h3
              by_cases a2 : nc ≤ 4611686018427387903
              · have d2 : decide (nc ≤ 4611686018427387903) = true := by simp; omega
                by_cases k1 : ke rs = 0
                · by_cases k2 : ke ws = 0
                  · rw [hk 0 (by simp [chR, a1, a2, k1, k2])]
                    have k1 := Lib.hid k1
                    have k2 := Lib.hid k2
                    clear hk hnil a1 a2
                    go_wp2_with (first
                      | (go_at_call 71
                         go_must (refine (name_calls _ _).mono ?_)
                         rintro e w2 ⟨rfl, hB⟩
                         have HX := Lib.hid (HX.out.step hB)
                         clear hB
                         have c1 : w2.cell? ⟨w.heap.size, 1, none⟩ = some (.string f) := blk_cell HX.out.box 1
                         have c2 : w2.cell? ⟨w.heap.size, 2, none⟩ = some (.string t) := blk_cell HX.out.box 2
                         have c3 : w2.cell? ⟨w.heap.size, 3, none⟩ = some (.int .u64 am) := blk_cell HX.out.box 3
                         have c4 : w2.cell? ⟨w.heap.size, 4, none⟩ = some (.int .u64 nc) := blk_cell HX.out.box 4
                         have c5 : w2.cell? ⟨w.heap.size, 5, none⟩ = some (.string ky') := blk_cell HX.out.box 5
                         have c6 : w2.cell? ⟨w.heap.size, 6, none⟩ = some (.string vl) := blk_cell HX.out.box 6
                         have c7 : w2.cell? ⟨w.heap.size, 7, none⟩ = some (.slice A rs.length c) := blk_cell HX.out.box 7
                         have c8 : w2.cell? ⟨w.heap.size, 8, none⟩ = some (.slice B ws.length d) := blk_cell HX.out.box 8
                         have r0 : w2.cell? ⟨w.heap.size + 1, 0, none⟩ = some (.int .i64 0) := blk_cell HX.out.res 0
                         have z0 := blk_frozen HX.out.res 0
                         skip)
                      | (go_at_call 55; first | (with_reducible refine (check_ok _ _).mono ?_; rintro e w'' ⟨rfl, hw⟩; have hw := hw.symm; subst hw) | (with_reducible refine (check_no _ _).mono ?_; rintro e w'' ⟨rfl, hw⟩; have hw := hw.symm; subst hw))
                      | (go_at_call 72
                         first
                           | (with_reducible refine (keys_ok A c rs _ k1.out (Kd.C_below HR.out HX.out.low) HC.out).mono ?_)
                           | (with_reducible refine (keys_no A c rs _ k1.out (Kd.C_below HR.out HX.out.low) HC.out).mono ?_)
                           | (with_reducible refine (keys_ok B d ws _ k2.out (Kd.C_below HS.out HX.out.low) HD.out).mono ?_)
                           | (with_reducible refine (keys_no B d ws _ k2.out (Kd.C_below HS.out HX.out.low) HD.out).mono ?_)
                         rintro e w2 ⟨rfl, hB⟩
                         have HX := Lib.hid (HX.out.step hB)
                         clear hB
                         have c1 : w2.cell? ⟨w.heap.size, 1, none⟩ = some (.string f) := blk_cell HX.out.box 1
                         have c2 : w2.cell? ⟨w.heap.size, 2, none⟩ = some (.string t) := blk_cell HX.out.box 2
                         have c3 : w2.cell? ⟨w.heap.size, 3, none⟩ = some (.int .u64 am) := blk_cell HX.out.box 3
                         have c4 : w2.cell? ⟨w.heap.size, 4, none⟩ = some (.int .u64 nc) := blk_cell HX.out.box 4
                         have c5 : w2.cell? ⟨w.heap.size, 5, none⟩ = some (.string ky') := blk_cell HX.out.box 5
                         have c6 : w2.cell? ⟨w.heap.size, 6, none⟩ = some (.string vl) := blk_cell HX.out.box 6
                         have c7 : w2.cell? ⟨w.heap.size, 7, none⟩ = some (.slice A rs.length c) := blk_cell HX.out.box 7
                         have c8 : w2.cell? ⟨w.heap.size, 8, none⟩ = some (.slice B ws.length d) := blk_cell HX.out.box 8
                         have r0 : w2.cell? ⟨w.heap.size + 1, 0, none⟩ = some (.int .i64 0) := blk_cell HX.out.res 0
                         have z0 := blk_frozen HX.out.res 0
                         skip))
                    refine leaves_cons (f := 51) (args := #[.pointer (some ⟨w.heap.size + 1, 0, none⟩)]) (by simp) (by simp [go_sem]) ?_
                    refine (caught_idle ⟨w.heap.size + 1, 0, none⟩ _).mono ?_
                    rintro e u' w'' ⟨rfl, rfl, rfl⟩
                    have hq := HX.out.resr (.int .i64 0)
                    simp [Leaves, settle, results, Tryd.results41, go_sem, hq]
                    exact HX.out.setr _
                  · rw [hk (ke ws) (by simp [chR, a1, a2, k1])]
                    have k1 := Lib.hid k1
                    have k2 := Lib.hid k2
                    clear hk hnil a1 a2
                    go_wp2_with (first
                      | (go_at_call 71
                         go_must (refine (name_calls _ _).mono ?_)
                         rintro e w2 ⟨rfl, hB⟩
                         have HX := Lib.hid (HX.out.step hB)
                         clear hB
                         have c1 : w2.cell? ⟨w.heap.size, 1, none⟩ = some (.string f) := blk_cell HX.out.box 1
                         have c2 : w2.cell? ⟨w.heap.size, 2, none⟩ = some (.string t) := blk_cell HX.out.box 2
                         have c3 : w2.cell? ⟨w.heap.size, 3, none⟩ = some (.int .u64 am) := blk_cell HX.out.box 3
                         have c4 : w2.cell? ⟨w.heap.size, 4, none⟩ = some (.int .u64 nc) := blk_cell HX.out.box 4
                         have c5 : w2.cell? ⟨w.heap.size, 5, none⟩ = some (.string ky') := blk_cell HX.out.box 5
                         have c6 : w2.cell? ⟨w.heap.size, 6, none⟩ = some (.string vl) := blk_cell HX.out.box 6
                         have c7 : w2.cell? ⟨w.heap.size, 7, none⟩ = some (.slice A rs.length c) := blk_cell HX.out.box 7
                         have c8 : w2.cell? ⟨w.heap.size, 8, none⟩ = some (.slice B ws.length d) := blk_cell HX.out.box 8
                         have r0 : w2.cell? ⟨w.heap.size + 1, 0, none⟩ = some (.int .i64 0) := blk_cell HX.out.res 0
                         have z0 := blk_frozen HX.out.res 0
                         skip)
                      | (go_at_call 55; first | (with_reducible refine (check_ok _ _).mono ?_; rintro e w'' ⟨rfl, hw⟩; have hw := hw.symm; subst hw) | (with_reducible refine (check_no _ _).mono ?_; rintro e w'' ⟨rfl, hw⟩; have hw := hw.symm; subst hw))
                      | (go_at_call 72
                         first
                           | (with_reducible refine (keys_ok A c rs _ k1.out (Kd.C_below HR.out HX.out.low) HC.out).mono ?_)
                           | (with_reducible refine (keys_no A c rs _ k1.out (Kd.C_below HR.out HX.out.low) HC.out).mono ?_)
                           | (with_reducible refine (keys_ok B d ws _ k2.out (Kd.C_below HS.out HX.out.low) HD.out).mono ?_)
                           | (with_reducible refine (keys_no B d ws _ k2.out (Kd.C_below HS.out HX.out.low) HD.out).mono ?_)
                         rintro e w2 ⟨rfl, hB⟩
                         have HX := Lib.hid (HX.out.step hB)
                         clear hB
                         have c1 : w2.cell? ⟨w.heap.size, 1, none⟩ = some (.string f) := blk_cell HX.out.box 1
                         have c2 : w2.cell? ⟨w.heap.size, 2, none⟩ = some (.string t) := blk_cell HX.out.box 2
                         have c3 : w2.cell? ⟨w.heap.size, 3, none⟩ = some (.int .u64 am) := blk_cell HX.out.box 3
                         have c4 : w2.cell? ⟨w.heap.size, 4, none⟩ = some (.int .u64 nc) := blk_cell HX.out.box 4
                         have c5 : w2.cell? ⟨w.heap.size, 5, none⟩ = some (.string ky') := blk_cell HX.out.box 5
                         have c6 : w2.cell? ⟨w.heap.size, 6, none⟩ = some (.string vl) := blk_cell HX.out.box 6
                         have c7 : w2.cell? ⟨w.heap.size, 7, none⟩ = some (.slice A rs.length c) := blk_cell HX.out.box 7
                         have c8 : w2.cell? ⟨w.heap.size, 8, none⟩ = some (.slice B ws.length d) := blk_cell HX.out.box 8
                         have r0 : w2.cell? ⟨w.heap.size + 1, 0, none⟩ = some (.int .i64 0) := blk_cell HX.out.res 0
                         have z0 := blk_frozen HX.out.res 0
                         skip))
                    refine leaves_cons (f := 51) (args := #[.pointer (some ⟨w.heap.size + 1, 0, none⟩)]) (by simp) (by simp [go_sem]) ?_
                    refine (caught_panicking ⟨w.heap.size + 1, 0, none⟩ 0 (ke ws) [] _ (blk_cell HX.out.res 0) (blk_frozen HX.out.res 0)).mono ?_
                    rintro e u' w'' ⟨rfl, rfl, rfl⟩
                    have hq := HX.out.resr (.int .i64 (ke ws))
                    simp [Leaves, settle, results, Tryd.results41, go_sem, hq]
                    exact HX.out.setr _
                · rw [hk (ke rs) (by simp [chR, a1, a2, k1])]
                  have k1 := Lib.hid k1
                  clear hk hnil a1 a2
                  go_wp2_with (first
                    | (go_at_call 71
                       go_must (refine (name_calls _ _).mono ?_)
                       rintro e w2 ⟨rfl, hB⟩
                       have HX := Lib.hid (HX.out.step hB)
                       clear hB
                       have c1 : w2.cell? ⟨w.heap.size, 1, none⟩ = some (.string f) := blk_cell HX.out.box 1
                       have c2 : w2.cell? ⟨w.heap.size, 2, none⟩ = some (.string t) := blk_cell HX.out.box 2
                       have c3 : w2.cell? ⟨w.heap.size, 3, none⟩ = some (.int .u64 am) := blk_cell HX.out.box 3
                       have c4 : w2.cell? ⟨w.heap.size, 4, none⟩ = some (.int .u64 nc) := blk_cell HX.out.box 4
                       have c5 : w2.cell? ⟨w.heap.size, 5, none⟩ = some (.string ky') := blk_cell HX.out.box 5
                       have c6 : w2.cell? ⟨w.heap.size, 6, none⟩ = some (.string vl) := blk_cell HX.out.box 6
                       have c7 : w2.cell? ⟨w.heap.size, 7, none⟩ = some (.slice A rs.length c) := blk_cell HX.out.box 7
                       have c8 : w2.cell? ⟨w.heap.size, 8, none⟩ = some (.slice B ws.length d) := blk_cell HX.out.box 8
                       have r0 : w2.cell? ⟨w.heap.size + 1, 0, none⟩ = some (.int .i64 0) := blk_cell HX.out.res 0
                       have z0 := blk_frozen HX.out.res 0
                       skip)
                    | (go_at_call 55; first | (with_reducible refine (check_ok _ _).mono ?_; rintro e w'' ⟨rfl, hw⟩; have hw := hw.symm; subst hw) | (with_reducible refine (check_no _ _).mono ?_; rintro e w'' ⟨rfl, hw⟩; have hw := hw.symm; subst hw))
                    | (go_at_call 72
                       first
                         | (with_reducible refine (keys_ok A c rs _ k1.out (Kd.C_below HR.out HX.out.low) HC.out).mono ?_)
                         | (with_reducible refine (keys_no A c rs _ k1.out (Kd.C_below HR.out HX.out.low) HC.out).mono ?_)
                         | (with_reducible refine (keys_ok B d ws _ k2.out (Kd.C_below HS.out HX.out.low) HD.out).mono ?_)
                         | (with_reducible refine (keys_no B d ws _ k2.out (Kd.C_below HS.out HX.out.low) HD.out).mono ?_)
                       rintro e w2 ⟨rfl, hB⟩
                       have HX := Lib.hid (HX.out.step hB)
                       clear hB
                       have c1 : w2.cell? ⟨w.heap.size, 1, none⟩ = some (.string f) := blk_cell HX.out.box 1
                       have c2 : w2.cell? ⟨w.heap.size, 2, none⟩ = some (.string t) := blk_cell HX.out.box 2
                       have c3 : w2.cell? ⟨w.heap.size, 3, none⟩ = some (.int .u64 am) := blk_cell HX.out.box 3
                       have c4 : w2.cell? ⟨w.heap.size, 4, none⟩ = some (.int .u64 nc) := blk_cell HX.out.box 4
                       have c5 : w2.cell? ⟨w.heap.size, 5, none⟩ = some (.string ky') := blk_cell HX.out.box 5
                       have c6 : w2.cell? ⟨w.heap.size, 6, none⟩ = some (.string vl) := blk_cell HX.out.box 6
                       have c7 : w2.cell? ⟨w.heap.size, 7, none⟩ = some (.slice A rs.length c) := blk_cell HX.out.box 7
                       have c8 : w2.cell? ⟨w.heap.size, 8, none⟩ = some (.slice B ws.length d) := blk_cell HX.out.box 8
                       have r0 : w2.cell? ⟨w.heap.size + 1, 0, none⟩ = some (.int .i64 0) := blk_cell HX.out.res 0
                       have z0 := blk_frozen HX.out.res 0
                       skip))
                  refine leaves_cons (f := 51) (args := #[.pointer (some ⟨w.heap.size + 1, 0, none⟩)]) (by simp) (by simp [go_sem]) ?_
                  refine (caught_panicking ⟨w.heap.size + 1, 0, none⟩ 0 (ke rs) [] _ (blk_cell HX.out.res 0) (blk_frozen HX.out.res 0)).mono ?_
                  rintro e u' w'' ⟨rfl, rfl, rfl⟩
                  have hq := HX.out.resr (.int .i64 (ke rs))
                  simp [Leaves, settle, results, Tryd.results41, go_sem, hq]
                  exact HX.out.setr _
              · have d2 : decide (nc ≤ 4611686018427387903) = false := by simp; omega
                rw [hk 2 (by simp [chR, a2])]
                clear hk hnil a1 a2
                go_wp2_with (first
                  | (go_at_call 71
                     go_must (refine (name_calls _ _).mono ?_)
                     rintro e w2 ⟨rfl, hB⟩
                     have HX := Lib.hid (HX.out.step hB)
                     clear hB
                     have c1 : w2.cell? ⟨w.heap.size, 1, none⟩ = some (.string f) := blk_cell HX.out.box 1
                     have c2 : w2.cell? ⟨w.heap.size, 2, none⟩ = some (.string t) := blk_cell HX.out.box 2
                     have c3 : w2.cell? ⟨w.heap.size, 3, none⟩ = some (.int .u64 am) := blk_cell HX.out.box 3
                     have c4 : w2.cell? ⟨w.heap.size, 4, none⟩ = some (.int .u64 nc) := blk_cell HX.out.box 4
                     have c5 : w2.cell? ⟨w.heap.size, 5, none⟩ = some (.string ky') := blk_cell HX.out.box 5
                     have c6 : w2.cell? ⟨w.heap.size, 6, none⟩ = some (.string vl) := blk_cell HX.out.box 6
                     have c7 : w2.cell? ⟨w.heap.size, 7, none⟩ = some (.slice A rs.length c) := blk_cell HX.out.box 7
                     have c8 : w2.cell? ⟨w.heap.size, 8, none⟩ = some (.slice B ws.length d) := blk_cell HX.out.box 8
                     have r0 : w2.cell? ⟨w.heap.size + 1, 0, none⟩ = some (.int .i64 0) := blk_cell HX.out.res 0
                     have z0 := blk_frozen HX.out.res 0
                     skip)
                  | (go_at_call 55; first | (with_reducible refine (check_ok _ _).mono ?_; rintro e w'' ⟨rfl, hw⟩; have hw := hw.symm; subst hw) | (with_reducible refine (check_no _ _).mono ?_; rintro e w'' ⟨rfl, hw⟩; have hw := hw.symm; subst hw))
                  | (go_at_call 72
                     first
                       | (with_reducible refine (keys_ok A c rs _ k1.out (Kd.C_below HR.out HX.out.low) HC.out).mono ?_)
                       | (with_reducible refine (keys_no A c rs _ k1.out (Kd.C_below HR.out HX.out.low) HC.out).mono ?_)
                       | (with_reducible refine (keys_ok B d ws _ k2.out (Kd.C_below HS.out HX.out.low) HD.out).mono ?_)
                       | (with_reducible refine (keys_no B d ws _ k2.out (Kd.C_below HS.out HX.out.low) HD.out).mono ?_)
                     rintro e w2 ⟨rfl, hB⟩
                     have HX := Lib.hid (HX.out.step hB)
                     clear hB
                     have c1 : w2.cell? ⟨w.heap.size, 1, none⟩ = some (.string f) := blk_cell HX.out.box 1
                     have c2 : w2.cell? ⟨w.heap.size, 2, none⟩ = some (.string t) := blk_cell HX.out.box 2
                     have c3 : w2.cell? ⟨w.heap.size, 3, none⟩ = some (.int .u64 am) := blk_cell HX.out.box 3
                     have c4 : w2.cell? ⟨w.heap.size, 4, none⟩ = some (.int .u64 nc) := blk_cell HX.out.box 4
                     have c5 : w2.cell? ⟨w.heap.size, 5, none⟩ = some (.string ky') := blk_cell HX.out.box 5
                     have c6 : w2.cell? ⟨w.heap.size, 6, none⟩ = some (.string vl) := blk_cell HX.out.box 6
                     have c7 : w2.cell? ⟨w.heap.size, 7, none⟩ = some (.slice A rs.length c) := blk_cell HX.out.box 7
                     have c8 : w2.cell? ⟨w.heap.size, 8, none⟩ = some (.slice B ws.length d) := blk_cell HX.out.box 8
                     have r0 : w2.cell? ⟨w.heap.size + 1, 0, none⟩ = some (.int .i64 0) := blk_cell HX.out.res 0
                     have z0 := blk_frozen HX.out.res 0
                     skip))
                refine leaves_cons (f := 51) (args := #[.pointer (some ⟨w.heap.size + 1, 0, none⟩)]) (by simp) (by simp [go_sem]) ?_
                refine (caught_panicking ⟨w.heap.size + 1, 0, none⟩ 0 2 [] _ (blk_cell HX.out.res 0) (blk_frozen HX.out.res 0)).mono ?_
                rintro e u' w'' ⟨rfl, rfl, rfl⟩
                have hq := HX.out.resr (.int .i64 2)
                simp [Leaves, settle, results, Tryd.results41, go_sem, hq]
                exact HX.out.setr _
            · have b5 : (am == 0) = false := by simp [h5]
              have hE : ch 2 f t am nc ky' vl rs ws = 3 := by simp [ch, chF, h1, h2, h3, h4, h5]
              rw [hE]
              clear hE hnil
              try clear h3
              try clear h5
              go_wp2_with (first
                | (go_at_call 71
                   go_must (refine (name_calls _ _).mono ?_)
                   rintro e w2 ⟨rfl, hB⟩
                   have HX := Lib.hid (HX.out.step hB)
                   clear hB
                   have c1 : w2.cell? ⟨w.heap.size, 1, none⟩ = some (.string f) := blk_cell HX.out.box 1
                   have c2 : w2.cell? ⟨w.heap.size, 2, none⟩ = some (.string t) := blk_cell HX.out.box 2
                   have c3 : w2.cell? ⟨w.heap.size, 3, none⟩ = some (.int .u64 am) := blk_cell HX.out.box 3
                   have c4 : w2.cell? ⟨w.heap.size, 4, none⟩ = some (.int .u64 nc) := blk_cell HX.out.box 4
                   have c5 : w2.cell? ⟨w.heap.size, 5, none⟩ = some (.string ky') := blk_cell HX.out.box 5
                   have c6 : w2.cell? ⟨w.heap.size, 6, none⟩ = some (.string vl) := blk_cell HX.out.box 6
                   have c7 : w2.cell? ⟨w.heap.size, 7, none⟩ = some (.slice A rs.length c) := blk_cell HX.out.box 7
                   have c8 : w2.cell? ⟨w.heap.size, 8, none⟩ = some (.slice B ws.length d) := blk_cell HX.out.box 8
                   have r0 : w2.cell? ⟨w.heap.size + 1, 0, none⟩ = some (.int .i64 0) := blk_cell HX.out.res 0
                   have z0 := blk_frozen HX.out.res 0
                   skip)
                | (go_at_call 55; first | (with_reducible refine (check_ok _ _).mono ?_; rintro e w'' ⟨rfl, hw⟩; have hw := hw.symm; subst hw) | (with_reducible refine (check_no _ _).mono ?_; rintro e w'' ⟨rfl, hw⟩; have hw := hw.symm; subst hw))
                | (go_at_call 72
                   first
                     | (with_reducible refine (keys_ok A c rs _ k1.out (Kd.C_below HR.out HX.out.low) HC.out).mono ?_)
                     | (with_reducible refine (keys_no A c rs _ k1.out (Kd.C_below HR.out HX.out.low) HC.out).mono ?_)
                     | (with_reducible refine (keys_ok B d ws _ k2.out (Kd.C_below HS.out HX.out.low) HD.out).mono ?_)
                     | (with_reducible refine (keys_no B d ws _ k2.out (Kd.C_below HS.out HX.out.low) HD.out).mono ?_)
                   rintro e w2 ⟨rfl, hB⟩
                   have HX := Lib.hid (HX.out.step hB)
                   clear hB
                   have c1 : w2.cell? ⟨w.heap.size, 1, none⟩ = some (.string f) := blk_cell HX.out.box 1
                   have c2 : w2.cell? ⟨w.heap.size, 2, none⟩ = some (.string t) := blk_cell HX.out.box 2
                   have c3 : w2.cell? ⟨w.heap.size, 3, none⟩ = some (.int .u64 am) := blk_cell HX.out.box 3
                   have c4 : w2.cell? ⟨w.heap.size, 4, none⟩ = some (.int .u64 nc) := blk_cell HX.out.box 4
                   have c5 : w2.cell? ⟨w.heap.size, 5, none⟩ = some (.string ky') := blk_cell HX.out.box 5
                   have c6 : w2.cell? ⟨w.heap.size, 6, none⟩ = some (.string vl) := blk_cell HX.out.box 6
                   have c7 : w2.cell? ⟨w.heap.size, 7, none⟩ = some (.slice A rs.length c) := blk_cell HX.out.box 7
                   have c8 : w2.cell? ⟨w.heap.size, 8, none⟩ = some (.slice B ws.length d) := blk_cell HX.out.box 8
                   have r0 : w2.cell? ⟨w.heap.size + 1, 0, none⟩ = some (.int .i64 0) := blk_cell HX.out.res 0
                   have z0 := blk_frozen HX.out.res 0
                   skip))
              refine leaves_cons (f := 51) (args := #[.pointer (some ⟨w.heap.size + 1, 0, none⟩)]) (by simp) (by simp [go_sem]) ?_
              refine (caught_panicking ⟨w.heap.size + 1, 0, none⟩ 0 3 [] _ (blk_cell HX.out.res 0) (blk_frozen HX.out.res 0)).mono ?_
              rintro e u' w'' ⟨rfl, rfl, rfl⟩
              have hq := HX.out.resr (.int .i64 3)
              simp [Leaves, settle, results, Tryd.results41, go_sem, hq]
              exact HX.out.setr _
          ·
            have hE : ch 2 f t am nc ky' vl rs ws = 3 := by simp [ch, chF, h1, h2, h3, h4]
            rw [hE]
            clear hE hnil
            try clear h3
            try clear h5
            go_wp2_with (first
              | (go_at_call 71
                 go_must (refine (name_calls _ _).mono ?_)
                 rintro e w2 ⟨rfl, hB⟩
                 have HX := Lib.hid (HX.out.step hB)
                 clear hB
                 have c1 : w2.cell? ⟨w.heap.size, 1, none⟩ = some (.string f) := blk_cell HX.out.box 1
                 have c2 : w2.cell? ⟨w.heap.size, 2, none⟩ = some (.string t) := blk_cell HX.out.box 2
                 have c3 : w2.cell? ⟨w.heap.size, 3, none⟩ = some (.int .u64 am) := blk_cell HX.out.box 3
                 have c4 : w2.cell? ⟨w.heap.size, 4, none⟩ = some (.int .u64 nc) := blk_cell HX.out.box 4
                 have c5 : w2.cell? ⟨w.heap.size, 5, none⟩ = some (.string ky') := blk_cell HX.out.box 5
                 have c6 : w2.cell? ⟨w.heap.size, 6, none⟩ = some (.string vl) := blk_cell HX.out.box 6
                 have c7 : w2.cell? ⟨w.heap.size, 7, none⟩ = some (.slice A rs.length c) := blk_cell HX.out.box 7
                 have c8 : w2.cell? ⟨w.heap.size, 8, none⟩ = some (.slice B ws.length d) := blk_cell HX.out.box 8
                 have r0 : w2.cell? ⟨w.heap.size + 1, 0, none⟩ = some (.int .i64 0) := blk_cell HX.out.res 0
                 have z0 := blk_frozen HX.out.res 0
                 skip)
              | (go_at_call 55; first | (with_reducible refine (check_ok _ _).mono ?_; rintro e w'' ⟨rfl, hw⟩; have hw := hw.symm; subst hw) | (with_reducible refine (check_no _ _).mono ?_; rintro e w'' ⟨rfl, hw⟩; have hw := hw.symm; subst hw))
              | (go_at_call 72
                 first
                   | (with_reducible refine (keys_ok A c rs _ k1.out (Kd.C_below HR.out HX.out.low) HC.out).mono ?_)
                   | (with_reducible refine (keys_no A c rs _ k1.out (Kd.C_below HR.out HX.out.low) HC.out).mono ?_)
                   | (with_reducible refine (keys_ok B d ws _ k2.out (Kd.C_below HS.out HX.out.low) HD.out).mono ?_)
                   | (with_reducible refine (keys_no B d ws _ k2.out (Kd.C_below HS.out HX.out.low) HD.out).mono ?_)
                 rintro e w2 ⟨rfl, hB⟩
                 have HX := Lib.hid (HX.out.step hB)
                 clear hB
                 have c1 : w2.cell? ⟨w.heap.size, 1, none⟩ = some (.string f) := blk_cell HX.out.box 1
                 have c2 : w2.cell? ⟨w.heap.size, 2, none⟩ = some (.string t) := blk_cell HX.out.box 2
                 have c3 : w2.cell? ⟨w.heap.size, 3, none⟩ = some (.int .u64 am) := blk_cell HX.out.box 3
                 have c4 : w2.cell? ⟨w.heap.size, 4, none⟩ = some (.int .u64 nc) := blk_cell HX.out.box 4
                 have c5 : w2.cell? ⟨w.heap.size, 5, none⟩ = some (.string ky') := blk_cell HX.out.box 5
                 have c6 : w2.cell? ⟨w.heap.size, 6, none⟩ = some (.string vl) := blk_cell HX.out.box 6
                 have c7 : w2.cell? ⟨w.heap.size, 7, none⟩ = some (.slice A rs.length c) := blk_cell HX.out.box 7
                 have c8 : w2.cell? ⟨w.heap.size, 8, none⟩ = some (.slice B ws.length d) := blk_cell HX.out.box 8
                 have r0 : w2.cell? ⟨w.heap.size + 1, 0, none⟩ = some (.int .i64 0) := blk_cell HX.out.res 0
                 have z0 := blk_frozen HX.out.res 0
                 skip))
            refine leaves_cons (f := 51) (args := #[.pointer (some ⟨w.heap.size + 1, 0, none⟩)]) (by simp) (by simp [go_sem]) ?_
            refine (caught_panicking ⟨w.heap.size + 1, 0, none⟩ 0 3 [] _ (blk_cell HX.out.res 0) (blk_frozen HX.out.res 0)).mono ?_
            rintro e u' w'' ⟨rfl, rfl, rfl⟩
            have hq := HX.out.resr (.int .i64 3)
            simp [Leaves, settle, results, Tryd.results41, go_sem, hq]
            exact HX.out.setr _
        · have b3 : decide ((vl.size : Int) ≤ 64) = false := by simp; omega
          have hE : ch 2 f t am nc ky' vl rs ws = 3 := by simp [ch, chF, h1, h2, h3]
          rw [hE]
          clear hE hnil
          try clear h3
          try clear h5
          go_wp2_with (first
            | (go_at_call 71
               go_must (refine (name_calls _ _).mono ?_)
               rintro e w2 ⟨rfl, hB⟩
               have HX := Lib.hid (HX.out.step hB)
               clear hB
               have c1 : w2.cell? ⟨w.heap.size, 1, none⟩ = some (.string f) := blk_cell HX.out.box 1
               have c2 : w2.cell? ⟨w.heap.size, 2, none⟩ = some (.string t) := blk_cell HX.out.box 2
               have c3 : w2.cell? ⟨w.heap.size, 3, none⟩ = some (.int .u64 am) := blk_cell HX.out.box 3
               have c4 : w2.cell? ⟨w.heap.size, 4, none⟩ = some (.int .u64 nc) := blk_cell HX.out.box 4
               have c5 : w2.cell? ⟨w.heap.size, 5, none⟩ = some (.string ky') := blk_cell HX.out.box 5
               have c6 : w2.cell? ⟨w.heap.size, 6, none⟩ = some (.string vl) := blk_cell HX.out.box 6
               have c7 : w2.cell? ⟨w.heap.size, 7, none⟩ = some (.slice A rs.length c) := blk_cell HX.out.box 7
               have c8 : w2.cell? ⟨w.heap.size, 8, none⟩ = some (.slice B ws.length d) := blk_cell HX.out.box 8
               have r0 : w2.cell? ⟨w.heap.size + 1, 0, none⟩ = some (.int .i64 0) := blk_cell HX.out.res 0
               have z0 := blk_frozen HX.out.res 0
               skip)
            | (go_at_call 55; first | (with_reducible refine (check_ok _ _).mono ?_; rintro e w'' ⟨rfl, hw⟩; have hw := hw.symm; subst hw) | (with_reducible refine (check_no _ _).mono ?_; rintro e w'' ⟨rfl, hw⟩; have hw := hw.symm; subst hw))
            | (go_at_call 72
               first
                 | (with_reducible refine (keys_ok A c rs _ k1.out (Kd.C_below HR.out HX.out.low) HC.out).mono ?_)
                 | (with_reducible refine (keys_no A c rs _ k1.out (Kd.C_below HR.out HX.out.low) HC.out).mono ?_)
                 | (with_reducible refine (keys_ok B d ws _ k2.out (Kd.C_below HS.out HX.out.low) HD.out).mono ?_)
                 | (with_reducible refine (keys_no B d ws _ k2.out (Kd.C_below HS.out HX.out.low) HD.out).mono ?_)
               rintro e w2 ⟨rfl, hB⟩
               have HX := Lib.hid (HX.out.step hB)
               clear hB
               have c1 : w2.cell? ⟨w.heap.size, 1, none⟩ = some (.string f) := blk_cell HX.out.box 1
               have c2 : w2.cell? ⟨w.heap.size, 2, none⟩ = some (.string t) := blk_cell HX.out.box 2
               have c3 : w2.cell? ⟨w.heap.size, 3, none⟩ = some (.int .u64 am) := blk_cell HX.out.box 3
               have c4 : w2.cell? ⟨w.heap.size, 4, none⟩ = some (.int .u64 nc) := blk_cell HX.out.box 4
               have c5 : w2.cell? ⟨w.heap.size, 5, none⟩ = some (.string ky') := blk_cell HX.out.box 5
               have c6 : w2.cell? ⟨w.heap.size, 6, none⟩ = some (.string vl) := blk_cell HX.out.box 6
               have c7 : w2.cell? ⟨w.heap.size, 7, none⟩ = some (.slice A rs.length c) := blk_cell HX.out.box 7
               have c8 : w2.cell? ⟨w.heap.size, 8, none⟩ = some (.slice B ws.length d) := blk_cell HX.out.box 8
               have r0 : w2.cell? ⟨w.heap.size + 1, 0, none⟩ = some (.int .i64 0) := blk_cell HX.out.res 0
               have z0 := blk_frozen HX.out.res 0
               skip))
          refine leaves_cons (f := 51) (args := #[.pointer (some ⟨w.heap.size + 1, 0, none⟩)]) (by simp) (by simp [go_sem]) ?_
          refine (caught_panicking ⟨w.heap.size + 1, 0, none⟩ 0 3 [] _ (blk_cell HX.out.res 0) (blk_frozen HX.out.res 0)).mono ?_
          rintro e u' w'' ⟨rfl, rfl, rfl⟩
          have hq := HX.out.resr (.int .i64 3)
          simp [Leaves, settle, results, Tryd.results41, go_sem, hq]
          exact HX.out.setr _
def tx_Check.f (a0_0 : Int) (a0_1 a0_2 : ByteArray) (a0_3 a0_4 : Int) (a0_5 a0_6 : ByteArray) (l0_7 l0_8 : List ByteArray) : Option Int := some (ch a0_0 a0_1 a0_2 a0_3 a0_4 a0_5 a0_6 l0_7 l0_8)
theorem tx_Check.calls (a0_0 : Int) (a0_1 a0_2 : ByteArray) (a0_3 a0_4 : Int) (a0_5 a0_6 : ByteArray) (A0_7 : Option Addr) (c0_7 : Nat) (l0_7 : List ByteArray) (A0_8 : Option Addr) (c0_8 : Nat) (l0_8 : List ByteArray) (r : Int) (w : World) (hr0_7 : Kd.C Kd.string w A0_7 l0_7.length l0_7) (hc0_7 : l0_7.length ≤ c0_7) (hr0_8 : Kd.C Kd.string w A0_8 l0_8.length l0_8) (hc0_8 : l0_8.length ≤ c0_8) (h : tx_Check.f a0_0 a0_1 a0_2 a0_3 a0_4 a0_5 a0_6 l0_7 l0_8 = some r) :
    Calls Tryd.prog 41 #[.agg #[.int .i64 a0_0, .string a0_1, .string a0_2, .int .u64 a0_3, .int .u64 a0_4, .string a0_5, .string a0_6, .slice A0_7 l0_7.length c0_7, .slice A0_8 l0_8.length c0_8]] w fun e w' => e = .returned (.int .i64 r) ∧ Below w.heap.size w w' := by
  obtain rfl := Option.some.inj h
  exact chk_calls a0_0 a0_1 a0_2 a0_3 a0_4 a0_5 a0_6 A0_7 A0_8 c0_7 c0_8 l0_7 l0_8 w hr0_7 hc0_7 hr0_8 hc0_8
end Go.Proofs.YtndicjikjcifaaaDoor
