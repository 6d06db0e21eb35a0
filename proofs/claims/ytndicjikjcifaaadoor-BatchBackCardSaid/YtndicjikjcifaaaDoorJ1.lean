/- Texts joined by wip/tools/slim2.py: WSized, WWords, WLast, WApart, WArr, WFoot, WKept, WShare, WQPut, WZeros, WN, WNEv, WMore, Base, WTab, Hk, Hkt, Hkq. -/
import Derived.SizedLaws
import Derived.ChangeSlices
import Derived.Below
import Derived.Deep.Draws
import Derived.Deep.AppendLies
import Derived.Maps.AppendAt
import Derived.OwnWalk
import Derived.Laws.BytesArg
import Derived.Laws.MakeOwn
import Derived.Laws.OwnMore
import Derived.Deep.OwnRows
import Derived.Tactics
import Derived.Lib.ConvBytes
import Derived.Laws.Slices
import Derived.WalkKit
import Derived.KernelRfl
import Derived.RowKit3
import Derived.Deep.LoopGhost
import Derived.Deep.QuietTactic
import Derived.BigQuiet
import Derived.WideLaws
import Derived.Deep.DeepCutAuto
import Derived.Deep.CutBlock
import Derived.Deep.RegionHeld3
import Derived.Laws.Rows
import Derived.Lib.AppendStr
import Derived.ArgAppend
import Derived.Laws.IdiomCopy
import Derived.RowKit
import Derived.OrdersHeld
import Derived.Laws.BitsLemmas
import Derived.Lib.Hide
import Derived.Laws.CopyRow
import Derived.Laws.CopyOwn
import Derived.Great.BuildSlice
-- PRINTED WORDS (module Derived/Print/Sized.lean): go-gate-2's, for the rows of laws over slices: an AI agent of Go's test side, Tue Nov 17 2026; no person has read it. Lean checks it.
namespace Go.Proofs.YtndicjikjcifaaaDoorW.PrintWords
open Go.ChangeShapes Go.WideShapes
end Go.Proofs.YtndicjikjcifaaaDoorW.PrintWords

-- PRINTED WORDS (module Derived/Print/Words.lean): go-wishes' parts 1 to 38 and go-gate-2's additions: AI agents of Go's test side, Mon Nov 16 2026; no person has read them. Plain theorems and definitions: no macro, no elab, no axiom.
set_option linter.unusedVariables false
set_option linter.unusedSimpArgs false
namespace Go.Proofs.YtndicjikjcifaaaDoorW.PrintWords
open Go.RowKit
structure Aside0 (p : Prop) : Prop where mk :: (out : p)
structure Drawn0 (w w' : World) : Prop where mk :: (out : ∃ n, w' = w.drewN n)
theorem Drawn0.refl (w : World) : Drawn0 w w := ⟨⟨0, rfl⟩⟩
theorem Drawn0.step {w w' : World} (h : Drawn0 w w') (n : Nat) : Drawn0 w (w'.drewN n) := by
  obtain ⟨m, rfl⟩ := h
  exact ⟨⟨m + n, World.drewN_drewN ..⟩⟩
theorem Drawn0.grown {w w' : World} (h : Drawn0 w w') : Grown w w' := by
  obtain ⟨n, rfl⟩ := h
  induction n with
  | zero => exact Grown.refl _
  | succ n ih => rw [← World.drew_drewN]; exact Grown.drew ih
theorem Drawn0.below {w w' : World} (h : Drawn0 w w') : Below w.heap.size w w' := by
  obtain ⟨n, rfl⟩ := h
  induction n with
  | zero => exact Below.refl _ _
  | succ n ih => rw [← World.drew_drewN]; exact ih.drew
/-! ### 1. Values and lists -/
def rd (xs : List Int) (i : Int) : Int := xs.getD i.toNat 0
def bt (s : ByteArray) (i : Int) : Int := if h : i.toNat < s.size then ((s[i.toNat]'h).toNat : Int) else 0
def nums (k : IntKind) (xs : List Int) : List Value := xs.map fun x => .int k x
/-! ### 2. The world -/
theorem below_alloc {w W : World} (h : Below w.heap.size w W) (o : Obj) : Below w.heap.size w (W.alloc o) := h.alloc h.size o
theorem below_drew {B : Nat} {w W : World} (h : Below B w W) : Below B w W.drew := ⟨h.os, h.tape, h.output, h.size, h.block⟩
theorem pw_below_drewN {B : Nat} {w W : World} (h : Below B w W) (n : Nat) : Below B w (W.drewN n) := ⟨h.os, h.tape, h.output, h.size, h.block⟩
theorem below_then {B : Nat} {w w1 w2 : World} (h : Below B w w1) (hB : B ≤ w1.heap.size) (k : Below w1.heap.size w1 w2) : Below B w w2 :=
  h.trans ⟨k.os, k.tape, k.output, k.size, fun i hi => k.block i (Nat.lt_of_lt_of_le hi hB)⟩
theorem grown_of_below {w w1 : World} (h : Below w.heap.size w w1) (row : Option Nat) : w.grownBy w1 row := ⟨h.os, h.tape, h.output, h.size, fun i hi _ => h.block i hi⟩
theorem pw_cell_below {w w1 : World} (h : Below w.heap.size w w1) {a : Addr} {v : Value} (hc : w.cell? a = some v) : w1.cell? a = some v := (h.cell (World.block_lt_of_cell? w a hc)).trans hc
/-! ### 3. A slice of whole numbers that is read; nil, empty and other slices alike -/
def ReadsInt (w : World) (k : IntKind) (A : Option Addr) (n : Nat) (xs : List Int) : Prop :=
  xs.length = n ∧ n ≤ 9223372036854775807 ∧ (0 < n → ∃ ad, A = some ad ∧ ∀ j, j < n → w.cell? (ad.add j) = some (.int k (xs.getD j 0)))
theorem ReadsInt.at_ {w : World} {k : IntKind} {A : Option Addr} {n : Nat} {xs : List Int} (h : ReadsInt w k A n xs) (i : Int) (h0 : 0 ≤ i) (h1 : i < n) : ∃ ad, A = some ad ∧ w.cell? (ad.add i.toNat) = some (.int k (rd xs i)) := by
  obtain ⟨ad, e, hc⟩ := h.2.2 (by omega)
  exact ⟨ad, e, hc _ (by omega)⟩
theorem ReadsInt.below {w w1 : World} {k : IntKind} {A : Option Addr} {n : Nat} {xs : List Int} (h : ReadsInt w k A n xs) (hb : Below w.heap.size w w1) : ReadsInt w1 k A n xs :=
  ⟨h.1, h.2.1, fun hn => by
    obtain ⟨ad, e, hc⟩ := h.2.2 hn
    exact ⟨ad, e, fun j hj => pw_cell_below hb (hc j hj)⟩⟩
/-! ### 4. A row of the call's own -/
theorem own_nil (W : World) (base : Nat) (e : TypeId) (size : Nat) : W.ownsRow base e size (.slice none 0 0) 0 [] := ⟨by simp, .inl ⟨rfl, rfl⟩⟩
theorem own_base {w : World} {base : Nat} {e : TypeId} {size n : Nat} {v : Value} {xs : List Value} (h : w.ownsRow base e size v n xs) (k : Nat) (hk : v.ownBlock = some k) : base ≤ k := by
  rcases h.2 with ⟨rfl, _⟩ | ⟨g, cap, cur, rfl, hb, _⟩
  · simp [Value.ownBlock] at hk
  · have : g = k := by simpa [Value.ownBlock] using hk
    omega
theorem own_lt {w : World} {base : Nat} {e : TypeId} {size n : Nat} {v : Value} {xs : List Value} (h : w.ownsRow base e size v n xs) (k : Nat) (hk : v.ownBlock = some k) : k < w.heap.size := by
  rcases h.2 with ⟨rfl, _⟩ | ⟨g, cap, cur, rfl, hb, hh, _⟩
  · simp [Value.ownBlock] at hk
  · have : g = k := by simpa [Value.ownBlock] using hk
    subst this
    exact (Array.getElem?_eq_some_iff.1 hh).1
theorem pw_own_below {w w1 : World} {base : Nat} {e : TypeId} {size n : Nat} {v : Value} {xs : List Value} (h : w.ownsRow base e size v n xs) (hb : Below w.heap.size w w1) : w1.ownsRow base e size v n xs :=
  h.kept (grown_of_below hb none) (by cases v.ownBlock <;> simp)
theorem own_other {w w1 : World} {base : Nat} {e : TypeId} {size n : Nat} {v : Value} {xs : List Value} (h : w.ownsRow base e size v n xs) {row : Option Nat} (hg : w.grownBy w1 row) (hne : v.ownBlock = none ∨ v.ownBlock ≠ row) : w1.ownsRow base e size v n xs := h.kept hg hne
theorem own_string {P : Program} {w : World} {base n : Nat} {e' src dst e : TypeId} {v : Value} {xs : List Int} (hs : P.underlying src = some (.slice e)) (he : P.underlying e = some (.int .u8)) (hd : P.underlying dst = some .string)
    (h : w.ownsRow base e' 1 v n (nums .u8 xs)) : (convert src dst v).run P w = .ok (.string (strOfNums xs)) w := by
  have hl : xs.length = n := by have := h.1; simp [nums] at this; exact this
  rcases h.2 with ⟨rfl, rfl⟩ | ⟨g, cap, cur, rfl, _⟩
  · obtain rfl : xs = [] := List.eq_nil_of_length_eq_zero hl
    exact run_convert_bytes_nil w src e hs he 0 0 dst hd
  · refine run_convert_bytes_arg w src e hs he g 0 n cap xs hl (fun i hi => ?_) dst hd
    have hc := h.cells (g := g) rfl i (.int .u8 (xs.getD i 0)) (by simp [nums, List.getElem?_eq_getElem (show i < xs.length by omega), List.getD_eq_getElem?_getD])
    have ha : (⟨g, 0, none⟩ : Addr).add i = ⟨g, 0 + i, none⟩ := by unfold Addr.add; split <;> simp_all
    rwa [ha] at hc
/-! ### 5. append(v, x): behind 'at_builtin'; the goal's world is 'W.alloc' of the variadic's box -/
section
variable {P : Program} {ops : Array Oper} {rest : List Oper} {o : Oper} {a : Act} {Q : Exit → Act → World → Prop}
end
/-! ### 6. make([]T, n), n an Int; a literal -/
section
variable {P : Program}
end
/-! ### 7. v[i] read and v[i] = x, v a row of the call's own: 'obtain ⟨g, cap, rfl, hgb, hgl⟩ := HO.out.form (by omega)' first -/
/-! ### 8. append(v, ys...): ys a slice that is read, nil let in; behind 'at_builtin' -/
section
variable {P : Program} {ops : Array Oper} {rest : List Oper} {o : Oper} {a : Act} {Q : Exit → Act → World → Prop}
end
/-! ### 9. []byte(s): a slice that is read (its row bears a conversion's mark: no row of one's own); cuts of a slice that is read -/
def bytesOf (s : ByteArray) : List Int := s.data.toList.map fun b => (b.toNat : Int)
theorem ReadsInt.take_ {w : World} {k : IntKind} {A : Option Addr} {n : Nat} {xs : List Int} (h : ReadsInt w k A n xs) (i : Nat) (hi : i ≤ n) : ReadsInt w k A i (xs.take i) := by
  refine ⟨by rw [List.length_take, h.1]; omega, by have := h.2.1; omega, fun hp => ?_⟩
  obtain ⟨ad, e, hc⟩ := h.2.2 (by omega)
  refine ⟨ad, e, fun j hj => ?_⟩
  rw [hc j (by omega)]
  simp [List.getD_eq_getElem?_getD, hj]
/-! ### 10. Rounds: more rounds give the same answer; what ends gives a number of rounds -/
def LeO {α : Type} (a b : Option α) : Prop := ∀ r, a = some r → b = some r
theorem LeO.refl {α : Type} (a : Option α) : LeO a a := fun _ h => h
theorem LeO.none {α : Type} (b : Option α) : LeO Option.none b := fun _ h => by cases h
theorem LeO.trans {α : Type} {a b c : Option α} (h : LeO a b) (k : LeO b c) : LeO a c := fun r hr => k r (h r hr)
theorem LeO.ite {α : Type} {c : Prop} [Decidable c] {a a' b b' : Option α} (h : LeO a a') (k : LeO b b') : LeO (if c then a else b) (if c then a' else b') := by
  split
  · exact h
  · exact k
theorem LeO.bind {α β : Type} {a a' : Option α} {f f' : α → Option β} (h : LeO a a') (k : ∀ x, LeO (f x) (f' x)) : LeO (a.bind f) (a'.bind f') := by
  intro r hr
  obtain ⟨x, hx, hf⟩ := Option.bind_eq_some_iff.1 hr
  exact Option.bind_eq_some_iff.2 ⟨x, h x hx, k x r hf⟩
theorem LeO.map {α β : Type} {a a' : Option α} (f : α → β) (h : LeO a a') : LeO (a.map f) (a'.map f) := by
  intro r hr
  obtain ⟨x, hx, hf⟩ := Option.map_eq_some_iff.1 hr
  exact Option.map_eq_some_iff.2 ⟨x, h x hx, hf⟩
theorem more_rounds {α : Type} {g : Nat → Option α} (h : ∀ k, LeO (g k) (g (k + 1))) (k : Nat) : ∀ j, LeO (g k) (g (k + j))
  | 0 => LeO.refl _
  | j + 1 => (more_rounds h k j).trans (h (k + j))
theorem at_rounds {α : Type} {g : Nat → Option α} (h : ∀ k, LeO (g k) (g (k + 1))) {k k' : Nat} (hk : k ≤ k') {r : α} (hr : g k = some r) : g k' = some r := by
  have := more_rounds h k (k' - k) r hr
  rwa [Nat.add_sub_cancel' hk] at this
theorem together {α β : Type} {g : Nat → Option α} {f : Nat → Option β} (hg : ∀ k, LeO (g k) (g (k + 1))) (hf : ∀ k, LeO (f k) (f (k + 1))) {r : α} {q : β} (h : ∃ k, g k = some r) (h' : ∃ k, f k = some q) : ∃ k, g k = some r ∧ f k = some q := by
  obtain ⟨k, hk⟩ := h
  obtain ⟨k', hk'⟩ := h'
  exact ⟨max k k', at_rounds hg (Nat.le_max_left _ _) hk, at_rounds hf (Nat.le_max_right _ _) hk'⟩
/-! ### 11. Rows of elements of several cells (structs): read, made. R: what an element's cells say ('RepItem w': printed for each type) -/
def Reps {α : Type} (R : α → List Value → Prop) (size : Nat) (ps : List α) (cs : List Value) : Prop :=
  cs.length = ps.length * size ∧ ∀ j p, ps[j]? = some p → R p ((cs.drop (j * size)).take size)
theorem Reps.none {α : Type} (R : α → List Value → Prop) (size : Nat) : Reps R size [] [] := ⟨by simp, fun j p h => by simp at h⟩
theorem Reps.snoc {α : Type} {R : α → List Value → Prop} {size : Nat} {ps : List α} {cs c : List Value} {p : α} (h : Reps R size ps cs) (hp : R p c) (hc : c.length = size) : Reps R size (ps ++ [p]) (cs ++ c) := by
  refine ⟨by rw [List.length_append, h.1, hc, List.length_append, List.length_singleton, Nat.add_mul, Nat.one_mul], fun j q hq => ?_⟩
  rcases Nat.lt_or_ge j ps.length with hj | hj
  · rw [List.getElem?_append_left hj] at hq
    have h1 : j * size + size ≤ cs.length := by rw [h.1, ← Nat.succ_mul]; exact Nat.mul_le_mul_right _ hj
    have h2 := h.2 j q hq
    rw [List.drop_append_of_le_length (by omega), List.take_append_of_le_length (by rw [List.length_drop]; omega)]
    exact h2
  · have hj' : j = ps.length := by
      have := (List.getElem?_eq_some_iff.1 hq).1
      rw [List.length_append, List.length_singleton] at this
      omega
    subst hj'
    have hq' : p = q := by simpa using hq
    subst hq'
    rw [← h.1, List.drop_left, ← hc, List.take_length]
    exact hp
theorem Reps.imp_ {α : Type} {R R' : α → List Value → Prop} {size : Nat} {ps : List α} {cs : List Value} (h : Reps R size ps cs) (hR : ∀ p c, R p c → R' p c) : Reps R' size ps cs := ⟨h.1, fun j p hj => hR _ _ (h.2 j p hj)⟩
def ReadsRow {α : Type} (R : α → List Value → Prop) (size : Nat) (w : World) (A : Option Addr) (n : Nat) (ps : List α) : Prop :=
  ps.length = n ∧ n ≤ 9223372036854775807 ∧ (0 < n → ∃ ad, A = some ad ∧ ∀ j p, ps[j]? = some p → ∃ c, c.length = size ∧ R p c ∧ ∀ i u, c[i]? = some u → w.cell? (ad.add (j * size + i)) = some u)
theorem ReadsRow.get_ {α : Type} {R : α → List Value → Prop} {size : Nat} {w : World} {A : Option Addr} {n : Nat} {ps : List α} (h : ReadsRow R size w A n ps) (d : α) (i : Int) (h0 : 0 ≤ i) (h1 : i < n) :
    ∃ ad c, A = some ad ∧ c.length = size ∧ R (ps.getD i.toNat d) c ∧ ∀ j u, c[j]? = some u → w.cell? (ad.add (i.toNat * size + j)) = some u := by
  obtain ⟨ad, e, hc⟩ := h.2.2 (by omega)
  have hl : i.toNat < ps.length := by have := h.1; omega
  obtain ⟨c, hs, hr, hcell⟩ := hc i.toNat _ (List.getElem?_eq_getElem hl)
  refine ⟨ad, c, e, hs, ?_, hcell⟩
  rw [List.getD_eq_getElem?_getD, List.getElem?_eq_getElem hl]
  exact hr
theorem ReadsRow.imp_ {α : Type} {R R' : α → List Value → Prop} {size : Nat} {w w1 : World} {A : Option Addr} {n : Nat} {ps : List α} (h : ReadsRow R size w A n ps) (hb : Below w.heap.size w w1) (hR : ∀ p c, R p c → R' p c) : ReadsRow R' size w1 A n ps :=
  ⟨h.1, h.2.1, fun hn => by
    obtain ⟨ad, e, hc⟩ := h.2.2 hn
    refine ⟨ad, e, fun j p hj => ?_⟩
    obtain ⟨c, hs, hr, hcell⟩ := hc j p hj
    exact ⟨c, hs, hR _ _ hr, fun i u hu => pw_cell_below hb (hcell i u hu)⟩⟩
theorem own_reads_row {α : Type} {R : α → List Value → Prop} {w : World} {base n size : Nat} {e : TypeId} {v : Value} {ps : List α} {cs : List Value} (h : w.ownsRow base e size v n cs) (hR : Reps R size ps cs) (hn : ps.length = n) :
    ∃ A c, v = .slice A n c ∧ ReadsRow R size w A n ps := by
  rcases Nat.eq_zero_or_pos n with h0 | h0
  · rcases h.2 with ⟨rfl, rfl⟩ | ⟨g, cap, cur, rfl, _⟩
    · exact ⟨none, 0, rfl, hn, by omega, fun hp => absurd hp (by omega)⟩
    · exact ⟨_, cap, rfl, hn, by omega, fun hp => absurd hp (by omega)⟩
  · obtain ⟨g, cap, rfl, _, _⟩ := h.form h0
    have hm : n ≤ 9223372036854775807 := by
      rcases h.2 with ⟨_, h1⟩ | ⟨g', cap', cur, he, _, _, h1, h2, _⟩
      · omega
      · simp only [maxLen] at h2
        omega
    refine ⟨_, cap, rfl, hn, hm, fun _ => ⟨_, rfl, fun j p hj => ⟨(cs.drop (j * size)).take size, ?_, hR.2 j p hj, fun i u hu => ?_⟩⟩⟩
    · have hjl := (List.getElem?_eq_some_iff.1 hj).1
      have h1 : j * size + size ≤ cs.length := by rw [hR.1, ← Nat.succ_mul]; exact Nat.mul_le_mul_right _ hjl
      rw [List.length_take, List.length_drop]
      omega
    · refine h.cells (g := g) rfl _ u ?_
      rw [List.getElem?_take] at hu
      split at hu
      · rw [List.getElem?_drop] at hu
        exact hu
      · cases hu
section
variable {P : Program} {ops : Array Oper} {rest : List Oper} {o : Oper} {a : Act} {Q : Exit → Act → World → Prop}
theorem print_append_cells {w0 W : World} (base : Nat) (hgd : o.guard = none) (s x : Operand) (t e : TypeId) (z : Value) (size bytes : Nat)
    (ho : o.op = .call { callee := .builtin .append, args := #[s, x], argTypes := #[t, t] })
    (ht : P.underlying t = some (.slice e)) (hinfo : (P.info? e).map (fun i => (i.zero, i.size, i.bytes)) = some (some z, size, bytes)) (hz : z.cells.size = size) (hs0 : 0 < size) (hb0 : 0 < bytes)
    (v : Value) (n : Nat) (xs ys : List Value) (hs : a.eval s = v) (hx : a.eval x = .slice (some ⟨W.heap.size, 0, none⟩) 1 1) (hys : ys.length = size) (h1 : ∀ u ∈ ys, u.oneCell' = true)
    (HO : W.ownsRow base e size v n xs) (HB : Below base w0 W) (hbase : base ≤ W.heap.size) (hl : (n + 1) * bytes ≤ 140737488355328)
    (h : ∀ v1 w1, w1.ownsRow base e size v1 (n + 1) (xs ++ ys) → Below base w0 w1 → W.grownBy w1 v.ownBlock → (v1.ownBlock = v.ownBlock ∨ ∃ b, v1.ownBlock = some b ∧ W.heap.size ≤ b) → wpList P ops Q rest (a.put o.dst v1) w1) :
    wpList P ops Q (o :: rest) a (W.alloc (.cells ys.toArray e)) := by
  obtain ⟨i0, hi, hzz⟩ := Option.map_eq_some_iff.1 hinfo
  simp only [Prod.mk.injEq] at hzz
  obtain ⟨hz0, hz1, hz2⟩ := hzz
  have hlen : n + 1 ≤ 140737488355328 := Nat.le_trans (Nat.le_mul_of_pos_right _ hb0) hl
  refine wpList_append_own_at (W.alloc (.cells ys.toArray e)) hgd s x t ho base e i0 z size bytes ht hi hz0 hz1 hz2 hz hs0 v n xs hs (HO.alloc _) ⟨W.heap.size, 0, none⟩ 1 1 ys hx (by rw [hys]; simp)
    (by simpa using World.news_of_block (cs := ys.toArray) (t := e) (fr := (0, 0)) (heap_alloc_new W (.cells ys.toArray e))) h1 (by simp only [maxLen]; omega) hl (by simp; omega) ?_
  intro v1 w1 hown hg _ hat
  refine h v1 w1 hown ((HB.alloc hbase _).grown hg (by simp; omega) (own_base HO)) (World.grownBy.trans (World.grownBy_alloc W _ _) hg) ?_
  rcases hat with hat | hat
  · exact .inl hat
  · exact .inr ⟨_, hat, by simp⟩
end
/-! ### 12. A block of one's own that is a state: its cells, what a store leaves -/
theorem own_ne {w : World} {base : Nat} {e t : TypeId} {size n g : Nat} {v : Value} {xs : List Value} {cs : Array Value} (h : w.ownsRow base e size v n xs) (hg : w.heap[g]? = some (.cells cs t (0, 0))) (hne : e ≠ t) : some g ≠ v.ownBlock := by
  rcases h.2 with ⟨rfl, _⟩ | ⟨g', cap, cur, rfl, _, hh, _⟩
  · simp [Value.ownBlock]
  · intro he
    have : g = g' := by simpa [Value.ownBlock] using he
    subst this
    rw [hg] at hh
    injection hh with hh
    injection hh with _ ht
    exact hne ht.symm
theorem blk_set {w : World} {g : Nat} {t : TypeId} {cs : Array Value} (h : w.heap[g]? = some (.cells cs t (0, 0))) (i : Nat) (u : Value) : (w.setCell ⟨g, i, none⟩ u).heap[g]? = some (.cells (cs.setIfInBounds i u) t (0, 0)) := by
  simp [World.setCell, Array.getElem?_modify, h]
theorem blk_far {w : World} {g : Nat} {t : TypeId} {cs : Array Value} (h : w.heap[g]? = some (.cells cs t (0, 0))) {p : Addr} (hp : g ≠ p.block) (u : Value) : (w.setCell p u).heap[g]? = some (.cells cs t (0, 0)) := (Below.heap_setCell w p u g hp).trans h
theorem blk_lt {w : World} {g : Nat} {o : Obj} (h : w.heap[g]? = some o) : g < w.heap.size := (Array.getElem?_eq_some_iff.1 h).1
theorem blk_cell {w : World} {g : Nat} {t : TypeId} {cs : Array Value} (h : w.heap[g]? = some (.cells cs t (0, 0))) (i : Nat) : w.cell? ⟨g, i, none⟩ = cs[i]? := cell_of_row w g i cs t (0, 0) h
theorem blk_frozen {w : World} {g : Nat} {t : TypeId} {cs : Array Value} (h : w.heap[g]? = some (.cells cs t (0, 0))) (i : Nat) : w.frozen? ⟨g, i, none⟩ = false := by simp [World.frozen?, h]
theorem blk_grown {w w1 : World} {g : Nat} {o : Obj} {row : Option Nat} (h : w.heap[g]? = some o) (hg : w.grownBy w1 row) (hne : some g ≠ row) : w1.heap[g]? = some o := (hg.block g (blk_lt h) hne).trans h
/-! ### 13. Two states at once: what a call on the state at block g (its row before: 'row') has turned -/
def KeepBut (w w' : World) (g : Nat) (row : Option Nat) : Prop := w.heap.size ≤ w'.heap.size ∧ ∀ i, i < w.heap.size → i ≠ g → some i ≠ row → w'.heap[i]? = w.heap[i]?
theorem KeepBut.refl (w : World) (g : Nat) (row : Option Nat) : KeepBut w w g row := ⟨Nat.le_refl _, fun _ _ _ _ => rfl⟩
theorem KeepBut.of_below {w w1 : World} (h : Below w.heap.size w w1) (g : Nat) (row : Option Nat) : KeepBut w w1 g row := ⟨h.size, fun i hi _ _ => h.block i hi⟩
theorem KeepBut.trans {w w1 w2 : World} {g : Nat} {row row1 : Option Nat} (h : KeepBut w w1 g row) (k : KeepBut w1 w2 g row1) (hr : row1 = row ∨ ∃ b, row1 = some b ∧ w.heap.size ≤ b) : KeepBut w w2 g row :=
  ⟨Nat.le_trans h.1 k.1, fun i hi hg hn => by
    refine (k.2 i (Nat.lt_of_lt_of_le hi h.1) hg ?_).trans (h.2 i hi hg hn)
    rcases hr with rfl | ⟨b, rfl, hb⟩
    · exact hn
    · intro e
      injection e with e
      omega⟩
theorem KeepBut.blk {w w1 : World} {g g' : Nat} {row : Option Nat} {o : Obj} (h : KeepBut w w1 g row) (hb : w.heap[g']? = some o) (hg : g' ≠ g) (hr : some g' ≠ row) : w1.heap[g']? = some o := (h.2 g' (blk_lt hb) hg hr).trans hb
theorem KeepBut.own {w w1 : World} {g : Nat} {row : Option Nat} {base : Nat} {e : TypeId} {size n : Nat} {v : Value} {xs : List Value} (h : KeepBut w w1 g row) (ho : w.ownsRow base e size v n xs) (hg : v.ownBlock ≠ some g) (hr : v.ownBlock = none ∨ v.ownBlock ≠ row) : w1.ownsRow base e size v n xs := by
  obtain ⟨h1, h2⟩ := ho
  refine ⟨h1, ?_⟩
  rcases h2 with h2 | ⟨b, cap, cur, rfl, hb, hh, r⟩
  · exact .inl h2
  · refine .inr ⟨b, cap, cur, rfl, hb, h.blk hh ?_ ?_, r⟩
    · intro e
      exact hg (by rw [← e]; rfl)
    · rcases hr with hr | hr
      · simp [Value.ownBlock] at hr
      · exact hr
/-! ### 10b. From some number of rounds on -/
def Ev {α : Type} (g : Nat → Option α) (r : α) : Prop := ∃ K, ∀ k, K ≤ k → g k = some r
theorem Ev.of {α : Type} {g : Nat → Option α} {r : α} (hg : ∀ k, LeO (g k) (g (k + 1))) {k : Nat} (h : g k = some r) : Ev g r := ⟨k, fun _ hk => at_rounds hg hk h⟩
theorem Ev.now {α : Type} (r : α) : Ev (fun _ => some r) r := ⟨0, fun _ _ => rfl⟩
theorem Ev.rounds {α : Type} {g : Nat → Option α} {r : α} (h : Ev g r) : ∃ k, g k = some r := by
  obtain ⟨K, h⟩ := h
  exact ⟨K, h K (Nat.le_refl _)⟩
theorem Ev.bind {α β : Type} {g : Nat → Option α} {f : Nat → α → Option β} {a : α} {r : β} (h : Ev g a) (k : Ev (fun n => f n a) r) : Ev (fun n => (g n).bind (f n)) r := by
  obtain ⟨K, h⟩ := h
  obtain ⟨K', k⟩ := k
  refine ⟨max K K', fun n hn => ?_⟩
  have h1 := h n (by omega)
  have h2 := k n (by omega)
  simp only [h1, Option.bind_some]
  exact h2
theorem Ev.step {α : Type} {g f : Nat → Option α} {r : α} (h : ∀ k, g (k + 1) = f k) (k : Ev f r) : Ev g r := by
  obtain ⟨K, k⟩ := k
  refine ⟨K + 1, fun n hn => ?_⟩
  obtain ⟨m, rfl⟩ : ∃ m, n = m + 1 := ⟨n - 1, by omega⟩
  rw [h]
  exact k m (by omega)
theorem Ev.congr {α : Type} {g f : Nat → Option α} {r : α} (h : ∀ k, g k = f k) (k : Ev f r) : Ev g r := by
  obtain ⟨K, k⟩ := k
  exact ⟨K, fun n hn => (h n).trans (k n hn)⟩
/-! ### 14. append as_ one step of a region that draws its order: for 'go_region_law' (and a region walked by hand) -/
section
variable {P : Program} {ops : Array Oper} {o : Oper} {a : Act} {Q : Exit → Act → World → Prop} {K : Act → World → Prop}
end
/-! ### 15. A row's base may be lowered -/
theorem own_weaken {w : World} {base base' : Nat} {e : TypeId} {size n : Nat} {v : Value} {xs : List Value} (h : w.ownsRow base e size v n xs) (hb : base' ≤ base) : w.ownsRow base' e size v n xs := by
  obtain ⟨h1, h2⟩ := h
  refine ⟨h1, ?_⟩
  rcases h2 with h2 | ⟨g, cap, cur, rfl, hg, r⟩
  · exact .inl h2
  · exact .inr ⟨g, cap, cur, rfl, Nat.le_trans hb hg, r⟩
/-! ### 16. Parts 3 to 9 for ANY element of one cell: 'enc' (Value.int k, Value.string, Value.bool), a default 'd' -/
section
variable {α : Type} {enc : α → Value} {d : α}
def rdOf (d : α) (xs : List α) (i : Int) : α := xs.getD i.toNat d
def ReadsOf (enc : α → Value) (d : α) (w : World) (A : Option Addr) (n : Nat) (xs : List α) : Prop :=
  xs.length = n ∧ n ≤ 9223372036854775807 ∧ (0 < n → ∃ ad, A = some ad ∧ ∀ j, j < n → w.cell? (ad.add j) = some (enc (xs.getD j d)))
theorem ReadsOf.at_ {w : World} {A : Option Addr} {n : Nat} {xs : List α} (h : ReadsOf enc d w A n xs) (i : Int) (h0 : 0 ≤ i) (h1 : i < n) : ∃ ad, A = some ad ∧ w.cell? (ad.add i.toNat) = some (enc (rdOf d xs i)) := by
  obtain ⟨ad, e, hc⟩ := h.2.2 (by omega)
  exact ⟨ad, e, hc _ (by omega)⟩
theorem ReadsOf.below {w w1 : World} {A : Option Addr} {n : Nat} {xs : List α} (h : ReadsOf enc d w A n xs) (hb : Below w.heap.size w w1) : ReadsOf enc d w1 A n xs :=
  ⟨h.1, h.2.1, fun hn => by
    obtain ⟨ad, e, hc⟩ := h.2.2 hn
    exact ⟨ad, e, fun j hj => pw_cell_below hb (hc j hj)⟩⟩
theorem ReadsOf.take_ {w : World} {A : Option Addr} {n : Nat} {xs : List α} (h : ReadsOf enc d w A n xs) (i : Nat) (hi : i ≤ n) : ReadsOf enc d w A i (xs.take i) := by
  refine ⟨by rw [List.length_take, h.1]; omega, by have := h.2.1; omega, fun hp => ?_⟩
  obtain ⟨ad, e, hc⟩ := h.2.2 (by omega)
  refine ⟨ad, e, fun j hj => ?_⟩
  rw [hc j (by omega)]
  simp [List.getD_eq_getElem?_getD, hj]
end
section
variable {α : Type} {P : Program} {ops : Array Oper} {rest : List Oper} {o : Oper} {a : Act} {Q : Exit → Act → World → Prop}
end
/-! ### 17. Rows of one element type held at once: no two share a block -/
/-! ### 18. A block behind a new one; behind a draw -/
theorem blk_alloc {w : World} {g : Nat} {o : Obj} (h : w.heap[g]? = some o) (o' : Obj) : (w.alloc o').heap[g]? = some o := (Below.heap_alloc w o' g (blk_lt h)).trans h
theorem blk_drew {w : World} {g : Nat} {o : Obj} (h : w.heap[g]? = some o) : w.drew.heap[g]? = some o := h
theorem blk_drewN {w : World} {g : Nat} {o : Obj} (h : w.heap[g]? = some o) (n : Nat) : (w.drewN n).heap[g]? = some o := h
theorem blk_below {w w1 : World} {g : Nat} {o : Obj} (h : w.heap[g]? = some o) (hb : Below w.heap.size w w1) : w1.heap[g]? = some o := (hb.block g (blk_lt h)).trans h
theorem blk_new (w : World) (o : Obj) : (w.alloc o).heap[w.heap.size]? = some o := heap_alloc_new w o
/-! ### 19. Results that lie in memory beside others -/
section
variable {P : Program}
end
/-! ### 20. Rows of elements of any kind: R is what an element's cells say -/
theorem own_le {w : World} {base n m c size : Nat} {e : TypeId} {A : Option Addr} {xs : List Value} (h : w.ownsRow base e size (.slice A m c) n xs) : m ≤ c := by
  rcases h.2 with ⟨he, _⟩ | ⟨g, cap, cur, he, _, _, hnc, _⟩
  · injection he with _ h2 h3
    omega
  · injection he with _ h2 h3
    omega
def OwnRow {α : Type} (R : α → List Value → Prop) (e : TypeId) (size : Nat) (w : World) (base : Nat) (v : Value) (ps : List α) : Prop :=
  ∃ inner, w.ownsRow base e size v ps.length inner ∧ Reps R size ps inner
section
variable {α : Type} {R R' : α → List Value → Prop} {e : TypeId} {size : Nat} {w w1 : World} {base : Nat} {v : Value} {ps : List α}
theorem OwnRow.none_ (R : α → List Value → Prop) (e : TypeId) (size : Nat) (w : World) (base : Nat) : OwnRow R e size w base (.slice none 0 0) [] := ⟨[], own_nil _ _ _ _, Reps.none _ _⟩
theorem OwnRow.imp_ (h : OwnRow R e size w base v ps) (hR : ∀ p c, R p c → R' p c) : OwnRow R' e size w base v ps := by
  obtain ⟨inner, ho, hr⟩ := h
  exact ⟨inner, ho, hr.imp_ hR⟩
theorem OwnRow.below (h : OwnRow R e size w base v ps) (hb : Below w.heap.size w w1) : OwnRow R e size w1 base v ps := by
  obtain ⟨inner, ho, hr⟩ := h
  exact ⟨inner, pw_own_below ho hb, hr⟩
theorem OwnRow.other (h : OwnRow R e size w base v ps) {row : Option Nat} (hg : w.grownBy w1 row) (hne : v.ownBlock = none ∨ v.ownBlock ≠ row) : OwnRow R e size w1 base v ps := by
  obtain ⟨inner, ho, hr⟩ := h
  exact ⟨inner, own_other ho hg hne, hr⟩
theorem OwnRow.reads (h : OwnRow R e size w base v ps) : ∃ A c, v = .slice A ps.length c ∧ ps.length ≤ c ∧ ReadsRow R size w A ps.length ps := by
  obtain ⟨inner, ho, hr⟩ := h
  obtain ⟨A, c, rfl, hrow⟩ := own_reads_row ho hr rfl
  exact ⟨A, c, rfl, own_le ho, hrow⟩
theorem OwnRow.ne_block (h : OwnRow R e size w base v ps) {g : Nat} {t : TypeId} {cells : Array Value} (hb : w.heap[g]? = some (.cells cells t (0, 0))) (ht : e ≠ t) : some g ≠ v.ownBlock := by
  obtain ⟨inner, ho, hr⟩ := h
  exact own_ne ho hb ht
theorem OwnRow.lit (W : World) (base : Nat) {inner : List Value} (hr : Reps R size ps inner) (hb : base ≤ W.heap.size) (hm : ps.length ≤ 9223372036854775807) :
    OwnRow R e size (W.alloc (.cells inner.toArray e)) base (.slice (some ⟨W.heap.size, 0, none⟩) ps.length ps.length) ps := by
  have h := World.ownsRow_lit (base := base) (e := e) (size := size) W inner.toArray ps.length hb (by simpa [maxLen] using hm) (by simpa using hr.1)
  exact ⟨inner, by simpa using h, hr⟩
end
section
variable {P : Program} {ops : Array Oper} {rest : List Oper} {o : Oper} {a : Act} {Q : Exit → Act → World → Prop} {α : Type} {R : α → List Value → Prop}
theorem OwnRow.append {w0 W : World} (base : Nat) (hgd : o.guard = none) (s x : Operand) (t e : TypeId) (z : Value) (size bytes : Nat)
    (ho : o.op = .call { callee := .builtin .append, args := #[s, x], argTypes := #[t, t] })
    (ht : P.underlying t = some (.slice e)) (hinfo : (P.info? e).map (fun i => (i.zero, i.size, i.bytes)) = some (some z, size, bytes)) (hz : z.cells.size = size) (hs0 : 0 < size) (hb0 : 0 < bytes)
    (v : Value) (ps : List α) (p : α) (cs : List Value) (hs : a.eval s = v) (hx : a.eval x = .slice (some ⟨W.heap.size, 0, none⟩) 1 1) (hp : R p cs) (hcs : cs.length = size) (h1 : ∀ u ∈ cs, u.oneCell' = true)
    (HO : OwnRow R e size W base v ps) (HB : Below base w0 W) (hbase : base ≤ W.heap.size) (hl : (ps.length + 1) * bytes ≤ 140737488355328)
    (h : ∀ v1 w1, OwnRow R e size w1 base v1 (ps ++ [p]) → Below base w0 w1 → W.grownBy w1 v.ownBlock → (v1.ownBlock = v.ownBlock ∨ ∃ b, v1.ownBlock = some b ∧ W.heap.size ≤ b) → wpList P ops Q rest (a.put o.dst v1) w1) :
    wpList P ops Q (o :: rest) a (W.alloc (.cells cs.toArray e)) := by
  obtain ⟨inner, hown, hr⟩ := HO
  refine print_append_cells base hgd s x t e z size bytes ho ht hinfo hz hs0 hb0 v ps.length inner cs hs hx hcs h1 hown HB hbase hl ?_
  intro v1 w1 hown1 hb1 hg1 hat1
  exact h v1 w1 ⟨inner ++ cs, by rw [List.length_append, List.length_singleton]; exact hown1, hr.snoc hp hcs⟩ hb1 hg1 hat1
end
section
variable {P : Program} {ops : Array Oper} {o : Oper} {a : Act} {Q : Exit → Act → World → Prop} {K : Act → World → Prop} {α : Type} {R : α → List Value → Prop}
end
theorem ReadsRow.inner_ {α : Type} {R : α → List Value → Prop} {size : Nat} {w : World} {ad : Addr} {n : Nat} {ps : List α} (h : ReadsRow R size w (some ad) n ps) :
    ∃ inner, Reps R size ps inner ∧ ∀ j u, inner[j]? = some u → w.cell? (ad.add j) = some u := by
  have key : ∀ m, m ≤ ps.length → ∃ inner, Reps R size (ps.take m) inner ∧ ∀ j u, inner[j]? = some u → w.cell? (ad.add j) = some u := by
    intro m
    induction m with
    | zero => exact fun _ => ⟨[], Reps.none _ _, fun j u hu => by simp at hu⟩
    | succ m ih =>
      intro hm
      obtain ⟨inner, hr, hc⟩ := ih (by omega)
      obtain ⟨ad', he, hcell⟩ := h.2.2 (by have := h.1; omega)
      injection he with he
      subst he
      obtain ⟨c, hcl, hp, hcc⟩ := hcell m _ (List.getElem?_eq_getElem (show m < ps.length by omega))
      refine ⟨inner ++ c, ?_, fun j u hu => ?_⟩
      · rw [List.take_succ_eq_append_getElem (show m < ps.length by omega)]
        exact hr.snoc hp hcl
      · have hil : inner.length = m * size := by rw [hr.1, List.length_take, Nat.min_eq_left (by omega)]
        rcases Nat.lt_or_ge j inner.length with hj | hj
        · rw [List.getElem?_append_left hj] at hu
          exact hc j u hu
        · rw [List.getElem?_append_right hj] at hu
          have := hcc (j - inner.length) u hu
          rwa [hil, Nat.add_sub_cancel' (by omega)] at this
  obtain ⟨inner, hr, hc⟩ := key ps.length (Nat.le_refl _)
  rw [List.take_length] at hr
  exact ⟨inner, hr, hc⟩
/-! ### 21. Cuts of a slice that came in, lengths spelled as_ the lists' -/
section
variable {α : Type} {P : Program}
theorem ReadsOf.len_ {enc : α → Value} {d : α} {w : World} {A : Option Addr} {n : Nat} {xs : List α} (h : ReadsOf enc d w A n xs) : ReadsOf enc d w A xs.length xs := by rw [h.1]; exact h
end
/-! ### 22. append([]byte, s...), s a string; behind 'at_builtin'. (No word on where the new row lies: two rows of bytes at once don't go by it.) -/
section
variable {P : Program} {ops : Array Oper} {rest : List Oper} {o : Oper} {a : Act} {Q : Exit → Act → World → Prop}
end
/-! ### 23. KINDS: what a value's cells say, read (K) and made (M), kind by kind; every mover proved once -/
structure Kd (α : Type) where
  sz : Nat
  E : List Nat
  K : World → α → List Value → Prop
  M : World → Nat → (Nat → Prop) → α → List Value → Prop
  K_len : ∀ {w x cs}, K w x cs → cs.length = sz
  K_one : ∀ {w x cs}, K w x cs → ∀ u ∈ cs, u.oneCell' = true
  K_below : ∀ {w w1 : World} {x cs}, Below w.heap.size w w1 → K w x cs → K w1 x cs
  K_of_M : ∀ {w base ok x cs}, M w base ok x cs → K w x cs
  M_mono : ∀ {w base ok ok' x cs}, (∀ k, ok k → ok' k) → M w base ok x cs → M w base ok' x cs
  M_bound : ∀ {w : World} {base ok x cs}, M w base ok x cs → M w base (fun k => ok k ∧ base ≤ k ∧ k < w.heap.size ∧ ∃ q, q ∈ E ∧ ∃ cells, w.heap[k]? = some (.cells cells q (0, 0))) x cs
  M_move : ∀ {w w1 : World} {base ok x cs}, (∀ k, ok k → w1.heap[k]? = w.heap[k]?) → M w base ok x cs → M w1 base ok x cs
  M_lower : ∀ {w base base' ok x cs}, base' ≤ base → M w base ok x cs → M w base' ok x cs
theorem own_move {w w1 : World} {base : Nat} {e : TypeId} {size n : Nat} {v : Value} {xs : List Value} (h : w.ownsRow base e size v n xs) (hm : ∀ k, v.ownBlock = some k → w1.heap[k]? = w.heap[k]?) : w1.ownsRow base e size v n xs := by
  obtain ⟨h1, h2⟩ := h
  refine ⟨h1, ?_⟩
  rcases h2 with h2 | ⟨g, cap, cur, rfl, hg, hh, r⟩
  · exact .inl h2
  · exact .inr ⟨g, cap, cur, rfl, hg, (hm g (by simp [Value.ownBlock])).trans hh, r⟩
theorem own_typed {w : World} {base : Nat} {e : TypeId} {size n : Nat} {v : Value} {xs : List Value} (h : w.ownsRow base e size v n xs) (k : Nat) (hk : v.ownBlock = some k) : ∃ cells, w.heap[k]? = some (.cells cells e (0, 0)) := by
  rcases h.2 with ⟨rfl, _⟩ | ⟨g, cap, cur, rfl, hg, hh, r⟩
  · simp [Value.ownBlock] at hk
  · have : g = k := by simpa [Value.ownBlock] using hk
    subst this
    exact ⟨cur, hh⟩
namespace Kd
def C {α : Type} (d : Kd α) (w : World) (A : Option Addr) (n : Nat) (xs : List α) : Prop := ReadsRow (d.K w) d.sz w A n xs
def R {α : Type} (d : Kd α) (e : Nat) (w : World) (base : Nat) (ok : Nat → Prop) (v : Value) (xs : List α) : Prop :=
  (∀ k, v.ownBlock = some k → ok k) ∧ OwnRow (d.M w base (fun k => ok k ∧ some k ≠ v.ownBlock)) e d.sz w base v xs
section
variable {α : Type} {d : Kd α} {e : Nat} {w w1 : World} {base : Nat} {ok ok' : Nat → Prop} {v : Value} {xs : List α}
theorem C_below {A : Option Addr} {n : Nat} (h : d.C w A n xs) (hb : Below w.heap.size w w1) : d.C w1 A n xs := ReadsRow.imp_ h hb (fun _ _ hp => d.K_below hb hp)
theorem R_nil (d : Kd α) (e : Nat) (w : World) (base : Nat) (ok : Nat → Prop) : d.R e w base ok (.slice none 0 0) [] := ⟨fun k hk => by simp [Value.ownBlock] at hk, OwnRow.none_ _ _ _ _ _⟩
theorem R_mono (h : d.R e w base ok v xs) (hok : ∀ k, ok k → ok' k) : d.R e w base ok' v xs := ⟨fun k hk => hok k (h.1 k hk), h.2.imp_ (fun _ _ hp => d.M_mono (fun k hk => ⟨hok k hk.1, hk.2⟩) hp)⟩
theorem R_bound (h : d.R e w base ok v xs) : d.R e w base (fun k => ok k ∧ base ≤ k ∧ k < w.heap.size ∧ ∃ q, q ∈ e :: d.E ∧ ∃ cells, w.heap[k]? = some (.cells cells q (0, 0))) v xs := by
  obtain ⟨h0, inner, ho, hr⟩ := h
  refine ⟨fun k hk => ?_, inner, ho, hr.imp_ (fun _ _ hp => d.M_mono (fun k hk => ?_) (d.M_bound hp))⟩
  · obtain ⟨cells, hc⟩ := own_typed ho k hk
    exact ⟨h0 k hk, own_base ho k hk, own_lt ho k hk, e, List.mem_cons_self, cells, hc⟩
  · obtain ⟨⟨h1, h2⟩, h3, h4, q, hq, hc⟩ := hk
    exact ⟨⟨h1, h3, h4, q, List.mem_cons_of_mem _ hq, hc⟩, h2⟩
theorem R_move (h : d.R e w base ok v xs) (hm : ∀ k, ok k → w1.heap[k]? = w.heap[k]?) : d.R e w1 base ok v xs := by
  obtain ⟨h0, inner, ho, hr⟩ := h
  exact ⟨h0, inner, own_move ho (fun k hk => hm k (h0 k hk)), hr.imp_ (fun _ _ hp => d.M_move (fun k hk => hm k hk.1) hp)⟩
theorem R_lower {base' : Nat} (h : d.R e w base ok v xs) (hb : base' ≤ base) : d.R e w base' ok v xs := by
  obtain ⟨h0, inner, ho, hr⟩ := h
  exact ⟨h0, inner, own_weaken ho hb, hr.imp_ (fun _ _ hp => d.M_lower hb hp)⟩
theorem R_step (h : d.R e w base ok v xs) (hm : ∀ k, ok k → k < w.heap.size → w1.heap[k]? = w.heap[k]?) : d.R e w1 base ok v xs :=
  R_mono (R_move (R_bound h) (fun k hk => hm k hk.1 hk.2.2.1)) (fun _ hk => hk.1)
theorem M_step {x : α} {cs : List Value} (h : d.M w base ok x cs) (hm : ∀ k, ok k → k < w.heap.size → w1.heap[k]? = w.heap[k]?) : d.M w1 base ok x cs :=
  d.M_mono (fun _ hk => hk.1) (d.M_move (fun k hk => hm k hk.1 hk.2.2.1) (d.M_bound h))
theorem R_below (h : d.R e w base ok v xs) (hb : Below w.heap.size w w1) : d.R e w1 base ok v xs := R_step h (fun k _ hk => hb.block k hk)
theorem M_below {x : α} {cs : List Value} (h : d.M w base ok x cs) (hb : Below w.heap.size w w1) : d.M w1 base ok x cs := M_step h (fun k _ hk => hb.block k hk)
theorem R_far (h : d.R e w base ok v xs) {p : Addr} (hok : ∀ k, ok k → k ≠ p.block) (u : Value) : d.R e (w.setCell p u) base ok v xs := R_step h (fun k ho _ => Below.heap_setCell w p u k (hok k ho))
theorem R_types (h : d.R e w base ok v xs) {g t : Nat} {cells : Array Value} (hb : w.heap[g]? = some (.cells cells t (0, 0))) (ht : ∀ q, q ∈ e :: d.E → q ≠ t) : d.R e w base (fun k => ok k ∧ k ≠ g) v xs :=
  R_mono (R_bound h) (fun k hk => ⟨hk.1, by
    obtain ⟨_, _, _, q, hq, cells', hc⟩ := hk
    rintro rfl
    rw [hc] at hb
    injection hb with hb
    injection hb with _ hb
    exact ht q hq hb⟩)
theorem R_set (h : d.R e w base ok v xs) {g t : Nat} {cells : Array Value} (hb : w.heap[g]? = some (.cells cells t (0, 0))) (ht : ∀ q, q ∈ e :: d.E → q ≠ t) (j : Nat) (u : Value) : d.R e (w.setCell ⟨g, j, none⟩ u) base ok v xs :=
  R_mono (R_far (p := ⟨g, j, none⟩) (R_types h hb ht) (fun _ hk => hk.2) u) (fun _ hk => hk.1)
theorem R_reads (h : d.R e w base ok v xs) : ∃ A c, v = .slice A xs.length c ∧ xs.length ≤ c ∧ d.C w A xs.length xs := by
  obtain ⟨A, c, he, hl, hr⟩ := OwnRow.reads h.2
  exact ⟨A, c, he, hl, hr.imp_ (Below.refl _ _) (fun _ _ hp => d.K_of_M hp)⟩
theorem R_slice (h : d.R e w base ok v xs) : ∃ A c, v = .slice A xs.length c := by
  obtain ⟨A, c, he, _⟩ := R_reads h
  exact ⟨A, c, he⟩
theorem R_own (h : d.R e w base ok v xs) : ∃ inner, w.ownsRow base e d.sz v xs.length inner := by
  obtain ⟨_, inner, ho, _⟩ := h
  exact ⟨inner, ho⟩
theorem R_ne (h : d.R e w base ok v xs) {g t : Nat} {cells : Array Value} (hb : w.heap[g]? = some (.cells cells t (0, 0))) (ht : e ≠ t) : some g ≠ v.ownBlock := OwnRow.ne_block h.2 hb ht
end
/-! #### the kinds -/
def scalar {α : Type} (enc : α → Value) (h1 : ∀ x, (enc x).oneCell' = true) : Kd α where
  sz := 1
  E := []
  K := fun _ x cs => cs = [enc x]
  M := fun _ _ _ x cs => cs = [enc x]
  K_len := fun h => by rw [h]; rfl
  K_one := fun h u hu => by
    rw [h] at hu
    rw [List.mem_singleton.1 hu]
    exact h1 _
  K_below := fun _ h => h
  K_of_M := fun h => h
  M_mono := fun _ h => h
  M_bound := fun h => h
  M_move := fun _ h => h
  M_lower := fun _ h => h
def int (k : IntKind) : Kd Int := scalar (Value.int k) (fun _ => rfl)
def bool : Kd Bool := scalar Value.bool (fun _ => rfl)
def string : Kd ByteArray := scalar Value.string (fun _ => rfl)
def slice {α : Type} (e : Nat) (d : Kd α) : Kd (List α) where
  sz := 1
  E := e :: d.E
  K := fun w xs cs => ∃ A c, cs = [.slice A xs.length c] ∧ xs.length ≤ c ∧ d.C w A xs.length xs
  M := fun w base ok xs cs => ∃ v, cs = [v] ∧ d.R e w base ok v xs
  K_len := by
    rintro w x cs ⟨A, c, rfl, _⟩
    rfl
  K_one := by
    rintro w x cs ⟨A, c, rfl, _⟩ u hu
    rw [List.mem_singleton.1 hu]
    rfl
  K_below := by
    rintro w w1 x cs hb ⟨A, c, rfl, hl, hr⟩
    exact ⟨A, c, rfl, hl, C_below hr hb⟩
  K_of_M := by
    rintro w base ok x cs ⟨v, rfl, h⟩
    obtain ⟨A, c, rfl, hl, hr⟩ := R_reads h
    exact ⟨A, c, rfl, hl, hr⟩
  M_mono := by
    rintro w base ok ok' x cs hok ⟨v, rfl, h⟩
    exact ⟨v, rfl, R_mono h hok⟩
  M_bound := by
    rintro w base ok x cs ⟨v, rfl, h⟩
    exact ⟨v, rfl, R_bound h⟩
  M_move := by
    rintro w w1 base ok x cs hm ⟨v, rfl, h⟩
    exact ⟨v, rfl, R_move h hm⟩
  M_lower := by
    rintro w base base' ok x cs hb ⟨v, rfl, h⟩
    exact ⟨v, rfl, R_lower h hb⟩
def pair {α β : Type} (a : Kd α) (b : Kd β) : Kd (α × β) where
  sz := a.sz + b.sz
  E := a.E ++ b.E
  K := fun w x cs => ∃ c0 c1, cs = c0 ++ c1 ∧ a.K w x.1 c0 ∧ b.K w x.2 c1
  M := fun w base ok x cs => ∃ c0 c1, cs = c0 ++ c1 ∧ a.M w base ok x.1 c0 ∧ b.M w base ok x.2 c1
  K_len := by
    rintro w x cs ⟨c0, c1, rfl, h0, h1⟩
    rw [List.length_append, a.K_len h0, b.K_len h1]
  K_one := by
    rintro w x cs ⟨c0, c1, rfl, h0, h1⟩ u hu
    rcases List.mem_append.1 hu with hu | hu
    · exact a.K_one h0 u hu
    · exact b.K_one h1 u hu
  K_below := by
    rintro w w1 x cs hb ⟨c0, c1, rfl, h0, h1⟩
    exact ⟨c0, c1, rfl, a.K_below hb h0, b.K_below hb h1⟩
  K_of_M := by
    rintro w base ok x cs ⟨c0, c1, rfl, h0, h1⟩
    exact ⟨c0, c1, rfl, a.K_of_M h0, b.K_of_M h1⟩
  M_mono := by
    rintro w base ok ok' x cs hok ⟨c0, c1, rfl, h0, h1⟩
    exact ⟨c0, c1, rfl, a.M_mono hok h0, b.M_mono hok h1⟩
  M_bound := by
    rintro w base ok x cs ⟨c0, c1, rfl, h0, h1⟩
    refine ⟨c0, c1, rfl, a.M_mono ?_ (a.M_bound h0), b.M_mono ?_ (b.M_bound h1)⟩
    · rintro k ⟨h2, h3, h4, q, hq, hc⟩
      exact ⟨h2, h3, h4, q, List.mem_append_left _ hq, hc⟩
    · rintro k ⟨h2, h3, h4, q, hq, hc⟩
      exact ⟨h2, h3, h4, q, List.mem_append_right _ hq, hc⟩
  M_move := by
    rintro w w1 base ok x cs hm ⟨c0, c1, rfl, h0, h1⟩
    exact ⟨c0, c1, rfl, a.M_move hm h0, b.M_move hm h1⟩
  M_lower := by
    rintro w base base' ok x cs hb ⟨c0, c1, rfl, h0, h1⟩
    exact ⟨c0, c1, rfl, a.M_lower hb h0, b.M_lower hb h1⟩
def iso {α β : Type} (d : Kd α) (f : β → α) : Kd β where
  sz := d.sz
  E := d.E
  K := fun w x cs => d.K w (f x) cs
  M := fun w base ok x cs => d.M w base ok (f x) cs
  K_len := d.K_len
  K_one := d.K_one
  K_below := d.K_below
  K_of_M := d.K_of_M
  M_mono := d.M_mono
  M_bound := d.M_bound
  M_move := d.M_move
  M_lower := d.M_lower
def bot {α : Type} (sz : Nat) (E : List Nat) : Kd α where
  sz := sz
  E := E
  K := fun _ _ _ => False
  M := fun _ _ _ _ _ => False
  K_len := fun h => h.elim
  K_one := fun h => h.elim
  K_below := fun _ h => h
  K_of_M := fun h => h
  M_mono := fun _ h => h
  M_bound := fun h => h
  M_move := fun _ h => h
  M_lower := fun _ h => h
def upto {α : Type} (F : Kd α → Kd α) (sz : Nat) (E : List Nat) : Nat → Kd α
  | 0 => bot sz E
  | n + 1 => F (upto F sz E n)
/-! #### an element of a row that is read; an element appended -/
theorem C_get {α : Type} {d : Kd α} {w : World} {A : Option Addr} {n : Nat} {xs : List α} (h : d.C w A n xs) (z : α) (i : Int) (h0 : 0 ≤ i) (h1 : i < n) :
    ∃ ad c, A = some ad ∧ c.length = d.sz ∧ d.K w (xs.getD i.toNat z) c ∧ ∀ j u, c[j]? = some u → w.cell? (ad.add (i.toNat * d.sz + j)) = some u := ReadsRow.get_ h z i h0 h1
theorem R_appended {α : Type} {d : Kd α} {e base : Nat} {ok okp : Nat → Prop} {W w1 : World} {v v1 : Value} {xs : List α} {p : α} {inner cs : List Value} (h0 : ∀ k, v.ownBlock = some k → ok k) (hr : Reps (d.M W base (fun k => ok k ∧ some k ≠ v.ownBlock)) d.sz xs inner) (hp : d.M W base okp p cs) (hokp : ∀ k, okp k → ok k ∧ some k ≠ v.ownBlock) (hfresh : ∀ k, W.heap.size ≤ k → ok k)
    (hown : w1.ownsRow base e d.sz v1 (xs.length + 1) (inner ++ cs)) (hg : W.grownBy w1 v.ownBlock) (hat : v1.ownBlock = v.ownBlock ∨ ∃ b, v1.ownBlock = some b ∧ W.heap.size ≤ b) : d.R e w1 base ok v1 (xs ++ [p]) := by
  have hne : ∀ k, some k ≠ v.ownBlock → k < W.heap.size → some k ≠ v1.ownBlock := by
    intro k hk hlt
    rcases hat with hat | ⟨b, hb, hle⟩
    · rw [hat]; exact hk
    · rw [hb]
      intro he
      injection he with he
      omega
  have step : ∀ {q : α} {c : List Value} {o : Nat → Prop}, d.M W base o q c → (∀ k, o k → ok k ∧ some k ≠ v.ownBlock) → d.M w1 base (fun k => ok k ∧ some k ≠ v1.ownBlock) q c := by
    intro q c o hq ho
    have h1 := d.M_move (w1 := w1) (fun k hk => hg.block k hk.2.2.1 (ho k hk.1).2) (d.M_bound hq)
    exact d.M_mono (fun k hk => ⟨(ho k hk.1).1, hne k (ho k hk.1).2 hk.2.2.1⟩) h1
  refine ⟨fun k hk => ?_, inner ++ cs, by rw [List.length_append, List.length_singleton]; exact hown, ?_⟩
  · rcases hat with hat | ⟨b, hb, hle⟩
    · exact h0 k (hat ▸ hk)
    · rw [hb] at hk
      injection hk with hk
      exact hfresh k (by omega)
  · exact (hr.imp_ (fun _ _ hq => step hq (fun _ hk => hk))).snoc (step hp hokp) (d.K_len (d.K_of_M hp))
section
variable {P : Program} {ops : Array Oper} {rest : List Oper} {o : Oper} {a : Act} {Q : Exit → Act → World → Prop} {α : Type}
theorem R_append (d : Kd α) {w0 W : World} (base : Nat) (hgd : o.guard = none) (s x : Operand) (t e : TypeId) (z : Value) (bytes : Nat)
    (ho : o.op = .call { callee := .builtin .append, args := #[s, x], argTypes := #[t, t] })
    (ht : P.underlying t = some (.slice e)) (hinfo : (P.info? e).map (fun i => (i.zero, i.size, i.bytes)) = some (some z, d.sz, bytes)) (hz : z.cells.size = d.sz) (hs0 : 0 < d.sz) (hb0 : 0 < bytes)
    (v : Value) (xs : List α) (p : α) (cs : List Value) (ok okp : Nat → Prop) (hs : a.eval s = v) (hx : a.eval x = .slice (some ⟨W.heap.size, 0, none⟩) 1 1) (hp : d.M W base okp p cs) (hokp : ∀ k, okp k → ok k ∧ some k ≠ v.ownBlock) (hfresh : ∀ k, W.heap.size ≤ k → ok k)
    (HO : d.R e W base ok v xs) (HB : Below base w0 W) (hbase : base ≤ W.heap.size) (hl : (xs.length + 1) * bytes ≤ 140737488355328)
    (h : ∀ v1 w1, d.R e w1 base ok v1 (xs ++ [p]) → Below base w0 w1 → W.grownBy w1 v.ownBlock → (v1.ownBlock = v.ownBlock ∨ ∃ b, v1.ownBlock = some b ∧ W.heap.size ≤ b) → wpList P ops Q rest (a.put o.dst v1) w1) :
    wpList P ops Q (o :: rest) a (W.alloc (.cells cs.toArray e)) := by
  obtain ⟨h0, inner, hown, hr⟩ := HO
  refine print_append_cells base hgd s x t e z d.sz bytes ho ht hinfo hz hs0 hb0 v xs.length inner cs hs hx (d.K_len (d.K_of_M hp)) (d.K_one (d.K_of_M hp)) hown HB hbase hl ?_
  intro v1 w1 hown1 hb1 hg1 hat1
  exact h v1 w1 (R_appended h0 hr hp hokp hfresh hown1 hg1 hat1) hb1 hg1 hat1
end
section
variable {P : Program} {ops : Array Oper} {o : Oper} {a : Act} {Q : Exit → Act → World → Prop} {Kc : Act → World → Prop} {α : Type}
end
theorem reads_of_C {α : Type} {enc : α → Value} {d : α} {h1 : ∀ x, (enc x).oneCell' = true} {w : World} {A : Option Addr} {n : Nat} {xs : List α} (h : (scalar enc h1).C w A n xs) : ReadsOf enc d w A n xs := by
  refine ⟨h.1, h.2.1, fun hn => ?_⟩
  obtain ⟨ad, e, hc⟩ := h.2.2 hn
  refine ⟨ad, e, fun j hj => ?_⟩
  have hl : j < xs.length := by have := h.1; omega
  obtain ⟨c, _, hK, hcell⟩ := hc j _ (List.getElem?_eq_getElem hl)
  have hK' : c = [enc xs[j]] := hK
  subst hK'
  have := hcell 0 _ rfl
  simpa [scalar, List.getD_eq_getElem?_getD, List.getElem?_eq_getElem hl] using this
end Kd
/-! ### 24. Kinds nested in themselves -/
namespace Kd
structure Mono {α β : Type} (F : Kd α → Kd β) : Prop where
  sz : ∀ d d' : Kd α, d.sz = d'.sz → (F d).sz = (F d').sz
  K : ∀ d d' : Kd α, d.sz = d'.sz → (∀ w x cs, d.K w x cs → d'.K w x cs) → ∀ w x cs, (F d).K w x cs → (F d').K w x cs
  M : ∀ d d' : Kd α, d.sz = d'.sz → (∀ w base ok x cs, d.M w base ok x cs → d'.M w base ok x cs) → ∀ w base ok x cs, (F d).M w base ok x cs → (F d').M w base ok x cs
def Sub {α β : Type} (F : Kd α → Kd β) (E : List Nat) : Prop := ∀ d : Kd α, (∀ q, q ∈ d.E → q ∈ E) → ∀ q, q ∈ (F d).E → q ∈ E
section
variable {α : Type} {F : Kd α → Kd α} {sz : Nat} {E : List Nat} {hs : ∀ n, (upto F sz E n).sz = sz} {hE : ∀ n q, q ∈ (upto F sz E n).E → q ∈ E}
end
end Kd
/-! ### 25. What is held while another row is written: 'ok' says that its rows are none of that row's block -/
namespace Kd
theorem R_after {α : Type} {d : Kd α} {e base : Nat} {ok : Nat → Prop} {W w1 : World} {u v v1 : Value} {xs : List α} (h : d.R e W base (fun k => ok k ∧ some k ≠ v.ownBlock) u xs) (hg : W.grownBy w1 v.ownBlock) (hat : v1.ownBlock = v.ownBlock ∨ ∃ b, v1.ownBlock = some b ∧ W.heap.size ≤ b) : d.R e w1 base (fun k => ok k ∧ some k ≠ v1.ownBlock) u xs := by
  refine R_mono (R_move (R_bound h) (fun k hk => hg.block k hk.2.2.1 hk.1.2)) (fun k hk => ⟨hk.1.1, ?_⟩)
  rcases hat with hat | ⟨b, hb, hle⟩
  · rw [hat]; exact hk.1.2
  · rw [hb]
    intro he
    injection he with he
    have := hk.2.2.1
    omega
end Kd
/-! ### 26. Words for a printer that takes every slice by its kind -/
namespace Kd
section
variable {α β : Type} {d : Kd α} {d' : Kd β} {e e' : Nat} {w w1 W : World} {base b b' : Nat} {ok ok' okv oku : Nat → Prop} {v u : Value} {xs : List α} {ys : List β}
theorem R_alloc (h : d.R e w base ok v xs) (o : Obj) : d.R e (w.alloc o) base ok v xs := R_below h (below_alloc (Below.refl _ _) o)
theorem R_drew (h : d.R e w base ok v xs) : d.R e w.drew base ok v xs := R_below h (below_drew (Below.refl _ _))
theorem R_drewN (h : d.R e w base ok v xs) (m : Nat) : d.R e (w.drewN m) base ok v xs := R_below h (pw_below_drewN (Below.refl _ _) m)
theorem C_alloc {A : Option Addr} {n : Nat} (h : d.C w A n xs) (o : Obj) : d.C (w.alloc o) A n xs := C_below h (below_alloc (Below.refl _ _) o)
theorem C_drew {A : Option Addr} {n : Nat} (h : d.C w A n xs) : d.C w.drew A n xs := C_below h (below_drew (Below.refl _ _))
theorem C_drewN {A : Option Addr} {n : Nat} (h : d.C w A n xs) (m : Nat) : d.C (w.drewN m) A n xs := C_below h (pw_below_drewN (Below.refl _ _) m)
theorem C_nil (d : Kd α) (w : World) : d.C w none ([] : List α).length [] := ⟨rfl, by simp, fun h => absurd h (Nat.lt_irrefl 0)⟩
theorem C_max {A : Option Addr} {n : Nat} (h : d.C w A n xs) : n ≤ 9223372036854775807 := h.2.1
theorem R_reads' {A : Option Addr} {n c : Nat} (h : d.R e w base ok (.slice A n c) xs) : n = xs.length ∧ n ≤ c ∧ d.C w A xs.length xs := by
  obtain ⟨A', c', he, hl, hr⟩ := R_reads h
  injection he with h1 h2 h3
  subst h1
  exact ⟨h2, by omega, hr⟩
theorem R_lt (h : d.R e w base ok v xs) : ∀ k, v.ownBlock = some k → k < w.heap.size := by
  obtain ⟨inner, ho⟩ := R_own h
  exact own_lt ho
theorem R_base (h : d.R e w base ok v xs) : ∀ k, v.ownBlock = some k → base ≤ k := by
  obtain ⟨inner, ho⟩ := R_own h
  exact own_base ho
end
/-! #### scalars -/
section
variable {w W : World} {A : Option Addr} {n : Nat}
theorem at_string {xs : List ByteArray} (h : Kd.string.C w A n xs) (i : Int) (h0 : 0 ≤ i) (h1 : i < n) : ∃ ad, A = some ad ∧ w.cell? (ad.add i.toNat) = some (.string (rdOf ByteArray.empty xs i)) :=
  ReadsOf.at_ (reads_of_C (enc := Value.string) (d := ByteArray.empty) (h1 := fun _ => rfl) h) i h0 h1
variable {α : Type} {enc : α → Value} {h1 : ∀ x, (enc x).oneCell' = true} {e base g cap : Nat} {ok : Nat → Prop} {xs : List α}
end
/-! #### events: a letter for what make and a literal leave -/
section
variable {P : Program} {ops : Array Oper} {rest : List Oper} {o : Oper} {a : Act} {Q : Exit → Act → World → Prop}
theorem event_run {W w1 : World} {v : Value} (hgd : o.guard = none) (hrun : (execOp a.eval o).run P W = .ok (.value v) w1) (h : wpList P ops Q rest (a.put o.dst v) w1) : wpList P ops Q (o :: rest) a W := by
  refine wpList_plain hgd fun K hK => ?_
  unfold Oper.wp
  rw [hrun]
  exact hK _ _ h
variable {α : Type}
theorem R_lit (d : Kd α) {w0 W : World} (base e : Nat) (hgd : o.guard = none) {N : Tmp} (_hd : o.dst = some N) {xs : List α} {inner : List Value} {ok okp : Nat → Prop}
    (hrun : (execOp a.eval o).run P W = .ok (.value (.slice (some ⟨W.heap.size, 0, none⟩) xs.length xs.length)) (W.alloc (.cells inner.toArray e)))
    (hrep : Reps (d.M W base okp) d.sz xs inner) (hok : ∀ k, okp k → ok k) (hfresh : ok W.heap.size) (HB : Below base w0 W) (hbase : base ≤ W.heap.size) (hm : xs.length ≤ 9223372036854775807)
    (h : ∀ v1 w1, d.R e w1 base ok v1 xs → Below base w0 w1 → W.grownBy w1 none → (∃ b, v1.ownBlock = some b ∧ W.heap.size ≤ b) → wpList P ops Q rest (a.put o.dst v1) w1) : wpList P ops Q (o :: rest) a W := by
  refine event_run hgd hrun (h _ _ ⟨fun k hk => ?_, inner, ?_, ?_⟩ (HB.alloc hbase _) (World.grownBy_alloc W _ none) ⟨W.heap.size, by simp [Value.ownBlock], Nat.le_refl _⟩)
  · have : W.heap.size = k := by simpa [Value.ownBlock] using hk
    subst this
    exact hfresh
  · have h2 := World.ownsRow_lit (base := base) (e := e) (size := d.sz) W inner.toArray xs.length hbase (by simpa [maxLen] using hm) (by simpa using hrep.1)
    simpa using h2
  · refine hrep.imp_ (fun p c hp => d.M_mono (fun k hk => ⟨hok k hk.1, fun he => ?_⟩) (M_below (d.M_bound hp) (below_alloc (Below.refl _ _) _)))
    have h3 : k = W.heap.size := by simpa [Value.ownBlock] using he
    have := hk.2.2.1
    omega
end
end Kd
/-! ### 27. Cuts of a row of one's own: 'xs = xs[:n]' stays a row (R_take); 'xs = xs[k:]' is a row that begins inside its block (Kd.Q), append goes on it too -/
section
variable {P : Program}
theorem cut_from (t e : TypeId) (kl : IntKind) {i : TypeInfo} (ht : P.underlying t = some (.slice e)) (hi : P.info? e = some i) (size : Nat) (hsz : i.size = size) (A : Option Addr) (n c : Nat) (j : Int) (h0 : 0 ≤ j) (hm : j ≤ n) :
    ∀ W : World, (Instr.slice t (.slice A n c) (some (.int kl j)) none none).run P W = .ok (.slice (if c = j.toNat then A else A.map (·.add (j.toNat * size))) (n - j.toNat) (c - j.toNat)) W := by
  intro W
  have hel : P.elem t = e := by simp [Program.elem, ht]
  have hu : P.underlying t = some (.slice (P.elem t)) := by rw [hel]; exact ht
  rw [run_slice_l W t A n c hu kl j h0 hm, hel]
  simp [sizeOf, typeInfo, hi, hsz, sliced, Result.andThen]
end
def QRow (w : World) (base : Nat) (e : TypeId) (size : Nat) (v : Value) (n : Nat) (xs : List Value) : Prop :=
  xs.length = n * size ∧
  ((n = 0 ∧ ∃ A, v = .slice A 0 0 ∧ ∀ a, A = some a → base ≤ a.block ∧ ∃ cur, w.heap[a.block]? = some (.cells cur e (0, 0))) ∨
   ∃ g off cap cur, v = .slice (some ⟨g, off * size, none⟩) n cap ∧ base ≤ g ∧ w.heap[g]? = some (.cells cur e (0, 0)) ∧ n ≤ cap ∧ off + cap ≤ maxLen ∧ cur.size = (off + cap) * size ∧ (cur.toList.drop (off * size)).take (n * size) = xs)
section
variable {w w1 : World} {base n size : Nat} {e : TypeId} {v : Value} {xs : List Value}
theorem q_of_own (h : w.ownsRow base e size v n xs) : QRow w base e size v n xs := by
  obtain ⟨h1, h2⟩ := h
  refine ⟨h1, ?_⟩
  rcases h2 with ⟨rfl, h0⟩ | ⟨g, cap, cur, rfl, hb, hh, hnc, hcm, hcs, ht⟩
  · exact .inl ⟨h0, none, rfl, fun a ha => by cases ha⟩
  · exact .inr ⟨g, 0, cap, cur, by rw [Nat.zero_mul], hb, hh, hnc, by rw [Nat.zero_add]; exact hcm, by rw [Nat.zero_add]; exact hcs, by rw [Nat.zero_mul, List.drop_zero]; exact ht⟩
theorem q_move (h : QRow w base e size v n xs) (hm : ∀ k, v.ownBlock = some k → w1.heap[k]? = w.heap[k]?) : QRow w1 base e size v n xs := by
  obtain ⟨h1, h2⟩ := h
  refine ⟨h1, ?_⟩
  rcases h2 with ⟨h0, A, rfl, hA⟩ | ⟨g, off, cap, cur, rfl, hg, hh, r⟩
  · refine .inl ⟨h0, A, rfl, fun a ha => ?_⟩
    obtain ⟨hb, cur, hc⟩ := hA a ha
    subst ha
    exact ⟨hb, cur, (hm a.block (by simp [Value.ownBlock])).trans hc⟩
  · exact .inr ⟨g, off, cap, cur, rfl, hg, (hm g (by simp [Value.ownBlock])).trans hh, r⟩
theorem q_typed (h : QRow w base e size v n xs) (k : Nat) (hk : v.ownBlock = some k) : base ≤ k ∧ ∃ cells, w.heap[k]? = some (.cells cells e (0, 0)) := by
  rcases h.2 with ⟨_, A, rfl, hA⟩ | ⟨g, off, cap, cur, rfl, hg, hh, r⟩
  · cases A with
    | none => simp [Value.ownBlock] at hk
    | some a =>
      have : a.block = k := by simpa [Value.ownBlock] using hk
      subst this
      exact hA a rfl
  · have : g = k := by simpa [Value.ownBlock] using hk
    subst this
    exact ⟨hg, cur, hh⟩
theorem q_lt (h : QRow w base e size v n xs) (k : Nat) (hk : v.ownBlock = some k) : k < w.heap.size := by
  obtain ⟨_, cells, hc⟩ := q_typed h k hk
  exact (Array.getElem?_eq_some_iff.1 hc).1
theorem q_lower {base' : Nat} (h : QRow w base e size v n xs) (hb : base' ≤ base) : QRow w base' e size v n xs := by
  obtain ⟨h1, h2⟩ := h
  refine ⟨h1, ?_⟩
  rcases h2 with ⟨h0, A, rfl, hA⟩ | ⟨g, off, cap, cur, rfl, hg, r⟩
  · exact .inl ⟨h0, A, rfl, fun a ha => ⟨Nat.le_trans hb (hA a ha).1, (hA a ha).2⟩⟩
  · exact .inr ⟨g, off, cap, cur, rfl, Nat.le_trans hb hg, r⟩
theorem q_slice (h : QRow w base e size v n xs) : ∃ A c, v = .slice A n c ∧ n ≤ c := by
  rcases h.2 with ⟨h0, A, rfl, _⟩ | ⟨g, off, cap, cur, rfl, hg, hh, hnc, r⟩
  · exact ⟨A, 0, by rw [h0], by omega⟩
  · exact ⟨_, cap, rfl, hnc⟩
theorem q_max (h : QRow w base e size v n xs) : n ≤ 9223372036854775807 := by
  rcases h.2 with ⟨h0, _⟩ | ⟨g, off, cap, cur, rfl, hg, hh, hnc, hm, r⟩
  · omega
  · simp only [maxLen] at hm
    omega
theorem add_at (g o j : Nat) : (⟨g, o, none⟩ : Addr).add j = ⟨g, o + j, none⟩ := by unfold Addr.add; split <;> simp_all
theorem q_cells {A : Option Addr} {c : Nat} (h : QRow w base e size (.slice A n c) n xs) (hn : 0 < n) : ∃ ad, A = some ad ∧ ∀ j u, xs[j]? = some u → w.cell? (ad.add j) = some u := by
  rcases h.2 with ⟨h0, _⟩ | ⟨g, off, cap, cur, he, hg, hh, hnc, hm, hcs, ht⟩
  · omega
  · injection he with ha _ hc
    subst ha
    refine ⟨_, rfl, fun j u hu => ?_⟩
    rw [add_at, cell_of_row w g _ cur e (0, 0) hh]
    rw [← ht, List.getElem?_take] at hu
    split at hu
    · rw [List.getElem?_drop] at hu
      rw [← Array.getElem?_toList]
      exact hu
    · cases hu
theorem q_drop {A : Option Addr} {c k : Nat} (h : QRow w base e size (.slice A n c) n xs) (hk : k ≤ n) : QRow w base e size (.slice (if c = k then A else A.map (·.add (k * size))) (n - k) (c - k)) (n - k) (xs.drop (k * size)) := by
  obtain ⟨h1, h2⟩ := h
  refine ⟨by rw [List.length_drop, h1, Nat.sub_mul], ?_⟩
  rcases h2 with ⟨h0, A', he, hA⟩ | ⟨g, off, cap, cur, he, hb, hh, hnc, hcm, hcs, ht⟩
  · injection he with ha hb hc
    subst ha; subst hc
    have hk0 : k = 0 := by omega
    subst hk0
    exact .inl ⟨by omega, A, by rw [if_pos rfl, h0], hA⟩
  · injection he with ha _ hc
    subst ha; subst hc
    by_cases hck : c = k
    · rw [if_pos hck]
      refine .inl ⟨by omega, some ⟨g, off * size, none⟩, ?_, fun a ha => ?_⟩
      · rw [show n - k = 0 by omega, show c - k = 0 by omega]
      · injection ha with ha
        subst ha
        exact ⟨hb, cur, hh⟩
    · rw [if_neg hck]
      refine .inr ⟨g, off + k, c - k, cur, ?_, hb, hh, by omega, by omega, by rw [hcs]; congr 1; omega, ?_⟩
      · rw [Option.map_some, add_at, Nat.add_mul]
      · rw [← ht, List.drop_take, List.drop_drop, Nat.add_mul, Nat.sub_mul]
theorem setCells_far {g : Nat} : ∀ (vs : List Value) (o : Nat) {w : World} (k : Nat), k ≠ g → (w.setCells g o vs).heap[k]? = w.heap[k]?
  | [], _, _, _, _ => rfl
  | v :: r, o, w, k, hk => by
    rw [World.setCells, setCells_far r (o + 1) k hk]
    exact Below.heap_setCell w ⟨g, o, none⟩ v k hk
theorem setCells_same (g : Nat) : ∀ (vs : List Value) (o : Nat) (w : World), (w.setCells g o vs).os = w.os ∧ (w.setCells g o vs).tape = w.tape ∧ (w.setCells g o vs).output = w.output ∧ (w.setCells g o vs).heap.size = w.heap.size
  | [], _, _ => ⟨rfl, rfl, rfl, rfl⟩
  | v :: r, o, w => by
    obtain ⟨h1, h2, h3, h4⟩ := setCells_same g r (o + 1) (w.setCell ⟨g, o, none⟩ v)
    rw [World.setCells]
    exact ⟨h1, h2, h3, by rw [h4]; simp [World.setCell]⟩
theorem setCells_row {g : Nat} {e : TypeId} : ∀ (vs : List Value) (o : Nat) (w : World) (cur : Array Value), w.heap[g]? = some (.cells cur e (0, 0)) → o + vs.length ≤ cur.size →
    ∃ cur', (w.setCells g o vs).heap[g]? = some (.cells cur' e (0, 0)) ∧ cur'.size = cur.size ∧ cur'.toList = cur.toList.take o ++ vs ++ cur.toList.drop (o + vs.length)
  | [], o, w, cur, h, _ => ⟨cur, h, rfl, by simp⟩
  | v :: r, o, w, cur, h, hl => by
    have h2 := blk_set h o v
    simp only [List.length_cons] at hl
    obtain ⟨cur', h3, h4, h5⟩ := setCells_row r (o + 1) (w.setCell ⟨g, o, none⟩ v) _ h2 (by simp; omega)
    refine ⟨cur', h3, by rw [h4]; simp, ?_⟩
    rw [h5, Array.toList_setIfInBounds]
    have ho : o < cur.toList.length := by rw [Array.length_toList]; omega
    rw [List.take_set, List.drop_set_of_lt (by omega)]
    simp only [List.length_cons]
    rw [show o + 1 + r.length = o + (r.length + 1) by omega]
    congr 1
    rw [List.take_succ_eq_append_getElem ho, List.set_append_right _ _ (by rw [List.length_take]; omega)]
    have ho' : o < cur.size := by omega
    simp [Nat.min_eq_left (Nat.le_of_lt ho')]
end
section
variable {P : Program}
theorem q_append (w : World) (base : Nat) (t ty e : TypeId) (i : TypeInfo) (z : Value) (size bytes : Nat) (ht : P.underlying t = some (.slice e)) (hi : P.info? e = some i) (hz : i.zero = some z)
    (hsize : i.size = size) (hby : i.bytes = bytes) (hzs : z.cells.size = size) (hsz : 0 < size)
    (v : Value) (n : Nat) (xs : List Value) (hown : QRow w base e size v n xs)
    (a : Addr) (m c : Nat) (news : List Value) (hl : news.length = m * size) (hnews : ∀ j u, news[j]? = some u → w.cell? (a.add j) = some u) (h1 : ∀ u ∈ news, u.oneCell' = true) (hm : 0 < m)
    (h63 : n + m ≤ maxLen) (hbytes : (n + m) * bytes ≤ 140737488355328) (hbase : base ≤ w.heap.size) :
    ∃ v' w', (Builtin.append_ #[t, t] ty #[v, .slice (some a) m c]).run P w = .ok v' w' ∧ QRow w' base e size v' (n + m) (xs ++ news) ∧ w.grownBy w' v.ownBlock ∧ (v'.ownBlock = v.ownBlock ∨ ∃ b, v'.ownBlock = some b ∧ w.heap.size ≤ b) := by
  have grows : ∀ (b : Addr) (cap : Nat), cap < n + m → (∀ j u, xs[j]? = some u → w.cell? (b.add j) = some u) → v = .slice (some b) n cap →
      ∃ v' w', (Builtin.append_ #[t, t] ty #[v, .slice (some a) m c]).run P w = .ok v' w' ∧ QRow w' base e size v' (n + m) (xs ++ news) ∧ w.grownBy w' v.ownBlock ∧ (v'.ownBlock = v.ownBlock ∨ ∃ b, v'.ownBlock = some b ∧ w.heap.size ≤ b) := by
    intro b cap hcap hcells hv
    obtain ⟨v', w', hr, ho, hg⟩ := run_append_arg_grows (P := P) (w := w) t ty e i z size bytes ht hi hz hsize hby hzs hsz b n cap xs hown.1 hcells a m c news hl hnews hcap h63 hbytes
    refine ⟨v', w', by rw [hv]; exact hr, q_lower (q_of_own ho) hbase, ⟨hg.os, hg.tape, hg.output, hg.size, fun k hk _ => hg.block k hk (by simp)⟩, ?_⟩
    obtain ⟨g', cap', he, hb, _⟩ := ho.form (by omega)
    exact .inr ⟨g', by rw [he]; simp [Value.ownBlock], hb⟩
  rcases hown.2 with ⟨h0, A, hv, hA⟩ | ⟨g, off, cap, cur, hv, hbg, hg, hnc, hcm, hcs, htake⟩
  · cases A with
    | none =>
      subst h0
      have ho : w.ownsRow base e size v 0 xs := ⟨hown.1, .inl ⟨hv, rfl⟩⟩
      obtain ⟨v', w', hr, ho', hg, _, hat⟩ := run_append_own_at (P := P) w base t ty e i z size bytes ht hi hz hsize hby hzs hsz v 0 xs ho a m c news hl hnews h1 h63 hbytes hbase
      refine ⟨v', w', hr, q_of_own ho', hg, ?_⟩
      rcases hat with hat | hat
      · exact .inl hat
      · exact .inr ⟨_, hat, Nat.le_refl _⟩
    | some b =>
      have hx : xs = [] := List.eq_nil_of_length_eq_zero (by rw [hown.1, h0, Nat.zero_mul])
      exact grows b 0 (by omega) (fun j u hu => by rw [hx] at hu; simp at hu) (by rw [hv, h0])
  · by_cases hroom : n + m ≤ cap
    · have hfit : off * size + n * size + news.length ≤ cur.size := by
        rw [hl, hcs, ← Nat.add_mul, ← Nat.add_mul]
        exact Nat.mul_le_mul_right _ (by omega)
      subst hsize
      have hr := run_append_room_cells (P := P) (w := w) t ty e i ht hi g (off * i.size) n cap a m c news hl hnews h1 hroom
        (fun j hj => by rw [cell_of_row w g _ cur e (0, 0) hg]; simp; omega) (fun j _ => blk_frozen hg _)
      obtain ⟨cur', h3, h4, h5⟩ := setCells_row news (off * i.size + n * i.size) w cur hg hfit
      obtain ⟨s1, s2, s3, s4⟩ := setCells_same g news (off * i.size + n * i.size) w
      refine ⟨_, _, by rw [hv]; exact hr, ⟨by rw [List.length_append, hown.1, hl, Nat.add_mul], .inr ⟨g, off, cap, cur', rfl, hbg, h3, hroom, hcm, by rw [h4, hcs], ?_⟩⟩,
        ⟨s1, s2, s3, by rw [s4]; exact Nat.le_refl _, fun k _ hk => setCells_far news _ k (fun he => hk (by rw [hv, he]; simp [Value.ownBlock]))⟩, .inl (by rw [hv]; rfl)⟩
      rw [h5, List.append_assoc, List.drop_append_of_le_length (by rw [List.length_take, Array.length_toList]; omega), List.drop_take]
      rw [show off * i.size + n * i.size - off * i.size = n * i.size by omega, htake]
      rw [← List.append_assoc]
      exact List.take_left' (by rw [List.length_append, hown.1, hl, Nat.add_mul])
    · refine grows ⟨g, off * size, none⟩ cap (by omega) (fun j u hu => ?_) hv
      rw [add_at, cell_of_row w g _ cur e (0, 0) hg]
      rw [← htake, List.getElem?_take] at hu
      split at hu
      · rw [List.getElem?_drop] at hu
        rw [← Array.getElem?_toList]
        exact hu
      · cases hu
end
/-! ### 28. The kinds' words for cuts: R_take; Q (a row that may begin inside its block) with all of R's movers -/
namespace Kd
theorem reps_drop {α : Type} {R : α → List Value → Prop} {size m : Nat} {ps : List α} {cs : List Value} (h : Reps R size ps cs) : Reps R size (ps.drop m) (cs.drop (m * size)) := by
  refine ⟨by rw [List.length_drop, List.length_drop, h.1, Nat.sub_mul], fun j p hj => ?_⟩
  rw [List.getElem?_drop] at hj
  have := h.2 (m + j) p hj
  rw [List.drop_drop, ← Nat.add_mul]
  exact this
def Q {α : Type} (d : Kd α) (e : Nat) (w : World) (base : Nat) (ok : Nat → Prop) (v : Value) (xs : List α) : Prop :=
  (∀ k, v.ownBlock = some k → ok k) ∧ ∃ inner, QRow w base e d.sz v xs.length inner ∧ Reps (d.M w base (fun k => ok k ∧ some k ≠ v.ownBlock)) d.sz xs inner
section
variable {α : Type} {d : Kd α} {e : Nat} {w w1 W : World} {base : Nat} {ok ok' : Nat → Prop} {v : Value} {xs : List α}
theorem Q_of_R (h : d.R e w base ok v xs) : d.Q e w base ok v xs := by
  obtain ⟨h0, inner, ho, hr⟩ := h
  exact ⟨h0, inner, q_of_own ho, hr⟩
theorem Q_nil (d : Kd α) (e : Nat) (w : World) (base : Nat) (ok : Nat → Prop) : d.Q e w base ok (.slice none 0 0) [] := Q_of_R (R_nil d e w base ok)
theorem Q_mono (h : d.Q e w base ok v xs) (hok : ∀ k, ok k → ok' k) : d.Q e w base ok' v xs := by
  obtain ⟨h0, inner, ho, hr⟩ := h
  exact ⟨fun k hk => hok k (h0 k hk), inner, ho, hr.imp_ (fun _ _ hp => d.M_mono (fun k hk => ⟨hok k hk.1, hk.2⟩) hp)⟩
theorem Q_bound (h : d.Q e w base ok v xs) : d.Q e w base (fun k => ok k ∧ base ≤ k ∧ k < w.heap.size ∧ ∃ q, q ∈ e :: d.E ∧ ∃ cells, w.heap[k]? = some (.cells cells q (0, 0))) v xs := by
  obtain ⟨h0, inner, ho, hr⟩ := h
  refine ⟨fun k hk => ?_, inner, ho, hr.imp_ (fun _ _ hp => d.M_mono (fun k hk => ?_) (d.M_bound hp))⟩
  · obtain ⟨hb, cells, hc⟩ := q_typed ho k hk
    exact ⟨h0 k hk, hb, q_lt ho k hk, e, List.mem_cons_self, cells, hc⟩
  · obtain ⟨⟨h1, h2⟩, h3, h4, q, hq, hc⟩ := hk
    exact ⟨⟨h1, h3, h4, q, List.mem_cons_of_mem _ hq, hc⟩, h2⟩
theorem Q_move (h : d.Q e w base ok v xs) (hm : ∀ k, ok k → w1.heap[k]? = w.heap[k]?) : d.Q e w1 base ok v xs := by
  obtain ⟨h0, inner, ho, hr⟩ := h
  exact ⟨h0, inner, q_move ho (fun k hk => hm k (h0 k hk)), hr.imp_ (fun _ _ hp => d.M_move (fun k hk => hm k hk.1) hp)⟩
theorem Q_step (h : d.Q e w base ok v xs) (hm : ∀ k, ok k → k < w.heap.size → w1.heap[k]? = w.heap[k]?) : d.Q e w1 base ok v xs := Q_mono (Q_move (Q_bound h) (fun k hk => hm k hk.1 hk.2.2.1)) (fun _ hk => hk.1)
theorem Q_lt (h : d.Q e w base ok v xs) : ∀ k, v.ownBlock = some k → k < w.heap.size := by
  obtain ⟨_, inner, ho, _⟩ := h
  exact q_lt ho
theorem Q_base (h : d.Q e w base ok v xs) : ∀ k, v.ownBlock = some k → base ≤ k := by
  obtain ⟨_, inner, ho, _⟩ := h
  exact fun k hk => (q_typed ho k hk).1
theorem Q_slice (h : d.Q e w base ok v xs) : ∃ A c, v = .slice A xs.length c ∧ xs.length ≤ c := by
  obtain ⟨_, inner, ho, _⟩ := h
  exact q_slice ho
theorem Q_reads' {A : Option Addr} {n c : Nat} (h : d.Q e w base ok (.slice A n c) xs) : n = xs.length ∧ n ≤ c ∧ d.C w A xs.length xs := by
  obtain ⟨_, inner, ho, hr⟩ := h
  obtain ⟨A', c', he, hl⟩ := q_slice ho
  injection he with h1 h2 h3
  subst h1; subst h2; subst h3
  refine ⟨rfl, hl, rfl, q_max ho, fun hp => ?_⟩
  obtain ⟨ad, ha, hc⟩ := q_cells ho hp
  refine ⟨ad, ha, fun j p hj => ⟨(inner.drop (j * d.sz)).take d.sz, ?_, d.K_of_M (hr.2 j p hj), fun i u hu => ?_⟩⟩
  · have hjl := (List.getElem?_eq_some_iff.1 hj).1
    have h1 : j * d.sz + d.sz ≤ inner.length := by rw [hr.1, ← Nat.succ_mul]; exact Nat.mul_le_mul_right _ hjl
    rw [List.length_take, List.length_drop]
    omega
  · refine hc _ u ?_
    rw [List.getElem?_take] at hu
    split at hu
    · rw [List.getElem?_drop] at hu
      exact hu
    · cases hu
theorem Q_drop {A : Option Addr} {k n c : Nat} (h : d.Q e w base ok (.slice A n c) xs) (hk : k ≤ xs.length) : d.Q e w base ok (.slice (if c = k then A else A.map (·.add (k * d.sz))) (n - k) (c - k)) (xs.drop k) := by
  have hn : n = xs.length := (Q_reads' h).1
  subst hn
  obtain ⟨h0, inner, ho, hr⟩ := h
  have hb : (Value.slice (if c = k then A else A.map (·.add (k * d.sz))) (xs.length - k) (c - k)).ownBlock = (Value.slice A xs.length c).ownBlock := by
    split
    · cases A <;> rfl
    · cases A with
      | none => rfl
      | some a => simp [Value.ownBlock]; unfold Addr.add; split <;> rfl
  refine ⟨fun j hj => h0 j (by rw [← hb]; exact hj), inner.drop (k * d.sz), ?_, ?_⟩
  · rw [List.length_drop]
    exact q_drop ho hk
  · rw [hb]
    exact reps_drop hr
theorem Q_appended {okp : Nat → Prop} {v1 : Value} {p : α} {inner cs : List Value} (h0 : ∀ k, v.ownBlock = some k → ok k) (hr : Reps (d.M W base (fun k => ok k ∧ some k ≠ v.ownBlock)) d.sz xs inner) (hp : d.M W base okp p cs) (hokp : ∀ k, okp k → ok k ∧ some k ≠ v.ownBlock) (hfresh : ∀ k, W.heap.size ≤ k → ok k)
    (hown : QRow w1 base e d.sz v1 (xs.length + 1) (inner ++ cs)) (hg : W.grownBy w1 v.ownBlock) (hat : v1.ownBlock = v.ownBlock ∨ ∃ b, v1.ownBlock = some b ∧ W.heap.size ≤ b) : d.Q e w1 base ok v1 (xs ++ [p]) := by
  have hne : ∀ k, some k ≠ v.ownBlock → k < W.heap.size → some k ≠ v1.ownBlock := by
    intro k hk hlt
    rcases hat with hat | ⟨b, hb, hle⟩
    · rw [hat]; exact hk
    · rw [hb]
      intro he
      injection he with he
      omega
  have step : ∀ {q : α} {c : List Value} {o : Nat → Prop}, d.M W base o q c → (∀ k, o k → ok k ∧ some k ≠ v.ownBlock) → d.M w1 base (fun k => ok k ∧ some k ≠ v1.ownBlock) q c := by
    intro q c o hq ho
    have h1 := d.M_move (w1 := w1) (fun k hk => hg.block k hk.2.2.1 (ho k hk.1).2) (d.M_bound hq)
    exact d.M_mono (fun k hk => ⟨(ho k hk.1).1, hne k (ho k hk.1).2 hk.2.2.1⟩) h1
  refine ⟨fun k hk => ?_, inner ++ cs, by rw [List.length_append, List.length_singleton]; exact hown, ?_⟩
  · rcases hat with hat | ⟨b, hb, hle⟩
    · exact h0 k (hat ▸ hk)
    · rw [hb] at hk
      injection hk with hk
      exact hfresh k (by omega)
  · exact (hr.imp_ (fun _ _ hq => step hq (fun _ hk => hk))).snoc (step hp hokp) (d.K_len (d.K_of_M hp))
end
section
variable {P : Program} {ops : Array Oper} {rest : List Oper} {o : Oper} {a : Act} {Q' : Exit → Act → World → Prop} {Kc : Act → World → Prop} {α : Type}
theorem Q_run (d : Kd α) {w0 W : World} (base : Nat) (t ty e : TypeId) (z : Value) (bytes : Nat)
    (ht : P.underlying t = some (.slice e)) (hinfo : (P.info? e).map (fun i => (i.zero, i.size, i.bytes)) = some (some z, d.sz, bytes)) (hz : z.cells.size = d.sz) (hs0 : 0 < d.sz) (hb0 : 0 < bytes)
    (v : Value) (xs : List α) (p : α) (cs : List Value) (ok okp : Nat → Prop) (hp : d.M W base okp p cs) (hokp : ∀ k, okp k → ok k ∧ some k ≠ v.ownBlock) (hfresh : ∀ k, W.heap.size ≤ k → ok k)
    (HO : d.Q e W base ok v xs) (HB : Below base w0 W) (hbase : base ≤ W.heap.size) (hl : (xs.length + 1) * bytes ≤ 140737488355328) :
    ∃ v1 w1, (Builtin.append_ #[t, t] ty #[v, .slice (some ⟨W.heap.size, 0, none⟩) 1 1]).run P (W.alloc (.cells cs.toArray e)) = .ok v1 w1 ∧ d.Q e w1 base ok v1 (xs ++ [p]) ∧ Below base w0 w1 ∧ W.grownBy w1 v.ownBlock ∧ (v1.ownBlock = v.ownBlock ∨ ∃ b, v1.ownBlock = some b ∧ W.heap.size ≤ b) := by
  obtain ⟨h0, inner, hown, hr⟩ := HO
  obtain ⟨i0, hi, hzz⟩ := Option.map_eq_some_iff.1 hinfo
  simp only [Prod.mk.injEq] at hzz
  obtain ⟨hz0, hz1, hz2⟩ := hzz
  have hlen : xs.length + 1 ≤ 140737488355328 := Nat.le_trans (Nat.le_mul_of_pos_right _ hb0) hl
  have hcl := d.K_len (d.K_of_M hp)
  have hq : QRow (W.alloc (.cells cs.toArray e)) base e d.sz v xs.length inner := q_move hown (fun k hk => Below.heap_alloc W _ k (q_lt hown k hk))
  obtain ⟨v1, w1, hrun, hq1, hg1, hat⟩ := q_append (P := P) (W.alloc (.cells cs.toArray e)) base t ty e i0 z d.sz bytes ht hi hz0 hz1 hz2 hz hs0 v xs.length inner hq ⟨W.heap.size, 0, none⟩ 1 1 cs (by rw [hcl, Nat.one_mul])
    (by simpa using World.news_of_block (cs := cs.toArray) (t := e) (fr := (0, 0)) (heap_alloc_new W (.cells cs.toArray e))) (d.K_one (d.K_of_M hp)) (by omega) (by simp only [maxLen]; omega) hl (by simp; omega)
  have hg : W.grownBy w1 v.ownBlock := World.grownBy.trans (World.grownBy_alloc W _ _) hg1
  have hat' : v1.ownBlock = v.ownBlock ∨ ∃ b, v1.ownBlock = some b ∧ W.heap.size ≤ b := by
    rcases hat with hat | ⟨b, hb, hle⟩
    · exact .inl hat
    · exact .inr ⟨b, hb, by rw [World.size_alloc] at hle; omega⟩
  exact ⟨v1, w1, hrun, Q_appended h0 hr hp hokp hfresh hq1 hg hat', HB.grown hg hbase (fun k hk => (q_typed hown k hk).1), hg, hat'⟩
end
end Kd
/-! ### 29. Movers that ask of another row no more than they need: for R and for Q -/
namespace Kd
section
variable {α : Type} {d : Kd α} {e e' : Nat} {w w1 W : World} {base : Nat} {ok : Nat → Prop} {u v : Value} {xs : List α}
theorem R_elder' (hu : d.R e W base ok u xs) (hbase : ∀ k, v.ownBlock = some k → W.heap.size ≤ k) (hb : Below W.heap.size W w1) : d.R e w1 base (fun k => ok k ∧ some k ≠ v.ownBlock) u xs :=
  R_mono (R_move (R_bound hu) (fun k hk => hb.block k hk.2.2.1)) (fun k hk => ⟨hk.1, fun he => by have := hbase k he.symm; have := hk.2.2.1; omega⟩)
theorem R_new' (h : d.R e w1 W.heap.size ok v xs) (hlt : ∀ k, u.ownBlock = some k → k < W.heap.size) : d.R e w1 W.heap.size (fun k => ok k ∧ some k ≠ u.ownBlock) v xs :=
  R_mono (R_bound h) (fun k hk => ⟨hk.1, fun he => by have := hlt k he.symm; have := hk.2.1; omega⟩)
theorem fresh' (hlt : ∀ k, u.ownBlock = some k → k < W.heap.size) : ∀ k, W.heap.size ≤ k → some k ≠ u.ownBlock := fun k hk he => by have := hlt k he.symm; omega
end
end Kd
/-! ### 30. Elements written: x[i] = T{..}, x[i].f = v, swaps, in a row of elements of any kind -/
namespace Kd
section
variable {α : Type} {d : Kd α} {e base g n cap : Nat} {ok okp : Nat → Prop} {W : World} {xs : List α}
end
end Kd
/-! ### 31. What came in, put into what is made: 'fixed d w0' (read in w0, whatever happens since), 'or_ a b', 'mix' (a slice that came in, or one that is made) -/
namespace Kd
def fixed {α : Type} (d : Kd α) (w0 : World) : Kd α where
  sz := d.sz
  E := []
  K := fun _ x cs => d.K w0 x cs
  M := fun _ _ _ x cs => d.K w0 x cs
  K_len := d.K_len
  K_one := d.K_one
  K_below := fun _ h => h
  K_of_M := fun h => h
  M_mono := fun _ h => h
  M_bound := fun h => h
  M_move := fun _ h => h
  M_lower := fun _ h => h
def or_ {α : Type} (a b : Kd α) (h : b.sz = a.sz) : Kd α where
  sz := a.sz
  E := a.E ++ b.E
  K := fun w x cs => a.K w x cs ∨ b.K w x cs
  M := fun w base ok x cs => a.M w base ok x cs ∨ b.M w base ok x cs
  K_len := fun hk => hk.elim a.K_len (fun hk => (b.K_len hk).trans h)
  K_one := fun hk => hk.elim a.K_one b.K_one
  K_below := fun hb hk => hk.imp (a.K_below hb) (b.K_below hb)
  K_of_M := fun hk => hk.imp a.K_of_M b.K_of_M
  M_mono := fun hok hk => hk.imp (a.M_mono hok) (b.M_mono hok)
  M_bound := fun hk => hk.imp
    (fun hk => a.M_mono (fun _ ⟨h1, h2, h3, q, hq, hc⟩ => ⟨h1, h2, h3, q, List.mem_append_left _ hq, hc⟩) (a.M_bound hk))
    (fun hk => b.M_mono (fun _ ⟨h1, h2, h3, q, hq, hc⟩ => ⟨h1, h2, h3, q, List.mem_append_right _ hq, hc⟩) (b.M_bound hk))
  M_move := fun hm hk => hk.imp (a.M_move hm) (b.M_move hm)
  M_lower := fun hb hk => hk.imp (a.M_lower hb) (b.M_lower hb)
def mix {α : Type} (e : Nat) (d dm : Kd α) (w0 : World) : Kd (List α) := or_ (fixed (slice e d) w0) (slice e dm) rfl
section
variable {α : Type} {F : Kd α → Kd α} {sz : Nat} {E : List Nat} {hs : ∀ n, (upto F sz E n).sz = sz} {hE : ∀ n q, q ∈ (upto F sz E n).E → q ∈ E}
end
end Kd
/-! ### 32. A whole row appended, of elements of any kind; copy onto a row of scalars of one's own -/
namespace Kd
theorem reps_append {α : Type} {R : α → List Value → Prop} {size : Nat} {ps qs : List α} {cs ds : List Value} (h : Reps R size ps cs) (h' : Reps R size qs ds) : Reps R size (ps ++ qs) (cs ++ ds) := by
  refine ⟨by rw [List.length_append, List.length_append, h.1, h'.1, Nat.add_mul], fun j p hj => ?_⟩
  rcases Nat.lt_or_ge j ps.length with hlt | hge
  · rw [List.getElem?_append_left hlt] at hj
    have hle : j * size + size ≤ cs.length := by rw [h.1, ← Nat.succ_mul]; exact Nat.mul_le_mul_right _ hlt
    rw [List.drop_append_of_le_length (by omega), List.take_append_of_le_length (by rw [List.length_drop]; omega)]
    exact h.2 j p hj
  · rw [List.getElem?_append_right hge] at hj
    have h2 := h'.2 (j - ps.length) p hj
    have hle : ps.length * size ≤ j * size := Nat.mul_le_mul_right _ hge
    rw [List.drop_append, List.drop_eq_nil_of_le (by rw [h.1]; exact hle), List.nil_append, h.1, ← Nat.sub_mul]
    exact h2
section
variable {P : Program} {ops : Array Oper} {rest : List Oper} {o : Oper} {a : Act} {Q : Exit → Act → World → Prop} {α : Type}
theorem R_append_rows (d : Kd α) {Rr : α → List Value → Prop} {w0 W : World} (base : Nat) (hgd : o.guard = none) (s x : Operand) (t e : TypeId) (z : Value) (bytes : Nat)
    (ho : o.op = .call { callee := .builtin .append, args := #[s, x], argTypes := #[t, t] })
    (ht : P.underlying t = some (.slice e)) (hinfo : (P.info? e).map (fun i => (i.zero, i.size, i.bytes)) = some (some z, d.sz, bytes)) (hz : z.cells.size = d.sz) (hs0 : 0 < d.sz) (hb0 : 0 < bytes)
    (v : Value) (xs ys : List α) (A : Option Addr) (m c : Nat) (ok okp : Nat → Prop) (hs : a.eval s = v) (hx : a.eval x = .slice A m c)
    (HO : d.R e W base ok v xs) (HR : ReadsRow Rr d.sz W A m ys) (hKM : ∀ x cs, Rr x cs → d.M W base okp x cs) (hokp : ∀ k, okp k → ok k ∧ some k ≠ v.ownBlock) (hfresh : ∀ k, W.heap.size ≤ k → ok k)
    (HB : Below base w0 W) (hbase : base ≤ W.heap.size) (hl : (xs.length + m) * bytes ≤ 140737488355328)
    (h : ∀ v1 w1, d.R e w1 base ok v1 (xs ++ ys) → Below base w0 w1 → W.grownBy w1 v.ownBlock → (v1.ownBlock = v.ownBlock ∨ ∃ b, v1.ownBlock = some b ∧ W.heap.size ≤ b) → wpList P ops Q rest (a.put o.dst v1) w1) :
    wpList P ops Q (o :: rest) a W := by
  obtain ⟨i0, hi, hzz⟩ := Option.map_eq_some_iff.1 hinfo
  simp only [Prod.mk.injEq] at hzz
  obtain ⟨hz0, hz1, hz2⟩ := hzz
  have hm : ys.length = m := HR.1
  have hlen : xs.length + m ≤ 140737488355328 := Nat.le_trans (Nat.le_mul_of_pos_right _ hb0) hl
  obtain ⟨hok, inner, hown, hr⟩ := HO
  have hrun : ∃ v1 w1, (Builtin.append_ #[t, t] o.type #[v, .slice A m c]).run P W = .ok v1 w1 ∧ d.R e w1 base ok v1 (xs ++ ys) ∧ W.grownBy w1 v.ownBlock ∧ (v1.ownBlock = v.ownBlock ∨ ∃ b, v1.ownBlock = some b ∧ W.heap.size ≤ b) := by
    rcases A with _ | ad
    · have h0 : m = 0 := by
        rcases Nat.eq_zero_or_pos m with h0 | h0
        · exact h0
        · obtain ⟨ad, h, _⟩ := HR.2.2 h0
          cases h
      subst h0
      obtain rfl : ys = [] := List.eq_nil_of_length_eq_zero hm
      refine ⟨v, W, ?_, by rw [List.append_nil]; exact ⟨hok, inner, hown, hr⟩, World.grownBy.refl W _, .inl rfl⟩
      rcases hown.2 with ⟨rfl, hn⟩ | ⟨g, cap, cur, rfl, _, _, hnc, _⟩
      · simp [Builtin.append_, run_underlying ht, sizeOf, typeInfo, hi, Builtin.lenOf, Builtin.firstCells]
      · simp [Builtin.append_, run_underlying ht, sizeOf, typeInfo, hi, Builtin.lenOf, Builtin.firstCells, hnc, storeCells]
    · obtain ⟨news, hnr, hnc⟩ := ReadsRow.inner_ HR
      have hnM : Reps (d.M W base okp) d.sz ys news := hnr.imp_ (fun p c hp => hKM p c hp)
      have hone : ∀ u ∈ news, u.oneCell' = true := by
        intro u hu
        obtain ⟨q, hq, rfl⟩ := List.mem_iff_getElem.1 hu
        have hql : q / d.sz < ys.length := by
          rw [Nat.div_lt_iff_lt_mul hs0]
          rw [← hnM.1]
          exact hq
        have hc := hnM.2 (q / d.sz) _ (List.getElem?_eq_getElem hql)
        refine d.K_one (d.K_of_M hc) _ ?_
        rw [List.mem_iff_getElem?]
        refine ⟨q % d.sz, ?_⟩
        rw [List.getElem?_take, if_pos (Nat.mod_lt _ hs0), List.getElem?_drop, Nat.mul_comm, Nat.div_add_mod, List.getElem?_eq_getElem hq]
      obtain ⟨v1, w1, hrun, h2, hg, _, hat⟩ := run_append_own_at (P := P) W base t o.type e i0 z d.sz bytes ht hi hz0 hz1 hz2 hz hs0 v xs.length inner hown ad m c news (by rw [hnM.1, hm]) hnc hone (by simp only [maxLen]; omega) hl hbase
      have hat' : v1.ownBlock = v.ownBlock ∨ ∃ b, v1.ownBlock = some b ∧ W.heap.size ≤ b := by
        rcases hat with hat | hat
        · exact .inl hat
        · exact .inr ⟨_, hat, Nat.le_refl _⟩
      have hne : ∀ k, some k ≠ v.ownBlock → k < W.heap.size → some k ≠ v1.ownBlock := by
        intro k hk hlt
        rcases hat' with hat | ⟨b, hb, hle⟩
        · rw [hat]; exact hk
        · rw [hb]
          intro he
          injection he with he
          omega
      have step : ∀ {q : α} {c : List Value} {o : Nat → Prop}, d.M W base o q c → (∀ k, o k → ok k ∧ some k ≠ v.ownBlock) → d.M w1 base (fun k => ok k ∧ some k ≠ v1.ownBlock) q c := by
        intro q c o hq ho
        have h1 := d.M_move (w1 := w1) (fun k hk => hg.block k hk.2.2.1 (ho k hk.1).2) (d.M_bound hq)
        exact d.M_mono (fun k hk => ⟨(ho k hk.1).1, hne k (ho k hk.1).2 hk.2.2.1⟩) h1
      refine ⟨v1, w1, hrun, ⟨fun k hk => ?_, inner ++ news, by rw [List.length_append, hm]; exact h2, reps_append (hr.imp_ (fun _ _ hq => step hq (fun _ hk => hk))) (hnM.imp_ (fun _ _ hq => step hq hokp))⟩, hg, hat'⟩
      rcases hat' with hat | ⟨b, hb, hle⟩
      · exact hok k (hat ▸ hk)
      · rw [hb] at hk
        injection hk with hk
        exact hfresh k (by omega)
  obtain ⟨v1, w1, hr1, h1, hg, hat⟩ := hrun
  refine wpList_plain hgd fun K hK => ?_
  unfold Oper.wp execOp
  simp only [ho, resolve, invoke, builtin, Sem.run_bind, Sem.run_pure, Result.andThen_ok, List.map_toArray, List.map_cons, List.map_nil, hs, hx, hr1]
  exact hK _ _ (h v1 w1 h1 (HB.grown hg hbase (own_base hown)) hg hat)
end
end Kd
/-! ### 33. A store into a row of one's own, as_ an event: no go_simp -/
namespace Kd
section
variable {P : Program} {ops : Array Oper} {rest : List Oper} {o : Oper} {a : Act} {Q : Exit → Act → World → Prop} {α : Type}
end
end Kd
/-! ### 34. Cuts that are only read, of any row -/
theorem add_add (a : Addr) (i j : Nat) : (a.add i).add j = a.add (i + j) := by
  unfold Addr.add
  by_cases h1 : i = 0 <;> by_cases h2 : j = 0 <;> simp [h1, h2, Nat.add_assoc]
namespace Kd
section
variable {α : Type} {k : Kd α} {w : World} {A : Option Addr} {xs : List α} {m c : Nat}
theorem C_take (h : k.C w A xs.length xs) (hm : m ≤ xs.length) : k.C w A (xs.take m).length (xs.take m) := by
  have hl : (xs.take m).length = m := by rw [List.length_take]; omega
  refine ⟨rfl, by rw [hl]; have := h.2.1; omega, fun hp => ?_⟩
  obtain ⟨ad, e, hc⟩ := h.2.2 (by omega)
  refine ⟨ad, e, fun j p hj => hc j p ?_⟩
  rw [List.getElem?_take] at hj
  split at hj
  · exact hj
  · cases hj
end
end Kd
section
variable {P : Program}
end
/-! ### 35. string(b), b read (a cut too) -/
/-! ### 6. What the printer adds -/
theorem below_size {w W : World} (h : Below w.heap.size w W) : w.heap.size ≤ W.heap.size := h.size
theorem below_step {w W w2 : World} (h : Below w.heap.size w W) (k : Below W.heap.size W w2) : Below w.heap.size w w2 := below_then h h.size k
theorem ReadsInt.nil (W : World) (k : IntKind) : ReadsInt W k none ([] : List Int).length [] := ⟨rfl, by simp, fun h => absurd h (Nat.lt_irrefl 0)⟩
theorem ReadsInt.drewN {W : World} {k : IntKind} {A : Option Addr} {n : Nat} {xs : List Int} (h : ReadsInt W k A n xs) (m : Nat) : ReadsInt (W.drewN m) k A n xs := h
theorem below_set {w W : World} {g j : Nat} {v : Value} (h : Below w.heap.size w W) (hg : w.heap.size ≤ g) : Below w.heap.size w (W.setCell ⟨g, j, none⟩ v) := h.setCell hg _
theorem add_block (a : Addr) (i : Nat) : (a.add i).block = a.block := by unfold Addr.add; split <;> rfl
theorem ReadsOf.nil {α : Type} (enc : α → Value) (d : α) (W : World) : ReadsOf enc d W none ([] : List α).length [] := ⟨rfl, by simp, fun h => absurd h (Nat.lt_irrefl 0)⟩
theorem ReadsOf.drewN {α : Type} {enc : α → Value} {d : α} {W : World} {A : Option Addr} {n : Nat} {xs : List α} (h : ReadsOf enc d W A n xs) (m : Nat) : ReadsOf enc d (W.drewN m) A n xs := h
theorem blk_put {w : World} {g : Nat} {t : TypeId} {cs cs' : Array Value} (h : w.heap[g]? = some (.cells cs t (0, 0))) (i : Nat) (u : Value) (e : cs.setIfInBounds i u = cs') : (w.setCell ⟨g, i, none⟩ u).heap[g]? = some (.cells cs' t (0, 0)) := e ▸ blk_set h i u
theorem below_drew1 {base : Nat} {w W : World} (h : Below base w W) : Below base w W.drew := h.drew
namespace Kd
section
variable {α β : Type} {d : Kd α} {d' : Kd β} {e e' base base' n : Nat} {ok ok' : Nat → Prop} {w W w1 W1 : World} {v u : Value} {xs : List α} {ys : List β} {A : Option Addr} {c : Nat}
end
section
variable {α : Type} {enc : α → Value} {h1 : ∀ x, (enc x).oneCell' = true} {w W : World} {A : Option Addr} {n g : Nat} {xs : List α}
end
end Kd
namespace Kd
section
variable {α : Type} {d : Kd α} {e base g : Nat} {ok : Nat → Prop} {w w1 : World} {v : Value} {xs : List α} {o : Obj}
end
end Kd
section
variable {P : Program} {ops : Array Oper} {rest : List Oper} {o : Oper} {a : Act} {Q : Exit → Act → World → Prop}
theorem box_event {W : World} (hgd : o.guard = none) {N : Tmp} (_hd : o.dst = some N) {cs : Array Value} {t : TypeId}
    (hrun : (execOp a.eval o).run P W = .ok (.value (.pointer (some ⟨W.heap.size, 0, none⟩))) (W.alloc (.cells cs t (0, 0))))
    (h : ∀ g, g = W.heap.size → ∀ w1, w1.heap[g]? = some (.cells cs t (0, 0)) → Below W.heap.size W w1 → wpList P ops Q rest (a.put o.dst (.pointer (some ⟨g, 0, none⟩))) w1) : wpList P ops Q (o :: rest) a W :=
  Kd.event_run hgd hrun (h _ rfl _ (blk_new W _) (below_alloc (Below.refl _ _) _))
end
namespace Kd
section
variable {α : Type} {enc : α → Value} {h1 : ∀ x, (enc x).oneCell' = true} {e base g n cap : Nat} {ok : Nat → Prop} {W : World} {xs : List α}
end
end Kd
section
variable {P : Program} {ops : Array Oper} {rest : List Oper} {o : Oper} {a : Act} {Q : Exit → Act → World → Prop}
end
namespace Kd
section
variable {α : Type} {enc : α → Value} {h1 : ∀ x, (enc x).oneCell' = true} {e base g n cap : Nat} {ok : Nat → Prop} {W : World} {xs : List α}
end
end Kd
section
variable {P : Program} {ops : Array Oper} {rest : List Oper} {o : Oper} {a : Act} {Q : Exit → Act → World → Prop} {W : World}
theorem gate_dst {N : Tmp} (_hN : o.dst = some N) (h : wpList P ops Q (o :: rest) a W) : wpList P ops Q (o :: rest) a W := h
end
/-! ### 36. Events as_ one step of a region that draws (for one_, two_, three_) -/
section
variable {P : Program} {ops : Array Oper} {o : Oper} {a : Act} {Q : Exit → Act → World → Prop} {Kc : Act → World → Prop}
namespace Kd
variable {α : Type}
end Kd
end
/-! ### 37. Results of any shape -/
inductive Vals (P : Program) (tmps : Array Value) (w : World) : List ResultVar → List Value → Prop where
  | nil : Vals P tmps w [] []
  | tmp {u : Tmp} {rs : List ResultVar} {vs : List Value} (h : Vals P tmps w rs vs) : Vals P tmps w (.tmp u :: rs) (tmps.getD u undef :: vs)
  | cell {p : Tmp} {ty : TypeId} {rs : List ResultVar} {vs : List Value} (g : Nat) (t : TypeId) (cs : Array Value) (fr : Nat × Nat) (d : TypeDesc)
      (hp : tmps.getD p undef = .pointer (some ⟨g, 0, none⟩)) (hg : w.heap[g]? = some (.cells cs t fr))
      (hu : P.underlying ty = some d) (hd : (match d with | .struct _ | .array _ _ => true | _ => false) = true) (hi : (P.info? ty).map (·.size) = some cs.size)
      (h : Vals P tmps w rs vs) : Vals P tmps w (.cell p ty :: rs) (.agg cs :: vs)
section
variable {P : Program} {tmps : Array Value} {w : World}
theorem vals_run {rs : List ResultVar} {vs : List Value} (hv : Vals P tmps w rs vs) (f : ResultVar → Sem Value) (hf : ∀ u, f (.tmp u) = pure (tmps.getD u undef)) (hc : ∀ a t, f (.cell a t) = (do loadVar t (← asAddr (tmps.getD a undef)))) :
    (rs.mapM f).run P w = .ok vs w := by
  induction hv with
  | nil => simp
  | tmp h ih => simp [List.mapM_cons, hf, ih]
  | cell g t cs fr d hp hg hu hd hi h ih =>
    rw [List.mapM_cons, hc, hp]
    simp [asAddr, run_loadVar_row w g t _ cs fr d hg hu hd hi, ih]
theorem results_list {fn : Func} {rs : List ResultVar} {vs : List Value} (h : fn.results = rs.toArray) (hl : vs.length ≠ 1) (hv : Vals P tmps w rs vs) : (results fn tmps).run P w = .ok (.tuple vs.toArray) w := by
  unfold results
  rw [h, List.mapM_toArray]
  simp only [Sem.run_bind, Sem.run_map]
  rw [vals_run hv]
  · simp [hl]
  · intro u
    rfl
  · intro a t
    rfl
end
/-! ### 38. 'out = append(out[:k], out[k+1:]...)': an element taken out of a row of one's own, in place -/
namespace Kd
section
variable {P : Program} {α : Type}
end
section
variable {P : Program} {ops : Array Oper} {rest : List Oper} {o : Oper} {a : Act} {Q : Exit → Act → World → Prop} {Kc : Act → World → Prop} {α : Type}
end
end Kd
end Go.Proofs.YtndicjikjcifaaaDoorW.PrintWords

/-
  PRINTED WORDS, second file: A REGION THAT DRAWS ITS ORDER, WALKED BY HAND, where its last store writes what its own loads read ('x.f = append(x.f, f(i))'). Plain theorems; no macro, no elab. A claim may hold it (turn the namespace's name).
  A load may be taken first in every world that meets S; behind the operations of ds nothing is shown; sound because each of ds waits for what is taken (Region.lastB). The kernel checks it.
  By an AI agent of Go's test side, Mon Nov 16 2026. No person has read it.
-/
namespace Go.Proofs.YtndicjikjcifaaaDoorW.PrintLast
section
variable {P : Program} {ops : Array Oper} {Q : Exit → Act → World → Prop} {md : Region.Mode} {S : World → Prop} {ds : List Nat}
def Region.reachB (md : Region.Mode) (ops : Array Oper) (i : Nat) : Nat → Nat → Bool
  | 0, _ => false
  | fuel + 1, d => match ops[d]? with
    | some o => o.after.any fun e => Region.binds md e && (e.on == i || Region.reachB md ops i fuel e.on)
    | none => false
def Region.closedB (md : Region.Mode) (ops : Array Oper) (listed : Array Bool) : Bool :=
  (List.range ops.size).all fun j => !listed.getD j false || match ops[j]? with
    | some o => o.after.all fun e => !Region.binds md e || listed.getD e.on false
    | none => true
def Region.lastB (md : Region.Mode) (ops : Array Oper) (listed : Array Bool) (ds : List Nat) (i : Nat) : Bool :=
  ds.all fun d => listed.getD d true || Region.reachB md ops i ops.size d
def ListedClosed (md : Region.Mode) (ops : Array Oper) (listed : Array Bool) : Prop :=
  ∀ j oj, ops[j]? = some oj → listed.getD j false = true → ∀ e ∈ oj.after, Region.binds md e = true → listed.getD e.on false = true
theorem Region.closedB_spec {listed : Array Bool} (h : Region.closedB md ops listed = true) : ListedClosed md ops listed := by
  intro j oj hj hl e he hb
  have hlt : j < ops.size := (Array.getElem?_eq_some_iff.1 hj).1
  have h1 := List.all_eq_true.1 h j (List.mem_range.2 hlt)
  simp only [hl, hj, Bool.not_true, Bool.false_or] at h1
  have h2 := Array.all_eq_true_iff_forall_mem.1 h1 e he
  simpa [hb] using h2
theorem ListedClosed.set {listed : Array Bool} {i : Nat} (h : ListedClosed md ops listed) (hi : i ∈ Region.ready md ops listed) : ListedClosed md ops (listed.setIfInBounds i true) := by
  obtain ⟨_, oi, hoi, hall⟩ := mem_ready.1 hi
  intro j oj hj hl e he hb
  by_cases hij : i = j
  · subst hij
    have : oj = oi := Option.some.inj (hj.symm.trans hoi)
    subst this
    exact getD_set_true (hall e he hb)
  · rw [getD_set_ne false hij] at hl
    exact getD_set_true (h j oj hj hl e he hb)
theorem Region.reach_listed {listed : Array Bool} {i : Nat} (hc : ListedClosed md ops listed) : ∀ (fuel d : Nat), Region.reachB md ops i fuel d = true → listed.getD d false = true → listed.getD i false = true
  | 0, _, h, _ => by simp [Region.reachB] at h
  | fuel + 1, d, h, hl => by
    unfold Region.reachB at h
    cases ho : ops[d]? with
    | none => rw [ho] at h; simp at h
    | some o =>
      rw [ho] at h
      obtain ⟨e, he, h1⟩ := Array.any_eq_true'.1 h
      simp only [Bool.and_eq_true, Bool.or_eq_true, beq_iff_eq] at h1
      have hle := hc d o ho hl e he h1.1
      rcases h1.2 with h2 | h2
      · rw [← h2]; exact hle
      · exact Region.reach_listed hc fuel e.on h2 hle
theorem Region.reach_not_ready {listed : Array Bool} {i d fuel : Nat} (hc : ListedClosed md ops listed) (hr : Region.reachB md ops i fuel d = true) (hun : listed.getD i true = false) : d ∉ Region.ready md ops listed := by
  intro hd
  obtain ⟨_, o, ho, hall⟩ := mem_ready.1 hd
  have hi : listed.getD i false = true := by
    cases fuel with
    | zero => simp [Region.reachB] at hr
    | succ n =>
      unfold Region.reachB at hr
      rw [ho] at hr
      obtain ⟨e, he, h1⟩ := Array.any_eq_true'.1 hr
      simp only [Bool.and_eq_true, Bool.or_eq_true, beq_iff_eq] at h1
      have hle := hall e he h1.1
      rcases h1.2 with h2 | h2
      · rw [← h2]; exact hle
      · exact Region.reach_listed hc n e.on h2 hle
  rcases Nat.lt_or_ge i listed.size with h' | h'
  · simp [h'] at hun hi
    rw [hun] at hi
    cases hi
  · simp [Array.getElem?_eq_none h'] at hun
def wpAnyLast (P : Program) (md : Region.Mode) (ops : Array Oper) (Q : Exit → Act → World → Prop) (S : World → Prop) (ds : List Nat) : Nat → Array Bool → Act → World → Prop
  | 0, listed, a, w => Region.ready md ops listed = [] ∧ Q .normal a w
  | fuel + 1, listed, a, w =>
    (Region.ready md ops listed = [] → Q .normal a w) ∧
    ∀ i ∈ Region.ready md ops listed, wpOp P ops Q i (fun a' w' => (i ∉ ds → S w → S w') ∧ wpAnyLast P md ops Q S ds fuel (listed.setIfInBounds i true) a' w') a w
theorem wpAny_of_last : ∀ (fuel : Nat) (listed : Array Bool) (a : Act) (w : World), wpAnyLast P md ops Q S ds fuel listed a w → wpAny P md ops Q fuel listed a w
  | 0, _, _, _, h => h
  | fuel + 1, _, _, _, h => ⟨h.1, fun i hi => wpOp_mono (fun a' w' h' => wpAny_of_last fuel _ a' w' h'.2) (h.2 i hi)⟩
theorem wpAnyLast_first {i : Nat} {oi : Oper} {v : Value} (hi : ops[i]? = some oi) (hsel : ∀ (j : Nat) (o : Oper) cs b, ops[j]? = some o → o.op ≠ .select cs b)
    (hQ : ∀ c a w, Q (.panic c) (a.put oi.dst v) w → Q (.panic c) a w) (n : Nat) :
    ∀ (fuel : Nat) (listed : Array Bool) (a : Act) (w : World),
      (∀ j oj, ops[j]? = some oj → j ≠ i → listed.getD j true = false → (∀ e ∈ oj.after, Region.binds md e = true → e.on ≠ i) → oi.apart ops oj = true) →
      ListedClosed md ops listed → (∀ d ∈ ds, listed.getD d true = false → Region.reachB md ops i n d = true) →
      i ∈ Region.ready md ops listed → YieldsIf P ops S oi v a → S w →
      wpAnyLast P md ops Q S ds fuel (listed.setIfInBounds i true) (a.put oi.dst v) w → wpAnyLast P md ops Q S ds (fuel + 1) listed a w := by
  intro fuel
  induction fuel with
  | zero =>
    intro listed a w _ _ _ hr hy hS H
    refine ⟨fun h => (by rw [h] at hr; cases hr), fun j hj => ?_⟩
    by_cases hji : j = i
    · subst hji; exact hy.wpOp hi hS ⟨fun _ h => h, H⟩
    · have := ready_mono hj hji
      rw [H.1] at this
      cases this
  | succ fuel ih =>
    intro listed a w hfree hc hd hr hy hS H
    refine ⟨fun h => (by rw [h] at hr; cases hr), fun j hj => ?_⟩
    by_cases hji : j = i
    · subst hji; exact hy.wpOp hi hS ⟨fun _ h => h, H⟩
    · have h1 := H.2 j (ready_mono hj hji)
      obtain ⟨hjun, oj, hoj, hall⟩ := mem_ready.1 hj
      have hiun := (mem_ready.1 hr).1
      have hnot : ∀ e ∈ oj.after, Region.binds md e = true → e.on ≠ i := fun e he hb heq => by
        have h1 := hall e he hb
        rw [heq] at h1
        rcases Nat.lt_or_ge i listed.size with h' | h'
        · simp [h'] at hiun h1; rw [hiun] at h1; cases h1
        · simp [Array.getElem?_eq_none h'] at h1
      have hjd : j ∉ ds := fun hm => Region.reach_not_ready hc (hd j hm hjun) hiun hj
      have h2 := wpOp_putIf hoj (hfree j oj hoj hji hjun hnot) (fun cs b => hsel i oi cs b hi) (fun cs b => hsel j oj cs b hoj) hQ hy h1
      have hfree' : ∀ k ok, ops[k]? = some ok → k ≠ i → (listed.setIfInBounds j true).getD k true = false →
          (∀ e ∈ ok.after, Region.binds md e = true → e.on ≠ i) → oi.apart ops ok = true := fun k ok hk hki hun hno => by
        refine hfree k ok hk hki ?_ hno
        by_cases hjk : j = k
        · subst hjk; exact hjun
        · rw [getD_set_ne true hjk] at hun; exact hun
      have hd' : ∀ d ∈ ds, (listed.setIfInBounds j true).getD d true = false → Region.reachB md ops i n d = true := fun d hm hun => by
        refine hd d hm ?_
        by_cases hjk : j = d
        · subst hjk; exact hjun
        · rw [getD_set_ne true hjk] at hun; exact hun
      refine wpOp_mono (fun a' w' h3 => ⟨h3.2.1, ih (listed.setIfInBounds j true) a' w' hfree' (hc.set hj) hd' (ready_mono hr (Ne.symm hji)) h3.1 (h3.2.1 hjd hS) ?_⟩) h2
      rw [Array.setIfInBounds_comm _ _ hji]
      exact h3.2.2
theorem wpAnyLast_any {i : Nat} {oi : Oper} {v : Value} (hi : ops[i]? = some oi) (hsel : ∀ (j : Nat) (o : Oper) cs b, ops[j]? = some o → o.op ≠ .select cs b)
    (hQ : ∀ c a w, Q (.panic c) (a.put oi.dst v) w → Q (.panic c) a w) :
    ∀ (fuel : Nat) (listed : Array Bool) (a : Act) (w : World),
      (∀ j oj, ops[j]? = some oj → j ≠ i → listed.getD j true = false → (∀ e ∈ oj.after, Region.binds md e = true → e.on ≠ i) → oi.apart ops oj = true) →
      i ∈ Region.ready md ops listed → Yields P ops oi v a →
      wpAnyLast P md ops Q S ds fuel (listed.setIfInBounds i true) (a.put oi.dst v) w → wpAnyLast P md ops Q S ds (fuel + 1) listed a w := by
  intro fuel
  induction fuel with
  | zero =>
    intro listed a w _ hr hy H
    refine ⟨fun h => (by rw [h] at hr; cases hr), fun j hj => ?_⟩
    by_cases hji : j = i
    · subst hji; exact (hy.yieldsIf (S := fun _ => True)).wpOp hi trivial ⟨fun _ h => h, H⟩
    · have := ready_mono hj hji
      rw [H.1] at this
      cases this
  | succ fuel ih =>
    intro listed a w hfree hr hy H
    refine ⟨fun h => (by rw [h] at hr; cases hr), fun j hj => ?_⟩
    by_cases hji : j = i
    · subst hji; exact (hy.yieldsIf (S := fun _ => True)).wpOp hi trivial ⟨fun _ h => h, H⟩
    · have h1 := H.2 j (ready_mono hj hji)
      obtain ⟨hjun, oj, hoj, hall⟩ := mem_ready.1 hj
      have hiun := (mem_ready.1 hr).1
      have hnot : ∀ e ∈ oj.after, Region.binds md e = true → e.on ≠ i := fun e he hb heq => by
        have h1 := hall e he hb
        rw [heq] at h1
        rcases Nat.lt_or_ge i listed.size with h' | h'
        · simp [h'] at hiun h1; rw [hiun] at h1; cases h1
        · simp [Array.getElem?_eq_none h'] at h1
      have h2 := wpOp_put hoj (hfree j oj hoj hji hjun hnot) (fun cs b => hsel i oi cs b hi) (fun cs b => hsel j oj cs b hoj) hQ hy h1
      have hfree' : ∀ k ok, ops[k]? = some ok → k ≠ i → (listed.setIfInBounds j true).getD k true = false →
          (∀ e ∈ ok.after, Region.binds md e = true → e.on ≠ i) → oi.apart ops ok = true := fun k ok hk hki hun hno => by
        refine hfree k ok hk hki ?_ hno
        by_cases hjk : j = k
        · subst hjk; exact hjun
        · rw [getD_set_ne true hjk] at hun; exact hun
      refine wpOp_mono (fun a' w' h3 => ⟨h3.2.1, ih (listed.setIfInBounds j true) a' w' hfree' (ready_mono hr (Ne.symm hji)) h3.1 ?_⟩) h2
      rw [Array.setIfInBounds_comm _ _ hji]
      exact h3.2.2
theorem wpAnyLast_take {i : Nat} {oi : Oper} {v : Value} {fuel : Nat} {listed : Array Bool} {a : Act} {w : World} (hi : ops[i]? = some oi)
    (hs : Region.noSelect ops = true) (hf : Region.free md ops listed i = true) (hr : (Region.ready md ops listed).contains i = true)
    (hc : Region.closedB md ops listed = true) (hl : Region.lastB md ops listed ds i = true)
    (hQ : ∀ c a w, Q (.panic c) (a.put oi.dst v) w → Q (.panic c) a w) (hy : YieldsIf P ops S oi v a) (hS : S w)
    (h : wpAnyLast P md ops Q S ds fuel (listed.setIfInBounds i true) (a.put oi.dst v) w) : wpAnyLast P md ops Q S ds (fuel + 1) listed a w :=
  wpAnyLast_first hi (Region.noSelect_spec hs) hQ ops.size fuel listed a w (Region.free_spec hi hf) (Region.closedB_spec hc)
    (fun d hm hun => by have := List.all_eq_true.1 hl d hm; rw [hun] at this; simpa using this) (by simpa using hr) hy hS h
theorem wpAnyLast_all {rs : List Nat} {fuel : Nat} {listed : Array Bool} {a : Act} {w : World} (hr : Region.ready md ops listed = rs) (hne : rs ≠ [])
    (h : ∀ i ∈ rs, wpOp P ops Q i (fun a' w' => (i ∉ ds → S w → S w') ∧ wpAnyLast P md ops Q S ds fuel (listed.setIfInBounds i true) a' w') a w) : wpAnyLast P md ops Q S ds (fuel + 1) listed a w :=
  ⟨fun h0 => absurd (hr ▸ h0) hne, hr ▸ h⟩
theorem wpAnyLast_done {listed : Array Bool} {a : Act} {w : World} (hr : Region.ready md ops listed = []) (h : Q .normal a w) :
    ∀ fuel, wpAnyLast P md ops Q S ds fuel listed a w
  | 0 => ⟨hr, h⟩
  | _ + 1 => ⟨fun _ => h, by rw [hr]; simp⟩
theorem wp_region_last {id : Nat} {a : Act} {w : World} (hm : P.follows .mixedOrders = true)
    (h : wpAnyLast P .any ops Q S ds ops.size (Array.replicate ops.size false) a { w with drawn := w.drawn + 1 }) : (Code.region id ops true).wp P Q a w :=
  wp_region_any hm (wpAny_of_last _ _ _ _ h)
end
section
variable {P : Program} {ops : Array Oper} {Q : Exit → Act → World → Prop} {md : Region.Mode} {S : World → Prop} {ds : List Nat}
def AllReadyL (P : Program) (md : Region.Mode) (ops : Array Oper) (Q : Exit → Act → World → Prop) (S : World → Prop) (ds : List Nat) (fuel : Nat) (listed : Array Bool) (a : Act) (w : World) (rs : List Nat) : Prop :=
  ∀ i ∈ rs, wpOp P ops Q i (fun a' w' => (i ∉ ds → S w → S w') ∧ wpAnyLast P md ops Q S ds fuel (listed.setIfInBounds i true) a' w') a w
theorem AllReadyL.nil {fuel : Nat} {listed : Array Bool} {a : Act} {w : World} : AllReadyL P md ops Q S ds fuel listed a w [] := fun _ h => by cases h
theorem AllReadyL.cons {fuel : Nat} {listed : Array Bool} {a : Act} {w : World} {i : Nat} {o : Oper} {rs : List Nat} (ho : ops[i]? = some o) (hd : i ∉ ds)
    (h : ∀ K' : Act → World → Prop, Shut (∀ a w, S w → (S w → wpAnyLast P md ops Q S ds fuel (listed.setIfInBounds i true) a w) → K' a w) → if Region.wanted o (yielded ops a.tmps) = true then Oper.wp P o a w K' Q else K' (a.put o.dst undef) w)
    (hs : AllReadyL P md ops Q S ds fuel listed a w rs) : AllReadyL P md ops Q S ds fuel listed a w (i :: rs) := fun j hj => by
  rcases List.mem_cons.1 hj with rfl | hj
  · exact wpOp_step ho (fun K' hK => h K' (fun a w hS hW => hK a w ⟨fun _ _ => hS, hW hS⟩))
  · exact hs j hj
theorem AllReadyL.cons_last {fuel : Nat} {listed : Array Bool} {a : Act} {w : World} {i : Nat} {o : Oper} {rs : List Nat} (ho : ops[i]? = some o) (hd : i ∈ ds)
    (h : ∀ K' : Act → World → Prop, Shut (∀ a w, wpAnyLast P md ops Q S ds fuel (listed.setIfInBounds i true) a w → K' a w) → if Region.wanted o (yielded ops a.tmps) = true then Oper.wp P o a w K' Q else K' (a.put o.dst undef) w)
    (hs : AllReadyL P md ops Q S ds fuel listed a w rs) : AllReadyL P md ops Q S ds fuel listed a w (i :: rs) := fun j hj => by
  rcases List.mem_cons.1 hj with rfl | hj
  · exact wpOp_step ho (fun K' hK => h K' (fun a w hW => hK a w ⟨fun hn => absurd hd hn, hW⟩))
  · exact hs j hj
theorem wpAnyLast_ready {rs : List Nat} {fuel : Nat} {listed : Array Bool} {a : Act} {w : World} (hr : Region.ready md ops listed = rs) (hne : rs ≠ [])
    (h : AllReadyL P md ops Q S ds fuel listed a w rs) : wpAnyLast P md ops Q S ds (fuel + 1) listed a w := wpAnyLast_all hr hne h
theorem start_ {id n : Nat} {a : Act} {w : World} (l : Array Bool) (hm : P.follows .mixedOrders = true) (hn : ops.size = n) (hl : Array.replicate n false = l) (hS : S w.drew)
    (h : S w.drew → wpAnyLast P .any ops Q S ds n l a w.drew) : (Code.region id ops true).wp P Q a w := by
  subst hn
  subst hl
  exact wp_region_last hm (h hS)
def takeB (md : Region.Mode) (ops : Array Oper) (ds : List Nat) (l l' : Array Bool) (i : Nat) : Bool :=
  Region.noSelect ops && Region.free md ops l i && (Region.ready md ops l).contains i && Region.closedB md ops l && Region.lastB md ops l ds i && (l.setIfInBounds i true == l')
theorem take_ {i : Nat} {N : Option Tmp} {oi : Oper} {v : Value} {fuel : Nat} {l : Array Bool} {a : Act} {w : World} (l' : Array Bool) (hi : ops[i]? = some oi) (hN : oi.dst = N) (hc : takeB md ops ds l l' i = true)
    (hQ : ∀ c a w, Q (.panic c) (a.put oi.dst v) w → Q (.panic c) a w) (hy : YieldsIf P ops S oi v a) (hS : S w) {a' : Act} (ha : a.put N v = a')
    (h : wpAnyLast P md ops Q S ds fuel l' a' w) : wpAnyLast P md ops Q S ds (fuel + 1) l a w := by
  subst ha
  subst hN
  simp only [takeB, Bool.and_eq_true, beq_iff_eq] at hc
  obtain ⟨⟨⟨⟨⟨h1, h2⟩, h3⟩, h4⟩, h5⟩, h6⟩ := hc
  subst h6
  exact wpAnyLast_take hi h1 h2 h3 h4 h5 hQ hy hS h
def anyB (md : Region.Mode) (ops : Array Oper) (l l' : Array Bool) (i : Nat) : Bool :=
  Region.noSelect ops && Region.free md ops l i && (Region.ready md ops l).contains i && (l.setIfInBounds i true == l')
theorem pure_ {i : Nat} {N : Option Tmp} {oi : Oper} {v : Value} {fuel : Nat} {l : Array Bool} {a : Act} {w : World} (l' : Array Bool) (hi : ops[i]? = some oi) (hN : oi.dst = N) (hc : anyB md ops l l' i = true)
    (hQ : ∀ c a w, Q (.panic c) (a.put oi.dst v) w → Q (.panic c) a w) (hy : Yields P ops oi v a) {a' : Act} (ha : a.put N v = a')
    (h : wpAnyLast P md ops Q S ds fuel l' a' w) : wpAnyLast P md ops Q S ds (fuel + 1) l a w := by
  subst ha
  subst hN
  simp only [anyB, Bool.and_eq_true, beq_iff_eq] at hc
  obtain ⟨⟨⟨h1, h2⟩, h3⟩, h6⟩ := hc
  subst h6
  exact wpAnyLast_any hi (Region.noSelect_spec h1) hQ fuel l a w (Region.free_spec hi h2) (by simpa using h3) hy h
def readyB (md : Region.Mode) (ops : Array Oper) (l l' : Array Bool) (i : Nat) : Bool := (Region.ready md ops l == [i]) && (l.setIfInBounds i true == l')
theorem one_ {i : Nat} {N : Option Tmp} {oi : Oper} {fuel : Nat} {l : Array Bool} {a : Act} {w : World} (l' : Array Bool) (hi : ops[i]? = some oi) (hN : oi.dst = N) (hc : readyB md ops l l' i = true) (hd : i ∉ ds)
    (h : ∀ K : Act → World → Prop, Shut (∀ a' w', S w' → (S w' → wpAnyLast P md ops Q S ds fuel l' a' w') → K a' w') → if Region.wanted oi (yielded ops a.tmps) = true then Oper.wp P oi a w K Q else K (a.put N undef) w) :
    wpAnyLast P md ops Q S ds (fuel + 1) l a w := by
  subst hN
  simp only [readyB, Bool.and_eq_true, beq_iff_eq] at hc
  obtain ⟨h1, h2⟩ := hc
  subst h2
  exact wpAnyLast_ready h1 (by simp) (AllReadyL.cons hi hd (fun K hK => h K hK) AllReadyL.nil)
theorem last_ {i : Nat} {N : Option Tmp} {oi : Oper} {fuel : Nat} {l : Array Bool} {a : Act} {w : World} (l' : Array Bool) (hi : ops[i]? = some oi) (hN : oi.dst = N) (hc : readyB md ops l l' i = true) (hd : i ∈ ds)
    (h : ∀ K : Act → World → Prop, Shut (∀ a' w', wpAnyLast P md ops Q S ds fuel l' a' w' → K a' w') → if Region.wanted oi (yielded ops a.tmps) = true then Oper.wp P oi a w K Q else K (a.put N undef) w) :
    wpAnyLast P md ops Q S ds (fuel + 1) l a w := by
  subst hN
  simp only [readyB, Bool.and_eq_true, beq_iff_eq] at hc
  obtain ⟨h1, h2⟩ := hc
  subst h2
  exact wpAnyLast_ready h1 (by simp) (AllReadyL.cons_last hi hd (fun K hK => h K hK) AllReadyL.nil)
theorem done_ {l : Array Bool} {a : Act} {w : World} {n : Nat} (hr : (Region.ready md ops l == []) = true) (h : Q .normal a w) : wpAnyLast P md ops Q S ds n l a w := wpAnyLast_done (by simpa using hr) h n
/-! ### Several operations that write or call may come up: each order is walked, what follows is shown once (join_) -/
theorem two_ {i j : Nat} {Ni Nj : Option Tmp} {oi oj : Oper} {fuel : Nat} {l : Array Bool} {a : Act} {w : World} (li lj : Array Bool) (hi : ops[i]? = some oi) (hj : ops[j]? = some oj) (hNi : oi.dst = Ni) (hNj : oj.dst = Nj)
    (hc : (Region.ready md ops l == [i, j] && l.setIfInBounds i true == li && l.setIfInBounds j true == lj) = true) (hdi : i ∉ ds) (hdj : j ∉ ds)
    (h1 : ∀ K : Act → World → Prop, Shut (∀ a' w', S w' → (S w' → wpAnyLast P md ops Q S ds fuel li a' w') → K a' w') → if Region.wanted oi (yielded ops a.tmps) = true then Oper.wp P oi a w K Q else K (a.put Ni undef) w)
    (h2 : ∀ K : Act → World → Prop, Shut (∀ a' w', S w' → (S w' → wpAnyLast P md ops Q S ds fuel lj a' w') → K a' w') → if Region.wanted oj (yielded ops a.tmps) = true then Oper.wp P oj a w K Q else K (a.put Nj undef) w) :
    wpAnyLast P md ops Q S ds (fuel + 1) l a w := by
  subst hNi
  subst hNj
  simp only [Bool.and_eq_true, beq_iff_eq] at hc
  obtain ⟨⟨h3, h4⟩, h5⟩ := hc
  subst h4
  subst h5
  exact wpAnyLast_ready h3 (by simp) (AllReadyL.cons hi hdi (fun K hK => h1 K hK) (AllReadyL.cons hj hdj (fun K hK => h2 K hK) AllReadyL.nil))
theorem three_ {i j k : Nat} {Ni Nj Nk : Option Tmp} {oi oj ok : Oper} {fuel : Nat} {l : Array Bool} {a : Act} {w : World} (li lj lk : Array Bool) (hi : ops[i]? = some oi) (hj : ops[j]? = some oj) (hk : ops[k]? = some ok) (hNi : oi.dst = Ni) (hNj : oj.dst = Nj) (hNk : ok.dst = Nk)
    (hc : (Region.ready md ops l == [i, j, k] && l.setIfInBounds i true == li && l.setIfInBounds j true == lj && l.setIfInBounds k true == lk) = true) (hdi : i ∉ ds) (hdj : j ∉ ds) (hdk : k ∉ ds)
    (h1 : ∀ K : Act → World → Prop, Shut (∀ a' w', S w' → (S w' → wpAnyLast P md ops Q S ds fuel li a' w') → K a' w') → if Region.wanted oi (yielded ops a.tmps) = true then Oper.wp P oi a w K Q else K (a.put Ni undef) w)
    (h2 : ∀ K : Act → World → Prop, Shut (∀ a' w', S w' → (S w' → wpAnyLast P md ops Q S ds fuel lj a' w') → K a' w') → if Region.wanted oj (yielded ops a.tmps) = true then Oper.wp P oj a w K Q else K (a.put Nj undef) w)
    (h3 : ∀ K : Act → World → Prop, Shut (∀ a' w', S w' → (S w' → wpAnyLast P md ops Q S ds fuel lk a' w') → K a' w') → if Region.wanted ok (yielded ops a.tmps) = true then Oper.wp P ok a w K Q else K (a.put Nk undef) w) :
    wpAnyLast P md ops Q S ds (fuel + 1) l a w := by
  subst hNi
  subst hNj
  subst hNk
  simp only [Bool.and_eq_true, beq_iff_eq] at hc
  obtain ⟨⟨⟨h4, h5⟩, h6⟩, h7⟩ := hc
  subst h5
  subst h6
  subst h7
  exact wpAnyLast_ready h4 (by simp) (AllReadyL.cons hi hdi (fun K hK => h1 K hK) (AllReadyL.cons hj hdj (fun K hK => h2 K hK) (AllReadyL.cons hk hdk (fun K hK => h3 K hK) AllReadyL.nil)))
theorem enters_ {f : FuncId} {fn : Func} (hf : P.funcs[f]? = some fn) (hname : (fn.name == "runtime.NumGoroutine") = false) (hb : fn.body.isSome = true) (args : Array Value) (w : World) : (callFunc f args).run P w = .ok (.enter f args) w := by
  have h1 : fn.name ≠ "runtime.NumGoroutine" := by simpa using hname
  obtain ⟨c, hc⟩ := Option.isSome_iff_exists.1 hb
  simp [callFunc, hf, h1, hc]
theorem goesL_ {rest : List Oper} {oi : Oper} {a : Act} {w : World} (N : Option Tmp) (hd : oi.dst = N) (hg : oi.guard = none) {f : FuncId} {fn : Func} {as : Array Operand} {ts : Array TypeId} (hf : P.funcs[f]? = some fn) (hname : (fn.name == "runtime.NumGoroutine") = false) (hb : fn.body.isSome = true) (args : Array Value)
    (hop : oi.op = .call { callee := .value (.func f), args := as, argTypes := ts }) (hargs : as.map a.eval = args)
    (h : Calls P f args w fun e w' => ∃ v, e = .returned v ∧ wpList P ops Q rest (a.put N v) w') : wpList P ops Q (oi :: rest) a w := by
  refine wpList_plain hg fun K hK => ?_
  have he := enters_ hf hname hb args w
  have hrun : (execOp a.eval oi).run P w = .ok (.enter f args) w := by
    unfold execOp
    simp [hop, resolve, Deferred.ofValue, invoke, Act.eval, hargs, he]
  unfold Oper.wp
  rw [hrun, Oper.upon_enter]
  refine h.mono fun e w'' hh => ?_
  obtain ⟨v, rfl, hk⟩ := hh
  subst hd
  exact hK _ _ hk
end
end Go.Proofs.YtndicjikjcifaaaDoorW.PrintLast

/-! ### 40. Elements whose inner rows lie apart: what is stored into one says nothing of the others.
   S: as R, with an owner function f (block to element's index). H: as S with a hole: of element i its cells alone are told, its blocks are oki. -/
namespace Go.Proofs.YtndicjikjcifaaaDoorW.PrintWords
open Go.RowKit
namespace Kd
def tag {α : Type} (f : Nat → Nat) (d : Kd α) : Kd (α × Nat) where
  sz := d.sz
  E := d.E
  K := fun w x cs => d.K w x.1 cs
  M := fun w base ok x cs => d.M w base (fun k => ok k ∧ f k = x.2) x.1 cs
  K_len := fun h => d.K_len h
  K_one := fun h => d.K_one h
  K_below := fun hb h => d.K_below hb h
  K_of_M := fun h => d.K_of_M h
  M_mono := fun hok h => d.M_mono (fun k hk => ⟨hok k hk.1, hk.2⟩) h
  M_bound := fun h => d.M_mono (fun _ hk => ⟨⟨hk.1.1, hk.2⟩, hk.1.2⟩) (d.M_bound h)
  M_move := fun hm h => d.M_move (fun k hk => hm k hk.1) h
  M_lower := fun hb h => d.M_lower hb h
def raw (sz : Nat) : Kd (List Value) where
  sz := sz
  E := []
  K := fun _ x cs => cs = x ∧ cs.length = sz ∧ ∀ u ∈ cs, u.oneCell' = true
  M := fun _ _ _ x cs => cs = x ∧ cs.length = sz ∧ ∀ u ∈ cs, u.oneCell' = true
  K_len := fun h => h.2.1
  K_one := fun h => h.2.2
  K_below := fun _ h => h
  K_of_M := fun h => h
  M_mono := fun _ h => h
  M_bound := fun h => h
  M_move := fun _ h => h
  M_lower := fun _ h => h
def S {α : Type} (d : Kd α) (e : Nat) (w : World) (base : Nat) (ok : Nat → Prop) (v : Value) (xs : List α) : Prop := ∃ f, (tag f d).R e w base ok v xs.zipIdx
section
variable {α β : Type} {d : Kd α} {d' : Kd β} {e e' : Nat} {w w1 W : World} {base b : Nat} {ok ok' okv oku : Nat → Prop} {u v : Value} {xs : List α} {ys : List β}
theorem R_tight (hE : d.E = []) (h : d.R e w base ok v xs) : d.R e w base (fun k => some k = v.ownBlock) v xs := by
  obtain ⟨h0, inner, ho, hr⟩ := h
  refine ⟨fun k hk => hk.symm, inner, ho, hr.imp_ (fun p c hp => d.M_mono (fun k hk => ?_) (d.M_bound hp))⟩
  obtain ⟨_, _, _, q, hq, _⟩ := hk
  rw [hE] at hq
  cases hq
theorem S_nil (d : Kd α) (e : Nat) (w : World) (base : Nat) (ok : Nat → Prop) : S d e w base ok (.slice none 0 0) [] := ⟨fun _ => 0, R_nil _ _ _ _ _⟩
end
section
variable {α β : Type} {d : Kd α} {d' : Kd β} {e e' g : Nat} {w w1 W : World} {base b : Nat} {ok ok' okv oku : Nat → Prop} {u v : Value} {xs : List α} {ys : List β}
end
/-! #### append, make, literals: the new element's blocks are none of the elder ones' -/
section
variable {P : Program} {ops : Array Oper} {rest : List Oper} {o : Oper} {a : Act} {Q : Exit → Act → World → Prop} {Kc : Act → World → Prop} {α : Type}
end
/-! #### a row with a hole: element i is lent, its blocks are oki; of it the row says its cells alone -/
def gap {α : Type} (f : Nat → Nat) (d : Kd α) (i : Nat) (c : List Value) : Kd (α × Nat) where
  sz := d.sz
  E := d.E
  K := fun w x cs => (x.2 = i → cs = c ∧ cs.length = d.sz ∧ ∀ u ∈ cs, u.oneCell' = true) ∧ (x.2 ≠ i → d.K w x.1 cs)
  M := fun w base ok x cs => (x.2 = i → cs = c ∧ cs.length = d.sz ∧ ∀ u ∈ cs, u.oneCell' = true) ∧ (x.2 ≠ i → d.M w base (fun k => ok k ∧ f k = x.2) x.1 cs)
  K_len := fun {w x cs} h => by
    by_cases hx : x.2 = i
    · exact (h.1 hx).2.1
    · exact d.K_len (h.2 hx)
  K_one := fun {w x cs} h => by
    by_cases hx : x.2 = i
    · exact (h.1 hx).2.2
    · exact d.K_one (h.2 hx)
  K_below := fun hb h => ⟨h.1, fun hx => d.K_below hb (h.2 hx)⟩
  K_of_M := fun h => ⟨h.1, fun hx => d.K_of_M (h.2 hx)⟩
  M_mono := fun hok h => ⟨h.1, fun hx => d.M_mono (fun k hk => ⟨hok k hk.1, hk.2⟩) (h.2 hx)⟩
  M_bound := fun h => ⟨h.1, fun hx => d.M_mono (fun _ hk => ⟨⟨hk.1.1, hk.2⟩, hk.1.2⟩) (d.M_bound (h.2 hx))⟩
  M_move := fun hm h => ⟨h.1, fun hx => d.M_move (fun k hk => hm k hk.1) (h.2 hx)⟩
  M_lower := fun hb h => ⟨h.1, fun hx => d.M_lower hb (h.2 hx)⟩
def H {α : Type} (d : Kd α) (e : Nat) (w : World) (base : Nat) (ok : Nat → Prop) (v : Value) (xs : List α) (i : Int) (oki : Nat → Prop) (c : List Value) : Prop :=
  (∀ k, oki k → ok k) ∧ ∃ f, (gap f d i.toNat c).R e w base (fun k => ok k ∧ ¬ oki k) v xs.zipIdx
section
variable {α β : Type} {d : Kd α} {e e' g n cap : Nat} {w w1 W : World} {base : Nat} {ok ok' oki okp : Nat → Prop} {u v : Value} {xs : List α} {i : Int} {c : List Value}
end
section
variable {P : Program} {ops : Array Oper} {rest : List Oper} {o : Oper} {a : Act} {Q : Exit → Act → World → Prop} {α : Type}
end
end Kd
end Go.Proofs.YtndicjikjcifaaaDoorW.PrintWords

/-! ### 41. Arrays '[n]T' as_ values: a kind (a field, an element of a row), an element read, an element set -/
namespace Go.Proofs.YtndicjikjcifaaaDoorW.PrintWords
open Go.RowKit
namespace Kd
section
variable {α : Type} {n : Nat} {d : Kd α} {hs : 0 < d.sz} {w : World} {base : Nat} {ok : Nat → Prop} {xs : List α} {cs : List Value}
end
section
variable {α : Type} {n : Nat} {enc : α → Value} {h1 : ∀ x, (enc x).oneCell' = true} {hs : 0 < (scalar enc h1).sz} {w : World} {base : Nat} {ok : Nat → Prop} {xs : List α} {cs : List Value}
end
end Kd
end Go.Proofs.YtndicjikjcifaaaDoorW.PrintWords

/-! ### 43. What is read beside a state: it stays read whatever the state's calls turn ('∀ W', KeepBut w W' g none → d.C W' A n xs') -/
namespace Go.Proofs.YtndicjikjcifaaaDoorW.PrintWords
open Go.RowKit
namespace Kd
structure Heap {α : Type} (d : Kd α) : Prop where
  K : ∀ {w w1 : World} {x : α} {cs : List Value}, (∀ k, k < w.heap.size → w1.heap[k]? = w.heap[k]?) → d.K w x cs → d.K w1 x cs
theorem cell_heap {w w1 : World} (hb : ∀ k, k < w.heap.size → w1.heap[k]? = w.heap[k]?) {a : Addr} {v : Value} (h : w.cell? a = some v) : w1.cell? a = some v := by
  have := hb a.block (World.block_lt_of_cell? w a h)
  simpa [World.cell?, this] using h
theorem Heap.C {α : Type} {d : Kd α} (hd : Heap d) {w w1 : World} {A : Option Addr} {n : Nat} {xs : List α} (hb : ∀ k, k < w.heap.size → w1.heap[k]? = w.heap[k]?) (h : d.C w A n xs) : d.C w1 A n xs :=
  ⟨h.1, h.2.1, fun hn => by
    obtain ⟨ad, e, hc⟩ := h.2.2 hn
    refine ⟨ad, e, fun j p hj => ?_⟩
    obtain ⟨c, hs, hr, hcell⟩ := hc j p hj
    exact ⟨c, hs, hd.K hb hr, fun i u hu => cell_heap hb (hcell i u hu)⟩⟩
theorem heap_int (k : IntKind) : Heap (Kd.int k) := ⟨fun _ h => h⟩
theorem heap_string : Heap Kd.string := ⟨fun _ h => h⟩
theorem heap_slice {α : Type} {d : Kd α} (e : Nat) (hd : Heap d) : Heap (slice e d) := ⟨by
  rintro w w1 x cs hb ⟨A, c, rfl, hl, hr⟩
  exact ⟨A, c, rfl, hl, hd.C hb hr⟩⟩
theorem heap_pair {α β : Type} {a : Kd α} {b : Kd β} (ha : Heap a) (hb' : Heap b) : Heap (pair a b) := ⟨by
  rintro w w1 x cs hb ⟨c0, c1, rfl, h0, h1⟩
  exact ⟨c0, c1, rfl, ha.K hb h0, hb'.K hb h1⟩⟩
theorem heap_iso {α β : Type} {d : Kd α} (f : β → α) (hd : Heap d) : Heap (iso d f) := ⟨fun hb h => hd.K hb h⟩
section
variable {α : Type} {d : Kd α} {e base g n c : Nat} {ok : Nat → Prop} {w w0 W : World} {A : Option Addr} {xs : List α}
end
end Kd
end Go.Proofs.YtndicjikjcifaaaDoorW.PrintWords

/-! ### 45. What a call keeps: all but the blocks of S (the rows that it was given to write) and what is new since -/
namespace Go.Proofs.YtndicjikjcifaaaDoorW.PrintWords
open Go.RowKit
def Kept (w W : World) (S : Nat → Prop) : Prop := w.heap.size ≤ W.heap.size ∧ ∀ i, i < w.heap.size → ¬ S i → W.heap[i]? = w.heap[i]?
section
variable {w W W2 : World} {S S2 S' : Nat → Prop}
theorem Kept.refl (w : World) (S : Nat → Prop) : Kept w w S := ⟨Nat.le_refl _, fun _ _ _ => rfl⟩
theorem Kept.of_below (h : Below w.heap.size w W) (S : Nat → Prop) : Kept w W S := ⟨h.size, fun i hi _ => h.block i hi⟩
theorem Kept.mono (h : Kept w W S) (hs : ∀ k, S k → S' k) : Kept w W S' := ⟨h.1, fun i hi hn => h.2 i hi (fun hk => hn (hs i hk))⟩
theorem Kept.then_ (h : Kept w W S) (k : Kept W W2 S2) (hs : ∀ k, S2 k → S k ∨ w.heap.size ≤ k) : Kept w W2 S :=
  ⟨Nat.le_trans h.1 k.1, fun i hi hn => (k.2 i (Nat.lt_of_lt_of_le hi h.1) (fun h2 => (hs i h2).elim hn (fun h3 => by omega))).trans (h.2 i hi hn)⟩
theorem Kept.below (h : Kept w W S) (hb : Below W.heap.size W W2) : Kept w W2 S := h.then_ (Kept.of_below hb (fun _ => False)) (fun _ hk => hk.elim)
theorem Kept.alloc (h : Kept w W S) (o : Obj) : Kept w (W.alloc o) S := h.below (below_alloc (Below.refl _ _) o)
theorem Kept.drew (h : Kept w W S) : Kept w W.drew S := h
theorem Kept.drewN (h : Kept w W S) (m : Nat) : Kept w (W.drewN m) S := h
theorem Kept.setCell (h : Kept w W S) {p : Addr} (hp : S p.block ∨ w.heap.size ≤ p.block) (u : Value) : Kept w (W.setCell p u) S :=
  h.then_ (S2 := fun k => k = p.block) ⟨by simp [World.setCell], fun i _ hn => Below.heap_setCell W p u i hn⟩ (fun k hk => by rw [hk]; exact hp)
end
namespace Kd
section
variable {α : Type} {d : Kd α} {e base n c : Nat} {ok oki S S2 : Nat → Prop} {w w0 W W1 W2 : World} {v : Value} {A : Option Addr} {xs : List α} {i : Int} {cs : List Value}
end
end Kd
end Go.Proofs.YtndicjikjcifaaaDoorW.PrintWords

/-! ### 46. Values that share: what is only read, with the blocks it lies in (its footprint 'ok'): Foot, F (a row that is read), FK (an element's cells) -/
namespace Go.Proofs.YtndicjikjcifaaaDoorW.PrintWords
open Go.RowKit
def Foot (P : World → Prop) (W : World) (ok : Nat → Prop) : Prop := ∀ W' : World, (∀ k, ok k → k < W.heap.size → W'.heap[k]? = W.heap[k]?) → P W'
theorem heap_lt {W W1 : World} {k : Nat} (h : W1.heap[k]? = W.heap[k]?) (hlt : k < W.heap.size) : k < W1.heap.size := by
  rw [Array.getElem?_eq_getElem hlt] at h
  exact (Array.getElem?_eq_some_iff.1 h).1
namespace Foot
variable {P Q : World → Prop} {W W1 : World} {ok ok' : Nat → Prop}
theorem now (h : Foot P W ok) : P W := h W (fun _ _ _ => rfl)
theorem mono (h : Foot P W ok) (hok : ∀ k, ok k → ok' k) : Foot P W ok' := fun W' hW => h W' (fun k hk hlt => hW k (hok k hk) hlt)
theorem bound (h : Foot P W ok) : Foot P W (fun k => ok k ∧ k < W.heap.size) := fun W' hW => h W' (fun k hk hlt => hW k ⟨hk, hlt⟩ hlt)
theorem step (h : Foot P W ok) (hm : ∀ k, ok k → k < W.heap.size → W1.heap[k]? = W.heap[k]?) : Foot P W1 ok := fun W' hW => h W' (fun k hk hlt => (hW k hk (heap_lt (hm k hk hlt) hlt)).trans (hm k hk hlt))
theorem imp (h : Foot P W ok) (hi : ∀ W', P W' → Q W') : Foot Q W ok := fun W' hW => hi W' (h W' hW)
theorem old (h : Foot P W ok) (hb : Below W.heap.size W W1) : Foot P W1 (fun k => ok k ∧ k < W.heap.size) := (h.bound).step (fun k _ hlt => hb.block k hlt)
end Foot
namespace Kd
def F {α : Type} (d : Kd α) (W : World) (ok : Nat → Prop) (A : Option Addr) (n : Nat) (xs : List α) : Prop := Foot (fun W => d.C W A n xs) W ok
def FK {α : Type} (d : Kd α) (W : World) (ok : Nat → Prop) (x : α) (c : List Value) : Prop := Foot (fun W => d.K W x c) W ok
section
variable {α β : Type} {d : Kd α} {e base n n' cc g N : Nat} {ok ok' okp S : Nat → Prop} {w w0 w1 W W1 : World} {A A' : Option Addr} {u v v1 : Value} {xs : List α} {xs' : List β} {d' : Kd β} {x : α} {c : List Value}
theorem F_now (h : F d W ok A n xs) : d.C W A n xs := Foot.now h
theorem F_mono (h : F d W ok A n xs) (hok : ∀ k, ok k → ok' k) : F d W ok' A n xs := Foot.mono h hok
theorem F_nil (d : Kd α) (W : World) (ok : Nat → Prop) : F d W ok none ([] : List α).length [] := fun W' _ => C_nil d W'
theorem R_F (h : d.R e W base ok (.slice A n cc) xs) : F d W ok A n xs := fun W' hW => by
  have h2 := R_reads' (R_step h hW)
  rw [h2.1]
  exact h2.2.2
theorem FK_now (h : FK d W ok x c) : d.K W x c := Foot.now h
theorem FK_mono (h : FK d W ok x c) (hok : ∀ k, ok k → ok' k) : FK d W ok' x c := Foot.mono h hok
theorem FK_bound (h : FK d W ok x c) : FK d W (fun k => ok k ∧ k < W.heap.size) x c := Foot.bound h
theorem FK_step (h : FK d W ok x c) (hm : ∀ k, ok k → k < W.heap.size → W1.heap[k]? = W.heap[k]?) : FK d W1 ok x c := Foot.step h hm
theorem FK_of_M (h : d.M W base ok x c) : FK d W ok x c := fun _ hW => d.K_of_M (M_step h hW)
theorem emptied (W : World) (g : Nat) : ∃ W' : World, (∀ k, k ≠ g → W'.heap[k]? = W.heap[k]?) ∧ ∀ a : Addr, a.block = g → W'.cell? a = none := by
  refine ⟨{ W with heap := W.heap.setIfInBounds g (.cells #[] 0) }, fun k hk => by simp [Ne.symm hk], fun a ha => ?_⟩
  subst ha
  by_cases hlt : a.block < W.heap.size
  · simp [World.cell?, hlt]
  · simp [World.cell?, hlt]
end
end Kd
end Go.Proofs.YtndicjikjcifaaaDoorW.PrintWords

/-! ### 39. Stores into a row that may begin inside its block (Q): Q_form, Q_elem, Q_seg; scalars: Q_cell, Q_putg -/
namespace Go.Proofs.YtndicjikjcifaaaDoorW.PrintWords
open Go.RowKit
namespace Kd
section
variable {α : Type} {d : Kd α} {e base g o n cap : Nat} {ok okp : Nat → Prop} {w W : World} {v : Value} {xs : List α}
end
section
variable {α : Type} {enc : α → Value} {h1 : ∀ x, (enc x).oneCell' = true} {e base g o n cap : Nat} {ok : Nat → Prop} {W : World} {xs : List α}
end
end Kd
end Go.Proofs.YtndicjikjcifaaaDoorW.PrintWords

/-! ### 42. append(v, make([]T, n)...): the operation comes as_ append with the number in the second place -/
namespace Go.Proofs.YtndicjikjcifaaaDoorW.PrintWords
open Go.RowKit
section
variable {P : Program}
end
namespace Kd
section
variable {P : Program} {ops : Array Oper} {rest : List Oper} {o : Oper} {a : Act} {Q : Exit → Act → World → Prop} {Kc : Act → World → Prop} {α : Type}
end
/-! #### the same for rows whose elements lie apart -/
section
variable {α : Type} {d : Kd α} {e : Nat} {w : World} {base : Nat} {ok : Nat → Prop} {v : Value} {xs : List α}
end
section
variable {P : Program} {ops : Array Oper} {rest : List Oper} {o : Oper} {a : Act} {Q : Exit → Act → World → Prop} {Kc : Act → World → Prop} {α : Type}
end
end Kd
end Go.Proofs.YtndicjikjcifaaaDoorW.PrintWords

/-! ### 47. N: a row of the call's own whose elements share (what they lead to is only read) -/
namespace Go.Proofs.YtndicjikjcifaaaDoorW.PrintWords
open Go.RowKit
namespace Kd
def chunks (sz : Nat) (n : Nat) (inner : List Value) : List (List Value) := (List.range n).map fun j => (inner.drop (j * sz)).take sz
theorem chunks_length (sz n : Nat) (inner : List Value) : (chunks sz n inner).length = n := by simp [chunks]
theorem chunks_at {sz n : Nat} {inner : List Value} {j : Nat} (hj : j < n) : (chunks sz n inner)[j]? = some ((inner.drop (j * sz)).take sz) := by simp [chunks, hj]
theorem chunks_get {sz n : Nat} {inner : List Value} {j : Nat} {c : List Value} (h : (chunks sz n inner)[j]? = some c) : c = (inner.drop (j * sz)).take sz := by
  have hj : j < n := by have := (List.getElem?_eq_some_iff.1 h).1; rwa [chunks_length] at this
  rw [chunks_at hj] at h
  injection h with h
  exact h.symm
theorem reps_raw {α : Type} {Rr : α → List Value → Prop} {sz : Nat} {xs : List α} {inner : List Value} (h : Reps Rr sz xs inner) (hR : ∀ x c, Rr x c → c.length = sz ∧ ∀ u ∈ c, u.oneCell' = true) : Reps (fun x cs => cs = x ∧ cs.length = sz ∧ ∀ u ∈ cs, u.oneCell' = true) sz (chunks sz xs.length inner) inner := by
  refine ⟨by rw [chunks_length]; exact h.1, fun j p hj => ?_⟩
  have hjl : j < xs.length := by have := (List.getElem?_eq_some_iff.1 hj).1; rwa [chunks_length] at this
  have hp := chunks_get hj
  exact ⟨hp.symm, hR _ _ (h.2 j _ (List.getElem?_eq_getElem hjl))⟩
section
variable {α : Type} {d : Kd α} {e base n cc g : Nat} {ok ok' okp S : Nat → Prop} {w w1 W W1 : World} {A : Option Addr} {u v v1 : Value} {xs : List α} {x : α} {c : List Value}
theorem F_get (h : F d W ok A n xs) (z : α) (i : Int) (h0 : 0 ≤ i) (h1 : i < n) :
    ∃ ad c, A = some ad ∧ c.length = d.sz ∧ FK d W ok (xs.getD i.toNat z) c ∧ (∀ j u, c[j]? = some u → W.cell? (ad.add (i.toNat * d.sz + j)) = some u) ∧ (0 < d.sz → ok ad.block) := by
  obtain ⟨ad, c, rfl, hcl, hK, hcc⟩ := C_get (F_now h) z i h0 h1
  have hin : 0 < d.sz → ok ad.block := by
    intro hs
    by_cases hk : ok ad.block
    · exact hk
    · obtain ⟨W', h2, h3⟩ := emptied W ad.block
      obtain ⟨ad', c', he, hcl', _, hcc'⟩ := C_get (h W' (fun k hk' _ => h2 k (fun e => hk (e ▸ hk')))) z i h0 h1
      injection he with he
      subst he
      have h4 := hcc' 0 _ (List.getElem?_eq_getElem (by omega))
      rw [h3 _ (add_block _ _)] at h4
      cases h4
  refine ⟨ad, c, rfl, hcl, fun W' hW => ?_, hcc, hin⟩
  obtain ⟨ad', c', he, hcl', hK', hcc'⟩ := C_get (h W' hW) z i h0 h1
  injection he with he
  subst he
  have hc : c = c' := by
    apply List.ext_getElem?
    intro j
    by_cases hj : j < d.sz
    · have hb : W'.heap[ad.block]? = W.heap[ad.block]? := by
        have h5 := hcc j _ (List.getElem?_eq_getElem (by omega))
        have h6 := World.block_lt_of_cell? W _ h5
        rw [add_block] at h6
        exact hW _ (hin (by omega)) h6
      have h5 := hcc j _ (List.getElem?_eq_getElem (by omega))
      have h6 := hcc' j _ (List.getElem?_eq_getElem (by omega))
      have h7 : W'.cell? (ad.add (i.toNat * d.sz + j)) = W.cell? (ad.add (i.toNat * d.sz + j)) := by simp [World.cell?, add_block, hb]
      rw [h7, h5] at h6
      rw [List.getElem?_eq_getElem (by omega), List.getElem?_eq_getElem (by omega)]
      exact h6
    · rw [List.getElem?_eq_none (by omega), List.getElem?_eq_none (by omega)]
  rw [hc]
  exact hK'
def N {α : Type} (d : Kd α) (e : Nat) (w : World) (base : Nat) (ok : Nat → Prop) (v : Value) (xs : List α) : Prop :=
  (∀ k, v.ownBlock = some k → ok k) ∧ ∃ rows : List (List Value), rows.length = xs.length ∧ (raw d.sz).R e w base (fun k => some k = v.ownBlock) v rows ∧ ∀ (j : Nat) (x : α) (c : List Value), xs[j]? = some x → rows[j]? = some c → FK d w (fun k => ok k ∧ some k ≠ v.ownBlock) x c
theorem R_N (h : d.R e w base ok v xs) : N d e w base ok v xs := by
  obtain ⟨h0, inner, ho, hr⟩ := h
  refine ⟨h0, chunks d.sz xs.length inner, chunks_length _ _ _, ⟨fun k hk => hk.symm, inner, by rw [chunks_length]; exact ho, reps_raw hr (fun x c hp => ⟨d.K_len (d.K_of_M hp), d.K_one (d.K_of_M hp)⟩)⟩, fun j x c hx hc => ?_⟩
  rw [chunks_get hc]
  exact FK_of_M (hr.2 j x hx)
theorem N_nil (d : Kd α) (e : Nat) (w : World) (base : Nat) (ok : Nat → Prop) : N d e w base ok (.slice none 0 0) [] := R_N (R_nil _ _ _ _ _)
end
end Kd
end Go.Proofs.YtndicjikjcifaaaDoorW.PrintWords

/-! ### 48. N's events: append, a whole row appended, zeros appended, literals, make, stores, cuts, an element taken out -/
namespace Go.Proofs.YtndicjikjcifaaaDoorW.PrintWords
open Go.RowKit
namespace Kd
section
variable {α : Type} {d : Kd α} {e base n cap g : Nat} {ok ok' okp : Nat → Prop} {w w1 W : World} {v v1 : Value} {xs ys : List α}
end
section
variable {P : Program} {ops : Array Oper} {rest : List Oper} {o : Oper} {a : Act} {Q : Exit → Act → World → Prop} {Kc : Act → World → Prop} {α : Type}
end
end Kd
end Go.Proofs.YtndicjikjcifaaaDoorW.PrintWords

-- PRINTED WORDS (module Derived/Print/More.lean): go-gate-2's additions: an AI agent of Go's test side, Tue Nov 17 2026; no person has read it. Lean checks it.
namespace Go.Proofs.YtndicjikjcifaaaDoorW.PrintMore
open Go.RowKit Go.Proofs.YtndicjikjcifaaaDoorW.PrintWords
namespace Kd
open Go.Proofs.YtndicjikjcifaaaDoorW.PrintWords.Kd
end Kd
namespace Kd
open Go.Proofs.YtndicjikjcifaaaDoorW.PrintWords.Kd
section
variable {α : Type} {d : Kd α} {e base g N : Nat} {ok : Nat → Prop} {W w1 : World} {u v : Value} {xs : List α}
end
end Kd
theorem max2_int (k k' : IntKind) (x y : Int) : Builtin.max2 (.int k x) (.int k' y) = pure (.int k (if x < y then y else x)) := by simp only [Builtin.max2, gt_iff_lt]
theorem min2_int (k k' : IntKind) (x y : Int) : Builtin.min2 (.int k x) (.int k' y) = pure (.int k (if y < x then y else x)) := by simp only [Builtin.min2]
theorem max_two (ats : Array TypeId) (ty : TypeId) (a b : Value) : Builtin.max_ ats ty #[a, b] = (Builtin.max2 a b >>= fun s => pure s) := by simp only [Builtin.max_, List.foldlM_cons, List.foldlM_nil]
theorem min_two (ats : Array TypeId) (ty : TypeId) (a b : Value) : Builtin.min_ ats ty #[a, b] = (Builtin.min2 a b >>= fun s => pure s) := by simp only [Builtin.min_, List.foldlM_cons, List.foldlM_nil]
theorem max_three (ats : Array TypeId) (ty : TypeId) (a b c : Value) : Builtin.max_ ats ty #[a, b, c] = (Builtin.max2 a b >>= fun s => Builtin.max2 s c >>= fun s => pure s) := by simp only [Builtin.max_, List.foldlM_cons, List.foldlM_nil]
theorem min_three (ats : Array TypeId) (ty : TypeId) (a b c : Value) : Builtin.min_ ats ty #[a, b, c] = (Builtin.min2 a b >>= fun s => Builtin.min2 s c >>= fun s => pure s) := by simp only [Builtin.min_, List.foldlM_cons, List.foldlM_nil]
theorem max_four (ats : Array TypeId) (ty : TypeId) (a b c d : Value) : Builtin.max_ ats ty #[a, b, c, d] = (Builtin.max2 a b >>= fun s => Builtin.max2 s c >>= fun s => Builtin.max2 s d >>= fun s => pure s) := by simp only [Builtin.max_, List.foldlM_cons, List.foldlM_nil]
theorem min_four (ats : Array TypeId) (ty : TypeId) (a b c d : Value) : Builtin.min_ ats ty #[a, b, c, d] = (Builtin.min2 a b >>= fun s => Builtin.min2 s c >>= fun s => Builtin.min2 s d >>= fun s => pure s) := by simp only [Builtin.min_, List.foldlM_cons, List.foldlM_nil]
end Go.Proofs.YtndicjikjcifaaaDoorW.PrintMore
namespace Go.Proofs.YtndicjikjcifaaaDoorW.PrintWords
open Go.RowKit
section
variable {P : Program} {ops : Array Oper} {rest : List Oper} {o : Oper} {a : Act} {Q : Exit → Act → World → Prop} {W : World}
theorem gate_callee {f : FuncId} {as : Array Operand} {ts : Array TypeId} (_ho : o.op = .call { callee := .value (.func f), args := as, argTypes := ts }) (h : wpList P ops Q (o :: rest) a W) : wpList P ops Q (o :: rest) a W := h
theorem gate_builtin {b : Builtin} {xs : Array Operand} {ts : Array TypeId} (_ho : o.op = .call { callee := .builtin b, args := xs, argTypes := ts }) (h : wpList P ops Q (o :: rest) a W) : wpList P ops Q (o :: rest) a W := h
end
def mx (a b : Int) : Int := if a < b then b else a
def mn (a b : Int) : Int := if b < a then b else a
def shl (k : IntKind) (x y : Int) : Int := k.wrap (x * 2 ^ min y.toNat k.bits)
def shr (k : IntKind) (x y : Int) : Int := x / 2 ^ min y.toNat k.bits
namespace Kd
section
variable {α : Type} {d : Kd α} {e base : Nat} {ok : Nat → Prop} {W w1 : World} {v : Value} {xs : List α}
end
section
variable {α : Type} {d : Kd α} {e base g n cap : Nat} {ok oki okp : Nat → Prop} {W : World} {xs : List α} {i : Int} {c : List Value}
end
section
variable {α : Type} {d : Kd α} {e base b b' g N : Nat} {ok ok1 : Nat → Prop} {W W2 w1 : World} {u v : Value} {xs ys : List α} {S : Nat → Prop}
theorem R_reok (hE : d.E = []) (h : d.R e W base ok1 v xs) (hok : ∀ k, v.ownBlock = some k → ok k) : d.R e W base ok v xs := R_mono (R_tight hE h) (fun k hk => hok k hk.symm)
end
end Kd
end Go.Proofs.YtndicjikjcifaaaDoorW.PrintWords
namespace Go.Proofs.YtndicjikjcifaaaDoorW.PrintWords
open Go.RowKit
namespace Kd
def V {α : Type} (d : Kd α) (_e : Nat) (W : World) (_base : Nat) (ok : Nat → Prop) (v : Value) (xs : List α) : Prop := ∃ A c, v = .slice A xs.length c ∧ xs.length ≤ c ∧ F d W ok A xs.length xs
section
variable {α β : Type} {d : Kd α} {e base base' n m c g N' lo hi : Nat} {ok ok' S : Nat → Prop} {w W w1 : World} {A : Option Addr} {ad : Addr} {u v v1 : Value} {xs : List α}
theorem V_nil (d : Kd α) (e : Nat) (W : World) (base : Nat) (ok : Nat → Prop) : V d e W base ok (.slice none 0 0) [] := ⟨none, 0, rfl, Nat.le_refl _, F_nil d W ok⟩
end
end Kd
end Go.Proofs.YtndicjikjcifaaaDoorW.PrintWords

/- Words on worlds of which only some blocks may have changed: plain lemmas, no program in sight. -/
namespace Go.Proofs.YtndicjikjcifaaaDoor
open Go.RowKit Go.Proofs.YtndicjikjcifaaaDoorW.PrintWords Go.Proofs.YtndicjikjcifaaaDoorW.PrintLast
structure Only (S : Nat → Prop) (w w' : World) : Prop where
  os : w'.os = w.os
  tape : w'.tape = w.tape
  output : w'.output = w.output
  size : w.heap.size ≤ w'.heap.size
  block : ∀ k, k < w.heap.size → ¬ S k → w'.heap[k]? = w.heap[k]?
theorem Only.refl (S : Nat → Prop) (w : World) : Only S w w := ⟨rfl, rfl, rfl, Nat.le_refl _, fun _ _ _ => rfl⟩
theorem Only.of_below {S : Nat → Prop} {w w' : World} (h : Below w.heap.size w w') : Only S w w' :=
  ⟨h.os, h.tape, h.output, h.size, fun k hk _ => h.block k hk⟩
theorem Only.trans {S S' : Nat → Prop} {a b c : World} (h : Only S a b) (k : Only S' b c) (hS : ∀ i, i < a.heap.size → S' i → S i) : Only S a c :=
  ⟨k.os.trans h.os, k.tape.trans h.tape, k.output.trans h.output, Nat.le_trans h.size k.size, fun i hi hn =>
    (k.block i (Nat.lt_of_lt_of_le hi h.size) (fun hs => hn (hS i hi hs))).trans (h.block i hi hn)⟩
theorem Only.mono {S S' : Nat → Prop} {a b : World} (h : Only S a b) (hS : ∀ i, S i → S' i) : Only S' a b :=
  ⟨h.os, h.tape, h.output, h.size, fun i hi hn => h.block i hi (fun hs => hn (hS i hs))⟩
theorem Only.below {S : Nat → Prop} {a b : World} (h : Only S a b) {B : Nat} (hB : B ≤ a.heap.size) (hS : ∀ i, S i → B ≤ i) : Below B a b :=
  ⟨h.os, h.tape, h.output, h.size, fun i hi => h.block i (Nat.lt_of_lt_of_le hi hB) (fun hs => by have := hS i hs; omega)⟩
theorem Only.drew {S : Nat → Prop} {a w : World} (h : Only S a w) : Only S a w.drew := ⟨h.os, h.tape, h.output, h.size, h.block⟩
theorem Only.drewN {S : Nat → Prop} {a w : World} (h : Only S a w) (n : Nat) : Only S a (w.drewN n) := ⟨h.os, h.tape, h.output, h.size, h.block⟩
theorem Only.alloc {S : Nat → Prop} {a w : World} (h : Only S a w) (o : Obj) : Only S a (w.alloc o) :=
  h.trans (Only.of_below ((Below.refl _ w).alloc (Nat.le_refl _) o) (S := S)) (fun _ _ h => h)
theorem Only.set {S : Nat → Prop} {a w : World} (h : Only S a w) {p : Addr} (hp : S p.block ∨ a.heap.size ≤ p.block) (u : Value) : Only S a (w.setCell p u) :=
  ⟨h.os, h.tape, h.output, by simpa [World.setCell] using h.size, fun i hi hn => (Below.heap_setCell w p u i (fun e => by
    subst e
    rcases hp with hp | hp
    · exact hn hp
    · omega)).trans (h.block i hi hn)⟩
theorem Only.grown {S : Nat → Prop} {a w w' : World} {row : Option Nat} (h : Only S a w) (hg : w.grownBy w' row) (hr : ∀ k, row = some k → S k ∨ a.heap.size ≤ k) : Only S a w' :=
  ⟨hg.os.trans h.os, hg.tape.trans h.tape, hg.output.trans h.output, Nat.le_trans h.size hg.size, fun i hi hn =>
    (hg.block i (Nat.lt_of_lt_of_le hi h.size) (fun e => by
      rcases hr i e.symm with hp | hp
      · exact hn hp
      · omega)).trans (h.block i hi hn)⟩
theorem blk_newAt (w : World) (o : Obj) {n : Nat} (h : w.heap.size = n) : (w.alloc o).heap[n]? = some o := by
  subst h
  exact blk_new w o
theorem Kd.R_only {α : Type} {d : Kd α} {e : Nat} {w w' : World} {base : Nat} {ok S : Nat → Prop} {v : Value} {xs : List α} (h : Kd.R d e w base ok v xs) (ho : Only S w w') (hd : ∀ k, ok k → ¬ S k) : Kd.R d e w' base ok v xs :=
  Kd.R_step h (fun k hk hlt => ho.block k hlt (hd k hk))
theorem C_of_R {w : World} {base e : Nat} {ok : Nat → Prop} {A : Option Addr} {n c : Nat} {xs : List ByteArray} (h : Kd.R Kd.string e w base ok (.slice A n c) xs) : Kd.C Kd.string w A xs.length xs := by
  obtain ⟨A', c', he, _, hC⟩ := Kd.R_reads h
  cases he
  exact hC
theorem at_world {B F : World → Prop} {Z : World} (hz : F Z) (h : ∀ Z, F Z → B Z) : B Z := h Z hz
end Go.Proofs.YtndicjikjcifaaaDoor
/- Laws of append on rows of the call's own, told over an elder world: plain lemmas, no program in sight. -/
namespace Go.Proofs.YtndicjikjcifaaaDoor
open Go.RowKit Go.Proofs.YtndicjikjcifaaaDoorW.PrintWords Go.Proofs.YtndicjikjcifaaaDoorW.PrintLast
section
variable {P : Program} {ops : Array Oper} {o : Oper} {a : Act} {Q : Exit → Act → World → Prop} {α : Type}
theorem add0 (B j : Nat) : (⟨B, 0, none⟩ : Addr).add j = ⟨B, j, none⟩ := by unfold Addr.add; split <;> simp_all
theorem addo (B o j : Nat) : (⟨B, o, none⟩ : Addr).add j = ⟨B, o + j, none⟩ := by unfold Addr.add; split <;> simp_all
theorem add_block (ad : Addr) (j : Nat) : (ad.add j).block = ad.block := by unfold Addr.add; split <;> simp_all
end
end Go.Proofs.YtndicjikjcifaaaDoor
/- Rows of flat elements: append of one, copy within a row. Plain lemmas, no program in sight. -/
namespace Go.Proofs.YtndicjikjcifaaaDoor
open Go.RowKit Go.Proofs.YtndicjikjcifaaaDoorW.PrintWords Go.Proofs.YtndicjikjcifaaaDoorW.PrintLast
def FR {α : Type} (c : α → List Value) (sz e base : Nat) (w : World) (v : Value) (xs : List α) : Prop := w.ownsRow base e sz v xs.length (xs.flatMap c)
section
variable {P : Program} {ops : Array Oper} {o : Oper} {a : Act} {Q : Exit → Act → World → Prop} {α : Type} {c : α → List Value} {sz e base : Nat} {w w' : World} {v : Value} {xs : List α}
theorem FR.nil (c : α → List Value) (sz e base : Nat) (w : World) : FR c sz e base w (.slice none 0 0) [] := ⟨by simp, .inl ⟨rfl, rfl⟩⟩
theorem FR.move (h : FR c sz e base w v xs) (hm : ∀ k, v.ownBlock = some k → w'.heap[k]? = w.heap[k]?) : FR c sz e base w' v xs := own_move h hm
theorem FR.lt (h : FR c sz e base w v xs) (k : Nat) (hk : v.ownBlock = some k) : base ≤ k ∧ k < w.heap.size := ⟨own_base h k hk, own_lt h k hk⟩
theorem FR.only {S : Nat → Prop} (h : FR c sz e base w v xs) (ho : Only S w w') (hd : ∀ k, v.ownBlock = some k → ¬ S k) : FR c sz e base w' v xs :=
  h.move (fun k hk => ho.block k (h.lt k hk).2 (hd k hk))
theorem FR.below (h : FR c sz e base w v xs) (hb : Below w.heap.size w w') : FR c sz e base w' v xs :=
  h.move (fun k hk => hb.block k (h.lt k hk).2)
theorem FR.form (h : FR c sz e base w v xs) : ∃ A cap, v = .slice A xs.length cap ∧ xs.length ≤ cap := by
  rcases h.2 with ⟨rfl, h0⟩ | ⟨g, cap, cur, rfl, _, _, hc, _⟩
  · exact ⟨none, 0, by rw [h0], by omega⟩
  · exact ⟨_, _, rfl, hc⟩
theorem FR.some (h : FR c sz e base w v xs) (hn : 0 < xs.length) : ∃ b cap cur, v = .slice (some ⟨b, 0, none⟩) xs.length cap ∧ base ≤ b ∧ w.heap[b]? = some (.cells cur e (0, 0)) ∧ xs.length ≤ cap ∧ cap ≤ maxLen ∧ cur.size = cap * sz ∧ cur.toList.take (xs.length * sz) = xs.flatMap c := by
  rcases h.2 with ⟨_, h0⟩ | h
  · omega
  · exact h
theorem fr_app_wp {Kc : Act → World → Prop} {W w0 : World} (base : Nat) (s x : Operand) (t e : TypeId) (z : Value) (sz bytes : Nat)
    (ho : o.op = .call { callee := .builtin .append, args := #[s, x], argTypes := #[t, t] })
    (ht : P.underlying t = some (.slice e)) (hinfo : (P.info? e).map (fun i => (i.zero, i.size, i.bytes)) = some (some z, sz, bytes)) (hz : z.cells.size = sz) (hs0 : 0 < sz)
    (v : Value) (xs : List α) (p : α) (hs : a.eval s = v) (B : Nat) (hx : a.eval x = .slice (some ⟨B, 0, none⟩) 1 1)
    (te : TypeId) (fr : Nat × Nat) (hB : W.heap[B]? = some (.cells (c p).toArray te fr)) (hcl : (c p).length = sz) (h1 : ∀ u ∈ c p, u.oneCell' = true)
    (HR : FR c sz e base w0 v xs) (HW : Below w0.heap.size w0 W) (hbase : base ≤ w0.heap.size) (h63 : xs.length + 1 ≤ maxLen) (hl : (xs.length + 1) * bytes ≤ 140737488355328)
    (h : ∀ g cap w1, FR c sz e base w1 (.slice (some ⟨g, 0, none⟩) (xs.length + 1) cap) (xs ++ [p]) → Only (fun k => v.ownBlock = some k) W w1 → base ≤ g → (v.ownBlock = some g ∨ g = W.heap.size) → Kc (a.put o.dst (.slice (some ⟨g, 0, none⟩) (xs.length + 1) cap)) w1) :
    Oper.wp P o a W Kc Q := by
  obtain ⟨i0, hi, hz0, hz1, hz2⟩ := info_parts hinfo
  refine wp_append_lies W s x t ho base e i0 z sz bytes ht hi hz0 hz1 hz2 hz hs0 v xs.length (xs.flatMap c) hs (HR.below HW) ⟨B, 0, none⟩ 1 1 (c p) hx (by omega) ?_ h1 (by omega) h63 hl (Nat.le_trans hbase HW.size) _ rfl ?_
  · intro j u hu
    rw [add0, World.cell?, hB]
    simpa using hu
  · intro g cap w1 hown1 hg1 hat hlt
    have hF : FR c sz e base w1 (.slice (some ⟨g, 0, none⟩) (xs.length + 1) cap) (xs ++ [p]) := by
      unfold FR
      rw [List.flatMap_append, List.length_append]
      simpa using hown1
    exact h g cap w1 hF ⟨hg1.os, hg1.tape, hg1.output, hg1.size, fun k hk hn => hg1.block k hk (fun e => hn e.symm)⟩ (hF.lt g rfl).1 hat
theorem fr_app_list {rest : List Oper} (hgd : o.guard = none) {W w0 : World} (base : Nat) (s x : Operand) (t e : TypeId) (z : Value) (sz bytes : Nat)
    (ho : o.op = .call { callee := .builtin .append, args := #[s, x], argTypes := #[t, t] })
    (ht : P.underlying t = some (.slice e)) (hinfo : (P.info? e).map (fun i => (i.zero, i.size, i.bytes)) = some (some z, sz, bytes)) (hz : z.cells.size = sz) (hs0 : 0 < sz)
    (v : Value) (xs : List α) (p : α) (hs : a.eval s = v) (B : Nat) (hx : a.eval x = .slice (some ⟨B, 0, none⟩) 1 1)
    (te : TypeId) (fr : Nat × Nat) (hB : W.heap[B]? = some (.cells (c p).toArray te fr)) (hcl : (c p).length = sz) (h1 : ∀ u ∈ c p, u.oneCell' = true)
    (HR : FR c sz e base w0 v xs) (HW : Below w0.heap.size w0 W) (hbase : base ≤ w0.heap.size) (h63 : xs.length + 1 ≤ maxLen) (hl : (xs.length + 1) * bytes ≤ 140737488355328)
    (h : ∀ g cap w1, FR c sz e base w1 (.slice (some ⟨g, 0, none⟩) (xs.length + 1) cap) (xs ++ [p]) → Only (fun k => v.ownBlock = some k) W w1 → base ≤ g → (v.ownBlock = some g ∨ g = W.heap.size) → wpList P ops Q rest (a.put o.dst (.slice (some ⟨g, 0, none⟩) (xs.length + 1) cap)) w1) :
    wpList P ops Q (o :: rest) a W :=
  wpList_plain hgd fun _ hK => fr_app_wp base s x t e z sz bytes ho ht hinfo hz hs0 v xs p hs B hx te fr hB hcl h1 HR HW hbase h63 hl (fun g cap w1 h1 h2 h3 h4 => hK _ _ (h g cap w1 h1 h2 h3 h4))
end
end Go.Proofs.YtndicjikjcifaaaDoor

/-! ### 50. A region's order in a table, made once a region: each step asks the table (numbers alone), not the operations -/
namespace Go.Proofs.YtndicjikjcifaaaDoorW.PrintLast
open Go.Proofs.YtndicjikjcifaaaDoorW.PrintWords (Aside0)
def needsOf (md : Region.Mode) (o : Oper) : List Nat := (o.after.toList.filter (fun e => Region.binds md e)).map (fun e => e.on)
def clashOf (md : Region.Mode) (ops : Array Oper) (i : Nat) (oi : Oper) : List Nat := (List.range ops.size).filter fun j => !(j == i) && match ops[j]? with
  | some oj => !(oj.after.any (fun e => Region.binds md e && e.on == i) || oi.apart ops oj)
  | none => false
def rtab (md : Region.Mode) (ops : Array Oper) : Bool × List (List Nat × List Nat) := (Region.noSelect ops, (List.range ops.size).map fun i => match ops[i]? with
  | some o => (needsOf md o, clashOf md ops i o)
  | none => ([], []))
def readyAt (T : List (List Nat × List Nat)) (l : List Bool) (i : Nat) : Bool := !l.getD i true && match T[i]? with
  | some r => r.1.all (fun j => l.getD j false)
  | none => false
def readyT (T : List (List Nat × List Nat)) (l : List Bool) : List Nat := (List.range T.length).filter (readyAt T l)
def freeT (T : List (List Nat × List Nat)) (l : List Bool) (i : Nat) : Bool := match T[i]? with
  | some r => r.2.all (fun j => l.getD j true)
  | none => false
def closedT (T : List (List Nat × List Nat)) (l : List Bool) : Bool := (List.range T.length).all fun j => !l.getD j false || match T[j]? with
  | some r => r.1.all (fun k => l.getD k false)
  | none => true
def reachT (T : List (List Nat × List Nat)) (i : Nat) : Nat → Nat → Bool
  | 0, _ => false
  | fuel + 1, d => match T[d]? with
    | some r => r.1.any fun j => j == i || reachT T i fuel j
    | none => false
def lastT (T : List (List Nat × List Nat)) (l : List Bool) (ds : List Nat) (i : Nat) : Bool := ds.all fun d => l.getD d true || reachT T i T.length d
section
variable {md : Region.Mode} {ops : Array Oper} {T : Bool × List (List Nat × List Nat)} {l l' li lj lk : Array Bool} {ds : List Nat} {i j k : Nat}
theorem gd (l : Array Bool) (j : Nat) (b : Bool) : l.getD j b = l.toList.getD j b := by simp [Array.getD_eq_getD_getElem?, List.getD_eq_getElem?_getD]
theorem needs_all (o : Oper) (p : Nat → Bool) : o.after.all (fun e => !Region.binds md e || p e.on) = (needsOf md o).all p := by
  unfold needsOf
  rw [← Array.all_toList]
  induction o.after.toList with
  | nil => rfl
  | cons e r ih =>
    rw [List.all_cons, ih, List.filter_cons]
    cases h : Region.binds md e <;> simp
theorem needs_any (o : Oper) (p : Nat → Bool) : o.after.any (fun e => Region.binds md e && p e.on) = (needsOf md o).any p := by
  unfold needsOf
  rw [← Array.any_toList]
  induction o.after.toList with
  | nil => rfl
  | cons e r ih =>
    rw [List.any_cons, ih, List.filter_cons]
    cases h : Region.binds md e <;> simp
theorem rtab_length : (rtab md ops).2.length = ops.size := by simp [rtab]
theorem rtab_some {o : Oper} (h : ops[i]? = some o) : (rtab md ops).2[i]? = some (needsOf md o, clashOf md ops i o) := by
  have hi := (Array.getElem?_eq_some_iff.1 h).1
  unfold rtab
  rw [List.getElem?_map, List.getElem?_range hi, Option.map_some, h]
theorem rtab_none (h : ops[i]? = none) : (rtab md ops).2[i]? = none := by
  have hi : ops.size ≤ i := Array.getElem?_eq_none_iff.1 h
  exact List.getElem?_eq_none (by rw [rtab_length]; exact hi)
theorem readyAt_eq : readyAt (rtab md ops).2 l.toList i = (!l.getD i true && ((ops[i]?).map (·.after.all fun e => !Region.binds md e || l.getD e.on false)).getD false) := by
  unfold readyAt
  rw [gd]
  cases h : ops[i]? with
  | none => rw [rtab_none h]; rfl
  | some o =>
    rw [rtab_some h]
    simp only [Option.map_some, Option.getD_some]
    rw [← needs_all]
    simp only [gd]
theorem ready_eq : Region.ready md ops l = readyT (rtab md ops).2 l.toList := by
  unfold Region.ready readyT
  rw [rtab_length]
  refine List.filter_congr (fun i _ => ?_)
  rw [readyAt_eq]
theorem free_eq : Region.free md ops l i = freeT (rtab md ops).2 l.toList i := by
  unfold Region.free freeT
  cases h : ops[i]? with
  | none => rw [rtab_none h]
  | some oi =>
    rw [rtab_some h]
    simp only [clashOf]
    rw [List.all_filter]
    congr 1
    funext j
    rw [gd]
    cases hj : ops[j]? with
    | none => cases (j == i) <;> cases (l.toList.getD j true) <;> simp
    | some oj =>
      cases (j == i) <;> cases (l.toList.getD j true) <;> cases (oj.after.any (fun e => Region.binds md e && e.on == i) || oi.apart ops oj) <;> simp_all
theorem closed_eq : Region.closedB md ops l = closedT (rtab md ops).2 l.toList := by
  unfold Region.closedB closedT
  rw [rtab_length]
  congr 1
  funext j
  rw [gd]
  cases h : ops[j]? with
  | none => rw [rtab_none h]
  | some o =>
    rw [rtab_some h]
    simp only
    rw [← needs_all]
    simp only [gd]
theorem reach_eq : ∀ (fuel d : Nat), Region.reachB md ops i fuel d = reachT (rtab md ops).2 i fuel d
  | 0, _ => rfl
  | fuel + 1, d => by
    unfold Region.reachB reachT
    cases h : ops[d]? with
    | none => rw [rtab_none h]
    | some o =>
      rw [rtab_some h]
      simp only
      rw [← needs_any]
      congr 1
      funext e
      rw [reach_eq fuel]
theorem last_eq : Region.lastB md ops l ds i = lastT (rtab md ops).2 l.toList ds i := by
  unfold Region.lastB lastT
  rw [rtab_length]
  congr 1
  funext d
  rw [gd, reach_eq]
theorem readyAt_mem (h : readyAt T.2 l.toList i = true) (hT : rtab md ops = T) : (Region.ready md ops l).contains i = true := by
  subst hT
  rw [ready_eq]
  unfold readyT
  rw [List.contains_iff_mem, List.mem_filter, List.mem_range]
  refine ⟨?_, h⟩
  unfold readyAt at h
  rw [Bool.and_eq_true] at h
  cases hq : (rtab md ops).2[i]? with
  | none => rw [hq] at h; simp at h
  | some r => exact (List.getElem?_eq_some_iff.1 hq).1
theorem set_of (h : (l.toList.set i true == l'.toList) = true) : (l.setIfInBounds i true == l') = true := by
  rw [beq_iff_eq] at h ⊢
  apply Array.ext'
  rw [Array.toList_setIfInBounds]
  exact h
def anyT (T : Bool × List (List Nat × List Nat)) (l l' : List Bool) (i : Nat) : Bool := T.1 && freeT T.2 l i && readyAt T.2 l i && (l.set i true == l')
theorem any_of (hT : rtab md ops = T) (h : anyT T l.toList l'.toList i = true) : anyB md ops l l' i = true := by
  simp only [anyT, Bool.and_eq_true] at h
  obtain ⟨⟨⟨h1, h2⟩, h3⟩, h4⟩ := h
  have h5 := readyAt_mem h3 hT
  have h6 := set_of h4
  subst hT
  simp only [anyB, Bool.and_eq_true]
  exact ⟨⟨⟨h1, by rw [free_eq]; exact h2⟩, h5⟩, h6⟩
def takeT (T : Bool × List (List Nat × List Nat)) (ds : List Nat) (l l' : List Bool) (i : Nat) : Bool := T.1 && freeT T.2 l i && readyAt T.2 l i && closedT T.2 l && lastT T.2 l ds i && (l.set i true == l')
theorem take_of (hT : rtab md ops = T) (h : takeT T ds l.toList l'.toList i = true) : takeB md ops ds l l' i = true := by
  simp only [takeT, Bool.and_eq_true] at h
  obtain ⟨⟨⟨⟨⟨h1, h2⟩, h3⟩, h4⟩, h5⟩, h6⟩ := h
  have h7 := readyAt_mem h3 hT
  have h8 := set_of h6
  subst hT
  simp only [takeB, Bool.and_eq_true]
  exact ⟨⟨⟨⟨⟨h1, by rw [free_eq]; exact h2⟩, h7⟩, by rw [closed_eq]; exact h4⟩, by rw [last_eq]; exact h5⟩, h8⟩
theorem one_of (hT : rtab md ops = T) (h : (readyT T.2 l.toList == [i] && l.toList.set i true == l'.toList) = true) : readyB md ops l l' i = true := by
  simp only [Bool.and_eq_true] at h
  obtain ⟨h1, h2⟩ := h
  subst hT
  simp only [readyB, Bool.and_eq_true]
  exact ⟨by rw [ready_eq]; exact h1, set_of h2⟩
theorem done_of (hT : rtab md ops = T) (h : (readyT T.2 l.toList == []) = true) : (Region.ready md ops l == []) = true := by
  subst hT
  rw [ready_eq]
  exact h
def upM (B : List Nat) (d : Nat) : List Nat → Nat
  | [] => 0
  | n :: r => (2 ^ n ||| (if n < d then B.getD n 0 else 0)) ||| upM B d r
def waitsOk (T : List (List Nat × List Nat)) (B : List Nat) : Bool := (List.range T.length).all fun d => match T[d]? with
  | some r => (B.getD d 0 ||| upM B d r.1) == upM B d r.1
  | none => false
theorem upM_bit {B : List Nat} {d i : Nat} : ∀ {ns : List Nat}, (upM B d ns).testBit i = true → ∃ n ∈ ns, n = i ∨ (n < d ∧ (B.getD n 0).testBit i = true)
  | [], h => by simp [upM] at h
  | n :: r, h => by
    unfold upM at h
    rw [Nat.testBit_or, Nat.testBit_or, Bool.or_eq_true, Bool.or_eq_true] at h
    rcases h with (h | h) | h
    · rw [Nat.testBit_two_pow] at h
      exact ⟨n, List.mem_cons_self, .inl (by simpa using h)⟩
    · by_cases hn : n < d
      · rw [if_pos hn] at h
        exact ⟨n, List.mem_cons_self, .inr ⟨hn, h⟩⟩
      · rw [if_neg hn] at h
        simp at h
    · obtain ⟨m, hm, h2⟩ := upM_bit h
      exact ⟨m, List.mem_cons_of_mem _ hm, h2⟩
theorem reach_bit {T : List (List Nat × List Nat)} {B : List Nat} (hB : waitsOk T B = true) : ∀ (fuel d : Nat), d < fuel → d < T.length → (B.getD d 0).testBit i = true → reachT T i fuel d = true
  | 0, d, h, _, _ => by omega
  | fuel + 1, d, h, hd, hb => by
    have h1 := List.all_eq_true.1 hB d (List.mem_range.2 hd)
    cases hr : T[d]? with
    | none => rw [hr] at h1; simp at h1
    | some r =>
      rw [hr] at h1
      simp only [beq_iff_eq] at h1
      have h2 : (upM B d r.1).testBit i = true := by rw [← h1, Nat.testBit_or, hb, Bool.true_or]
      obtain ⟨n, hn, h3⟩ := upM_bit h2
      unfold reachT
      rw [hr]
      simp only
      rw [List.any_eq_true]
      refine ⟨n, hn, ?_⟩
      rcases h3 with rfl | ⟨h4, h5⟩
      · simp
      · rw [reach_bit hB fuel n (by omega) (by omega) h5, Bool.or_true]
def lastW (T : List (List Nat × List Nat)) (B : List Nat) (l : List Bool) (ds : List Nat) (i : Nat) : Bool := ds.all fun d => l.getD d true || (decide (d < T.length) && (B.getD d 0).testBit i)
def takeW (T : Bool × List (List Nat × List Nat)) (B : List Nat) (ds : List Nat) (l l' : List Bool) (i : Nat) : Bool := T.1 && freeT T.2 l i && readyAt T.2 l i && closedT T.2 l && lastW T.2 B l ds i && (l.set i true == l')
theorem take_ofW {B : List Nat} (hT : rtab md ops = T) (hB : waitsOk T.2 B = true) (h : takeW T B ds l.toList l'.toList i = true) : takeB md ops ds l l' i = true := by
  refine take_of hT ?_
  simp only [takeW, takeT, Bool.and_eq_true] at h ⊢
  obtain ⟨⟨⟨⟨⟨h1, h2⟩, h3⟩, h4⟩, h5⟩, h6⟩ := h
  refine ⟨⟨⟨⟨⟨h1, h2⟩, h3⟩, h4⟩, ?_⟩, h6⟩
  unfold lastW at h5
  unfold lastT
  rw [List.all_eq_true] at h5 ⊢
  intro d hd
  have h7 := h5 d hd
  rw [Bool.or_eq_true, Bool.and_eq_true, decide_eq_true_eq] at h7
  rcases h7 with h7 | ⟨h8, h9⟩
  · rw [h7, Bool.true_or]
  · rw [reach_bit hB _ d h8 h8 h9, Bool.or_true]
end
end Go.Proofs.YtndicjikjcifaaaDoorW.PrintLast

/- A small logic of assertions with footprints over opaque frames and worlds: what is known of slots, what is known of blocks. Plain lemmas, no program in sight. -/
namespace Go.Proofs.YtndicjikjcifaaaDoor
open Go.RowKit Go.Proofs.YtndicjikjcifaaaDoorW.PrintWords Go.Proofs.YtndicjikjcifaaaDoorW.PrintLast
set_option linter.unusedVariables false
set_option linter.unusedSimpArgs false
set_option linter.unusedSectionVars false
structure Asn where
  wf : Nat → Prop
  rf : Nat → Prop
  holds : World → Prop
  loc : ∀ W W', holds W → (∀ k, wf k ∨ rf k → W'.heap[k]? = W.heap[k]?) → holds W'
def Asn.blk (g : Nat) (cs : List Value) (t : TypeId) : Asn :=
  ⟨fun k => k = g, fun _ => False, fun W => W.heap[g]? = some (.cells cs.toArray t (0, 0)), fun _ _ h e => (e g (.inl rfl)).trans h⟩
def Asn.old (w : World) (p : World → Prop) (hp : ∀ W W', p W → (∀ k, k < w.heap.size → W'.heap[k]? = W.heap[k]?) → p W') : Asn :=
  ⟨fun _ => False, fun k => k < w.heap.size, p, fun W W' h e => hp W W' h (fun k hk => e k (.inr hk))⟩
structure Fr (n : Nat) (L : List (Nat × Value)) (a : Act) : Prop where
  sz : a.tmps.size = n
  df : a.defers = []
  ev : ∀ i v, L.lookup i = some v → a.tmps[i]? = some v
structure St (w : World) (S R : Nat → Prop) (M : List Asn) (W : World) : Prop where
  low : Only S w W
  has : ∀ A ∈ M, A.holds W ∧ (∀ k, A.wf k ∨ A.rf k → k < W.heap.size) ∧ (∀ k, A.wf k → S k ∨ w.heap.size ≤ k) ∧ (∀ k, A.rf k → S k ∨ R k ∨ w.heap.size ≤ k)
  dis : M.Pairwise (fun A B => ∀ k, (A.wf k → ¬ (B.wf k ∨ B.rf k)) ∧ (B.wf k → ¬ (A.wf k ∨ A.rf k)))
section
variable {w w0 W W' : World} {S S0 R R0 : Nat → Prop} {n : Nat} {L L' : List (Nat × Value)} {M M' : List Asn} {a : Act} {A B : Asn}
theorem Fr.slot (H : Fr n L a) {i : Nat} {v : Value} (h : L.lookup i = some v) : a.eval (.tmp i) = v := by
  have := H.ev i v h
  simp [Act.eval, this]
theorem Fr.put (H : Fr n L a) (d : Nat) (hd : d < n) (v : Value) : Fr n ((d, v) :: L) (a.put (some d) v) := by
  refine ⟨by simp [Act.put, H.sz], H.df, fun i u h => ?_⟩
  simp only [Act.put, Array.getElem?_setIfInBounds, H.sz]
  by_cases e : d = i
  · subst e
    rw [if_pos rfl, if_pos hd]
    simpa [List.lookup] using h
  · rw [if_neg e]
    refine H.ev i u ?_
    have : (i == d) = false := beq_false_of_ne (fun q => e q.symm)
    simpa [List.lookup, this] using h
def Sub : List (Nat × Value) → List (Nat × Value) → Prop
  | [], _ => True
  | (i, v) :: t, L => L.lookup i = some v ∧ Sub t L
theorem Sub.look : ∀ {L' : List (Nat × Value)}, Sub L' L → ∀ i v, L'.lookup i = some v → L.lookup i = some v
  | [], _, i, v, h => by simp at h
  | (j, u) :: t, hs, i, v, h => by
    by_cases e : i = j
    · subst e
      have : u = v := by simpa [List.lookup] using h
      exact this ▸ hs.1
    · have hb : (i == j) = false := beq_false_of_ne e
      exact Sub.look hs.2 i v (by simpa [List.lookup, hb] using h)
theorem Fr.less (H : Fr n L a) (L' : List (Nat × Value)) (h : Sub L' L) : Fr n L' a := ⟨H.sz, H.df, fun i v e => H.ev i v (h.look i v e)⟩
theorem Fr.conv {i : Nat} {v : Value} (H : Fr n ((i, v) :: L) a) {v' : Value} (e : v = v') : Fr n ((i, v') :: L) a := e ▸ H
theorem St.get (H : St w S R M W) (k : Nat) (h : M[k]? = some A) : A.holds W := (H.has A (List.mem_of_getElem? h)).1
theorem St.blk (H : St w S R M W) (k : Nat) {g : Nat} {cs : List Value} {t : TypeId} (h : M[k]? = some (Asn.blk g cs t)) : W.heap[g]? = some (.cells cs.toArray t (0, 0)) := H.get k h
theorem St.first (w : World) (S R : Nat → Prop) : St w S R [] w := ⟨Only.refl _ _, (fun A h => by cases h), List.Pairwise.nil⟩
theorem St.drew (H : St w S R M W) : St w S R M W.drew := ⟨H.low.drew, fun A h => ⟨A.loc W W.drew (H.has A h).1 (fun _ _ => rfl), (H.has A h).2⟩, H.dis⟩
theorem St.drewN (H : St w S R M W) (k : Nat) : St w S R M (W.drewN k) := ⟨H.low.drewN k, fun A h => ⟨A.loc W (W.drewN k) (H.has A h).1 (fun _ _ => rfl), (H.has A h).2⟩, H.dis⟩
theorem St.below (H : St w S R M W) (hb : Below W.heap.size W W') : St w S R M W' :=
  ⟨H.low.trans (Only.of_below (S := S) hb) (fun _ _ h => h), fun A h => ⟨A.loc W W' (H.has A h).1 (fun k hk => hb.block k ((H.has A h).2.1 k hk)), fun k hk => Nat.lt_of_lt_of_le ((H.has A h).2.1 k hk) hb.size, (H.has A h).2.2⟩, H.dis⟩
theorem St.sub (H : St w S R M W) (h : M'.Sublist M) : St w S R M' W := ⟨H.low, fun A hA => H.has A (h.subset hA), H.dis.sublist h⟩
theorem St.front (H : St w S R M W) (m : Nat) : St w S R (M.take m) W := H.sub (List.take_sublist _ _)
theorem St.add (H : St w S R M W) (A : Asn) (hh : A.holds W) (hb : ∀ k, A.wf k ∨ A.rf k → k < W.heap.size) (hw : ∀ k, A.wf k → (S k ∨ w.heap.size ≤ k) ∧ ∀ B ∈ M, ¬ (B.wf k ∨ B.rf k)) (hr : ∀ k, A.rf k → (S k ∨ R k ∨ w.heap.size ≤ k) ∧ ∀ B ∈ M, ¬ B.wf k) : St w S R (M ++ [A]) W := by
  refine ⟨H.low, fun B hB => ?_, ?_⟩
  · rcases List.mem_append.1 hB with hB | hB
    · exact H.has B hB
    · obtain rfl := List.mem_singleton.1 hB
      exact ⟨hh, hb, fun k hk => (hw k hk).1, fun k hk => (hr k hk).1⟩
  · rw [List.pairwise_append]
    refine ⟨H.dis, by simp, fun B hB C hC => ?_⟩
    obtain rfl := List.mem_singleton.1 hC
    refine fun k => ⟨fun hk hc => ?_, fun hk hc => (hw k hk).2 B hB hc⟩
    rcases hc with hc | hc
    · exact (hw k hc).2 B hB (.inl hk)
    · exact (hr k hc).2 B hB hk
theorem St.one (A : Asn) (hh : A.holds w) (hb : ∀ k, A.wf k ∨ A.rf k → k < w.heap.size) (hw : ∀ k, A.wf k → S k) (hr : ∀ k, A.rf k → S k ∨ R k) : St w S R [A] w :=
  (St.first w S R).add A hh hb (fun k hk => ⟨.inl (hw k hk), fun _ h => by cases h⟩) (fun k hk => ⟨(hr k hk).imp id .inl, fun _ h => by cases h⟩)
theorem St.ends (H : St w (fun _ => False) R M W) : Below w.heap.size w W := H.low.below (Nat.le_refl _) (fun _ h => h.elim)
theorem St.fresh (H : St w S R M W) (hb : Below W.heap.size W W') (A : Asn) (hh : A.holds W') (hf : ∀ k, A.wf k ∨ A.rf k → W.heap.size ≤ k ∧ k < W'.heap.size) : St w S R (M ++ [A]) W' := by
  have H' := H.below hb
  refine H'.add A hh (fun k hk => (hf k hk).2) (fun k hk => ⟨.inr (Nat.le_trans H.low.size (hf k (.inl hk)).1), fun B hB hc => ?_⟩) (fun k hk => ⟨.inr (.inr (Nat.le_trans H.low.size (hf k (.inr hk)).1)), fun B hB hc => ?_⟩)
  · have := (H.has B hB).2.1 k hc
    have := (hf k (.inl hk)).1
    omega
  · have := (H.has B hB).2.1 k (.inl hc)
    have := (hf k (.inr hk)).1
    omega
theorem St.alloc (H : St w S R M W) (cs : List Value) (t : TypeId) : St w S R (M ++ [Asn.blk W.heap.size cs t]) (W.alloc (.cells cs.toArray t)) :=
  H.fresh ((Below.refl _ W).alloc (Nat.le_refl _) _) _ (blk_new _ _) (fun k hk => by
    rcases hk with hk | hk
    · have : k = W.heap.size := hk
      subst this
      simp
    · cases hk)
theorem St.updR (H : St w S R M W) (k : Nat) (hk : M[k]? = some A) (ho : Only A.wf W W') (B : Asn) (hh : B.holds W') (hb : ∀ j, B.wf j ∨ B.rf j → j < W'.heap.size) (hw : ∀ j, B.wf j → A.wf j ∨ W.heap.size ≤ j)
    (hr : ∀ j, B.rf j → A.wf j ∨ A.rf j ∨ W.heap.size ≤ j ∨ ∃ i C, i ≠ k ∧ M[i]? = some C ∧ C.rf j ∧ ¬ C.wf j) : St w S R (M.set k B) W' := by
  have hkl := (List.getElem?_eq_some_iff.1 hk).1
  have hA := List.mem_of_getElem? hk
  have apart2 : ∀ (i : Nat) (C : Asn) (j : Nat) (D : Asn), i ≠ j → M[i]? = some C → M[j]? = some D → ∀ x, (C.wf x → ¬ (D.wf x ∨ D.rf x)) ∧ (D.wf x → ¬ (C.wf x ∨ C.rf x)) := by
    intro i C j D hne hi hj
    have hil := (List.getElem?_eq_some_iff.1 hi).1
    have hjl := (List.getElem?_eq_some_iff.1 hj).1
    have e1 : M[i] = C := (List.getElem?_eq_some_iff.1 hi).2
    have e2 : M[j] = D := (List.getElem?_eq_some_iff.1 hj).2
    have h2 := List.pairwise_iff_getElem.1 H.dis
    rcases Nat.lt_or_gt_of_ne hne with h | h
    · have := h2 i j hil hjl h; rwa [e1, e2] at this
    · have := h2 j i hjl hil h
      rw [e1, e2] at this
      exact fun x => ⟨(this x).2, (this x).1⟩
  have apart : ∀ i C, i ≠ k → M[i]? = some C → ∀ j, (A.wf j → ¬ (C.wf j ∨ C.rf j)) ∧ (C.wf j → ¬ (A.wf j ∨ A.rf j)) := by
    intro i C hi hC j
    have hil := (List.getElem?_eq_some_iff.1 hC).1
    have h2 := List.pairwise_iff_getElem.1 H.dis
    have e1 : M[k] = A := (List.getElem?_eq_some_iff.1 hk).2
    have e2 : M[i] = C := (List.getElem?_eq_some_iff.1 hC).2
    rcases Nat.lt_or_gt_of_ne hi with h | h
    · have := h2 i k hil hkl h j
      rw [e1, e2] at this
      exact ⟨this.2, this.1⟩
    · have := h2 k i hkl hil h j
      rw [e1, e2] at this
      exact this
  refine ⟨H.low.trans ho (fun i hi h => ?_), fun C hC => ?_, ?_⟩
  · rcases (H.has A hA).2.2.1 i h with q | q
    · exact q
    · omega
  · obtain ⟨i, hi⟩ := List.mem_iff_getElem?.1 hC
    rw [List.getElem?_set] at hi
    by_cases e : k = i
    · subst e
      rw [if_pos rfl, if_pos hkl] at hi
      cases hi
      refine ⟨hh, hb, fun j hj => ?_, fun j hj => ?_⟩
      · rcases hw j hj with q | q
        · exact (H.has A hA).2.2.1 j q
        · exact .inr (Nat.le_trans H.low.size q)
      · rcases hr j hj with q | q | q | ⟨i', C', _, hC', q, _⟩
        · exact ((H.has A hA).2.2.1 j q).imp id .inr
        · exact (H.has A hA).2.2.2 j q
        · exact .inr (.inr (Nat.le_trans H.low.size q))
        · exact (H.has C' (List.mem_of_getElem? hC')).2.2.2 j q
    · rw [if_neg e] at hi
      have hm := List.mem_of_getElem? hi
      refine ⟨C.loc W W' (H.has C hm).1 (fun j hj => ho.block j ((H.has C hm).2.1 j hj) (fun q => (apart i C (Ne.symm e) hi j).1 q hj)), fun j hj => Nat.lt_of_lt_of_le ((H.has C hm).2.1 j hj) ho.size, (H.has C hm).2.2⟩
  · have new : ∀ i C, i ≠ k → M[i]? = some C → ∀ j, (B.wf j → ¬ (C.wf j ∨ C.rf j)) ∧ (C.wf j → ¬ (B.wf j ∨ B.rf j)) := by
      intro i C hi hC j
      have hm := List.mem_of_getElem? hC
      have hap := apart i C hi hC j
      have hlt := (H.has C hm).2.1 j
      refine ⟨fun hj hc => ?_, fun hc hj => ?_⟩
      · rcases hw j hj with q | q
        · exact hap.1 q hc
        · have := hlt hc; omega
      · rcases hj with hj | hj
        · rcases hw j hj with q | q
          · exact hap.2 hc (.inl q)
          · have := hlt (.inl hc); omega
        · rcases hr j hj with q | q | q | ⟨i', C', hi', hC', q, q'⟩
          · exact hap.2 hc (.inl q)
          · exact hap.2 hc (.inr q)
          · have := hlt (.inl hc); omega
          · by_cases e : i' = i
            · subst e
              rw [hC] at hC'
              cases hC'
              exact q' hc
            · exact (apart2 i' C' i C e hC' hC j).2 hc (.inr q)
    rw [List.pairwise_iff_getElem]
    intro i j hi hj hij
    simp only [List.length_set] at hi hj
    have h2 := List.pairwise_iff_getElem.1 H.dis i j hi hj hij
    rw [List.getElem_set, List.getElem_set]
    by_cases e1 : k = i
    · subst e1
      rw [if_pos rfl, if_neg (by omega)]
      exact new j _ (by omega) (List.getElem?_eq_getElem hj)
    · rw [if_neg e1]
      by_cases e2 : k = j
      · subst e2
        rw [if_pos rfl]
        intro q
        have := new i _ (by omega) (List.getElem?_eq_getElem hi) q
        exact ⟨this.2, this.1⟩
      · rw [if_neg e2]
        exact h2
theorem St.upd (H : St w S R M W) (k : Nat) (hk : M[k]? = some A) (ho : Only A.wf W W') (B : Asn) (hh : B.holds W') (hb : ∀ j, B.wf j ∨ B.rf j → j < W'.heap.size) (hw : ∀ j, B.wf j → A.wf j ∨ W.heap.size ≤ j)
    (hr : ∀ j, B.rf j → A.wf j ∨ A.rf j ∨ W.heap.size ≤ j) : St w S R (M.set k B) W' :=
  H.updR k hk ho B hh hb hw (fun j hj => by
    rcases hr j hj with q | q | q
    · exact .inl q
    · exact .inr (.inl q)
    · exact .inr (.inr (.inl q)))
def setAll : List Asn → List Nat → List Asn → List Asn
  | M, [], _ => M
  | M, _ :: _, [] => M
  | M, k :: ks, B :: Bs => setAll (M.set k B) ks Bs
def Wf (M : List Asn) : Nat → Prop := fun k => ∃ A ∈ M, A.wf k
def Rf (M : List Asn) : Nat → Prop := fun k => ∃ A ∈ M, A.rf k
theorem St.apart (H : St w S R M W) {i j : Nat} {A B : Asn} (hi : M[i]? = some A) (hj : M[j]? = some B) (hne : i ≠ j) : ∀ k, (A.wf k → ¬ (B.wf k ∨ B.rf k)) ∧ (B.wf k → ¬ (A.wf k ∨ A.rf k)) := by
  have hil := (List.getElem?_eq_some_iff.1 hi).1
  have hjl := (List.getElem?_eq_some_iff.1 hj).1
  have e1 : M[i] = A := (List.getElem?_eq_some_iff.1 hi).2
  have e2 : M[j] = B := (List.getElem?_eq_some_iff.1 hj).2
  have h2 := List.pairwise_iff_getElem.1 H.dis
  rcases Nat.lt_or_gt_of_ne hne with h | h
  · have := h2 i j hil hjl h; rwa [e1, e2] at this
  · have := h2 j i hjl hil h
    rw [e1, e2] at this
    exact fun k => ⟨(this k).2, (this k).1⟩
theorem St.select (H : St w S R M W) (ks : List Nat) (A : List Asn) (hA : ks.map (M[·]?) = A.map some) (nd : ks.Nodup) : St W (Wf A) (Rf A) A W := by
  have get : ∀ (i : Nat) (B : Asn), A[i]? = some B → ∃ k, ks[i]? = some k ∧ M[k]? = some B := by
    intro i B hB
    have := congrArg (·[i]?) hA
    simp only [List.getElem?_map, hB, Option.map_some] at this
    cases hk : ks[i]? with
    | none => rw [hk] at this; simp at this
    | some k => rw [hk] at this; exact ⟨k, rfl, by simpa using this⟩
  refine ⟨Only.refl _ _, fun B hB => ?_, ?_⟩
  · obtain ⟨i, hi⟩ := List.mem_iff_getElem?.1 hB
    obtain ⟨k, _, hk⟩ := get i B hi
    have := H.has B (List.mem_of_getElem? hk)
    exact ⟨this.1, this.2.1, fun j hj => .inl ⟨B, hB, hj⟩, fun j hj => .inr (.inl ⟨B, hB, hj⟩)⟩
  · rw [List.pairwise_iff_getElem]
    intro i j hi hj hij
    obtain ⟨k, h1, hk⟩ := get i _ (List.getElem?_eq_getElem hi)
    obtain ⟨l, h2, hl⟩ := get j _ (List.getElem?_eq_getElem hj)
    refine H.apart hk hl (fun e => ?_)
    subst e
    have hil := (List.getElem?_eq_some_iff.1 h1).1
    have hjl := (List.getElem?_eq_some_iff.1 h2).1
    have := List.pairwise_iff_getElem.1 nd i j hil hjl hij
    exact this (((List.getElem?_eq_some_iff.1 h1).2).trans ((List.getElem?_eq_some_iff.1 h2).2).symm)
theorem setAll_other : ∀ (ks : List Nat) (B M : List Asn) (i : Nat), i ∉ ks → (setAll M ks B)[i]? = M[i]?
  | [], B, M, i, h => by simp [setAll]
  | k :: ks, [], M, i, h => by simp [setAll]
  | k :: ks, b :: B, M, i, h => by
    rw [setAll, setAll_other ks B _ i (fun q => h (List.mem_cons_of_mem _ q)), List.getElem?_set, if_neg (fun e => h (by rw [e]; exact List.mem_cons_self))]
theorem setAll_at : ∀ (ks : List Nat) (B M : List Asn) (j i : Nat), ks.Nodup → ks[j]? = some i → i < M.length → j < B.length → (setAll M ks B)[i]? = B[j]?
  | [], B, M, j, i, nd, h, hi, hj => by simp at h
  | k :: ks, [], M, j, i, nd, h, hi, hj => by simp at hj
  | k :: ks, b :: B, M, 0, i, nd, h, hi, hj => by
    obtain rfl : k = i := by simpa using h
    rw [setAll, setAll_other ks B _ k (List.nodup_cons.1 nd).1, List.getElem?_set, if_pos rfl, if_pos hi]
    rfl
  | k :: ks, b :: B, M, j + 1, i, nd, h, hi, hj => by
    rw [setAll, setAll_at ks B _ j i (List.nodup_cons.1 nd).2 (by simpa using h) (by simpa using hi) (by simpa using hj)]
    simp
theorem setAll_length : ∀ (ks : List Nat) (B M : List Asn), (setAll M ks B).length = M.length
  | [], B, M => by simp [setAll]
  | k :: ks, [], M => by simp [setAll]
  | k :: ks, b :: B, M => by rw [setAll, setAll_length]; simp
theorem St.back (H : St w S R M W) (ks : List Nat) (A : List Asn) (hA : ks.map (M[·]?) = A.map some) (nd : ks.Nodup) (B N : List Asn) (hl : B.length = A.length) (H' : St W (Wf A) (Rf A) (B ++ N) W') : St w S R (setAll M ks B ++ N) W' := by
  have hkl : ks.length = A.length := by have := congrArg List.length hA; simpa using this
  have get : ∀ (i : Nat) (C : Asn), A[i]? = some C → ∃ k, ks[i]? = some k ∧ M[k]? = some C := by
    intro i C hC
    have := congrArg (·[i]?) hA
    simp only [List.getElem?_map, hC, Option.map_some] at this
    cases hk : ks[i]? with
    | none => rw [hk] at this; simp at this
    | some k => rw [hk] at this; exact ⟨k, rfl, by simpa using this⟩
  have wfA : ∀ j, Wf A j → (S j ∨ w.heap.size ≤ j) ∧ ∀ i C, i ∉ ks → M[i]? = some C → ¬ (C.wf j ∨ C.rf j) := by
    rintro j ⟨C, hC, hj⟩
    obtain ⟨i, hi⟩ := List.mem_iff_getElem?.1 hC
    obtain ⟨k, h1, hk⟩ := get i C hi
    refine ⟨(H.has C (List.mem_of_getElem? hk)).2.2.1 j hj, fun i D hi hD => ?_⟩
    exact (H.apart hk hD (fun e => hi (e ▸ List.mem_of_getElem? h1)) j).1 hj
  have rfA : ∀ j, Rf A j → (S j ∨ R j ∨ w.heap.size ≤ j) ∧ ∀ i C, i ∉ ks → M[i]? = some C → ¬ C.wf j := by
    rintro j ⟨C, hC, hj⟩
    obtain ⟨i, hi⟩ := List.mem_iff_getElem?.1 hC
    obtain ⟨k, h1, hk⟩ := get i C hi
    refine ⟨(H.has C (List.mem_of_getElem? hk)).2.2.2 j hj, fun i D hi hD hd => ?_⟩
    exact (H.apart hk hD (fun e => hi (e ▸ List.mem_of_getElem? h1)) j).2 hd (.inr hj)
  -- where each of the list stands
  have cases_ : ∀ (i : Nat) (C : Asn), (setAll M ks B ++ N)[i]? = some C → (i ∉ ks ∧ M[i]? = some C) ∨ (∃ j, (B ++ N)[j]? = some C ∧ ((j < B.length ∧ ks[j]? = some i) ∨ (B.length ≤ j ∧ i = M.length + (j - B.length)))) := by
    intro i C hC
    rcases Nat.lt_or_ge i M.length with hi | hi
    · rw [List.getElem?_append_left (by rw [setAll_length]; exact hi)] at hC
      by_cases hm : i ∈ ks
      · obtain ⟨j, hj⟩ := List.mem_iff_getElem?.1 hm
        have hjl : j < B.length := by have := (List.getElem?_eq_some_iff.1 hj).1; omega
        rw [setAll_at ks B M j i nd hj hi hjl] at hC
        exact .inr ⟨j, by rw [List.getElem?_append_left hjl]; exact hC, .inl ⟨hjl, hj⟩⟩
      · rw [setAll_other ks B M i hm] at hC
        exact .inl ⟨hm, hC⟩
    · rw [List.getElem?_append_right (by rw [setAll_length]; exact hi), setAll_length] at hC
      exact .inr ⟨B.length + (i - M.length), by rw [List.getElem?_append_right (by omega)]; rw [show B.length + (i - M.length) - B.length = i - M.length by omega]; exact hC, .inr ⟨by omega, by omega⟩⟩
  have old : ∀ (i : Nat) (C : Asn), i ∉ ks → M[i]? = some C → C.holds W' ∧ (∀ k, C.wf k ∨ C.rf k → k < W'.heap.size) := by
    intro i C hi hC
    have hc := H.has C (List.mem_of_getElem? hC)
    exact ⟨C.loc W W' hc.1 (fun k hk => H'.low.block k (hc.2.1 k hk) (fun q => (wfA k q).2 i C hi hC hk)), fun k hk => Nat.lt_of_lt_of_le (hc.2.1 k hk) H'.low.size⟩
  refine ⟨H.low.trans H'.low (fun j hj q => ?_), fun C hC => ?_, ?_⟩
  · rcases (wfA j q).1 with h | h
    · exact h
    · omega
  · obtain ⟨i, hi⟩ := List.mem_iff_getElem?.1 hC
    rcases cases_ i C hi with ⟨h1, h2⟩ | ⟨j, h1, _⟩
    · have := old i C h1 h2
      exact ⟨this.1, this.2, (H.has C (List.mem_of_getElem? h2)).2.2⟩
    · have hc := H'.has C (List.mem_of_getElem? h1)
      refine ⟨hc.1, hc.2.1, fun k hk => ?_, fun k hk => ?_⟩
      · rcases hc.2.2.1 k hk with q | q
        · exact (wfA k q).1
        · exact .inr (Nat.le_trans H.low.size q)
      · rcases hc.2.2.2 k hk with q | q | q
        · exact (wfA k q).1.imp id .inr
        · exact (rfA k q).1
        · exact .inr (.inr (Nat.le_trans H.low.size q))
  · rw [List.pairwise_iff_getElem]
    intro i j hi hj hij
    have hi' := List.getElem?_eq_getElem hi
    have hj' := List.getElem?_eq_getElem hj
    have mixed : ∀ (i : Nat) (C D : Asn) (x : Nat), i ∉ ks → M[i]? = some C → (B ++ N)[x]? = some D → ∀ k, (C.wf k → ¬ (D.wf k ∨ D.rf k)) ∧ (D.wf k → ¬ (C.wf k ∨ C.rf k)) := by
      intro i C D x hi hC hD k
      have hd := H'.has D (List.mem_of_getElem? hD)
      have hc := (H.has C (List.mem_of_getElem? hC)).2.1 k
      refine ⟨fun h1 h2 => ?_, fun h1 h2 => ?_⟩
      · have hlt := hc (.inl h1)
        rcases h2 with h2 | h2
        · rcases hd.2.2.1 k h2 with q | q
          · exact (wfA k q).2 i C hi hC (.inl h1)
          · omega
        · rcases hd.2.2.2 k h2 with q | q | q
          · exact (wfA k q).2 i C hi hC (.inl h1)
          · exact (rfA k q).2 i C hi hC h1
          · omega
      · have hlt := hc h2
        rcases hd.2.2.1 k h1 with q | q
        · exact (wfA k q).2 i C hi hC h2
        · omega
    rcases cases_ i _ hi' with ⟨a1, a2⟩ | ⟨x, a1, a2⟩ <;> rcases cases_ j _ hj' with ⟨b1, b2⟩ | ⟨y, b1, b2⟩
    · exact H.apart a2 b2 (by omega)
    · exact mixed i _ _ y a1 a2 b1
    · exact fun k => ⟨(mixed j _ _ x b1 b2 a1 k).2, (mixed j _ _ x b1 b2 a1 k).1⟩
    · refine H'.apart a1 b1 (fun e => ?_)
      subst e
      rcases a2 with ⟨p, q⟩ | ⟨p, q⟩ <;> rcases b2 with ⟨p', q'⟩ | ⟨p', q'⟩
      · rw [q] at q'; cases q'; omega
      · omega
      · omega
      · omega
theorem St.write (H : St w S R M W) (k : Nat) {g : Nat} {cs : List Value} {t : TypeId} (hk : M[k]? = some (Asn.blk g cs t)) (cs' : List Value) (ho : Only (fun j => j = g) W W') (hb : W'.heap[g]? = some (.cells cs'.toArray t (0, 0))) : St w S R (M.set k (Asn.blk g cs' t)) W' :=
  H.upd k hk ho _ hb (fun j hj => by
    rcases hj with hj | hj
    · have : j = g := hj
      subst this
      exact blk_lt hb
    · cases hj) (fun j hj => .inl hj) (fun j hj => by cases hj)
theorem St.set (H : St w S R M W) (k : Nat) {g : Nat} {cs : List Value} {t : TypeId} (hk : M[k]? = some (Asn.blk g cs t)) (i : Nat) (v : Value) : St w S R (M.set k (Asn.blk g (cs.set i v) t)) (W.setCell ⟨g, i, none⟩ v) :=
  H.write k hk _ ((Only.refl (fun j => j = g) W).set (p := ⟨g, i, none⟩) (.inl rfl) v) (by
    have := blk_set (H.blk k hk) i v
    simpa using this)
theorem St.cell (H : St w S R M W) (k : Nat) {g : Nat} {cs : List Value} {t : TypeId} (hk : M[k]? = some (Asn.blk g cs t)) {i : Nat} {v : Value} (h : cs[i]? = some v) : W.cell? ⟨g, i, none⟩ = some v := by
  rw [blk_cell (H.blk k hk)]
  simpa using h
end
end Go.Proofs.YtndicjikjcifaaaDoor
/- Regions by one order of their operations, checked once: plain lemmas, no program in sight. -/
namespace Go.Proofs.YtndicjikjcifaaaDoor
open Go.RowKit Go.Proofs.YtndicjikjcifaaaDoorW.PrintWords Go.Proofs.YtndicjikjcifaaaDoorW.PrintLast
set_option linter.unusedVariables false
set_option linter.unusedSimpArgs false
set_option linter.unusedSectionVars false
def sk (o : Oper) : Option Tmp × Op × TypeId × Option (Nat × Bool) := (o.dst, o.op, o.type, o.guard)
def ex (a : Act) (op : Op) (ty : TypeId) : Sem Next := execOp a.eval ⟨none, op, ty, "", #[], none⟩
theorem ex_eq (a : Act) (o : Oper) : execOp a.eval o = ex a o.op o.type := by
  cases o
  rfl
def wpSeq (P : Program) (ops : Array Oper) (Q : Exit → Act → World → Prop) (V : World → Prop) (ds : List Nat) : List (Nat × Nat) → Act → World → Prop
  | [], a, w => Q .normal a w
  | (i, k) :: π, a, w => match ops[i]? with
    | none => False
    | some o => match k with
      | 0 => ∃ v, Yields P ops o v a ∧ wpSeq P ops Q V ds π (a.put o.dst v) w
      | 1 => ∃ v, YieldsIf P ops V o v a ∧ V w ∧ wpSeq P ops Q V ds π (a.put o.dst v) w
      | _ + 2 => if Region.wanted o (yielded ops a.tmps) = true then Oper.wp P o a w (fun a' w' => (i ∉ ds → V w') ∧ wpSeq P ops Q V ds π a' w') Q else V w ∧ wpSeq P ops Q V ds π (a.put o.dst undef) w
def seqW (T : Bool × List (List Nat × List Nat)) (B : List Nat) (ds : List Nat) : List (Nat × Nat) → List Bool → Bool
  | [], l => readyT T.2 l == []
  | (i, 0) :: π, l => anyT T l (l.set i true) i && seqW T B ds π (l.set i true)
  | (i, 1) :: π, l => takeW T B ds l (l.set i true) i && seqW T B ds π (l.set i true)
  | (i, _ + 2) :: π, l => (readyT T.2 l == [i]) && seqW T B ds π (l.set i true)
def seqOk (ops : Array Oper) (B : List Nat) (ds : List Nat) (π : List (Nat × Nat)) : Bool :=
  waitsOk (rtab .any ops).2 B && seqW (rtab .any ops) B ds π (List.replicate ops.size false) && (π.length == ops.size)
section
variable {P : Program} {ops : Array Oper} {Q : Exit → Act → World → Prop} {V : World → Prop} {ds B : List Nat}
theorem last_of_seq (hQ : ∀ c a d v w, Q (.panic c) (Act.put a d v) w → Q (.panic c) a w) (hB : waitsOk (rtab .any ops).2 B = true) : ∀ (π : List (Nat × Nat)) (l : List Bool) (a : Act) (w : World),
    seqW (rtab .any ops) B ds π l = true → wpSeq P ops Q V ds π a w → wpAnyLast P .any ops Q V ds π.length l.toArray a w
  | [], l, a, w, hs, h => done_ (done_of (l := l.toArray) rfl (by simpa [seqW] using hs)) h
  | (i, k) :: π, l, a, w, hs, h => by
    unfold wpSeq at h
    cases ho : ops[i]? with
    | none => rw [ho] at h; exact h.elim
    | some o =>
      rw [ho] at h
      have he : l.toArray.setIfInBounds i true = (l.set i true).toArray := by simp
      match k, hs, h with
      | 0, hs, h =>
        simp only [seqW, Bool.and_eq_true] at hs
        obtain ⟨v, hy, h⟩ := h
        exact pure_ (l' := (l.set i true).toArray) ho rfl (any_of (l := l.toArray) (l' := (l.set i true).toArray) rfl hs.1) (fun c a w => hQ c a _ _ w) hy rfl (last_of_seq hQ hB π _ _ _ hs.2 h)
      | 1, hs, h =>
        simp only [seqW, Bool.and_eq_true] at hs
        obtain ⟨v, hy, hV, h⟩ := h
        exact take_ (l' := (l.set i true).toArray) ho rfl (take_ofW (l := l.toArray) (l' := (l.set i true).toArray) rfl hB hs.1) (fun c a w => hQ c a _ _ w) hy hV rfl (last_of_seq hQ hB π _ _ _ hs.2 h)
      | k + 2, hs, h =>
        dsimp only at h
        simp only [seqW, Bool.and_eq_true] at hs
        have hr : readyB .any ops l.toArray (l.set i true).toArray i = true := one_of (l := l.toArray) (l' := (l.set i true).toArray) rfl (by simpa using hs.1)
        by_cases hd : i ∈ ds
        · refine last_ (l' := (l.set i true).toArray) ho rfl hr hd (fun K hK => ?_)
          have hK := hK.out
          split at h
          · rename_i hw
            rw [if_pos hw]
            unfold Oper.wp at h ⊢
            revert h
            generalize (execOp a.eval o).run P w = r
            intro h
            cases r with
            | ok nx w' =>
              cases nx <;> simp only [Oper.upon] at h ⊢
              case value v => exact hK _ _ (last_of_seq hQ hB π _ _ _ hs.2 h.2)
              case skip => exact hK _ _ (last_of_seq hQ hB π _ _ _ hs.2 h.2)
              case defer d => exact hK _ _ (last_of_seq hQ hB π _ _ _ hs.2 h.2)
              case enter f args =>
                refine h.mono fun e w'' h => ?_
                cases e with
                | returned v => exact hK _ _ (last_of_seq hQ hB π _ _ _ hs.2 h.2)
                | panicked c => exact h
                | outgrown => exact h
              case row r args =>
                exact h.mono fun v w'' h => hK _ _ (last_of_seq hQ hB π _ _ _ hs.2 h.2)
            | halt x w' => cases x <;> first | exact h | exact h.elim
          · rename_i hw
            rw [if_neg hw]
            exact hK _ _ (last_of_seq hQ hB π _ _ _ hs.2 h.2)
        · refine one_ (l' := (l.set i true).toArray) ho rfl hr hd (fun K hK => ?_)
          have hK := hK.out
          split at h
          · rename_i hw
            rw [if_pos hw]
            unfold Oper.wp at h ⊢
            revert h
            generalize (execOp a.eval o).run P w = r
            intro h
            cases r with
            | ok nx w' =>
              cases nx <;> simp only [Oper.upon] at h ⊢
              case value v => exact hK _ _ (h.1 hd) (fun _ => last_of_seq hQ hB π _ _ _ hs.2 h.2)
              case skip => exact hK _ _ (h.1 hd) (fun _ => last_of_seq hQ hB π _ _ _ hs.2 h.2)
              case defer d => exact hK _ _ (h.1 hd) (fun _ => last_of_seq hQ hB π _ _ _ hs.2 h.2)
              case enter f args =>
                refine h.mono fun e w'' h => ?_
                cases e with
                | returned v => exact hK _ _ (h.1 hd) (fun _ => last_of_seq hQ hB π _ _ _ hs.2 h.2)
                | panicked c => exact h
                | outgrown => exact h
              case row r args =>
                exact h.mono fun v w'' h => hK _ _ (h.1 hd) (fun _ => last_of_seq hQ hB π _ _ _ hs.2 h.2)
            | halt x w' => cases x <;> first | exact h | exact h.elim
          · rename_i hw
            rw [if_neg hw]
            exact hK _ _ h.1 (fun _ => last_of_seq hQ hB π _ _ _ hs.2 h.2)
theorem wp_drawn {id : Nat} {a : Act} {w : World} (hm : P.follows .mixedOrders = true) (B ds : List Nat) (π : List (Nat × Nat)) (hc : seqOk ops B ds π = true) (hQ : ∀ c a d v w, Q (.panic c) (Act.put a d v) w → Q (.panic c) a w) (hV : V w.drew)
    (h : wpSeq P ops Q V ds π a w.drew) : (Code.region id ops true).wp P Q a w := by
  simp only [seqOk, Bool.and_eq_true, beq_iff_eq] at hc
  obtain ⟨⟨h1, h2⟩, h3⟩ := hc
  refine start_ (n := ops.size) (S := V) (ds := ds) (List.replicate ops.size false).toArray hm rfl (by simp) hV (fun _ => ?_)
  rw [← h3]
  exact last_of_seq hQ h1 π _ a _ (by rw [h3]; exact h2) h
def textOrder (n : Nat) : List (Nat × Nat) := (List.range n).map fun i => (i, 2)
theorem ops_of_seq (π : List Nat) : ∀ (a : Act) (w : World), wpSeq P ops Q (fun _ => True) [] (π.map fun i => (i, 2)) a w → wpOps P ops Q π a w := by
  induction π with
  | nil => intro a w h; exact h
  | cons i π ih =>
    intro a w h
    simp only [List.map_cons, wpSeq] at h
    simp only [wpOps]
    cases ho : ops[i]? with
    | none => rw [ho] at h; exact h.elim
    | some o =>
      rw [ho] at h
      simp only at h ⊢
      split at h
      · rename_i hw
        rw [if_pos hw]
        left
        unfold Oper.wp at h ⊢
        revert h
        generalize (execOp a.eval o).run P w = r
        intro h
        cases r with
        | ok nx w' =>
          cases nx <;> simp only [Oper.upon] at h ⊢
          case value v => exact ih _ _ h.2
          case skip => exact ih _ _ h.2
          case defer d => exact ih _ _ h.2
          case enter f args =>
            refine h.mono fun e w'' h => ?_
            cases e with
            | returned v => exact ih _ _ h.2
            | panicked c => exact h
            | outgrown => exact h
          case row r args =>
            exact h.mono fun v w'' h => ih _ _ h.2
        | halt x w' => cases x <;> first | exact h | exact h.elim
      · rename_i hw
        rw [if_neg hw]
        exact ih _ _ h.2
theorem wp_text {id : Nat} {a : Act} {w : World} (n : Nat) (hn : ops.size = n) (h : wpSeq P ops Q (fun _ => True) [] (textOrder n) a w) : (Code.region id ops false).wp P Q a w :=
  wp_region (by rw [hn]; exact ops_of_seq _ a w h)
end
end Go.Proofs.YtndicjikjcifaaaDoor
/- The steps of the small logic: one lemma a kind of operation. Plain lemmas, no program in sight. -/
namespace Go.Proofs.YtndicjikjcifaaaDoor
open Go.RowKit Go.Proofs.YtndicjikjcifaaaDoorW.PrintWords Go.Proofs.YtndicjikjcifaaaDoorW.PrintLast
set_option linter.unusedVariables false
set_option linter.unusedSimpArgs false
set_option linter.unusedSectionVars false
section
variable {P : Program} {ops : Array Oper} {Q : Exit → Act → World → Prop} {V : World → Prop} {ds : List Nat} {π : List (Nat × Nat)} {a : Act} {W W' : World} {n i d : Nat} {L : List (Nat × Value)} {op : Op} {ty : TypeId} {v : Value}
theorem sk_some {o : Option Oper} {x : Option Tmp × Op × TypeId × Option (Nat × Bool)} (h : o.map sk = some x) : ∃ q, o = some q ∧ q.dst = x.1 ∧ q.op = x.2.1 ∧ q.type = x.2.2.1 ∧ q.guard = x.2.2.2 := by
  obtain ⟨q, rfl, rfl⟩ := Option.map_eq_some_iff.1 h
  exact ⟨q, rfl, rfl, rfl, rfl, rfl⟩
def On (ops : Array Oper) (L : List (Nat × Value)) : Option (Nat × Bool) → Prop
  | none => True
  | some (j, b) => ∃ e, ((ops[j]?).bind (·.dst)) = some e ∧ L.lookup e = some (.bool b)
theorem On.wanted {o : Oper} (F : Fr n L a) (h : On ops L o.guard) : Region.wanted o (yielded ops a.tmps) = true := by
  unfold Region.wanted
  cases hg : o.guard with
  | none => rfl
  | some p =>
    obtain ⟨j, b⟩ := p
    rw [hg] at h
    obtain ⟨e, h1, h2⟩ := h
    have := F.ev e _ h2
    simp [yielded, h1, this]
theorem On.off {o : Oper} {j e : Nat} {b : Bool} (F : Fr n L a) (hg : o.guard = some (j, b)) (h1 : ((ops[j]?).bind (·.dst)) = some e) (h2 : L.lookup e = some (.bool (!b)) ∨ L.lookup e = some undef) : Region.wanted o (yielded ops a.tmps) = false := by
  unfold Region.wanted
  rw [hg]
  rcases h2 with h2 | h2
  · have := F.ev e _ h2
    cases b <;> simp [yielded, h1, this]
  · have := F.ev e _ h2
    simp [yielded, h1, this, undef]
abbrev OSk := Option (Option Tmp × Op × TypeId × Option (Nat × Bool))
theorem sq0 {g : Option (Nat × Bool)} (hi : (ops[i]?).map sk = some (some d, op, ty, g)) (hg : On ops L g) (F : Fr n L a) (hd : d < n) (hr : ∀ W', (ex a op ty).run P W' = .ok (.value v) W') (h : ∀ a', Fr n ((d, v) :: L) a' → wpSeq P ops Q V ds π a' W) : wpSeq P ops Q V ds ((i, 0) :: π) a W := by
  obtain ⟨q, h1, h2, h3, h4, h5⟩ := sk_some hi
  dsimp only at h2 h3 h4 h5
  unfold wpSeq
  rw [h1]
  dsimp only
  refine ⟨v, .inl ⟨On.wanted F (h5 ▸ hg), fun W' => ?_⟩, ?_⟩
  · rw [ex_eq, h3, h4]; exact hr W'
  · rw [h2]; exact h _ (F.put d hd v)
theorem sq1 {g : Option (Nat × Bool)} (hi : (ops[i]?).map sk = some (some d, op, ty, g)) (hg : On ops L g) (F : Fr n L a) (hd : d < n) (hV : V W) (hr : ∀ W', V W' → (ex a op ty).run P W' = .ok (.value v) W') (h : ∀ a', Fr n ((d, v) :: L) a' → wpSeq P ops Q V ds π a' W) : wpSeq P ops Q V ds ((i, 1) :: π) a W := by
  obtain ⟨q, h1, h2, h3, h4, h5⟩ := sk_some hi
  dsimp only at h2 h3 h4 h5
  unfold wpSeq
  rw [h1]
  dsimp only
  refine ⟨v, .inl ⟨On.wanted F (h5 ▸ hg), fun W' hW => ?_⟩, hV, ?_⟩
  · rw [ex_eq, h3, h4]; exact hr W' hW
  · rw [h2]; exact h _ (F.put d hd v)
theorem sqoff {j e : Nat} {b : Bool} (hi : (ops[i]?).map sk = some (some d, op, ty, some (j, b))) (he : ((ops[j]?).bind (·.dst)) = some e) (hv : L.lookup e = some (.bool (!b)) ∨ L.lookup e = some undef) (F : Fr n L a) (hd : d < n) (h : ∀ a', Fr n ((d, undef) :: L) a' → wpSeq P ops Q V ds π a' W) : wpSeq P ops Q V ds ((i, 0) :: π) a W := by
  obtain ⟨q, h1, h2, h3, h4, h5⟩ := sk_some hi
  dsimp only at h2 h3 h4 h5
  unfold wpSeq
  rw [h1]
  dsimp only
  refine ⟨undef, .inr ⟨On.off F h5 he hv, rfl⟩, ?_⟩
  rw [h2]; exact h _ (F.put d hd undef)
theorem sqoff2 {j e : Nat} {b : Bool} (hi : (ops[i]?).map sk = some (some d, op, ty, some (j, b))) (he : ((ops[j]?).bind (·.dst)) = some e) (hv : L.lookup e = some (.bool (!b)) ∨ L.lookup e = some undef) (F : Fr n L a) (hd : d < n) (hV : V W) (h : ∀ a', Fr n ((d, undef) :: L) a' → wpSeq P ops Q V ds π a' W) : wpSeq P ops Q V ds ((i, 2) :: π) a W := by
  obtain ⟨q, h1, h2, h3, h4, h5⟩ := sk_some hi
  dsimp only at h2 h3 h4 h5
  unfold wpSeq
  rw [h1]
  dsimp only
  rw [if_neg (by rw [On.off F h5 he hv]; simp)]
  refine ⟨hV, ?_⟩
  rw [h2]; exact h _ (F.put d hd undef)
theorem sqw {g : Option (Nat × Bool)} {D : Option Tmp} (hi : (ops[i]?).map sk = some (D, op, ty, g)) (hg : On ops L g) (F : Fr n L a)
    (h : ∀ o K, sk o = (D, op, ty, g) → (∀ a' W', (i ∉ ds → V W') → wpSeq P ops Q V ds π a' W' → K a' W') → Oper.wp P o a W K Q) : wpSeq P ops Q V ds ((i, 2) :: π) a W := by
  obtain ⟨q, h1, h2, h3, h4, h5⟩ := sk_some hi
  dsimp only at h2 h3 h4 h5
  unfold wpSeq
  rw [h1]
  dsimp only
  rw [if_pos (On.wanted F (h5 ▸ hg))]
  exact h q _ (by simp [sk, h2, h3, h4, h5]) (fun a' W' h6 h7 => ⟨h6, h7⟩)
theorem sk_eq {o : Oper} {D : Option Tmp} {g : Option (Nat × Bool)} (h : sk o = (D, op, ty, g)) : o.dst = D ∧ o.op = op ∧ o.type = ty := by
  simp only [sk, Prod.mk.injEq] at h
  exact ⟨h.1, h.2.1, h.2.2.1⟩
theorem sq2 {g : Option (Nat × Bool)} (hi : (ops[i]?).map sk = some (some d, op, ty, g)) (hg : On ops L g) (F : Fr n L a) (hd : d < n) (hr : (ex a op ty).run P W = .ok (.value v) W') (hV : i ∉ ds → V W') (h : ∀ a', Fr n ((d, v) :: L) a' → wpSeq P ops Q V ds π a' W') : wpSeq P ops Q V ds ((i, 2) :: π) a W := by
  refine sqw hi hg F fun o K ho hK => ?_
  obtain ⟨h1, h2, h3⟩ := sk_eq ho
  unfold Oper.wp
  rw [ex_eq, h2, h3, hr]
  simp only [Oper.upon, h1]
  exact hK _ _ hV (h _ (F.put d hd v))
theorem sq2n {g : Option (Nat × Bool)} (hi : (ops[i]?).map sk = some (none, op, ty, g)) (hg : On ops L g) (F : Fr n L a) (hr : (ex a op ty).run P W = .ok .skip W') (hV : i ∉ ds → V W') (h : wpSeq P ops Q V ds π a W') : wpSeq P ops Q V ds ((i, 2) :: π) a W := by
  refine sqw hi hg F fun o K ho hK => ?_
  obtain ⟨h1, h2, h3⟩ := sk_eq ho
  unfold Oper.wp
  rw [ex_eq, h2, h3, hr]
  simp only [Oper.upon, h1]
  exact hK _ _ hV h
theorem sqc {g : Option (Nat × Bool)} {f : FuncId} {args : Array Value} {R : Ending → World → Prop} (hi : (ops[i]?).map sk = some (some d, op, ty, g)) (hg : On ops L g) (F : Fr n L a) (hd : d < n) (hr : (ex a op ty).run P W = .ok (.enter f args) W)
    (hc : Calls P f args W R) (h : ∀ e W', R e W' → ∃ v, e = .returned v ∧ ∀ a', Fr n ((d, v) :: L) a' → (i ∉ ds → V W') ∧ wpSeq P ops Q V ds π a' W') : wpSeq P ops Q V ds ((i, 2) :: π) a W := by
  refine sqw hi hg F fun o K ho hK => ?_
  obtain ⟨h1, h2, h3⟩ := sk_eq ho
  unfold Oper.wp
  rw [ex_eq, h2, h3, hr]
  simp only [Oper.upon, h1]
  refine hc.mono fun e W' hx => ?_
  obtain ⟨v, rfl, h⟩ := h e W' hx
  have := h _ (F.put d hd v)
  exact hK _ _ this.1 this.2
theorem sqoff1 {j e : Nat} {b : Bool} (hi : (ops[i]?).map sk = some (some d, op, ty, some (j, b))) (he : ((ops[j]?).bind (·.dst)) = some e) (hv : L.lookup e = some (.bool (!b)) ∨ L.lookup e = some undef) (F : Fr n L a) (hd : d < n) (hV : V W) (h : ∀ a', Fr n ((d, undef) :: L) a' → wpSeq P ops Q V ds π a' W) : wpSeq P ops Q V ds ((i, 1) :: π) a W := by
  obtain ⟨q, h1, h2, h3, h4, h5⟩ := sk_some hi
  dsimp only at h2 h3 h4 h5
  unfold wpSeq
  rw [h1]
  dsimp only
  refine ⟨undef, .inr ⟨On.off F h5 he hv, rfl⟩, hV, ?_⟩
  rw [h2]; exact h _ (F.put d hd undef)
/-! Short forms. -/
theorem o_s {o : OSk} (d : Nat) (op : Op) (ty : TypeId) (h : o = some (some d, op, ty, none)) : o = some (some d, op, ty, none) := h
theorem o_g {o : OSk} (d : Nat) (op : Op) (ty : TypeId) (j : Nat) (b : Bool) (h : o = some (some d, op, ty, some (j, b))) : o = some (some d, op, ty, some (j, b)) := h
theorem o_n {o : OSk} (op : Op) (ty : TypeId) (h : o = some (none, op, ty, none)) : o = some (none, op, ty, none) := h
theorem q0 (hi : (ops[i]?).map sk = some (some d, op, ty, none)) (F : Fr n L a) (hd : d < n) (hr : ∀ W', (ex a op ty).run P W' = .ok (.value v) W') (h : ∀ a', Fr n ((d, v) :: L) a' → wpSeq P ops Q V ds π a' W) : wpSeq P ops Q V ds ((i, 0) :: π) a W := sq0 hi trivial F hd hr h
theorem q1 (hi : (ops[i]?).map sk = some (some d, op, ty, none)) (F : Fr n L a) (hd : d < n) (hV : V W) (hr : ∀ W', V W' → (ex a op ty).run P W' = .ok (.value v) W') (h : ∀ a', Fr n ((d, v) :: L) a' → wpSeq P ops Q V ds π a' W) : wpSeq P ops Q V ds ((i, 1) :: π) a W := sq1 hi trivial F hd hV hr h
theorem q2 (hi : (ops[i]?).map sk = some (some d, op, ty, none)) (F : Fr n L a) (hd : d < n) (hr : (ex a op ty).run P W = .ok (.value v) W) (h : ∀ a', Fr n ((d, v) :: L) a' → wpSeq P ops Q (fun _ => True) ds π a' W) : wpSeq P ops Q (fun _ => True) ds ((i, 2) :: π) a W := sq2 hi trivial F hd hr (fun _ => trivial) h
theorem sq_new {g : Option (Nat × Bool)} {w : World} {S R : Nat → Prop} {M : List Asn} (hi : (ops[i]?).map sk = some (some d, op, ty, g)) (hg : On ops L g) (F : Fr n L a) (hd : d < n) (H : St w S R M W) (cs : List Value) (T : TypeId)
    (hr : (ex a op ty).run P W = .ok (.value (.pointer (some ⟨W.heap.size, 0, none⟩))) (W.alloc (.cells cs.toArray T)))
    (h : ∀ b W' a', w.heap.size ≤ b → St w S R (M ++ [Asn.blk b cs T]) W' → Fr n ((d, .pointer (some ⟨b, 0, none⟩)) :: L) a' → (i ∉ ds → V W') ∧ wpSeq P ops Q V ds π a' W') : wpSeq P ops Q V ds ((i, 2) :: π) a W := by
  have hh := fun a' => h W.heap.size (W.alloc (.cells cs.toArray T)) a' H.low.size (H.alloc cs T)
  refine sqw hi hg F fun o K ho hK => ?_
  obtain ⟨h1, h2, h3⟩ := sk_eq ho
  unfold Oper.wp
  rw [ex_eq, h2, h3, hr]
  simp only [Oper.upon, h1]
  have := hh _ (F.put d hd _)
  exact hK _ _ this.1 this.2
theorem sq_put {g : Option (Nat × Bool)} {w : World} {S R : Nat → Prop} {M : List Asn} (hi : (ops[i]?).map sk = some (none, op, ty, g)) (hg : On ops L g) (F : Fr n L a)
    (hr : ∃ W', (ex a op ty).run P W = .ok .skip W' ∧ St w S R M W') (h : ∀ W', St w S R M W' → (i ∉ ds → V W') ∧ wpSeq P ops Q V ds π a W') : wpSeq P ops Q V ds ((i, 2) :: π) a W := by
  obtain ⟨W', hr, H⟩ := hr
  have hh := h W' H
  exact sq2n hi hg F hr hh.1 hh.2
def Vs : List Asn → World → Prop
  | [], _ => True
  | A :: r, W => A.holds W ∧ Vs r W
theorem Vs.drew : ∀ {l : List Asn}, Vs l W → Vs l W.drew
  | [], _ => trivial
  | A :: r, h => ⟨A.loc W W.drew h.1 (fun _ _ => rfl), Vs.drew h.2⟩
theorem bcell {g : Nat} {cs : List Value} {T : TypeId} {i : Nat} {v : Value} (hb : (Asn.blk g cs T).holds W) (h : cs[i]? = some v) : W.cell? ⟨g, i, none⟩ = some v := by
  have hb' : W.heap[g]? = some (.cells cs.toArray T (0, 0)) := hb
  rw [blk_cell hb']
  simpa using h
theorem Fr.at (H : Fr n L a) (i : Nat) {v : Value} (h : L.lookup i = some v) {v' : Value} (e : v = v') : Fr n ((i, v') :: L) a := by
  refine ⟨H.sz, H.df, fun j u hj => ?_⟩
  by_cases q : j = i
  · subst q
    have : v' = u := by simpa [List.lookup] using hj
    exact this ▸ e ▸ H.ev j v h
  · have hb : (j == i) = false := beq_false_of_ne q
    exact H.ev j u (by simpa [List.lookup, hb] using hj)
theorem sub0 : Sub [] L := trivial
theorem subc {r : List (Nat × Value)} {i : Nat} {v : Value} (h : L.lookup i = some v) (t : Sub r L) : Sub ((i, v) :: r) L := ⟨h, t⟩
theorem bool_or (b : Bool) : b = true ∨ b = false := by cases b <;> simp
theorem args_1 {x : Operand} {v : Value} (h : a.eval x = v) : (#[x] : Array Operand).map a.eval = #[v] := by simp [h]
theorem args_2 {x y : Operand} {v u : Value} (h : a.eval x = v) (h' : a.eval y = u) : (#[x, y] : Array Operand).map a.eval = #[v, u] := by simp [h, h']
theorem args_3 {x y z : Operand} {v u r : Value} (h : a.eval x = v) (h' : a.eval y = u) (h'' : a.eval z = r) : (#[x, y, z] : Array Operand).map a.eval = #[v, u, r] := by simp [h, h', h'']
theorem args_4 {x y z q : Operand} {v u r s : Value} (h : a.eval x = v) (h' : a.eval y = u) (h'' : a.eval z = r) (h3 : a.eval q = s) : (#[x, y, z, q] : Array Operand).map a.eval = #[v, u, r, s] := by simp [h, h', h'', h3]
end
/-! ### What an operation comes to -/
section
variable {P : Program} {a : Act} {W W' : World} {ty t : TypeId} {x y : Operand} {v u z : Value}
theorem x_move (h : a.eval x = v) : (ex a (.move x) ty).run P W = .ok (.value v) W := by subst h; rfl
theorem x_assign (h : a.eval x = v) : (ex a (.assign x) ty).run P W = .ok (.value v) W := by subst h; rfl
theorem x_pickT {c : Operand} (hc : a.eval c = .bool true) (hx : a.eval x = v) : (ex a (.pick c x y) ty).run P W = .ok (.value v) W := by
  simp [ex, execOp, asBool, hc, hx]
theorem x_pickF {c : Operand} (hc : a.eval c = .bool false) (hy : a.eval y = v) : (ex a (.pick c x y) ty).run P W = .ok (.value v) W := by
  simp [ex, execOp, asBool, hc, hy]
theorem x_alloc {cs : List Value} (hz : ∀ w, (zeroValue t).run P w = .ok z w) (hc : z.cells = cs.toArray) : (ex a (.alloc t) ty).run P W = .ok (.value (.pointer (some ⟨W.heap.size, 0, none⟩))) (W.alloc (.cells cs.toArray t)) := by
  rw [← hc]
  simp [ex, execOp, Instr.alloc, hz, newVar, newRow, newObj]
  rfl
theorem x_box {cs : List Value} (h : a.eval x = v) (hc : v.cells = cs.toArray) : (ex a (.box t x) ty).run P W = .ok (.value (.pointer (some ⟨W.heap.size, 0, none⟩))) (W.alloc (.cells cs.toArray t)) := by
  rw [← hc]
  simp [ex, execOp, Instr.box, h, newVar, newRow, newObj]
  rfl
theorem x_load1 {p : Addr} (hA : (isAgg t).run P W = .ok false W) (hp : a.eval x = .pointer (some p)) (hc : W.cell? p = some v) : (ex a (.load t x) ty).run P W = .ok (.value v) W := by
  simp [ex, execOp, Instr.loadAt, Instr.sureAddr, loadVar, hp, hA, load, Sem.run, hc]
theorem x_loadN {p : Addr} (hA : (isAgg t).run P W = .ok true W) (cs : List Value) (hs : (sizeOf t).run P W = .ok cs.length W) (hp : a.eval x = .pointer (some p)) (hc : ∀ j u, cs[j]? = some u → W.cell? (p.add j) = some u) : (ex a (.load t x) ty).run P W = .ok (.value (.agg cs.toArray)) W := by
  have := run_loadCells_list (P := P) W p cs hc
  simp [ex, execOp, Instr.loadAt, Instr.sureAddr, loadVar, hp, hA, hs, this]
theorem x_loadB {g : Nat} {T : TypeId} (hA : (isAgg t).run P W = .ok true W) (cs : List Value) (hs : (sizeOf t).run P W = .ok cs.length W) (hp : a.eval x = .pointer (some ⟨g, 0, none⟩)) (hb : W.heap[g]? = some (.cells cs.toArray T (0, 0))) : (ex a (.load t x) ty).run P W = .ok (.value (.agg cs.toArray)) W :=
  x_loadN hA cs hs hp (fun j u hj => by rw [add0, blk_cell hb]; simpa using hj)
theorem x_nil {p : Addr} (h : a.eval x = .pointer (some p)) : (ex a (.nilCheck x) ty).run P W = .ok (.value (.pointer (some p))) W := by
  simp [ex, execOp, h]
theorem x_int {o : BinOp} {k : IntKind} {m n : Int} {yt : TypeId} (hx : a.eval x = .int k m) (hy : a.eval y = .int k n) (hv : (do eqGuard o t x y (.int k m) (.int k n); binOp o t (.int k m) (.int k n) : Sem Value).run P W = .ok v W) : (ex a (.binOp o t x y yt) ty).run P W = .ok (.value v) W := by
  simp only [ex, execOp, hx, hy]
  rw [Sem.run_bind, hv]
  rfl
theorem x_shift {o : BinOp} {k j : IntKind} {m n : Int} {yt : TypeId} (hx : a.eval x = .int k m) (hy : a.eval y = .int j n) (hv : (do eqGuard o t x y (.int k m) (.int j n); binOp o t (.int k m) (.int j n) : Sem Value).run P W = .ok v W) : (ex a (.binOp o t x y yt) ty).run P W = .ok (.value v) W := by
  simp only [ex, execOp, hx, hy]
  rw [Sem.run_bind, hv]
  rfl
theorem x_bin {o : BinOp} {yt : TypeId} (hx : a.eval x = u) (hy : a.eval y = z) (hv : (do eqGuard o t x y u z; binOp o t u z : Sem Value).run P W = .ok v W) : (ex a (.binOp o t x y yt) ty).run P W = .ok (.value v) W := by
  simp only [ex, execOp, hx, hy]
  rw [Sem.run_bind, hv]
  rfl
theorem x_extract {vs : Array Value} {k : Nat} (h : a.eval x = .tuple vs) (hk : vs[k]? = some v) : (ex a (.extract x k) ty).run P W = .ok (.value v) W := by
  simp [ex, execOp, Instr.extract, h, hk]
theorem x_fieldAddr {s : TypeId} {fs : Array Field} {f m o : Nat} {fd : Field} {p : Addr} (hu : P.underlying s = some (.struct fs)) (hf : fs[f]? = some fd) (ho : fd.offset = o) (hz : (sizeOf fd.type).run P W = .ok (m + 1) W) (hp : a.eval x = .pointer (some p)) : (ex a (.fieldAddr s x f) ty).run P W = .ok (.value (.pointer (some (p.add o)))) W := by
  subst ho
  simp [ex, execOp, Instr.fieldAt, run_underlying hu, hf, hp, Instr.sureAddr, fieldPlace, hz]
theorem x_field0 {g : Nat} {s : TypeId} {fs : Array Field} {f m o : Nat} {fd : Field} (hu : P.underlying s = some (.struct fs)) (hf : fs[f]? = some fd) (ho : fd.offset = o) (hz : (sizeOf fd.type).run P W = .ok (m + 1) W) (hp : a.eval x = .pointer (some ⟨g, 0, none⟩)) : (ex a (.fieldAddr s x f) ty).run P W = .ok (.value (.pointer (some ⟨g, o, none⟩))) W := by
  have := x_fieldAddr (ty := ty) hu hf ho hz hp
  rwa [add0] at this
theorem x_indexSl {s e : TypeId} {k : IntKind} {i : Int} {n c m : Nat} {ad : Addr} (hu : P.underlying s = some (.slice e)) (hz : (sizeOf e).run P W = .ok m W) (hx : a.eval x = .slice (some ad) n c) (hy : a.eval y = .int k i) (h0 : 0 ≤ i) (h1 : i < n) : (ex a (.indexAddr s x y) ty).run P W = .ok (.value (.pointer (some (ad.add (i.toNat * m))))) W := by
  simp [ex, execOp, Instr.indexAt, run_underlying hu, hx, hy, asIntOf, hz, h0, h1]
theorem x_indexSl1 {s e : TypeId} {k : IntKind} {i : Int} {n c : Nat} {ad : Addr} (hu : P.underlying s = some (.slice e)) (hz : (sizeOf e).run P W = .ok 1 W) (hx : a.eval x = .slice (some ad) n c) (hy : a.eval y = .int k i) (h0 : 0 ≤ i) (h1 : i < n) : (ex a (.indexAddr s x y) ty).run P W = .ok (.value (.pointer (some (ad.add i.toNat)))) W := by
  have := x_indexSl (ty := ty) hu hz hx hy h0 h1
  rwa [Nat.mul_one] at this
theorem x_indexAr {s e : TypeId} {k : IntKind} {i : Int} {n m : Nat} {ad : Addr} (hu : P.underlying s = some (.array n e)) (hz : (sizeOf e).run P W = .ok m W) (hx : a.eval x = .pointer (some ad)) (hy : a.eval y = .int k i) (h0 : 0 ≤ i) (h1 : i < n) : (ex a (.indexAddr s x y) ty).run P W = .ok (.value (.pointer (some (ad.add (i.toNat * m))))) W := by
  simp [ex, execOp, Instr.indexAt, run_underlying hu, hx, hy, asIntOf, hz, h0, h1, Instr.sureAddr]
theorem x_ixc {s e : TypeId} {k : IntKind} {i n g : Nat} (hu : P.underlying s = some (.array n e)) (hz : (sizeOf e).run P W = .ok 1 W) (hx : a.eval x = .pointer (some ⟨g, 0, none⟩)) (hy : a.eval y = .int k (i : Int)) (h1 : i < n) : (ex a (.indexAddr s x y) ty).run P W = .ok (.value (.pointer (some ⟨g, i, none⟩))) W := by
  have := x_indexAr (P := P) (ty := ty) hu hz hx hy (Int.natCast_nonneg i) (by omega)
  rw [this, Int.toNat_natCast, Nat.mul_one, addo, Nat.zero_add]
theorem x_indexStr {s : TypeId} {k : IntKind} {i : Int} {b : ByteArray} (hu : P.underlying s = some .string) (hx : a.eval x = .string b) (hy : a.eval y = .int k i) (h0 : 0 ≤ i) {c : UInt8} (h1 : b[i.toNat]? = some c) : (ex a (.index s x y) ty).run P W = .ok (.value (.int .u8 c.toNat)) W := by
  simp [ex, execOp, Instr.index, run_underlying hu, hx, hy, asIntOf, h0, h1]
theorem wrap_i64 (x : Int) (h0 : -9223372036854775808 ≤ x) (h1 : x ≤ 9223372036854775807) : IntKind.i64.wrap x = x := by
  simp [IntKind.wrap, IntKind.bits, IntKind.signed]; omega
theorem x_conv {s d : TypeId} {k j : IntKind} {m : Int} {ds : TypeDesc} (hu : P.underlying s = some ds) (hd : P.underlying d = some (.int k)) (hx : a.eval x = .int j m) : (ex a (.convert s d x) ty).run P W = .ok (.value (.int k (k.wrap m))) W := by
  simp [ex, execOp, convert, run_underlying hu, run_underlying hd, hx, Conv.intToInt]
theorem x_lenS {s : TypeId} {b : ByteArray} (hu : P.underlying s = some .string) (hx : a.eval x = .string b) : (ex a (.call { callee := .builtin .len, args := #[x], argTypes := #[s] }) ty).run P W = .ok (.value (.int .i64 b.size)) W := by
  simp [ex, execOp, resolve, invoke, builtin, Builtin.len_, run_underlying hu, hx, goInt]
theorem x_lenL {s e : TypeId} {A : Option Addr} {n c : Nat} (hu : P.underlying s = some (.slice e)) (hx : a.eval x = .slice A n c) : (ex a (.call { callee := .builtin .len, args := #[x], argTypes := #[s] }) ty).run P W = .ok (.value (.int .i64 n)) W := by
  simp [ex, execOp, resolve, invoke, builtin, Builtin.len_, run_underlying hu, hx, goInt]
theorem x_sliceS {s : TypeId} {k : IntKind} {i : Int} {b : ByteArray} {lo : Operand} (hu : P.underlying s = some .string) (hx : a.eval x = .string b) (hy : a.eval lo = .int k i) (h0 : 0 ≤ i) (h1 : i ≤ b.size) : (ex a (.slice s x (some lo) none none) ty).run P W = .ok (.value (.string (b.extract i.toNat b.size))) W := by
  simp [ex, execOp, Instr.sliceAt, Instr.slice, Instr.sliceBounds, Instr.sliceBound, run_underlying hu, hx, hy, asIntOf, h0, h1]
theorem x_sliceSS {s : TypeId} {k j : IntKind} {i m : Int} {b : ByteArray} {lo hi : Operand} (hu : P.underlying s = some .string) (hx : a.eval x = .string b) (hy : a.eval lo = .int k i) (hz : a.eval hi = .int j m) (h0 : 0 ≤ i) (h1 : i ≤ m) (h2 : m ≤ b.size) : (ex a (.slice s x (some lo) (some hi) none) ty).run P W = .ok (.value (.string (b.extract i.toNat m.toNat))) W := by
  have h3 : 0 ≤ m := by omega
  have h4 : i ≤ (m.toNat : Int) := by omega
  have h5 : ¬ max m 0 < i := by omega
  simp [ex, execOp, Instr.sliceAt, Instr.slice, Instr.sliceBounds, Instr.sliceBound, run_underlying hu, hx, hy, hz, asIntOf, h0, h1, h2, h3, h5]
theorem x_not {b : Bool} (hx : a.eval x = .bool b) : (ex a (.unOp .not t x) ty).run P W = .ok (.value (.bool (!b))) W := by
  simp [ex, execOp, Op.unary, hx]
theorem x_call {f : FuncId} {fn : Func} {as : Array Operand} {ts : Array TypeId} {args : Array Value} (hf : P.funcs[f]? = some fn) (hname : (fn.name == "runtime.NumGoroutine") = false) (hb : fn.body.isSome = true) (ha : as.map a.eval = args) : (ex a (.call { callee := .value (.func f), args := as, argTypes := ts }) ty).run P W = .ok (.enter f args) W := by
  have := enters_ hf hname hb args W
  simp [ex, execOp, resolve, Deferred.ofValue, Act.eval, invoke, ha, this]
theorem x_store {S R : Nat → Prop} {w : World} {M : List Asn} {g o k m : Nat} {cs cs' : List Value} {T : TypeId} (H : St w S R M W) (hk : M[k]? = some (Asn.blk g cs T)) (hs : (sizeOf t).run P W = .ok m W) (hx : a.eval x = .pointer (some ⟨g, o, none⟩)) (hy : a.eval y = v)
    (hm : v.cells.size = m) (hf : o + m ≤ cs.length) (h1 : v.cells.toList.all (·.oneCell') = true) (hc : splice cs o v.cells.toList = cs') : ∃ W', (ex a (.store t x y) ty).run P W = .ok .skip W' ∧ St w S R (M.set k (Asn.blk g cs' T)) W' := by
  subst hc
  subst hm
  have hb := H.blk k hk
  have hst := run_storeCells_at P g o T v.cells.toList 0 cs.toArray W hb (by simpa using hf) (fun u hu => List.all_eq_true.1 h1 u hu)
  refine ⟨W.setRow g (splice cs o v.cells.toList).toArray, ?_, ?_⟩
  · simp [ex, execOp, Instr.storeAt, hx, hy, Instr.sureAddr, storeVar, hs]
    rw [hst]
    simp [splice]
  · refine H.write k hk _ ⟨rfl, rfl, rfl, by simp [World.setRow], fun j hj hn => ?_⟩ (setRow_heap W g _ _ T (0, 0) hb)
    simp only [World.setRow, Array.getElem?_modify]
    rw [if_neg (fun e => hn e.symm)]
end
/-! ### Code by its place in the body -/
def kid : Nat → Code → Code
  | 0, .seq x _ => x
  | _ + 1, .seq _ y => y
  | 0, .cond _ x _ => x
  | _ + 1, .cond _ _ y => y
  | _, .block _ c => c
  | _, .loop c => c
  | _, .scope c => c
  | _, c => c
def cd (c : Code) : List Nat → Code
  | [] => c
  | i :: p => kid i (cd c p)
inductive CK where
  | seq | region (id : Nat) (draw : Bool) | cond (c : Operand) | block (id : Nat) | loop | exit (id : Nat) | ret | skip | other
def ck : Code → CK
  | .seq .. => .seq
  | .region id _ d => .region id d
  | .cond c _ _ => .cond c
  | .block id _ => .block id
  | .loop _ => .loop
  | .exit id => .exit id
  | .ret => .ret
  | .skip => .skip
  | _ => .other
def rops : Code → Array Oper
  | .region _ ops _ => ops
  | _ => #[]
section
variable {P : Program} {Q : Exit → Act → World → Prop} {a : Act} {W : World} {b : Code} {p : List Nat} {n : Nat} {L : List (Nat × Value)}
theorem c_seq (h : ck (cd b p) = .seq) (hx : (cd b (0 :: p)).wp P (Exit.then (fun a W => (cd b (1 :: p)).wp P Q a W) Q) a W) : (cd b p).wp P Q a W := by
  show (cd b p).wp P Q a W
  simp only [cd] at hx
  revert h hx
  generalize cd b p = c
  intro h hx
  cases c <;> simp only [ck] at h <;> try cases h
  exact wp_seq hx
theorem c_cut (h : ck (cd b p) = .seq) (R : Act → World → Prop) (hx : (cd b (0 :: p)).wp P (Exit.then R Q) a W) (hy : ∀ a W, R a W → (cd b (1 :: p)).wp P Q a W) : (cd b p).wp P Q a W :=
  c_seq h (wp_mono hx fun e a' w' hq => by
    cases e with
    | normal => exact hy _ _ hq
    | exit id => exact hq
    | goto l => exact hq
    | ret => exact hq
    | panic ch => exact hq
    | outgrown => exact hq)
theorem c_yes {c : Operand} (h : ck (cd b p) = .cond c) (hc : a.eval c = .bool true) (hx : (cd b (0 :: p)).wp P Q a W) : (cd b p).wp P Q a W := by
  simp only [cd] at hx
  revert h hx
  generalize cd b p = c'
  intro h hx
  cases c' <;> simp only [ck] at h <;> try cases h
  exact wp_cond_true hc hx
theorem c_no {c : Operand} (h : ck (cd b p) = .cond c) (hc : a.eval c = .bool false) (hx : (cd b (1 :: p)).wp P Q a W) : (cd b p).wp P Q a W := by
  simp only [cd] at hx
  revert h hx
  generalize cd b p = c'
  intro h hx
  cases c' <;> simp only [ck] at h <;> try cases h
  exact wp_cond_false hc hx
theorem c_block {id : Nat} (h : ck (cd b p) = .block id) (hx : (cd b (0 :: p)).wp P (Exit.inBlock id Q) a W) : (cd b p).wp P Q a W := by
  simp only [cd] at hx
  revert h hx
  generalize cd b p = c'
  intro h hx
  cases c' <;> simp only [ck] at h <;> try cases h
  exact wp_block hx
theorem c_loop (h : ck (cd b p) = .loop) (I : Nat → Act → World → Prop) (k : Nat) (h0 : I k a W) (hr : ∀ k a W, I k a W → (cd b (0 :: p)).wp P (Exit.then (fun a' W' => ∃ k', k' < k ∧ I k' a' W') Q) a W) : (cd b p).wp P Q a W := by
  simp only [cd] at hr
  revert h hr
  generalize cd b p = c'
  intro h hr
  cases c' <;> simp only [ck] at h <;> try cases h
  exact wp_loop_ghost I k h0 hr
theorem c_exit {id : Nat} (h : ck (cd b p) = .exit id) (hx : Q (.exit id) a W) : (cd b p).wp P Q a W := by
  revert h
  generalize cd b p = c'
  intro h
  cases c' <;> simp only [ck] at h <;> try cases h
  exact wp_exit hx
theorem c_ret (h : ck (cd b p) = .ret) (hx : Q .ret a W) : (cd b p).wp P Q a W := by
  revert h
  generalize cd b p = c'
  intro h
  cases c' <;> simp only [ck] at h <;> try cases h
  exact wp_ret hx
theorem c_skip (h : ck (cd b p) = .skip) (hx : Q .normal a W) : (cd b p).wp P Q a W := by
  revert h
  generalize cd b p = c'
  intro h
  cases c' <;> simp only [ck] at h <;> try cases h
  exact wp_skip hx
theorem c_text {id : Nat} (h : ck (cd b p) = .region id false) (π : List (Nat × Nat)) (hm : (π == textOrder (rops (cd b p)).size) = true) (hx : wpSeq P (rops (cd b p)) Q (fun _ => True) [] π a W) : (cd b p).wp P Q a W := by
  rw [beq_iff_eq] at hm
  subst hm
  revert h hx
  generalize cd b p = c'
  intro h hx
  cases c' <;> simp only [ck] at h <;> try cases h
  exact wp_text _ rfl hx
theorem c_drawn {id : Nat} (h : ck (cd b p) = .region id true) (hm : P.follows .mixedOrders = true) (V : World → Prop) (B ds : List Nat) (π : List (Nat × Nat)) (hc : seqOk (rops (cd b p)) B ds π = true) (hQ : ∀ c a d v w, Q (.panic c) (Act.put a d v) w → Q (.panic c) a w) (hV : V W.drew)
    (hx : wpSeq P (rops (cd b p)) Q V ds π a W.drew) : (cd b p).wp P Q a W := by
  revert h hc hx
  generalize cd b p = c'
  intro h hc hx
  cases c' <;> simp only [ck] at h <;> try cases h
  exact wp_drawn hm B ds π hc hQ hV hx
theorem t_normal {R : Act → World → Prop} (h : R a W) : Exit.then R Q .normal a W := h
theorem b_normal {id : Nat} (h : Q .normal a W) : Exit.inBlock id Q .normal a W := h
theorem t_exit {R : Act → World → Prop} {id : Nat} (h : Q (.exit id) a W) : Exit.then R Q (.exit id) a W := h
theorem b_here {id : Nat} (h : Q .normal a W) : Exit.inBlock id Q (.exit id) a W := by simp [Exit.inBlock, h]
theorem t_ret {R : Act → World → Prop} (h : Q .ret a W) : Exit.then R Q .ret a W := h
theorem b_ret {id : Nat} (h : Q .ret a W) : Exit.inBlock id Q .ret a W := h
def argsL : Nat → List Value → List (Nat × Value)
  | _, [] => []
  | i, v :: r => (i, v) :: argsL (i + 1) r
theorem argsL_look : ∀ (vs : List Value) (k i : Nat) (v : Value), (argsL k vs).lookup i = some v → k ≤ i ∧ vs[i - k]? = some v
  | [], k, i, v, h => by simp [argsL] at h
  | x :: r, k, i, v, h => by
    by_cases e : i = k
    · subst e
      refine ⟨Nat.le_refl _, ?_⟩
      simpa [argsL, List.lookup] using h
    · have hb : (i == k) = false := beq_false_of_ne e
      have := argsL_look r (k + 1) i v (by simpa [argsL, List.lookup, hb] using h)
      refine ⟨by omega, ?_⟩
      rw [show i - k = (i - (k + 1)) + 1 by omega]
      simpa using this.2
theorem c_enter {f : FuncId} {fn : Func} {c : Code} {args : List Value} {w : World} {R : Ending → World → Prop} (hf : P.funcs[f]? = some fn) (hb : fn.body = some c) (n : Nat) (hn : fn.ntmps = n) (hl : args.length ≤ n)
    (h : ∀ a, Fr n (argsL 0 args) a → (cd c []).wp P (bodyPost P fn R) a w) : Calls P f args.toArray w R := by
  refine calls_of_wp hf hb (h _ ⟨by simp [hn]; omega, rfl, fun i v hv => ?_⟩)
  obtain ⟨_, h2⟩ := argsL_look args 0 i v hv
  have hi := (List.getElem?_eq_some_iff.1 h2).1
  simp only [Nat.sub_zero] at h2 hi
  rw [Array.getElem?_append_left (by simpa using hi)]
  simpa using h2
def bodyOf (f : Func) : Code := f.body.getD .skip
theorem c_enter2 {f : FuncId} {fn : Func} {args : List Value} {w : World} {S R : Nat → Prop} {M : List Asn} {Z : Ending → World → Prop} (hf : P.funcs[f]? = some fn) (hb : fn.body.isSome = true) (n : Nat) (hn : fn.ntmps = n) (hl : args.length ≤ n) (H : St w S R M w)
    (h : ∀ a W, Fr n (argsL 0 args) a → St w S R M W → (cd (bodyOf fn) []).wp P (bodyPost P fn Z) a W) : Calls P f args.toArray w Z :=
  c_enter hf (by unfold bodyOf; cases hq : fn.body with | none => rw [hq] at hb; cases hb | some c => rfl) n hn hl (fun a F => h a w F H)
theorem p_tmp {fn : Func} {R : Ending → World → Prop} {t : Tmp} {v : Value} (hr : fn.results = #[.tmp t]) (F : Fr n L a) (h : L.lookup t = some v) (hR : R (.returned v) W) : bodyPost P fn R .ret a W := by
  refine ⟨F.df, v, ?_, hR⟩
  rw [results_tmp hr]
  have := F.ev t v h
  simp [this]
theorem p_end {fn : Func} {R : Ending → World → Prop} (hr : fn.results = #[]) (F : Fr n L a) (hR : R (.returned (.tuple #[])) W) : bodyPost P fn R .normal a W := by
  refine ⟨F.df, _, results_none hr _ _ _, hR⟩
theorem p_list {fn : Func} {R : Ending → World → Prop} {rs : List ResultVar} {vs : List Value} (hr : fn.results = rs.toArray) (hl : vs.length ≠ 1) (F : Fr n L a) (hv : Vals P a.tmps W rs vs) (hR : R (.returned (.tuple vs.toArray)) W) : bodyPost P fn R .ret a W :=
  ⟨F.df, _, results_list hr hl hv, hR⟩
theorem Vals.tmp' {rs : List ResultVar} {vs : List Value} {t : Tmp} {v : Value} (F : Fr n L a) (h : L.lookup t = some v) (hv : Vals P a.tmps W rs vs) : Vals P a.tmps W (.tmp t :: rs) (v :: vs) := by
  have e : a.tmps.getD t undef = v := by have := F.ev t v h; simp [this]
  rw [← e]
  exact .tmp hv
theorem Vals.cell' {rs : List ResultVar} {vs : List Value} {q : Tmp} {ty : TypeId} {g : Nat} {cs : List Value} {T : TypeId} {d : TypeDesc} (F : Fr n L a) (h : L.lookup q = some (.pointer (some ⟨g, 0, none⟩))) (hg : W.heap[g]? = some (.cells cs.toArray T (0, 0)))
    (hu : P.underlying ty = some d) (hd : (match d with | .struct _ | .array _ _ => true | _ => false) = true) (hi : (P.info? ty).map (·.size) = some cs.length) (hv : Vals P a.tmps W rs vs) : Vals P a.tmps W (.cell q ty :: rs) (.agg cs.toArray :: vs) := by
  have e : a.tmps.getD q undef = .pointer (some ⟨g, 0, none⟩) := by have := F.ev q _ h; simp [this]
  exact .cell g T cs.toArray (0, 0) d e hg hu hd (by simpa using hi) hv
theorem p_cell {fn : Func} {R : Ending → World → Prop} {q : Tmp} {ty : TypeId} {g : Nat} {cs : List Value} {T : TypeId} (hr : fn.results = #[.cell q ty]) (F : Fr n L a) (h : L.lookup q = some (.pointer (some ⟨g, 0, none⟩))) (hg : W.heap[g]? = some (.cells cs.toArray T (0, 0)))
    (hA : (isAgg ty).run P W = .ok true W) (hs : (sizeOf ty).run P W = .ok cs.length W) (hR : R (.returned (.agg cs.toArray)) W) : bodyPost P fn R .ret a W := by
  refine ⟨F.df, _, ?_, hR⟩
  have e := F.ev q _ h
  have hl := run_loadCells_list (P := P) W ⟨g, 0, none⟩ cs (fun j u hj => by rw [add0, blk_cell hg]; simpa using hj)
  simp [results, hr, e, asAddr, loadVar, hA, hs, hl]
end
end Go.Proofs.YtndicjikjcifaaaDoor
/- Rows in the small logic: what is read, queues of the call's own, append. Plain lemmas, no program in sight. -/
namespace Go.Proofs.YtndicjikjcifaaaDoor
open Go.RowKit Go.Proofs.YtndicjikjcifaaaDoorW.PrintWords Go.Proofs.YtndicjikjcifaaaDoorW.PrintLast
set_option linter.unusedVariables false
set_option linter.unusedSimpArgs false
set_option linter.unusedSectionVars false
def Asn.ft (p : World → Prop) (ok : Nat → Prop) : Asn :=
  ⟨fun _ => False, ok, fun W => Foot p W ok, fun W W' h e => Foot.step h (fun k hk _ => e k (.inr hk))⟩
abbrev Asn.rd {α : Type} (d : Kd α) (ok : Nat → Prop) (A : Option Addr) (n : Nat) (xs : List α) : Asn := Asn.ft (fun W => d.C W A n xs) ok
abbrev Asn.fk {α : Type} (d : Kd α) (ok : Nat → Prop) (x : α) (c : List Value) : Asn := Asn.ft (fun W => d.K W x c) ok
def Queue {α : Type} (d : Kd α) (T : TypeId) (v : Value) (xs : List α) (ok : Nat → Prop) (W : World) : Prop :=
  (∀ k, ok k → v.ownBlock ≠ some k) ∧ ∃ cs : List (List Value), Kd.Q (Kd.raw d.sz) T W 0 (fun _ => True) v cs ∧ cs.length = xs.length ∧
    ∀ (j : Nat) (t : α) (c : List Value), xs[j]? = some t → cs[j]? = some c → Foot (fun W => d.K W t c) W ok
section
variable {α : Type} {d : Kd α} {T : TypeId} {v : Value} {xs : List α} {ok ok' : Nat → Prop} {W W' w : World} {S R : Nat → Prop} {M : List Asn}
theorem Queue.move (h : Queue d T v xs ok W) (hm : ∀ k, v.ownBlock = some k ∨ ok k → W'.heap[k]? = W.heap[k]?) : Queue d T v xs ok W' := by
  obtain ⟨h0, cs, h1, h2, h3⟩ := h
  have h1' : Kd.Q (Kd.raw d.sz) T W 0 (fun k => v.ownBlock = some k) v cs := by
    obtain ⟨_, inner, ho, hr⟩ := h1
    exact ⟨fun k hk => hk, inner, ho, hr.imp_ (fun _ _ hp => hp)⟩
  refine ⟨h0, cs, Kd.Q_mono (Kd.Q_step h1' (fun k hk _ => hm k (.inl hk))) (fun _ _ => trivial), h2, fun j t c a b => Foot.step (h3 j t c a b) (fun k hk _ => hm k (.inr hk))⟩
theorem Queue.form (h : Queue d T v xs ok W) : ∃ A c, v = .slice A xs.length c ∧ xs.length ≤ c := by
  obtain ⟨_, cs, h1, h2, _⟩ := h
  obtain ⟨A, c, e, l⟩ := Kd.Q_slice h1
  exact ⟨A, c, by rw [e, h2], by omega⟩
theorem Queue.lt (h : Queue d T v xs ok W) : ∀ k, v.ownBlock = some k → k < W.heap.size := by
  obtain ⟨_, cs, h1, _⟩ := h
  exact Kd.Q_lt h1
theorem cells_C {A : Option Addr} {n : Nat} {cs : List (List Value)} (h : (Kd.raw d.sz).C W A n cs) (hl : cs.length = xs.length)
    (hK : ∀ (j : Nat) (t : α) (c : List Value), xs[j]? = some t → cs[j]? = some c → d.K W t c) : d.C W A n xs := by
  obtain ⟨h1, h2, h3⟩ := h
  refine ⟨by omega, h2, fun hp => ?_⟩
  obtain ⟨ad, ha, hc⟩ := h3 hp
  refine ⟨ad, ha, fun j p hj => ?_⟩
  have hjl := (List.getElem?_eq_some_iff.1 hj).1
  have hcj : cs[j]? = some cs[j] := List.getElem?_eq_getElem (by omega)
  obtain ⟨c, c1, ⟨rfl, c2, c3⟩, c4⟩ := hc j _ hcj
  exact ⟨_, c2, hK j p _ hj hcj, c4⟩
theorem Queue.read {A : Option Addr} {n c : Nat} (h : Queue d T (.slice A n c) xs ok W) : n = xs.length ∧ n ≤ c ∧ d.C W A n xs := by
  obtain ⟨_, cs, h1, h2, h3⟩ := h
  obtain ⟨q1, q2, q3⟩ := Kd.Q_reads' h1
  exact ⟨by omega, q2, cells_C (by rw [q1]; exact q1 ▸ q3) h2 (fun j t c a b => Foot.now (h3 j t c a b))⟩
theorem Queue.nil (d : Kd α) (T : TypeId) (ok : Nat → Prop) (W : World) : Queue d T (.slice none 0 0) [] ok W :=
  ⟨fun _ _ => by simp [Value.ownBlock], [], Kd.Q_nil _ _ _ _ _, rfl, fun j t c h => by simp at h⟩
theorem Queue.drop {A : Option Addr} {k n c : Nat} (h : Queue d T (.slice A n c) xs ok W) (hk : k ≤ xs.length) : Queue d T (.slice (if c = k then A else A.map (·.add (k * d.sz))) (n - k) (c - k)) (xs.drop k) ok W := by
  obtain ⟨h0, cs, h1, h2, h3⟩ := h
  have hb : (Value.slice (if c = k then A else A.map (·.add (k * d.sz))) (n - k) (c - k)).ownBlock = (Value.slice A n c).ownBlock := by
    split
    · cases A <;> rfl
    · cases A with
      | none => rfl
      | some a => simp [Value.ownBlock]; unfold Addr.add; split <;> rfl
  refine ⟨fun j hj => by rw [hb]; exact h0 j hj, cs.drop k, Kd.Q_drop h1 (by omega), by simp [h2], fun j t c a b => ?_⟩
  rw [List.getElem?_drop] at a b
  exact h3 _ t c a b
theorem Queue.mono (h : Queue d T v xs ok W) (hi : ∀ k, ok k → ok' k) (hn : ∀ k, ok' k → v.ownBlock ≠ some k) : Queue d T v xs ok' W := by
  obtain ⟨_, cs, h1, h2, h3⟩ := h
  exact ⟨hn, cs, h1, h2, fun j t c a b => Foot.mono (h3 j t c a b) hi⟩
def Asn.qu {α : Type} (d : Kd α) (T : TypeId) (v : Value) (xs : List α) (ok : Nat → Prop) : Asn :=
  ⟨fun k => v.ownBlock = some k, ok, Queue d T v xs ok, fun W W' h e => h.move e⟩
theorem St.quNil (H : St w S R M W) (d : Kd α) (T : TypeId) : St w S R (M ++ [Asn.qu d T (.slice none 0 0) ([] : List α) (fun _ => False)]) W :=
  H.add _ (Queue.nil d T _ W) (fun k hk => by rcases hk with hk | hk; exact absurd (show (Value.slice none 0 0).ownBlock = some k from hk) (by simp [Value.ownBlock]); exact hk.elim) (fun k hk => absurd (show (Value.slice none 0 0).ownBlock = some k from hk) (by simp [Value.ownBlock])) (fun k hk => hk.elim)
theorem St.old (H : St w (fun _ => False) (fun _ => True) M W) (p : World → Prop) (hp : Foot p w (fun k => k < w.heap.size)) (hM : ∀ B ∈ M, ∀ k, B.wf k → w.heap.size ≤ k) : St w (fun _ => False) (fun _ => True) (M ++ [Asn.ft p (fun k => k < w.heap.size)]) W :=
  H.add _ (Foot.step hp (fun k hk _ => H.low.block k hk (fun h => h))) (fun k hk => by rcases hk with hk | hk; exact hk.elim; exact Nat.lt_of_lt_of_le hk H.low.size) (fun k hk => hk.elim) (fun k hk => ⟨.inr (.inl trivial), fun B hB hb => by have := hM B hB k hb; have : k < w.heap.size := hk; omega⟩)
theorem St.freshF (H : St w S R M W) (hb : Below W.heap.size W W') (p : World → Prop) (ok : Nat → Prop) (hh : Foot p W' ok) (hf : ∀ k, ok k → W.heap.size ≤ k) : St w S R (M ++ [Asn.ft p (fun k => ok k ∧ k < W'.heap.size)]) W' :=
  H.fresh hb _ (Foot.bound hh) (fun k hk => by rcases hk with hk | hk; exact hk.elim; exact ⟨hf k hk.1, hk.2⟩)
theorem St.rd (H : St w S R M W) (k : Nat) {p : World → Prop} (h : M[k]? = some (Asn.ft p ok)) : p W := Foot.now (H.get k h)
theorem St.qu (H : St w S R M W) (k : Nat) (h : M[k]? = some (Asn.qu d T v xs ok)) : Queue d T v xs ok W := H.get k h
theorem Queue.foot {A : Option Addr} {n c : Nat} (h : Queue d T (.slice A n c) xs ok W) (hb : ∀ k, ((Value.slice A n c).ownBlock = some k ∨ ok k) → k < W.heap.size) : Foot (fun W => d.C W A n xs) W (fun k => (Value.slice A n c).ownBlock = some k ∨ ok k) :=
  fun W' hW => (h.move (fun k hk => hW k hk (hb k hk))).read.2.2
theorem St.quFresh (H : St w (fun _ => False) (fun _ => False) M W) (k : Nat) {A : Option Addr} {n c : Nat} (h : M[k]? = some (Asn.qu d T (.slice A n c) xs ok)) : Foot (fun W => d.C W A n xs) W (fun k => w.heap.size ≤ k ∧ k < W.heap.size) := by
  obtain ⟨h1, h2, h3, h4⟩ := H.has _ (List.mem_of_getElem? h)
  refine Foot.mono (Queue.foot (H.qu k h) h2) (fun j hj => ⟨?_, h2 j hj⟩)
  rcases hj with hj | hj
  · exact (h3 j hj).elim (fun q => q.elim) id
  · exact (h4 j hj).elim (fun q => q.elim) (fun q => q.elim (fun q => q.elim) id)
end
section
variable {P : Program} {ops : Array Oper} {Q : Exit → Act → World → Prop} {V : World → Prop} {ds : List Nat} {π : List (Nat × Nat)} {a : Act} {W W' w : World} {n i j d1 d2 : Nat} {L : List (Nat × Value)} {ty ty' t T : TypeId} {S R : Nat → Prop} {M : List Asn}
theorem Fr.skip (H : Fr n L a) {d : Nat} (h : L.lookup d = none) (v : Value) : Fr n L (a.put (some d) v) := by
  refine ⟨by simp [Act.put, H.sz], H.df, fun i u hi => ?_⟩
  simp only [Act.put, Array.getElem?_setIfInBounds, H.sz]
  rw [if_neg (fun e => by subst e; rw [h] at hi; cases hi)]
  exact H.ev i u hi
theorem qu_run {α : Type} {d : Kd α} {W : World} (t ty e : TypeId) (z : Value) (bytes : Nat)
    (ht : P.underlying t = some (.slice e)) (hinfo : (P.info? e).map (fun i => (i.zero, i.size, i.bytes)) = some (some z, d.sz, bytes)) (hz : z.cells.size = d.sz) (hs0 : 0 < d.sz) (hb0 : 0 < bytes)
    (v : Value) (xs : List α) (p : α) (cs : List Value) (ok okp : Nat → Prop) (hq : Queue d e v xs ok W) (hp : Foot (fun W => d.K W p cs) W okp) (hb : ∀ k, ok k ∨ okp k → k < W.heap.size) (hn : ∀ k, okp k → v.ownBlock ≠ some k) (hl : (xs.length + 1) * bytes ≤ 140737488355328) :
    ∃ v1 w1, (Builtin.append_ #[t, t] ty #[v, .slice (some ⟨W.heap.size, 0, none⟩) 1 1]).run P (W.alloc (.cells cs.toArray e)) = .ok v1 w1 ∧ Queue d e v1 (xs ++ [p]) (fun k => ok k ∨ okp k) w1 ∧ Only (fun k => v.ownBlock = some k) W w1 ∧ (∀ k, v1.ownBlock = some k → v.ownBlock = some k ∨ W.heap.size ≤ k) := by
  obtain ⟨h0, es, h1, h2, h3⟩ := hq
  have hcl := d.K_len (Foot.now hp)
  have hone := d.K_one (Foot.now hp)
  have hM : (Kd.raw d.sz).M W 0 (fun _ => False) cs cs := ⟨rfl, hcl, hone⟩
  obtain ⟨v1, w1, r0, r1, r2, r3, r4⟩ := Kd.Q_run (P := P) (Kd.raw d.sz) 0 t ty e z bytes ht hinfo hz hs0 hb0 v es cs cs (fun _ => True) (fun _ => False) hM (fun k hk => hk.elim) (fun k _ => trivial) h1 (Below.refl 0 W) (Nat.zero_le _) (by rw [h2]; exact hl)
  have hat : ∀ k, v1.ownBlock = some k → v.ownBlock = some k ∨ W.heap.size ≤ k := by
    intro k hk
    rcases r4 with e | ⟨b, e, le⟩
    · exact .inl (e ▸ hk)
    · rw [e] at hk; cases hk; exact .inr le
  have hO : Only (fun k => v.ownBlock = some k) W w1 := ⟨r3.os, r3.tape, r3.output, r3.size, fun k hk hn => r3.block k hk (fun e => hn e.symm)⟩
  refine ⟨v1, w1, r0, ⟨fun k hk he => ?_, es ++ [cs], r1, by simp [h2], fun j t c ha hb' => ?_⟩, hO, hat⟩
  · rcases hat k he with q | q
    · rcases hk with hk | hk
      · exact h0 k hk q
      · exact hn k hk q
    · have := hb k hk; omega
  · have mv : ∀ k, ok k ∨ okp k → w1.heap[k]? = W.heap[k]? := fun k hk => hO.block k (hb k hk) (fun q => by
      rcases hk with hk | hk
      · exact h0 k hk q
      · exact hn k hk q)
    rcases Nat.lt_or_ge j xs.length with hj | hj
    · rw [List.getElem?_append_left hj] at ha
      rw [List.getElem?_append_left (by omega)] at hb'
      exact Foot.mono (Foot.step (h3 j t c ha hb') (fun k hk _ => mv k (.inl hk))) (fun k hk => .inl hk)
    · rw [List.getElem?_append_right hj] at ha
      rw [List.getElem?_append_right (by omega)] at hb'
      have : j - xs.length = 0 := by
        have := (List.getElem?_eq_some_iff.1 ha).1
        simpa using this
      rw [this] at ha
      rw [h2, this] at hb'
      simp at ha hb'
      subst ha hb'
      exact Foot.mono (Foot.step hp (fun k hk _ => mv k (.inr hk))) (fun k hk => .inr hk)
theorem Queue.bound {α : Type} {d : Kd α} {v : Value} {xs : List α} {ok : Nat → Prop} (h : Queue d T v xs ok W) : ∀ k, v.ownBlock = some k → k < W.heap.size := h.lt
theorem Fr.drop1 {d : Nat} {v : Value} (H : Fr n ((d, v) :: L) a) (h : L.lookup d = none) : Fr n L a :=
  ⟨H.sz, H.df, fun i u hi => H.ev i u (by
    have : (i == d) = false := beq_false_of_ne (fun e => by subst e; rw [h] at hi; cases hi)
    simpa [List.lookup, this] using hi)⟩
theorem run_build1 {t n bytes : Nat} {z xv : Value} (hu : P.underlying t = some (.slice T)) (hi : (P.info? T).map (fun i => (i.zero, i.size, i.bytes)) = some (some z, n, bytes)) (hz : z.cells.size = n) (h0 : 0 < n) (hn : n ≤ 16777216) (hx : xv.cells.size = n) (W : World) :
    (Instr.buildSlice t 1 #[(0, xv)]).run P W = .ok (.slice (some ⟨W.heap.size, 0, none⟩) 1 1) (W.alloc (.cells xv.cells T)) := by
  cases hie : P.info? T with
  | none => simp [hie] at hi
  | some ie =>
    simp only [hie, Option.map_some, Option.some.injEq, Prod.mk.injEq] at hi
    obtain ⟨h1, h2, h3⟩ := hi
    refine run_buildSlice W t T 1 _ xv.cells ie z hu hie h1 (by rw [h2]; omega) (by rw [h2]; omega) ?_
    rw [h2]
    have := Great.fill_whole h0 [xv] ((Array.range (1 * n)).map (z.cells[· % z.cells.size]!)) (by simpa using hx) (by simp)
    simpa using this
theorem sq_bapp {α : Type} (d : Kd α) {g1 g2 : Option (Nat × Bool)} {s x : Operand} {xv v : Value} {xs : List α} {p : α} {cs : List Value} {ok okp : Nat → Prop} {z : Value} {bytes : Nat} (k k' : Nat) (hkk : k ≠ k')
    (hi : (ops[i]?).map sk = some (some d1, .buildSlice t 1 #[(0, x)], ty, g1)) (hg1 : On ops L g1)
    (hj : (ops[j]?).map sk = some (some d2, .call { callee := .builtin .append, args := #[s, .tmp d1], argTypes := #[t, t] }, ty', g2)) (hg2 : ∀ u, On ops ((d1, u) :: L) g2)
    (F : Fr n L a) (h1n : d1 < n) (h2n : d2 < n) (hd : L.lookup d1 = none) (hs : ∀ a, Fr n L a → a.eval s = v) (hx : a.eval x = xv) (hxc : xv.cells = cs.toArray)
    (ht : P.underlying t = some (.slice T)) (hinfo : (P.info? T).map (fun i => (i.zero, i.size, i.bytes)) = some (some z, d.sz, bytes)) (hz : z.cells.size = d.sz) (hs0 : 0 < d.sz) (hs1 : d.sz ≤ 16777216) (hb0 : 0 < bytes)
    (H : St w S R M W) (hk : M[k]? = some (Asn.qu d T v xs ok)) (hk' : M[k']? = some (Asn.fk d okp p cs)) (hl : (xs.length + 1) * bytes ≤ 140737488355328)
    (hV1 : ∀ W', St w S R M W' → i ∉ ds → V W')
    (h : ∀ v1 W' a', St w S R (M.set k (Asn.qu d T v1 (xs ++ [p]) (fun k => ok k ∨ okp k))) W' → Fr n ((d2, v1) :: L) a' → (j ∉ ds → V W') ∧ wpSeq P ops Q V ds π a' W') : wpSeq P ops Q V ds ((i, 2) :: (j, 2) :: π) a W := by
  have hA := H.has _ (List.mem_of_getElem? hk)
  have hB := H.has _ (List.mem_of_getElem? hk')
  have hap := H.apart hk hk' hkk
  obtain ⟨v1, w1, r0, r1, r2, r3⟩ := qu_run (P := P) t ty' T z bytes ht hinfo hz hs0 hb0 v xs p cs ok okp (H.qu k hk) (H.get k' hk') (fun j hj => by
    rcases hj with hj | hj
    · exact hA.2.1 j (.inr hj)
    · exact hB.2.1 j (.inr hj)) (fun j hj e => (hap j).1 e (.inr hj)) hl
  refine sq2 (v := .slice (some ⟨W.heap.size, 0, none⟩) 1 1) (W' := W.alloc (.cells xv.cells T)) hi hg1 F h1n ?_ (hV1 _ (H.below ((Below.refl _ W).alloc (Nat.le_refl _) _))) (fun a' F' => ?_)
  · have := run_build1 (P := P) ht hinfo hz hs0 hs1 (by rw [hxc]; exact d.K_len (Foot.now (H.get k' hk'))) W (xv := xv)
    simp [ex, execOp, hx, this]
  have F2 := F'.drop1 hd
  have hs2 := hs a' F2
  have hx2 : a'.eval (.tmp d1) = .slice (some ⟨W.heap.size, 0, none⟩) 1 1 := F'.slot (by simp [List.lookup])
  refine sqw hj (hg2 _) F' fun o K ho hK => ?_
  obtain ⟨h1, h2, h3⟩ := sk_eq ho
  rw [← hxc] at r0
  unfold Oper.wp execOp
  rw [h2]
  simp only [resolve, invoke, builtin, Sem.run_bind, Sem.run_pure, Result.andThen_ok, List.map_toArray, List.map_cons, List.map_nil, hs2, hx2, h3, r0, Oper.upon, h1]
  have HN := H.updR k hk (B := Asn.qu d T v1 (xs ++ [p]) (fun k => ok k ∨ okp k)) r2 r1 (fun j hj => ?_) r3 (fun j hj => ?_)
  · have := h v1 w1 _ HN (F2.put d2 h2n v1)
    exact hK _ _ this.1 this.2
  · rcases hj with hj | hj
    · exact r1.lt j hj
    · rcases hj with hj | hj
      · exact Nat.lt_of_lt_of_le (hA.2.1 j (.inr hj)) r2.size
      · exact Nat.lt_of_lt_of_le (hB.2.1 j (.inr hj)) r2.size
  · rcases hj with hj | hj
    · exact .inr (.inl hj)
    · exact .inr (.inr (.inr ⟨k', _, Ne.symm hkk, hk', hj, fun h => h⟩))
end
end Go.Proofs.YtndicjikjcifaaaDoor

/- Regions in which several operations that make memory may come up: a tree of orders. Empty literals, whole rows appended to a queue, queues that are only read from now on. Plain lemmas, no program in sight. -/
namespace Go.Proofs.YtndicjikjcifaaaDoor
open Go.RowKit Go.Proofs.YtndicjikjcifaaaDoorW.PrintWords Go.Proofs.YtndicjikjcifaaaDoorW.PrintLast
set_option linter.unusedVariables false
set_option linter.unusedSimpArgs false
set_option linter.unusedSectionVars false
inductive OT where
  | line (π : List (Nat × Nat))
  | two (π : List (Nat × Nat)) (i : Nat) (t : OT) (j : Nat) (u : OT)
  | three (π : List (Nat × Nat)) (i : Nat) (t : OT) (j : Nat) (u : OT) (k : Nat) (v : OT)
def wpT (P : Program) (ops : Array Oper) (Q : Exit → Act → World → Prop) (V : World → Prop) (ds : List Nat) : OT → Act → World → Prop
  | .line π, a, w => wpSeq P ops Q V ds π a w
  | .two π i t j u, a, w => wpSeq P ops (Exit.then (fun a w => wpSeq P ops (Exit.then (wpT P ops Q V ds t) Q) V ds [(i, 2)] a w ∧ wpSeq P ops (Exit.then (wpT P ops Q V ds u) Q) V ds [(j, 2)] a w) Q) V ds π a w
  | .three π i t j u k v, a, w => wpSeq P ops (Exit.then (fun a w => wpSeq P ops (Exit.then (wpT P ops Q V ds t) Q) V ds [(i, 2)] a w ∧ wpSeq P ops (Exit.then (wpT P ops Q V ds u) Q) V ds [(j, 2)] a w ∧ wpSeq P ops (Exit.then (wpT P ops Q V ds v) Q) V ds [(k, 2)] a w) Q) V ds π a w
def segW (T : Bool × List (List Nat × List Nat)) (B : List Nat) (ds : List Nat) : List (Nat × Nat) → List Bool → Bool
  | [], _ => true
  | (i, 0) :: π, l => anyT T l (l.set i true) i && segW T B ds π (l.set i true)
  | (i, 1) :: π, l => takeW T B ds l (l.set i true) i && segW T B ds π (l.set i true)
  | (i, _ + 2) :: π, l => (readyT T.2 l == [i]) && segW T B ds π (l.set i true)
def adv : List (Nat × Nat) → List Bool → List Bool
  | [], l => l
  | (i, _) :: π, l => adv π (l.set i true)
def OT.len : OT → Nat
  | .line π => π.length
  | .two π _ t _ u => π.length + 1 + max t.len u.len
  | .three π _ t _ u _ v => π.length + 1 + max t.len (max u.len v.len)
def treeW (T : Bool × List (List Nat × List Nat)) (B : List Nat) (ds : List Nat) : OT → List Bool → Bool
  | .line π, l => seqW T B ds π l
  | .two π i t j u, l => segW T B ds π l && (readyT T.2 (adv π l) == [i, j]) && !ds.contains i && !ds.contains j && treeW T B ds t ((adv π l).set i true) && treeW T B ds u ((adv π l).set j true) && (t.len == u.len)
  | .three π i t j u k v, l => segW T B ds π l && (readyT T.2 (adv π l) == [i, j, k]) && !ds.contains i && !ds.contains j && !ds.contains k && treeW T B ds t ((adv π l).set i true) && treeW T B ds u ((adv π l).set j true) && treeW T B ds v ((adv π l).set k true) && (t.len == u.len) && (t.len == v.len)
def treeOk (ops : Array Oper) (B : List Nat) (ds : List Nat) (t : OT) : Bool :=
  waitsOk (rtab .any ops).2 B && treeW (rtab .any ops) B ds t (List.replicate ops.size false) && (t.len == ops.size)
section
variable {P : Program} {ops : Array Oper} {Q : Exit → Act → World → Prop} {V : World → Prop} {ds B : List Nat}
theorem step_mono {i : Nat} {R K : Act → World → Prop} {a : Act} {w : World} {o : Oper} (ho : ops[i]? = some o) (hd : i ∉ ds) (hK : ∀ a w, V w → R a w → K a w)
    (h : wpSeq P ops (Exit.then R Q) V ds [(i, 2)] a w) : if Region.wanted o (yielded ops a.tmps) = true then Oper.wp P o a w K Q else K (a.put o.dst undef) w := by
  unfold wpSeq at h
  rw [ho] at h
  dsimp only at h
  split at h
  · rename_i hw
    rw [if_pos hw]
    unfold Oper.wp at h ⊢
    revert h
    generalize (execOp a.eval o).run P w = r
    intro h
    cases r with
    | ok nx w' =>
      cases nx <;> simp only [Oper.upon] at h ⊢
      case value v => exact hK _ _ (h.1 hd) h.2
      case skip => exact hK _ _ (h.1 hd) h.2
      case defer d => exact hK _ _ (h.1 hd) h.2
      case enter f args =>
        refine h.mono fun e w'' h => ?_
        cases e with
        | returned v => exact hK _ _ (h.1 hd) h.2
        | panicked c => exact h
        | outgrown => exact h
      case row r args =>
        exact h.mono fun v w'' h => hK _ _ (h.1 hd) h.2
    | halt x w' => cases x <;> first | exact h | exact h.elim
  · rename_i hw
    rw [if_neg hw]
    exact hK _ _ h.1 h.2
theorem last_of_seg {R : Act → World → Prop} (hQ : ∀ c a d v w, Q (.panic c) (Act.put a d v) w → Q (.panic c) a w) (hB : waitsOk (rtab .any ops).2 B = true) (n : Nat) : ∀ (π : List (Nat × Nat)) (l : List Bool) (a : Act) (w : World),
    segW (rtab .any ops) B ds π l = true → wpSeq P ops (Exit.then R Q) V ds π a w → (∀ a w, R a w → wpAnyLast P .any ops Q V ds n (adv π l).toArray a w) → wpAnyLast P .any ops Q V ds (π.length + n) l.toArray a w
  | [], l, a, w, hs, h, hr => by
    rw [List.length_nil, Nat.zero_add]
    exact hr a w h
  | (i, k) :: π, l, a, w, hs, h, hr => by
    unfold wpSeq at h
    rw [show ((i, k) :: π).length + n = (π.length + n) + 1 by simp only [List.length_cons]; omega]
    cases ho : ops[i]? with
    | none => rw [ho] at h; exact h.elim
    | some o =>
      rw [ho] at h
      match k, hs, h with
      | 0, hs, h =>
        simp only [segW, Bool.and_eq_true] at hs
        obtain ⟨v, hy, h⟩ := h
        exact pure_ (l' := (l.set i true).toArray) ho rfl (any_of (l := l.toArray) (l' := (l.set i true).toArray) rfl hs.1) (fun c a w => hQ c a _ _ w) hy rfl (last_of_seg hQ hB n π _ _ _ hs.2 h hr)
      | 1, hs, h =>
        simp only [segW, Bool.and_eq_true] at hs
        obtain ⟨v, hy, hV, h⟩ := h
        exact take_ (l' := (l.set i true).toArray) ho rfl (take_ofW (l := l.toArray) (l' := (l.set i true).toArray) rfl hB hs.1) (fun c a w => hQ c a _ _ w) hy hV rfl (last_of_seg hQ hB n π _ _ _ hs.2 h hr)
      | k + 2, hs, h =>
        dsimp only at h
        simp only [segW, Bool.and_eq_true] at hs
        have hrd : readyB .any ops l.toArray (l.set i true).toArray i = true := one_of (l := l.toArray) (l' := (l.set i true).toArray) rfl (by simpa using hs.1)
        by_cases hd : i ∈ ds
        · refine last_ (l' := (l.set i true).toArray) ho rfl hrd hd (fun K hK => ?_)
          have hK := hK.out
          split at h
          · rename_i hw
            rw [if_pos hw]
            unfold Oper.wp at h ⊢
            revert h
            generalize (execOp a.eval o).run P w = r
            intro h
            cases r with
            | ok nx w' =>
              cases nx <;> simp only [Oper.upon] at h ⊢
              case value v => exact hK _ _ (last_of_seg hQ hB n π _ _ _ hs.2 h.2 hr)
              case skip => exact hK _ _ (last_of_seg hQ hB n π _ _ _ hs.2 h.2 hr)
              case defer d => exact hK _ _ (last_of_seg hQ hB n π _ _ _ hs.2 h.2 hr)
              case enter f args =>
                refine h.mono fun e w'' h => ?_
                cases e with
                | returned v => exact hK _ _ (last_of_seg hQ hB n π _ _ _ hs.2 h.2 hr)
                | panicked c => exact h
                | outgrown => exact h
              case row r args =>
                exact h.mono fun v w'' h => hK _ _ (last_of_seg hQ hB n π _ _ _ hs.2 h.2 hr)
            | halt x w' => cases x <;> first | exact h | exact h.elim
          · rename_i hw
            rw [if_neg hw]
            exact hK _ _ (last_of_seg hQ hB n π _ _ _ hs.2 h.2 hr)
        · refine one_ (l' := (l.set i true).toArray) ho rfl hrd hd (fun K hK => ?_)
          have hK := hK.out
          split at h
          · rename_i hw
            rw [if_pos hw]
            unfold Oper.wp at h ⊢
            revert h
            generalize (execOp a.eval o).run P w = r
            intro h
            cases r with
            | ok nx w' =>
              cases nx <;> simp only [Oper.upon] at h ⊢
              case value v => exact hK _ _ (h.1 hd) (fun _ => last_of_seg hQ hB n π _ _ _ hs.2 h.2 hr)
              case skip => exact hK _ _ (h.1 hd) (fun _ => last_of_seg hQ hB n π _ _ _ hs.2 h.2 hr)
              case defer d => exact hK _ _ (h.1 hd) (fun _ => last_of_seg hQ hB n π _ _ _ hs.2 h.2 hr)
              case enter f args =>
                refine h.mono fun e w'' h => ?_
                cases e with
                | returned v => exact hK _ _ (h.1 hd) (fun _ => last_of_seg hQ hB n π _ _ _ hs.2 h.2 hr)
                | panicked c => exact h
                | outgrown => exact h
              case row r args =>
                exact h.mono fun v w'' h => hK _ _ (h.1 hd) (fun _ => last_of_seg hQ hB n π _ _ _ hs.2 h.2 hr)
            | halt x w' => cases x <;> first | exact h | exact h.elim
          · rename_i hw
            rw [if_neg hw]
            exact hK _ _ h.1 (fun _ => last_of_seg hQ hB n π _ _ _ hs.2 h.2 hr)
theorem opOf_ready {l : List Bool} {rs : List Nat} {i : Nat} (h : readyT (rtab .any ops).2 l = rs) (hi : i ∈ rs) : ∃ o, ops[i]? = some o := by
  subst h
  unfold readyT at hi
  rw [List.mem_filter, List.mem_range, rtab_length] at hi
  exact ⟨_, Array.getElem?_eq_getElem hi.1⟩
theorem last_of_tree (hQ : ∀ c a d v w, Q (.panic c) (Act.put a d v) w → Q (.panic c) a w) (hB : waitsOk (rtab .any ops).2 B = true) : ∀ (t : OT) (l : List Bool) (a : Act) (w : World),
    treeW (rtab .any ops) B ds t l = true → wpT P ops Q V ds t a w → wpAnyLast P .any ops Q V ds t.len l.toArray a w
  | .line π, l, a, w, hs, h => last_of_seq hQ hB π l a w hs h
  | .two π i t j u, l, a, w, hs, h => by
    simp only [treeW, Bool.and_eq_true, beq_iff_eq, Bool.not_eq_true', List.contains_eq_mem, decide_eq_false_iff_not] at hs
    obtain ⟨⟨⟨⟨⟨⟨h1, h2⟩, h3⟩, h4⟩, h5⟩, h6⟩, h7⟩ := hs
    simp only [OT.len, Nat.add_assoc]
    refine last_of_seg hQ hB _ π l a w h1 h (fun a w hr => ?_)
    rw [Nat.add_comm 1, h7, Nat.max_self]
    obtain ⟨oi, hoi⟩ := opOf_ready h2 (i := i) (by simp)
    obtain ⟨oj, hoj⟩ := opOf_ready h2 (i := j) (by simp)
    have ht := fun a w => last_of_tree hQ hB t _ a w h5
    have hu := fun a w => last_of_tree hQ hB u _ a w h6
    rw [h7] at ht
    refine two_ ((adv π l).set i true).toArray ((adv π l).set j true).toArray hoi hoj rfl rfl ?_ h3 h4 (fun K hK => ?_) (fun K hK => ?_)
    · simp [ready_eq, h2]
    · exact step_mono hoi h3 (fun a w hv hr => hK.out a w hv (fun _ => ht a w hr)) hr.1
    · exact step_mono hoj h4 (fun a w hv hr => hK.out a w hv (fun _ => hu a w hr)) hr.2
  | .three π i t j u k v, l, a, w, hs, h => by
    simp only [treeW, Bool.and_eq_true, beq_iff_eq, Bool.not_eq_true', List.contains_eq_mem, decide_eq_false_iff_not] at hs
    obtain ⟨⟨⟨⟨⟨⟨⟨⟨⟨h1, h2⟩, h3⟩, h4⟩, h4'⟩, h5⟩, h6⟩, h6'⟩, h7⟩, h8⟩ := hs
    simp only [OT.len, Nat.add_assoc]
    refine last_of_seg hQ hB _ π l a w h1 h (fun a w hr => ?_)
    rw [Nat.add_comm 1, ← h7, ← h8, Nat.max_self, Nat.max_self]
    obtain ⟨oi, hoi⟩ := opOf_ready h2 (i := i) (by simp)
    obtain ⟨oj, hoj⟩ := opOf_ready h2 (i := j) (by simp)
    obtain ⟨ok, hok⟩ := opOf_ready h2 (i := k) (by simp)
    have ht := fun a w => last_of_tree hQ hB t _ a w h5
    have hu := fun a w => last_of_tree hQ hB u _ a w h6
    have hv' := fun a w => last_of_tree hQ hB v _ a w h6'
    rw [← h7] at hu
    rw [← h8] at hv'
    refine three_ ((adv π l).set i true).toArray ((adv π l).set j true).toArray ((adv π l).set k true).toArray hoi hoj hok rfl rfl rfl ?_ h3 h4 h4' (fun K hK => ?_) (fun K hK => ?_) (fun K hK => ?_)
    · simp [ready_eq, h2]
    · exact step_mono hoi h3 (fun a w hv hr => hK.out a w hv (fun _ => ht a w hr)) hr.1
    · exact step_mono hoj h4 (fun a w hv hr => hK.out a w hv (fun _ => hu a w hr)) hr.2.1
    · exact step_mono hok h4' (fun a w hv hr => hK.out a w hv (fun _ => hv' a w hr)) hr.2.2
theorem wp_drawnT {id : Nat} {a : Act} {w : World} (hm : P.follows .mixedOrders = true) (B ds : List Nat) (t : OT) (hc : treeOk ops B ds t = true) (hQ : ∀ c a d v w, Q (.panic c) (Act.put a d v) w → Q (.panic c) a w) (hV : V w.drew)
    (h : wpT P ops Q V ds t a w.drew) : (Code.region id ops true).wp P Q a w := by
  simp only [treeOk, Bool.and_eq_true, beq_iff_eq] at hc
  obtain ⟨⟨h1, h2⟩, h3⟩ := hc
  refine start_ (n := ops.size) (S := V) (ds := ds) (List.replicate ops.size false).toArray hm rfl (by simp) hV (fun _ => ?_)
  have := last_of_tree hQ h1 t _ a _ h2 h
  rw [h3] at this
  exact this
end
section
variable {P : Program} {Q : Exit → Act → World → Prop} {a : Act} {W : World} {b : Code} {p : List Nat}
theorem c_drawnT {id : Nat} (h : ck (cd b p) = .region id true) (hm : P.follows .mixedOrders = true) (V : World → Prop) (B ds : List Nat) (t : OT) (hc : treeOk (rops (cd b p)) B ds t = true) (hQ : ∀ c a d v w, Q (.panic c) (Act.put a d v) w → Q (.panic c) a w) (hV : V W.drew)
    (hx : wpT P (rops (cd b p)) Q V ds t a W.drew) : (cd b p).wp P Q a W := by
  revert h hc hx
  generalize cd b p = c'
  intro h hc hx
  cases c' <;> simp only [ck] at h <;> try cases h
  exact wp_drawnT hm B ds t hc hQ hV hx
end
section
variable {P : Program} {ops : Array Oper} {Q : Exit → Act → World → Prop} {V : World → Prop} {ds : List Nat} {a : Act} {W : World} {π : List (Nat × Nat)} {i j k : Nat} {t u v : OT}
theorem sq_nil (h : Q .normal a W) : wpSeq P ops Q V ds [] a W := h
theorem t_line (h : wpSeq P ops Q V ds π a W) : wpT P ops Q V ds (.line π) a W := h
theorem t_two (h : wpSeq P ops (Exit.then (fun a w => wpSeq P ops (Exit.then (wpT P ops Q V ds t) Q) V ds [(i, 2)] a w ∧ wpSeq P ops (Exit.then (wpT P ops Q V ds u) Q) V ds [(j, 2)] a w) Q) V ds π a W) : wpT P ops Q V ds (.two π i t j u) a W := h
theorem f_two {R1 R2 : Act → World → Prop} (h1 : R1 a W) (h2 : R2 a W) : Exit.then (fun a w => R1 a w ∧ R2 a w) Q .normal a W := ⟨h1, h2⟩
end
/-! ### Rows and queues -/
section
variable {α : Type} {d : Kd α} {T : TypeId} {v : Value} {xs ys : List α} {ok ok' : Nat → Prop} {W W' w : World} {S R : Nat → Prop} {M M' : List Asn} {A : Option Addr} {n c : Nat}
theorem St.perm (H : St w S R M W) (ks : List Nat) (h : ks.map (M[·]?) = M'.map some) (nd : ks.Nodup) : St w S R M' W := by
  have hs := H.select ks M' h nd
  refine ⟨H.low, fun B hB => ?_, hs.dis⟩
  obtain ⟨i, hi⟩ := List.mem_iff_getElem?.1 hB
  have h1 := congrArg (·[i]?) h
  simp only [List.getElem?_map, hi, Option.map_some] at h1
  cases hk : ks[i]? with
  | none => rw [hk] at h1; simp at h1
  | some k =>
    rw [hk] at h1
    exact H.has B (List.mem_of_getElem? (by simpa using h1))
theorem St.quRd (H : St w S R M W) (k : Nat) (h : M[k]? = some (Asn.qu d T (.slice A n c) xs ok)) : St w S R (M.set k (Asn.rd d (fun j => (Value.slice A n c).ownBlock = some j ∨ ok j) A n xs)) W := by
  obtain ⟨b1, b2, b3, b4⟩ := H.has _ (List.mem_of_getElem? h)
  refine H.upd k h (Only.refl _ _) _ (Queue.foot (H.qu k h) b2) (fun j hj => ?_) (fun j hj => hj.elim) (fun j hj => ?_)
  · rcases hj with hj | hj
    · exact hj.elim
    · exact b2 j hj
  · rcases hj with hj | hj
    · exact .inl hj
    · exact .inr (.inl hj)
theorem Queue.empty (d : Kd α) (T : TypeId) (g : Nat) (cells : Array Value) (hb : W.heap[g]? = some (.cells cells T (0, 0))) : Queue d T (.slice (some ⟨g, 0, none⟩) 0 0) ([] : List α) (fun _ => False) W :=
  ⟨fun _ h => h.elim, [], ⟨fun _ _ => trivial, [], ⟨by simp, .inl ⟨rfl, some ⟨g, 0, none⟩, rfl, fun a ha => by cases ha; exact ⟨Nat.zero_le _, cells, hb⟩⟩⟩, ⟨by simp, fun j p h => by simp at h⟩⟩, rfl, fun j t c h => by simp at h⟩
theorem rd_rows (hsz : 0 < d.sz) {ad : Addr} (h : Foot (fun W => d.C W (some ad) ys.length ys) W ok) (hp : 0 < ys.length) :
    ok ad.block ∧ ∃ es : List (List Value), es.length = ys.length ∧ (∀ c ∈ es, c.length = d.sz) ∧ (∀ c ∈ es, ∀ u ∈ c, u.oneCell' = true) ∧ (∀ (j : Nat) (c : List Value), es[j]? = some c → ∀ i u, c[i]? = some u → W.cell? (ad.add (j * d.sz + i)) = some u) ∧
      ∀ (j : Nat) (t : α) (c : List Value), ys[j]? = some t → es[j]? = some c → Foot (fun W => d.K W t c) W ok := by
  have ha : ok ad.block := by
    refine Classical.byContradiction fun hn => ?_
    obtain ⟨W', h1, h2⟩ := Kd.emptied W ad.block
    obtain ⟨_, _, h3⟩ := h W' (fun k hk _ => h1 k (fun e => hn (e ▸ hk)))
    obtain ⟨ad', e, h4⟩ := h3 hp
    cases e
    obtain ⟨c, hc, _, h5⟩ := h4 0 _ (List.getElem?_eq_getElem hp)
    have h6 := h5 0 _ (List.getElem?_eq_getElem (by omega))
    rw [h2 _ (by unfold Addr.add; split <;> rfl)] at h6
    cases h6
  obtain ⟨_, _, h3⟩ := h.now
  obtain ⟨ad', e, h4⟩ := h3 hp
  cases e
  have h5 : ∀ j, j < ys.length → ∃ c : List Value, c.length = d.sz ∧ (∃ t, ys[j]? = some t ∧ d.K W t c) ∧ ∀ i u, c[i]? = some u → W.cell? (ad.add (j * d.sz + i)) = some u := fun j hj => by
    obtain ⟨c, h5, h6, h7⟩ := h4 j _ (List.getElem?_eq_getElem hj)
    exact ⟨c, h5, ⟨_, List.getElem?_eq_getElem hj, h6⟩, h7⟩
  have h6 : ∃ es : List (List Value), es.length = ys.length ∧ ∀ j c, es[j]? = some c → c.length = d.sz ∧ (∃ t, ys[j]? = some t ∧ d.K W t c) ∧ ∀ i u, c[i]? = some u → W.cell? (ad.add (j * d.sz + i)) = some u := by
    have : ∀ n, n ≤ ys.length → ∃ es : List (List Value), es.length = n ∧ ∀ j c, es[j]? = some c → c.length = d.sz ∧ (∃ t, ys[j]? = some t ∧ d.K W t c) ∧ ∀ i u, c[i]? = some u → W.cell? (ad.add (j * d.sz + i)) = some u := by
      intro n
      induction n with
      | zero => exact fun _ => ⟨[], rfl, fun j c h => by simp at h⟩
      | succ n ih =>
        intro hn
        obtain ⟨es, h1, h2⟩ := ih (by omega)
        obtain ⟨c, h3⟩ := h5 n (by omega)
        refine ⟨es ++ [c], by simp [h1], fun j c' hj => ?_⟩
        rcases Nat.lt_or_ge j n with hlt | hge
        · rw [List.getElem?_append_left (by omega)] at hj
          exact h2 j c' hj
        · rw [List.getElem?_append_right (by omega), h1] at hj
          have : j - n = 0 := by
            have := (List.getElem?_eq_some_iff.1 hj).1
            simpa using this
          rw [this] at hj
          obtain rfl : c = c' := by simpa using hj
          rw [show j = n by omega]
          exact h3
    exact this _ (Nat.le_refl _)
  obtain ⟨es, e1, e2⟩ := h6
  refine ⟨ha, es, e1, fun c hc => ?_, fun c hc => ?_, fun j c hj => (e2 j c hj).2.2, fun j t c hj hc W' hW => ?_⟩
  · obtain ⟨j, hj⟩ := List.mem_iff_getElem?.1 hc
    exact (e2 j c hj).1
  · obtain ⟨j, hj⟩ := List.mem_iff_getElem?.1 hc
    obtain ⟨t, _, hk⟩ := (e2 j c hj).2.1
    exact d.K_one hk
  · obtain ⟨_, _, h7⟩ := h W' hW
    obtain ⟨ad', e, h8⟩ := h7 hp
    cases e
    obtain ⟨c', h9, h10, h11⟩ := h8 j t hj
    obtain ⟨f1, f2, f3⟩ := e2 j c hc
    have : c' = c := by
      apply List.ext_getElem?
      intro i
      by_cases hi : i < d.sz
      · have g1 := f3 i _ (List.getElem?_eq_getElem (by omega))
        have hlt := World.block_lt_of_cell? W _ g1
        have hbl : (ad.add (j * d.sz + i)).block = ad.block := by unfold Addr.add; split <;> rfl
        have g2 := World.cell?_of_block (w := W) (w' := W') (a := ad.add (j * d.sz + i)) (by rw [hbl] at hlt; rw [hbl]; exact hW ad.block ha hlt)
        rw [g1] at g2
        rw [List.getElem?_eq_getElem (show i < c.length by omega), ← g2]
        have g3 := h11 i _ (List.getElem?_eq_getElem (show i < c'.length by omega))
        rw [List.getElem?_eq_getElem (show i < c'.length by omega), g3]
      · rw [List.getElem?_eq_none (by omega), List.getElem?_eq_none (by omega)]
    exact this ▸ h10
end
section
variable {P : Program} {T : TypeId}
def Rows {α : Type} (d : Kd α) (W : World) (A : Option Addr) (ys : List α) (ok : Nat → Prop) : Prop :=
  ys.length = 0 ∨ ∃ (ad : Addr) (es : List (List Value)), A = some ad ∧ es.length = ys.length ∧ (∀ c ∈ es, c.length = d.sz) ∧ (∀ c ∈ es, ∀ u ∈ c, u.oneCell' = true) ∧ (∀ (j : Nat) (c : List Value), es[j]? = some c → ∀ i u, c[i]? = some u → W.cell? (ad.add (j * d.sz + i)) = some u) ∧
      ∀ (j : Nat) (t : α) (c : List Value), ys[j]? = some t → es[j]? = some c → Foot (fun W => d.K W t c) W ok
theorem Rows.rd {α : Type} {d : Kd α} {W : World} {A : Option Addr} {ys : List α} {ok : Nat → Prop} (hsz : 0 < d.sz) (h : Foot (fun W => d.C W A ys.length ys) W ok) : Rows d W A ys ok := by
  by_cases h0 : ys.length = 0
  · exact .inl h0
  · have hp : 0 < ys.length := by omega
    obtain ⟨ad, rfl, _⟩ := (h.now).2.2 hp
    obtain ⟨_, es, h1⟩ := rd_rows hsz h hp
    exact .inr ⟨ad, es, rfl, h1⟩
theorem Rows.qu {α : Type} {d : Kd α} {W : World} {A : Option Addr} {n c : Nat} {zs : List α} {ok : Nat → Prop} (h : Queue d T (.slice A n c) zs ok W) (m : Nat) (hm : m ≤ zs.length) : Rows d W A (zs.take m) ok := by
  by_cases h0 : (zs.take m).length = 0
  · exact .inl h0
  · obtain ⟨_, cs, h1, h2, h3⟩ := h
    have hl : (zs.take m).length = m := by rw [List.length_take]; omega
    obtain ⟨q1, q2, q3⟩ := Kd.Q_reads' h1
    obtain ⟨_, _, q4⟩ := q3
    obtain ⟨ad, rfl, q5⟩ := q4 (by omega)
    refine .inr ⟨ad, cs.take m, rfl, by rw [List.length_take]; omega, fun c hc => ?_, fun c hc => ?_, fun j c hj i u hu => ?_, fun j t c ht hc => ?_⟩
    · obtain ⟨j, hj⟩ := List.mem_iff_getElem?.1 (List.mem_of_mem_take hc)
      obtain ⟨c', c1, ⟨rfl, c2, c3⟩, c4⟩ := q5 j c hj
      exact c2
    · obtain ⟨j, hj⟩ := List.mem_iff_getElem?.1 (List.mem_of_mem_take hc)
      obtain ⟨c', c1, ⟨rfl, c2, c3⟩, c4⟩ := q5 j c hj
      exact c3
    · have hjm : j < m := by have := (List.getElem?_eq_some_iff.1 hj).1; rw [List.length_take] at this; omega
      rw [List.getElem?_take, if_pos hjm] at hj
      obtain ⟨c', c1, ⟨rfl, c2, c3⟩, c4⟩ := q5 j c hj
      exact c4 i u hu
    · have hjm : j < m := by have := (List.getElem?_eq_some_iff.1 ht).1; omega
      rw [List.getElem?_take, if_pos hjm] at ht hc
      exact h3 j t c ht hc
theorem qu_rows {α : Type} {d : Kd α} {W : World} (t ty e : TypeId) (z : Value) (bytes : Nat)
    (ht : P.underlying t = some (.slice e)) (hinfo : (P.info? e).map (fun i => (i.zero, i.size, i.bytes)) = some (some z, d.sz, bytes)) (hz : z.cells.size = d.sz) (hs0 : 0 < d.sz) (hb0 : 0 < bytes)
    (v : Value) (xs ys : List α) (A : Option Addr) (cy : Nat) (ok oky : Nat → Prop) (hq : Queue d e v xs ok W) (hy : Rows d W A ys oky) (hb : ∀ k, ok k ∨ oky k → k < W.heap.size) (hn : ∀ k, oky k → v.ownBlock ≠ some k) (hl : (xs.length + ys.length) * bytes ≤ 140737488355328) :
    ∃ v1 w1, (Builtin.append_ #[t, t] ty #[v, .slice A ys.length cy]).run P W = .ok v1 w1 ∧ Queue d e v1 (xs ++ ys) (fun k => ok k ∨ oky k) w1 ∧ Only (fun k => v.ownBlock = some k) W w1 ∧ (∀ k, v1.ownBlock = some k → v.ownBlock = some k ∨ W.heap.size ≤ k) := by
  obtain ⟨i0, hi, hzz⟩ := Option.map_eq_some_iff.1 hinfo
  simp only [Prod.mk.injEq] at hzz
  obtain ⟨hz0, hz1, hz2⟩ := hzz
  by_cases h0 : ys.length = 0
  · obtain rfl : ys = [] := List.eq_nil_of_length_eq_zero h0
    obtain ⟨A', cap, rfl, hcap⟩ := hq.form
    refine ⟨_, W, ?_, by rw [List.append_nil]; exact hq.mono (fun k hk => .inl hk) (fun k hk he => hk.elim (fun hk => hq.1 k hk he) (fun hk => hn k hk he)), Only.refl _ _, fun k hk => .inl hk⟩
    cases A' <;> cases A <;> simp [Builtin.append_, Builtin.lenOf, Builtin.firstCells, run_underlying ht, sizeOf, typeInfo, hi, hcap, storeCells, loadCells, loadCellsFrom]
  · have hp : 0 < ys.length := by omega
    obtain ⟨h0', es, h1, h2, h3⟩ := hq
    obtain ⟨ad, fs, rfl, f1, f2, f3, f4, f5⟩ : ∃ (ad : Addr) (es : List (List Value)), A = some ad ∧ _ := hy.resolve_left h0
    have hflen : ∀ (l : List (List Value)), (∀ c ∈ l, c.length = d.sz) → l.flatten.length = l.length * d.sz := by
      intro l
      induction l with
      | nil => intro _; simp
      | cons c r ih =>
        intro hc
        rw [List.flatten_cons, List.length_append, hc c List.mem_cons_self, ih (fun c h => hc c (List.mem_cons_of_mem _ h)), List.length_cons, Nat.succ_mul, Nat.add_comm]
    have hfget : ∀ (l : List (List Value)), (∀ c ∈ l, c.length = d.sz) → ∀ j c, l[j]? = some c → (l.flatten.drop (j * d.sz)).take d.sz = c := by
      intro l
      induction l with
      | nil => intro _ j c h; simp at h
      | cons c0 r ih =>
        intro hc j c hj
        have hc0 := hc c0 List.mem_cons_self
        cases j with
        | zero =>
          obtain rfl : c0 = c := by simpa using hj
          rw [Nat.zero_mul, List.drop_zero, List.flatten_cons, List.take_append_of_le_length (by omega), List.take_of_length_le (by omega)]
        | succ j =>
          rw [List.flatten_cons, Nat.succ_mul, List.drop_append, List.drop_of_length_le (by rw [hc0]; exact Nat.le_add_left _ _), List.nil_append, hc0, Nat.add_sub_cancel]
          exact ih (fun c h => hc c (List.mem_cons_of_mem _ h)) j c (by simpa using hj)
    obtain ⟨hok0, inner, hown, hr⟩ := h1
    obtain ⟨v1, w1, hrun, hq1, hg, hat⟩ := q_append (P := P) W 0 t ty e i0 z d.sz bytes ht hi hz0 hz1 hz2 hz hs0 v es.length inner hown ad ys.length cy fs.flatten (by rw [hflen fs f2, f1])
      (fun j u hj => by
        have hjl := (List.getElem?_eq_some_iff.1 hj).1
        rw [hflen fs f2] at hjl
        have hdm := Nat.div_add_mod j d.sz
        have hml := Nat.mod_lt j hs0
        have hjd : j / d.sz < fs.length := by
          rw [Nat.div_lt_iff_lt_mul hs0]; exact hjl
        have e1 := hfget fs f2 (j / d.sz) _ (List.getElem?_eq_getElem hjd)
        have e2 : (fs[j / d.sz])[j % d.sz]? = some u := by
          rw [← e1, List.getElem?_take, if_pos hml, List.getElem?_drop, Nat.mul_comm, hdm]
          exact hj
        have e3 := f4 (j / d.sz) _ (List.getElem?_eq_getElem hjd) (j % d.sz) u e2
        rw [Nat.mul_comm, hdm] at e3
        exact e3)
      (fun u hu => by
        obtain ⟨c, hc, huc⟩ := List.mem_flatten.1 hu
        exact f3 c hc u huc) hp (by
        have : xs.length + ys.length ≤ 140737488355328 := Nat.le_trans (Nat.le_mul_of_pos_right _ hb0) hl
        simp only [maxLen]; omega) (by rw [h2]; exact hl) (Nat.zero_le _)
    have hat' : ∀ k, v1.ownBlock = some k → v.ownBlock = some k ∨ W.heap.size ≤ k := by
      intro k hk
      rcases hat with e | ⟨b, e, le⟩
      · exact .inl (e ▸ hk)
      · rw [e] at hk; cases hk; exact .inr le
    have hO : Only (fun k => v.ownBlock = some k) W w1 := ⟨hg.os, hg.tape, hg.output, hg.size, fun k hk hn => hg.block k hk (fun e => hn e.symm)⟩
    have mv : ∀ k, ok k ∨ oky k → w1.heap[k]? = W.heap[k]? := fun k hk => hO.block k (hb k hk) (fun q => by
      rcases hk with hk | hk
      · exact h0' k hk q
      · exact hn k hk q)
    refine ⟨v1, w1, hrun, ⟨fun k hk he => ?_, es ++ fs, ⟨fun _ _ => trivial, inner ++ fs.flatten, ?_, ?_⟩, by simp [h2, f1], fun j t c ha hb' => ?_⟩, hO, hat'⟩
    · rcases hat' k he with q | q
      · rcases hk with hk | hk
        · exact h0' k hk q
        · exact hn k hk q
      · have := hb k hk; omega
    · rw [List.length_append, f1]; exact hq1
    · refine Kd.reps_append (hr.imp_ (fun p c hp => ?_)) ⟨by rw [hflen fs f2]; rfl, fun j c hj => ?_⟩
      · exact hp
      · have : (fs.flatten.drop (j * d.sz)).take d.sz = c := hfget fs f2 j c hj
        have hm := List.mem_of_getElem? hj
        exact ⟨this, by show ((fs.flatten.drop (j * d.sz)).take d.sz).length = d.sz; rw [this]; exact f2 c hm, by show ∀ u ∈ (fs.flatten.drop (j * d.sz)).take d.sz, _; rw [this]; exact f3 c hm⟩
    · rcases Nat.lt_or_ge j xs.length with hj | hj
      · rw [List.getElem?_append_left hj] at ha
        rw [List.getElem?_append_left (by omega)] at hb'
        exact Foot.mono (Foot.step (h3 j t c ha hb') (fun k hk _ => mv k (.inl hk))) (fun k hk => .inl hk)
      · rw [List.getElem?_append_right hj] at ha
        rw [List.getElem?_append_right (by omega), h2] at hb'
        exact Foot.mono (Foot.step (f5 _ t c ha hb') (fun k hk _ => mv k (.inr hk))) (fun k hk => .inr hk)
theorem run_build0 {t : TypeId} {n bytes : Nat} {z : Value} (hu : P.underlying t = some (.slice T)) (hi : (P.info? T).map (fun i => (i.zero, i.size, i.bytes)) = some (some z, n, bytes)) (W : World) :
    (Instr.buildSlice t 0 #[]).run P W = .ok (.slice (some ⟨W.heap.size, 0, none⟩) 0 0) (W.alloc (.cells #[] T)) := by
  cases hie : P.info? T with
  | none => simp [hie] at hi
  | some ie =>
    simp [Instr.buildSlice, run_underlying hu, sizeOf, typeInfo, hie, newRow, Instr.fill]
    congr 2
    apply Array.ext'
    simp
end
section
variable {P : Program} {ops : Array Oper} {Q : Exit → Act → World → Prop} {V : World → Prop} {ds : List Nat} {π : List (Nat × Nat)} {a : Act} {W W' w : World} {n i d1 : Nat} {L : List (Nat × Value)} {ty t T : TypeId} {S R : Nat → Prop} {M : List Asn}
theorem sq_lit0 {α : Type} (d : Kd α) {g : Option (Nat × Bool)} {z : Value} {sz bytes : Nat} (hi : (ops[i]?).map sk = some (some d1, .buildSlice t 0 #[], ty, g)) (hg : On ops L g) (F : Fr n L a) (hd : d1 < n)
    (ht : P.underlying t = some (.slice T)) (hinfo : (P.info? T).map (fun i => (i.zero, i.size, i.bytes)) = some (some z, sz, bytes)) (H : St w S R M W)
    (h : ∀ A W' a', St w S R (M ++ [Asn.qu d T (.slice A 0 0) ([] : List α) (fun _ => False)]) W' → Fr n ((d1, .slice A 0 0) :: L) a' → (i ∉ ds → V W') ∧ wpSeq P ops Q V ds π a' W') : wpSeq P ops Q V ds ((i, 2) :: π) a W := by
  have hb : Below W.heap.size W (W.alloc (.cells #[] T)) := (Below.refl _ W).alloc (Nat.le_refl _) _
  have hn : (W.alloc (.cells #[] T)).heap[W.heap.size]? = some (.cells #[] T (0, 0)) := by simpa using blk_new W (.cells #[] T)
  have HN := H.fresh hb (Asn.qu d T (.slice (some ⟨W.heap.size, 0, none⟩) 0 0) ([] : List α) (fun _ => False)) (Queue.empty d T _ _ hn) (fun k hk => by
    rcases hk with hk | hk
    · have : W.heap.size = k := by simpa [Value.ownBlock] using (show (Value.slice (some ⟨W.heap.size, 0, none⟩) 0 0).ownBlock = some k from hk)
      subst this
      simp
    · exact hk.elim)
  have hh := fun a' => h _ _ a' HN
  refine sqw hi hg F fun o K ho hK => ?_
  obtain ⟨h1, h2, h3⟩ := sk_eq ho
  unfold Oper.wp execOp
  rw [h2]
  have := run_build0 (P := P) ht hinfo W
  simp only [Array.map_empty, this, Sem.run_bind, Result.andThen_ok]
  have q := hh _ (F.put d1 hd _)
  rw [← h1] at q
  exact hK _ _ q.1 q.2
theorem sq_rows {α : Type} (d : Kd α) {g : Option (Nat × Bool)} {s x : Operand} {v : Value} {xs ys : List α} {A : Option Addr} {m cy : Nat} {ok oky : Nat → Prop} {z : Value} {bytes : Nat} (k k' : Nat) {B : Asn} (hkk : k ≠ k')
    (hi : (ops[i]?).map sk = some (some d1, .call { callee := .builtin .append, args := #[s, x], argTypes := #[t, t] }, ty, g)) (hg : On ops L g) (F : Fr n L a) (hd : d1 < n)
    (hs : a.eval s = v) (hx : a.eval x = .slice A m cy) (hm : m = ys.length)
    (ht : P.underlying t = some (.slice T)) (hinfo : (P.info? T).map (fun i => (i.zero, i.size, i.bytes)) = some (some z, d.sz, bytes)) (hz : z.cells.size = d.sz) (hs0 : 0 < d.sz) (hb0 : 0 < bytes)
    (H : St w S R M W) (hk : M[k]? = some (Asn.qu d T v xs ok)) (hk' : M[k']? = some B) (hB : ∀ j, oky j → B.rf j) (hBw : ∀ j, oky j → ¬ B.wf j) (hy : Rows d W A ys oky) (hl : (xs.length + ys.length) * bytes ≤ 140737488355328)
    (h : ∀ v1 W' a', St w S R (M.set k (Asn.qu d T v1 (xs ++ ys) (fun k => ok k ∨ oky k))) W' → Fr n ((d1, v1) :: L) a' → (i ∉ ds → V W') ∧ wpSeq P ops Q V ds π a' W') : wpSeq P ops Q V ds ((i, 2) :: π) a W := by
  subst hm
  have hA := H.has _ (List.mem_of_getElem? hk)
  have hB' := H.has _ (List.mem_of_getElem? hk')
  have hap := H.apart hk hk' hkk
  obtain ⟨v1, w1, r0, r1, r2, r3⟩ := qu_rows (P := P) t ty T z bytes ht hinfo hz hs0 hb0 v xs ys A cy ok oky (H.qu k hk) hy (fun j hj => by
    rcases hj with hj | hj
    · exact hA.2.1 j (.inr hj)
    · exact hB'.2.1 j (.inr (hB j hj))) (fun j hj e => (hap j).1 e (.inr (hB j hj))) hl
  refine sqw hi hg F fun o K ho hK => ?_
  obtain ⟨h1, h2, h3⟩ := sk_eq ho
  unfold Oper.wp execOp
  rw [h2]
  simp only [resolve, invoke, builtin, Sem.run_bind, Sem.run_pure, Result.andThen_ok, List.map_toArray, List.map_cons, List.map_nil, hs, hx, h3, r0, Oper.upon, h1]
  have HN := H.updR k hk (B := Asn.qu d T v1 (xs ++ ys) (fun k => ok k ∨ oky k)) r2 r1 (fun j hj => ?_) r3 (fun j hj => ?_)
  · have := h v1 w1 _ HN (F.put d1 hd v1)
    exact hK _ _ this.1 this.2
  · rcases hj with hj | hj
    · exact r1.lt j hj
    · rcases hj with hj | hj
      · exact Nat.lt_of_lt_of_le (hA.2.1 j (.inr hj)) r2.size
      · exact Nat.lt_of_lt_of_le (hB'.2.1 j (.inr (hB j hj))) r2.size
  · rcases hj with hj | hj
    · exact .inr (.inl hj)
    · exact .inr (.inr (.inr ⟨k', _, Ne.symm hkk, hk', hB j hj, hBw j hj⟩))
theorem sq_rapp {α : Type} (d : Kd α) {g : Option (Nat × Bool)} {s x : Operand} {v : Value} {xs ys : List α} {A : Option Addr} {m cy : Nat} {ok oky : Nat → Prop} {z : Value} {bytes : Nat} (k k' : Nat) (hkk : k ≠ k')
    (hi : (ops[i]?).map sk = some (some d1, .call { callee := .builtin .append, args := #[s, x], argTypes := #[t, t] }, ty, g)) (hg : On ops L g) (F : Fr n L a) (hd : d1 < n)
    (hs : a.eval s = v) (hx : a.eval x = .slice A m cy) (hm : m = ys.length)
    (ht : P.underlying t = some (.slice T)) (hinfo : (P.info? T).map (fun i => (i.zero, i.size, i.bytes)) = some (some z, d.sz, bytes)) (hz : z.cells.size = d.sz) (hs0 : 0 < d.sz) (hb0 : 0 < bytes)
    (H : St w S R M W) (hk : M[k]? = some (Asn.qu d T v xs ok)) (hk' : M[k']? = some (Asn.rd d oky A m ys)) (hl : (xs.length + ys.length) * bytes ≤ 140737488355328)
    (h : ∀ v1 W' a', St w S R (M.set k (Asn.qu d T v1 (xs ++ ys) (fun k => ok k ∨ oky k))) W' → Fr n ((d1, v1) :: L) a' → (i ∉ ds → V W') ∧ wpSeq P ops Q V ds π a' W') : wpSeq P ops Q V ds ((i, 2) :: π) a W :=
  sq_rows d k k' hkk hi hg F hd hs hx hm ht hinfo hz hs0 hb0 H hk hk' (fun _ h => h) (fun _ _ h => h) (Rows.rd hs0 (by subst hm; exact H.get k' hk')) hl h
end
section
variable {α : Type} {d : Kd α} {T : TypeId} {v : Value} {xs : List α} {ok : Nat → Prop} {W w : World} {S R : Nat → Prop} {M : List Asn}
theorem Queue.flat (hd : ∀ W W' t c, d.K W t c → d.K W' t c) (h : Queue d T v xs ok W) : Queue d T v xs (fun _ => False) W := by
  obtain ⟨_, cs, h1, h2, h3⟩ := h
  exact ⟨fun _ h => h.elim, cs, h1, h2, fun j t c a b W' _ => hd _ _ _ _ (h3 j t c a b).now⟩
theorem St.quFlat (H : St w S R M W) (k : Nat) (hd : ∀ W W' t c, d.K W t c → d.K W' t c) (h : M[k]? = some (Asn.qu d T v xs ok)) : St w S R (M.set k (Asn.qu d T v xs (fun _ => False))) W := by
  obtain ⟨b1, b2, b3, b4⟩ := H.has _ (List.mem_of_getElem? h)
  exact H.upd k h (Only.refl _ _) _ ((H.qu k h).flat hd) (fun j hj => b2 j (hj.imp id (fun h => h.elim))) (fun j hj => .inl hj) (fun j hj => hj.elim)
theorem string_flat : ∀ (W W' : World) (t : ByteArray) (c : List Value), Kd.string.K W t c → Kd.string.K W' t c := fun _ _ _ _ h => h
theorem St.addF1 (H : St w S R M W) (k : Nat) {A : Asn} (h : M[k]? = some A) (n : ∀ j, ¬ A.wf j) (p : World → Prop) (ok : Nat → Prop) (hok : ∀ j, ok j → A.rf j) (hp : Foot p W ok) : St w S R (M ++ [Asn.ft p ok]) W := by
  have g := H.has _ (List.mem_of_getElem? h)
  refine H.add _ hp (fun j hj => ?_) (fun j hj => hj.elim) (fun j hj => ⟨g.2.2.2 j (hok j hj), fun B hB hw => ?_⟩)
  · rcases hj with hj | hj
    · exact hj.elim
    · exact g.2.1 j (.inr (hok j hj))
  · obtain ⟨i, hi⟩ := List.mem_iff_getElem?.1 hB
    by_cases e : i = k
    · subst e
      rw [hi] at h
      cases h
      exact n j hw
    · exact (H.apart hi h e j).1 hw (.inr (hok j hj))
abbrev Asn.cl (ad : Addr) (cs : List Value) (ok : Nat → Prop) : Asn := Asn.ft (fun W => ∀ i v, cs[i]? = some v → W.cell? (ad.add i) = some v) ok
theorem args_0 {a : Act} : (#[] : Array Operand).map a.eval = #[] := by simp
theorem ev_c (a : Act) (v : Value) : a.eval (.const v) = v := rfl
theorem addr_add_add (q : Addr) (x y : Nat) : (q.add x).add y = q.add (x + y) := by
  rcases q with ⟨_, _, _ | _⟩ <;> by_cases hx : x = 0 <;> by_cases hy : y = 0 <;> simp [Addr.add, hx, hy, Nat.add_assoc]
theorem addr_block (q : Addr) (x : Nat) : (q.add x).block = q.block := by unfold Addr.add; split <;> rfl
theorem cl1 {ad : Addr} {cs : List Value} {ok : Nat → Prop} (h : (Asn.cl ad cs ok).holds W) (o : Nat) {v : Value} (hv : cs[o]? = some v) : W.cell? (ad.add o) = some v := (Foot.now h) o v hv
theorem clnz {ad : Addr} {cs : List Value} {ok : Nat → Prop} (h : (Asn.cl ad cs ok).holds W) (vs : List Value) (hv : cs.take vs.length = vs) : ∀ j u, vs[j]? = some u → W.cell? (ad.add j) = some u := by
  intro j u hj
  have hl := (List.getElem?_eq_some_iff.1 hj).1
  rw [← hv, List.getElem?_take, if_pos hl] at hj
  exact cl1 h j hj
theorem St.elem {α : Type} {d : Kd α} {xs : List α} {ok : Nat → Prop} {A : Option Addr} {n : Nat} (H : St w S R M W) (k : Nat) (h : M[k]? = some (Asn.rd d ok A n xs)) (hsz : 0 < d.sz) (j : Nat) (t : α) (hj : xs[j]? = some t) :
    ∃ ad cs, A = some ad ∧ d.K W t cs ∧ St w S R (M ++ [Asn.fk d ok t cs, Asn.cl (ad.add (j * d.sz)) cs ok]) W := by
  have hC : Foot (fun W => d.C W A n xs) W ok := H.get k h
  have hl := (List.getElem?_eq_some_iff.1 hj).1
  have hn : xs.length = n := hC.now.1
  subst hn
  obtain ⟨ad, rfl, _⟩ := hC.now.2.2 (by omega)
  obtain ⟨ha, es, e1, e2, e3, e4, e5⟩ := rd_rows hsz hC (by omega)
  have hej : es[j]? = some es[j] := List.getElem?_eq_getElem (by omega)
  have hF := e5 j t _ hj hej
  refine ⟨ad, es[j], rfl, hF.now, ?_⟩
  have H1 := H.addF1 k h (fun _ q => q) _ ok (fun _ q => q) hF
  have H2 := H1.addF1 k (p := fun W => ∀ i v, es[j][i]? = some v → W.cell? ((ad.add (j * d.sz)).add i) = some v) (A := Asn.rd d ok (some ad) xs.length xs) (by rw [List.getElem?_append_left (List.getElem?_eq_some_iff.1 h).1]; exact h) (fun _ q => q) ok (fun _ q => q) (fun W' hW i v hi => by
    have hc := e4 j _ hej i v hi
    rw [addr_add_add]
    have hlt := World.block_lt_of_cell? W _ hc
    rw [addr_block] at hlt
    rw [World.cell?_of_block (w := W) (w' := W') (by rw [addr_block]; exact hW _ ha hlt)]
    exact hc)
  rw [List.append_assoc] at H2
  exact H2
theorem St.addF (H : St w S R M W) (k1 k2 : Nat) {A1 A2 : Asn} (h1 : M[k1]? = some A1) (h2 : M[k2]? = some A2) (n1 : ∀ j, ¬ A1.wf j) (n2 : ∀ j, ¬ A2.wf j) (p : World → Prop) (hp : Foot p W (fun j => A1.rf j ∨ A2.rf j)) : St w S R (M ++ [Asn.ft p (fun j => A1.rf j ∨ A2.rf j)]) W := by
  have g1 := H.has _ (List.mem_of_getElem? h1)
  have g2 := H.has _ (List.mem_of_getElem? h2)
  have ap : ∀ (k : Nat) (A : Asn), M[k]? = some A → (∀ j, ¬ A.wf j) → ∀ j, A.rf j → ∀ B ∈ M, ¬ B.wf j := by
    intro k A hk hn j hj B hB hw
    obtain ⟨i, hi⟩ := List.mem_iff_getElem?.1 hB
    by_cases e : i = k
    · subst e
      rw [hi] at hk
      cases hk
      exact hn j hw
    · exact (H.apart hi hk e j).1 hw (.inr hj)
  refine H.add _ hp (fun j hj => ?_) (fun j hj => hj.elim) (fun j hj => ?_)
  · rcases hj with hj | hj | hj
    · exact hj.elim
    · exact g1.2.1 j (.inr hj)
    · exact g2.2.1 j (.inr hj)
  · rcases hj with hj | hj
    · exact ⟨g1.2.2.2 j hj, ap k1 A1 h1 n1 j hj⟩
    · exact ⟨g2.2.2.2 j hj, ap k2 A2 h2 n2 j hj⟩
end
section
variable {P : Program} {a : Act} {W : World} {x y : Operand} {ty : TypeId}
theorem x_indexE {s e : TypeId} {k : IntKind} {j n c m : Nat} {A : Option Addr} {ad : Addr} (hu : P.underlying s = some (.slice e)) (hz : (sizeOf e).run P W = .ok m W) (hx : a.eval x = .slice A n c) (hA : A = some ad) (hy : a.eval y = .int k (j : Int)) (h1 : j < n) : (ex a (.indexAddr s x y) ty).run P W = .ok (.value (.pointer (some (ad.add (j * m))))) W := by
  subst hA
  have := x_indexSl (P := P) (ty := ty) hu hz hx hy (Int.natCast_nonneg j) (by omega)
  rwa [Int.toNat_natCast] at this
end
end Go.Proofs.YtndicjikjcifaaaDoor

/- A queue whose front is taken off and read a while: both lie in one block. Plain lemmas, no program in sight. -/
namespace Go.Proofs.YtndicjikjcifaaaDoor
open Go.RowKit Go.Proofs.YtndicjikjcifaaaDoorW.PrintWords Go.Proofs.YtndicjikjcifaaaDoorW.PrintLast
set_option linter.unusedVariables false
set_option linter.unusedSimpArgs false
set_option linter.unusedSectionVars false
theorem Rows.move {α : Type} {d : Kd α} {W W' : World} {A : Option Addr} {m : Nat} {ys : List α} {ok ok' : Nat → Prop} (hsz : 0 < d.sz) (hC : Foot (fun W => d.C W A m ys) W ok') (h : Rows d W A ys ok) (hm : ∀ k, ok' k ∨ ok k → W'.heap[k]? = W.heap[k]?) : Rows d W' A ys ok := by
  obtain rfl : ys.length = m := hC.now.1
  rcases h with h | ⟨ad, es, rfl, h1, h2, h3, h4, h5⟩
  · exact .inl h
  · by_cases h0 : ys.length = 0
    · exact .inl h0
    · have ha := (rd_rows hsz hC (by omega)).1
      refine .inr ⟨ad, es, rfl, h1, h2, h3, fun j c hj i u hu => ?_, fun j t c ht hc => Foot.step (h5 j t c ht hc) (fun k hk _ => hm k (.inr hk))⟩
      have hc := h4 j c hj i u hu
      rw [World.cell?_of_block (w := W) (w' := W') (by rw [addr_block]; exact hm _ (.inl ha))]
      exact hc
def Asn.qf {α : Type} (d : Kd α) (T : TypeId) (v : Value) (xs : List α) (ok : Nat → Prop) (A : Option Addr) (m : Nat) (ys : List α) : Asn :=
  ⟨fun k => v.ownBlock = some k, ok, fun W => 0 < d.sz ∧ Queue d T v xs ok W ∧ Foot (fun W => d.C W A m ys) W (fun k => v.ownBlock = some k ∨ ok k) ∧ Rows d W A ys ok,
    fun W W' h e => ⟨h.1, h.2.1.move e, Foot.step h.2.2.1 (fun k hk _ => e k hk), Rows.move h.1 h.2.2.1 h.2.2.2 (fun k hk => e k (hk.elim id .inr))⟩⟩
section
variable {α : Type} {d : Kd α} {T : TypeId} {xs ys : List α} {ok : Nat → Prop} {W w : World} {S R : Nat → Prop} {M : List Asn}
theorem own_cut (A : Option Addr) (n c n' c' m s : Nat) : (Value.slice (if c = m then A else A.map (·.add (m * s))) n' c').ownBlock = (Value.slice A n c).ownBlock := by
  split
  · cases A <;> rfl
  · cases A with
    | none => rfl
    | some a => simp [Value.ownBlock]; unfold Addr.add; split <;> rfl
theorem St.quCut (H : St w S R M W) (hsz : 0 < d.sz) (k : Nat) {A : Option Addr} {c : Nat} (h : M[k]? = some (Asn.qu d T (.slice A xs.length c) xs ok)) (m : Nat) (hm : m ≤ xs.length) :
    St w S R (M.set k (Asn.qf d T (.slice (if c = m then A else A.map (·.add (m * d.sz))) (xs.length - m) (c - m)) (xs.drop m) ok A m (xs.take m))) W := by
  have hb := own_cut A xs.length c (xs.length - m) (c - m) m d.sz
  have hq := H.qu k h
  obtain ⟨b1, b2, b3⟩ := H.has _ (List.mem_of_getElem? h)
  have hf := Queue.foot hq b2
  have hl : (xs.take m).length = m := by rw [List.length_take]; omega
  refine H.upd k h (Only.refl _ _) _ ⟨hsz, hq.drop hm, ?_, Rows.qu hq m hm⟩ (fun j hj => b2 j ?_) (fun j hj => .inl ?_) (fun j hj => .inr (.inl hj))
  · rw [hb]
    intro W' hW
    have := Kd.C_take (hf W' hW) hm
    rw [hl] at this
    exact this
  · rcases hj with hj | hj
    · exact .inl (hb ▸ hj : (Value.slice A xs.length c).ownBlock = some j)
    · exact .inr hj
  · exact (hb ▸ hj : (Value.slice A xs.length c).ownBlock = some j)
theorem St.qfRead (H : St w S R M W) (k : Nat) {v : Value} {A : Option Addr} {m : Nat} (h : M[k]? = some (Asn.qf d T v xs ok A m ys)) : d.C W A m ys := Foot.now (H.get k h).2.2.1
end
section
variable {P : Program} {ops : Array Oper} {Q : Exit → Act → World → Prop} {V : World → Prop} {ds : List Nat} {π : List (Nat × Nat)} {a : Act} {W W' w : World} {n i d1 : Nat} {L : List (Nat × Value)} {ty t T : TypeId} {S R : Nat → Prop} {M : List Asn}
end
section
variable {P : Program} {a : Act} {W : World} {x : Operand} {ty : TypeId}
theorem x_sliceLm {s e : TypeId} {A : Option Addr} {n c m z : Nat} {k j : IntKind} {hi mx : Operand} (hu : P.underlying s = some (.slice e)) (hz : (sizeOf e).run P W = .ok z W) (hx : a.eval x = .slice A n c) (hy : a.eval hi = .int k (m : Int)) (hy2 : a.eval mx = .int j (m : Int)) (hm : m ≤ c) : (ex a (.slice s x none (some hi) (some mx)) ty).run P W = .ok (.value (.slice A m m)) W := by
  have e0 : ∀ q : Addr, q.add 0 = q := fun q => by rcases q with ⟨_, _, _ | _⟩ <;> simp [Addr.add]
  have e1 : A.map (fun q : Addr => q.add 0) = A := by cases A <;> simp [e0]
  simp [ex, execOp, Instr.sliceAt, Instr.slice, Instr.sliceBounds, Instr.sliceBound, run_underlying hu, hx, hy, hy2, asIntOf, hz, hm, e1]
theorem x_sliceLl {s e : TypeId} {A : Option Addr} {n c m z : Nat} {k : IntKind} {lo : Operand} (hu : P.underlying s = some (.slice e)) (hz : (sizeOf e).run P W = .ok z W) (hx : a.eval x = .slice A n c) (hy : a.eval lo = .int k (m : Int)) (hm : m ≤ n) : (ex a (.slice s x (some lo) none none) ty).run P W = .ok (.value (.slice (if c = m then A else A.map (·.add (m * z))) (n - m) (c - m))) W := by
  simp [ex, execOp, Instr.sliceAt, Instr.slice, Instr.sliceBounds, Instr.sliceBound, run_underlying hu, hx, hy, asIntOf, hz, hm]
end
end Go.Proofs.YtndicjikjcifaaaDoor
