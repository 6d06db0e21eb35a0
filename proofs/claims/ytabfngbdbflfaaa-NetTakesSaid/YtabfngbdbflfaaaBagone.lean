/- One bag, or two beside each other, in a world: what a call on one leaves. -/
import Derived.Test.YtabfngbdbflfaaaBagall
namespace Go.Proofs.Ytabfngbdbflfaaa
open Go.RowKit Go.Proofs.YtabfngbdbflfaaaW.PrintWords Go.Proofs.YtabfngbdbflfaaaW.PrintLast Go.Proofs.Ytabfngbdbflfaaa.PNetKeeps
set_option linter.unusedVariables false
set_option linter.unusedSimpArgs false

/-- A bag whose blocks are none of L. -/
def One (T base : Nat) (w : World) (g : Nat) (xs : List Env) (lost : Int) (L : List Nat) : Prop :=
  ∃ ok : Nat → Prop, IsBag T base w ok g xs lost ∧ (∀ k, ok k → base ≤ k ∧ k < w.heap.size) ∧ ∀ b ∈ L, ¬ ok b ∧ b < w.heap.size
def Both (base : Nat) (w : World) (g1 g2 : Nat) (xs : List Env) (l : Int) (ys : List Env) (m : Int) (L : List Nat) : Prop :=
  ∃ ok1 ok2 : Nat → Prop, IsBag 46 base w ok1 g1 xs l ∧ IsBag 40 base w ok2 g2 ys m ∧ (∀ k, ok1 k → base ≤ k ∧ k < w.heap.size) ∧ (∀ k, ok2 k → base ≤ k ∧ k < w.heap.size) ∧ (∀ k, ok1 k → ok2 k → False) ∧ ∀ b ∈ L, ¬ ok1 b ∧ ¬ ok2 b ∧ b < w.heap.size
/-- The blocks of L are as they were. -/
def Stay (L : List Nat) (w w' : World) : Prop := ∀ b ∈ L, w'.heap[b]? = w.heap[b]?

theorem bag_lt {T base : Nat} {w : World} {ok : Nat → Prop} {g : Nat} {xs : List Env} {l : Int} (h : IsBag T base w ok g xs l) : IsBag T base w (fun k => ok k ∧ k < w.heap.size) g xs l := h.mono (fun k hk hl => ⟨hk, hl⟩)
section
variable {T base : Nat} {w w' : World} {g g1 g2 : Nat} {xs xs' ys ys' : List Env} {l l' m m' : Int} {L L' : List Nat}
theorem One.below (h : One T base w g xs l L) (hb : Below w.heap.size w w') : One T base w' g xs l L := by
  obtain ⟨ok, h1, h2, h3⟩ := h
  exact ⟨ok, h1.only (S := fun _ => False) (Only.of_below hb) (fun _ _ h => h), fun k hk => ⟨(h2 k hk).1, Nat.lt_of_lt_of_le (h2 k hk).2 hb.size⟩, fun b hb' => ⟨(h3 b hb').1, Nat.lt_of_lt_of_le (h3 b hb').2 hb.size⟩⟩
theorem Both.below (h : Both base w g1 g2 xs l ys m L) (hb : Below w.heap.size w w') : Both base w' g1 g2 xs l ys m L := by
  obtain ⟨ok1, ok2, h1, h2, h3, h4, h5, h6⟩ := h
  exact ⟨ok1, ok2, h1.only (S := fun _ => False) (Only.of_below hb) (fun _ _ h => h), h2.only (S := fun _ => False) (Only.of_below hb) (fun _ _ h => h), fun k hk => ⟨(h3 k hk).1, Nat.lt_of_lt_of_le (h3 k hk).2 hb.size⟩, fun k hk => ⟨(h4 k hk).1, Nat.lt_of_lt_of_le (h4 k hk).2 hb.size⟩, h5, fun b hb' => ⟨(h6 b hb').1, (h6 b hb').2.1, Nat.lt_of_lt_of_le (h6 b hb').2.2 hb.size⟩⟩
theorem One.sub (h : One T base w g xs l L) (hs : ∀ b ∈ L', b ∈ L) : One T base w g xs l L' := by
  obtain ⟨ok, h1, h2, h3⟩ := h
  exact ⟨ok, h1, h2, fun b hb => h3 b (hs b hb)⟩
theorem Both.sub (h : Both base w g1 g2 xs l ys m L) (hs : ∀ b ∈ L', b ∈ L) : Both base w g1 g2 xs l ys m L' := by
  obtain ⟨ok1, ok2, h1, h2, h3, h4, h5, h6⟩ := h
  exact ⟨ok1, ok2, h1, h2, h3, h4, h5, fun b hb => h6 b (hs b hb)⟩
/-- A new block is none of a bag's. -/
theorem One.new (h : One T base w g xs l L) (o : Obj) : One T base (w.alloc o) g xs l (w.heap.size :: L) := by
  obtain ⟨ok, h1, h2, h3⟩ := h.below ((Below.refl _ w).alloc (Nat.le_refl _) o)
  obtain ⟨ok', h1', h2', h3'⟩ := h
  have hb := ((Below.refl w.heap.size w).alloc (Nat.le_refl _) o)
  refine ⟨ok', h1'.only (S := fun _ => False) (Only.of_below hb) (fun _ _ h => h), fun k hk => ⟨(h2' k hk).1, Nat.lt_of_lt_of_le (h2' k hk).2 hb.size⟩, fun b hb' => ?_⟩
  rcases List.mem_cons.1 hb' with rfl | hb'
  · exact ⟨fun hk => by have := (h2' _ hk).2; omega, by simp⟩
  · exact ⟨(h3' b hb').1, Nat.lt_of_lt_of_le (h3' b hb').2 hb.size⟩
theorem Both.new (h : Both base w g1 g2 xs l ys m L) (o : Obj) : Both base (w.alloc o) g1 g2 xs l ys m (w.heap.size :: L) := by
  obtain ⟨ok1, ok2, h1, h2, h3, h4, h5, h6⟩ := h
  have hb := ((Below.refl w.heap.size w).alloc (Nat.le_refl _) o)
  refine ⟨ok1, ok2, h1.only (S := fun _ => False) (Only.of_below hb) (fun _ _ h => h), h2.only (S := fun _ => False) (Only.of_below hb) (fun _ _ h => h), fun k hk => ⟨(h3 k hk).1, Nat.lt_of_lt_of_le (h3 k hk).2 hb.size⟩, fun k hk => ⟨(h4 k hk).1, Nat.lt_of_lt_of_le (h4 k hk).2 hb.size⟩, h5, fun b hb' => ?_⟩
  rcases List.mem_cons.1 hb' with rfl | hb'
  · exact ⟨fun hk => by have := (h3 _ hk).2; omega, fun hk => by have := (h4 _ hk).2; omega, by simp⟩
  · exact ⟨(h6 b hb').1, (h6 b hb').2.1, Nat.lt_of_lt_of_le (h6 b hb').2.2 hb.size⟩
theorem One.drew (h : One T base w g xs l L) : One T base w.drew g xs l L := h.below (Below.refl _ _).drew
theorem Both.drew (h : Both base w g1 g2 xs l ys m L) : Both base w.drew g1 g2 xs l ys m L := h.below (Below.refl _ _).drew
theorem Both.drewN (h : Both base w g1 g2 xs l ys m L) (n : Nat) : Both base (w.drewN n) g1 g2 xs l ys m L := h.below ((Below.refl _ _).trans ⟨rfl, rfl, rfl, Nat.le_refl _, fun _ _ => rfl⟩)

theorem one_call (h : One T base w g xs l L) (hb : base ≤ w.heap.size) {fn : FuncId} {args : Array Value} {E : Ending → Prop}
    (f : ∀ ok, IsBag T base w ok g xs l → Calls Try.prog fn args w fun e w' => E e ∧ IsBag T base w' (fun k => ok k ∨ w.heap.size ≤ k) g xs' l' ∧ Only ok w w') :
    Calls Try.prog fn args w fun e w' => E e ∧ One T base w' g xs' l' L ∧ Stay L w w' ∧ Below base w w' := by
  obtain ⟨ok, h1, h2, h3⟩ := h
  refine (f ok h1).mono ?_
  rintro e w' ⟨he, hi, ho⟩
  refine ⟨he, ⟨_, bag_lt hi, fun k hk => ⟨by rcases hk.1 with hk | hk; exact (h2 k hk).1; omega, hk.2⟩, fun b hb' => ⟨?_, Nat.lt_of_lt_of_le (h3 b hb').2 ho.size⟩⟩, fun b hb' => ho.block b (h3 b hb').2 (h3 b hb').1, ho.below hb (fun k hk => (h2 k hk).1)⟩
  rintro ⟨hk | hk, _⟩
  · exact (h3 b hb').1 hk
  · have := (h3 b hb').2; omega
theorem one_read (h : One T base w g xs l L) {fn : FuncId} {args : Array Value} {E : Ending → Prop}
    (f : ∀ ok, IsBag T base w ok g xs l → Calls Try.prog fn args w fun e w' => E e ∧ Below w.heap.size w w') :
    Calls Try.prog fn args w fun e w' => E e ∧ One T base w' g xs l L ∧ Below w.heap.size w w' := by
  obtain ⟨ok, h1, _⟩ := id h
  refine (f ok h1).mono ?_
  rintro e w' ⟨he, hb⟩
  exact ⟨he, h.below hb, hb⟩
theorem both_left (h : Both base w g1 g2 xs l ys m L) (hb : base ≤ w.heap.size) {fn : FuncId} {args : Array Value} {E : Ending → Prop}
    (f : ∀ ok, IsBag 46 base w ok g1 xs l → Calls Try.prog fn args w fun e w' => E e ∧ IsBag 46 base w' (fun k => ok k ∨ w.heap.size ≤ k) g1 xs' l' ∧ Only ok w w') :
    Calls Try.prog fn args w fun e w' => E e ∧ Both base w' g1 g2 xs' l' ys m L ∧ Stay L w w' ∧ Below base w w' := by
  obtain ⟨ok1, ok2, h1, h2, h3, h4, h5, h6⟩ := h
  refine (f ok1 h1).mono ?_
  rintro e w' ⟨he, hi, ho⟩
  refine ⟨he, ⟨_, ok2, bag_lt hi, h2.only ho (fun k hk hk1 => h5 k hk1 hk), fun k hk => ⟨by rcases hk.1 with hk | hk; exact (h3 k hk).1; omega, hk.2⟩, fun k hk => ⟨(h4 k hk).1, Nat.lt_of_lt_of_le (h4 k hk).2 ho.size⟩, ?_, fun b hb' => ⟨?_, (h6 b hb').2.1, Nat.lt_of_lt_of_le (h6 b hb').2.2 ho.size⟩⟩, fun b hb' => ho.block b (h6 b hb').2.2 (h6 b hb').1, ho.below hb (fun k hk => (h3 k hk).1)⟩
  · rintro k ⟨hk | hk, _⟩ hk2
    · exact h5 k hk hk2
    · have := (h4 k hk2).2; omega
  · rintro ⟨hk | hk, _⟩
    · exact (h6 b hb').1 hk
    · have := (h6 b hb').2.2; omega
theorem both_right (h : Both base w g1 g2 xs l ys m L) (hb : base ≤ w.heap.size) {fn : FuncId} {args : Array Value} {E : Ending → Prop}
    (f : ∀ ok, IsBag 40 base w ok g2 ys m → Calls Try.prog fn args w fun e w' => E e ∧ IsBag 40 base w' (fun k => ok k ∨ w.heap.size ≤ k) g2 ys' m' ∧ Only ok w w') :
    Calls Try.prog fn args w fun e w' => E e ∧ Both base w' g1 g2 xs l ys' m' L ∧ Stay L w w' ∧ Below base w w' := by
  obtain ⟨ok1, ok2, h1, h2, h3, h4, h5, h6⟩ := h
  refine (f ok2 h2).mono ?_
  rintro e w' ⟨he, hi, ho⟩
  refine ⟨he, ⟨ok1, _, h1.only ho (fun k hk hk1 => h5 k hk hk1), bag_lt hi, fun k hk => ⟨(h3 k hk).1, Nat.lt_of_lt_of_le (h3 k hk).2 ho.size⟩, fun k hk => ⟨by rcases hk.1 with hk | hk; exact (h4 k hk).1; omega, hk.2⟩, ?_, fun b hb' => ⟨(h6 b hb').1, ?_, Nat.lt_of_lt_of_le (h6 b hb').2.2 ho.size⟩⟩, fun b hb' => ho.block b (h6 b hb').2.2 (h6 b hb').2.1, ho.below hb (fun k hk => (h4 k hk).1)⟩
  · rintro k hk1 ⟨hk | hk, _⟩
    · exact h5 k hk1 hk
    · have := (h3 k hk1).2; omega
  · rintro ⟨hk | hk, _⟩
    · exact (h6 b hb').2.1 hk
    · have := (h6 b hb').2.2; omega
theorem both_readl (h : Both base w g1 g2 xs l ys m L) {fn : FuncId} {args : Array Value} {E : Ending → Prop}
    (f : ∀ ok, IsBag 46 base w ok g1 xs l → Calls Try.prog fn args w fun e w' => E e ∧ Below w.heap.size w w') :
    Calls Try.prog fn args w fun e w' => E e ∧ Both base w' g1 g2 xs l ys m L ∧ Below w.heap.size w w' := by
  obtain ⟨ok1, ok2, h1, h2, _⟩ := id h
  refine (f ok1 h1).mono ?_
  rintro e w' ⟨he, hb⟩
  exact ⟨he, h.below hb, hb⟩
theorem both_readr (h : Both base w g1 g2 xs l ys m L) {fn : FuncId} {args : Array Value} {E : Ending → Prop}
    (f : ∀ ok, IsBag 40 base w ok g2 ys m → Calls Try.prog fn args w fun e w' => E e ∧ Below w.heap.size w w') :
    Calls Try.prog fn args w fun e w' => E e ∧ Both base w' g1 g2 xs l ys m L ∧ Below w.heap.size w w' := by
  obtain ⟨ok1, ok2, h1, h2, _⟩ := id h
  refine (f ok2 h2).mono ?_
  rintro e w' ⟨he, hb⟩
  exact ⟨he, h.below hb, hb⟩
end
theorem room_le {xs : List Env} {x : Env} (h : xs.length ≤ 256) : (snt xs x).length ≤ 256 := by
  unfold snt room
  split
  · rename_i h1; simp at h1; simp; omega
  · exact h
end Go.Proofs.Ytabfngbdbflfaaa
