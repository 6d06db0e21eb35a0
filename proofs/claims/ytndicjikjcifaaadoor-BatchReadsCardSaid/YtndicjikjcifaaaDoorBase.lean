/- Words on worlds of which only some blocks may have changed: plain lemmas, no program in sight. -/
import Derived.Test.YtndicjikjcifaaaDoorWSized
import Derived.Test.YtndicjikjcifaaaDoorWKept
import Derived.Test.YtndicjikjcifaaaDoorWShare
import Derived.Test.YtndicjikjcifaaaDoorWMore
import Derived.Lib.Hide
import Derived.Deep.AppendLies
import Derived.WalkKit
import Derived.Laws.CopyRow
import Derived.Laws.CopyOwn
namespace Go.Proofs.YtndicjikjcifaaaDoor
open Go.RowKit Go.Proofs.YtndicjikjcifaaaDoorW.PrintWords Go.Proofs.YtndicjikjcifaaaDoorW.PrintLast

/-- Only the blocks of S (and new ones) may have changed. -/
structure Only (S : Nat → Prop) (w w' : World) : Prop where
  os : w'.os = w.os
  tape : w'.tape = w.tape
  output : w'.output = w.output
  size : w.heap.size ≤ w'.heap.size
  block : ∀ k, k < w.heap.size → ¬ S k → w'.heap[k]? = w.heap[k]?

theorem Only.refl (S : Nat → Prop) (w : World) : Only S w w := ⟨rfl, rfl, rfl, Nat.le_refl _, fun _ _ _ => rfl⟩
theorem Only.of_below {S : Nat → Prop} {w w' : World} (h : Below w.heap.size w w') : Only S w w' :=
  ⟨h.os, h.tape, h.output, h.size, fun k hk _ => h.block k hk⟩
theorem Only.trans {S S' : Nat → Prop} {a b c : World} (h : Only S a b) (k : Only S' b c) (hS : ∀ i, i < a.heap.size → S' i → S i) : Only S a c :=
  ⟨k.os.trans h.os, k.tape.trans h.tape, k.output.trans h.output, Nat.le_trans h.size k.size, fun i hi hn =>
    (k.block i (Nat.lt_of_lt_of_le hi h.size) (fun hs => hn (hS i hi hs))).trans (h.block i hi hn)⟩
theorem Only.mono {S S' : Nat → Prop} {a b : World} (h : Only S a b) (hS : ∀ i, S i → S' i) : Only S' a b :=
  ⟨h.os, h.tape, h.output, h.size, fun i hi hn => h.block i hi (fun hs => hn (hS i hs))⟩
theorem Only.below {S : Nat → Prop} {a b : World} (h : Only S a b) {B : Nat} (hB : B ≤ a.heap.size) (hS : ∀ i, S i → B ≤ i) : Below B a b :=
  ⟨h.os, h.tape, h.output, h.size, fun i hi => h.block i (Nat.lt_of_lt_of_le hi hB) (fun hs => by have := hS i hs; omega)⟩
theorem Only.drew {S : Nat → Prop} {a w : World} (h : Only S a w) : Only S a w.drew := ⟨h.os, h.tape, h.output, h.size, h.block⟩
theorem Only.drewN {S : Nat → Prop} {a w : World} (h : Only S a w) (n : Nat) : Only S a (w.drewN n) := ⟨h.os, h.tape, h.output, h.size, h.block⟩
theorem Only.alloc {S : Nat → Prop} {a w : World} (h : Only S a w) (o : Obj) : Only S a (w.alloc o) :=
  h.trans (Only.of_below ((Below.refl _ w).alloc (Nat.le_refl _) o) (S := S)) (fun _ _ h => h)
theorem Only.set {S : Nat → Prop} {a w : World} (h : Only S a w) {p : Addr} (hp : S p.block ∨ a.heap.size ≤ p.block) (u : Value) : Only S a (w.setCell p u) :=
  ⟨h.os, h.tape, h.output, by simpa [World.setCell] using h.size, fun i hi hn => (Below.heap_setCell w p u i (fun e => by
    subst e
    rcases hp with hp | hp
    · exact hn hp
    · omega)).trans (h.block i hi hn)⟩
theorem Only.grown {S : Nat → Prop} {a w w' : World} {row : Option Nat} (h : Only S a w) (hg : w.grownBy w' row) (hr : ∀ k, row = some k → S k ∨ a.heap.size ≤ k) : Only S a w' :=
  ⟨hg.os.trans h.os, hg.tape.trans h.tape, hg.output.trans h.output, Nat.le_trans h.size hg.size, fun i hi hn =>
    (hg.block i (Nat.lt_of_lt_of_le hi h.size) (fun e => by
      rcases hr i e.symm with hp | hp
      · exact hn hp
      · omega)).trans (h.block i hi hn)⟩
theorem blk_newAt (w : World) (o : Obj) {n : Nat} (h : w.heap.size = n) : (w.alloc o).heap[n]? = some o := by
  subst h
  exact blk_new w o
theorem Kd.R_only {α : Type} {d : Kd α} {e : Nat} {w w' : World} {base : Nat} {ok S : Nat → Prop} {v : Value} {xs : List α} (h : Kd.R d e w base ok v xs) (ho : Only S w w') (hd : ∀ k, ok k → ¬ S k) : Kd.R d e w' base ok v xs :=
  Kd.R_step h (fun k hk hlt => ho.block k hlt (hd k hk))
theorem C_of_R {w : World} {base e : Nat} {ok : Nat → Prop} {A : Option Addr} {n c : Nat} {xs : List ByteArray} (h : Kd.R Kd.string e w base ok (.slice A n c) xs) : Kd.C Kd.string w A xs.length xs := by
  obtain ⟨A', c', he, _, hC⟩ := Kd.R_reads h
  cases he
  exact hC
theorem at_world {B F : World → Prop} {Z : World} (hz : F Z) (h : ∀ Z, F Z → B Z) : B Z := h Z hz
end Go.Proofs.YtndicjikjcifaaaDoor

/- Laws of append on rows of the call's own, told over an elder world: plain lemmas, no program in sight. -/
namespace Go.Proofs.YtndicjikjcifaaaDoor
open Go.RowKit Go.Proofs.YtndicjikjcifaaaDoorW.PrintWords Go.Proofs.YtndicjikjcifaaaDoorW.PrintLast

section
variable {P : Program} {ops : Array Oper} {o : Oper} {a : Act} {Q : Exit → Act → World → Prop} {α : Type}
theorem add0 (B j : Nat) : (⟨B, 0, none⟩ : Addr).add j = ⟨B, j, none⟩ := by unfold Addr.add; split <;> simp_all

theorem addo (B o j : Nat) : (⟨B, o, none⟩ : Addr).add j = ⟨B, o + j, none⟩ := by unfold Addr.add; split <;> simp_all
end
end Go.Proofs.YtndicjikjcifaaaDoor

/- Rows of flat elements: append of one, copy within a row. Plain lemmas, no program in sight. -/
namespace Go.Proofs.YtndicjikjcifaaaDoor
open Go.RowKit Go.Proofs.YtndicjikjcifaaaDoorW.PrintWords Go.Proofs.YtndicjikjcifaaaDoorW.PrintLast

/-- A row of the call's own that holds flat elements. -/
def FR {α : Type} (c : α → List Value) (sz e base : Nat) (w : World) (v : Value) (xs : List α) : Prop := w.ownsRow base e sz v xs.length (xs.flatMap c)

section
variable {P : Program} {ops : Array Oper} {o : Oper} {a : Act} {Q : Exit → Act → World → Prop} {α : Type} {c : α → List Value} {sz e base : Nat} {w w' : World} {v : Value} {xs : List α}

theorem FR.nil (c : α → List Value) (sz e base : Nat) (w : World) : FR c sz e base w (.slice none 0 0) [] := ⟨by simp, .inl ⟨rfl, rfl⟩⟩
theorem FR.move (h : FR c sz e base w v xs) (hm : ∀ k, v.ownBlock = some k → w'.heap[k]? = w.heap[k]?) : FR c sz e base w' v xs := own_move h hm
theorem FR.lt (h : FR c sz e base w v xs) (k : Nat) (hk : v.ownBlock = some k) : base ≤ k ∧ k < w.heap.size := ⟨own_base h k hk, own_lt h k hk⟩
theorem FR.only {S : Nat → Prop} (h : FR c sz e base w v xs) (ho : Only S w w') (hd : ∀ k, v.ownBlock = some k → ¬ S k) : FR c sz e base w' v xs :=
  h.move (fun k hk => ho.block k (h.lt k hk).2 (hd k hk))
theorem FR.below (h : FR c sz e base w v xs) (hb : Below w.heap.size w w') : FR c sz e base w' v xs :=
  h.move (fun k hk => hb.block k (h.lt k hk).2)
theorem FR.form (h : FR c sz e base w v xs) : ∃ A cap, v = .slice A xs.length cap ∧ xs.length ≤ cap := by
  rcases h.2 with ⟨rfl, h0⟩ | ⟨g, cap, cur, rfl, _, _, hc, _⟩
  · exact ⟨none, 0, by rw [h0], by omega⟩
  · exact ⟨_, _, rfl, hc⟩

theorem FR.some (h : FR c sz e base w v xs) (hn : 0 < xs.length) : ∃ b cap cur, v = .slice (some ⟨b, 0, none⟩) xs.length cap ∧ base ≤ b ∧ w.heap[b]? = some (.cells cur e (0, 0)) ∧ xs.length ≤ cap ∧ cap ≤ maxLen ∧ cur.size = cap * sz ∧ cur.toList.take (xs.length * sz) = xs.flatMap c := by
  rcases h.2 with ⟨_, h0⟩ | h
  · omega
  · exact h

theorem fr_app_wp {Kc : Act → World → Prop} {W w0 : World} (base : Nat) (s x : Operand) (t e : TypeId) (z : Value) (sz bytes : Nat)
    (ho : o.op = .call { callee := .builtin .append, args := #[s, x], argTypes := #[t, t] })
    (ht : P.underlying t = some (.slice e)) (hinfo : (P.info? e).map (fun i => (i.zero, i.size, i.bytes)) = some (some z, sz, bytes)) (hz : z.cells.size = sz) (hs0 : 0 < sz)
    (v : Value) (xs : List α) (p : α) (hs : a.eval s = v) (B : Nat) (hx : a.eval x = .slice (some ⟨B, 0, none⟩) 1 1)
    (te : TypeId) (fr : Nat × Nat) (hB : W.heap[B]? = some (.cells (c p).toArray te fr)) (hcl : (c p).length = sz) (h1 : ∀ u ∈ c p, u.oneCell' = true)
    (HR : FR c sz e base w0 v xs) (HW : Below w0.heap.size w0 W) (hbase : base ≤ w0.heap.size) (h63 : xs.length + 1 ≤ maxLen) (hl : (xs.length + 1) * bytes ≤ 140737488355328)
    (h : ∀ g cap w1, FR c sz e base w1 (.slice (some ⟨g, 0, none⟩) (xs.length + 1) cap) (xs ++ [p]) → Only (fun k => v.ownBlock = some k) W w1 → base ≤ g → (v.ownBlock = some g ∨ g = W.heap.size) → Kc (a.put o.dst (.slice (some ⟨g, 0, none⟩) (xs.length + 1) cap)) w1) :
    Oper.wp P o a W Kc Q := by
  obtain ⟨i0, hi, hz0, hz1, hz2⟩ := info_parts hinfo
  refine wp_append_lies W s x t ho base e i0 z sz bytes ht hi hz0 hz1 hz2 hz hs0 v xs.length (xs.flatMap c) hs (HR.below HW) ⟨B, 0, none⟩ 1 1 (c p) hx (by omega) ?_ h1 (by omega) h63 hl (Nat.le_trans hbase HW.size) _ rfl ?_
  · intro j u hu
    rw [add0, World.cell?, hB]
    simpa using hu
  · intro g cap w1 hown1 hg1 hat hlt
    have hF : FR c sz e base w1 (.slice (some ⟨g, 0, none⟩) (xs.length + 1) cap) (xs ++ [p]) := by
      unfold FR
      rw [List.flatMap_append, List.length_append]
      simpa using hown1
    exact h g cap w1 hF ⟨hg1.os, hg1.tape, hg1.output, hg1.size, fun k hk hn => hg1.block k hk (fun e => hn e.symm)⟩ (hF.lt g rfl).1 hat

theorem fr_app_list {rest : List Oper} (hgd : o.guard = none) {W w0 : World} (base : Nat) (s x : Operand) (t e : TypeId) (z : Value) (sz bytes : Nat)
    (ho : o.op = .call { callee := .builtin .append, args := #[s, x], argTypes := #[t, t] })
    (ht : P.underlying t = some (.slice e)) (hinfo : (P.info? e).map (fun i => (i.zero, i.size, i.bytes)) = some (some z, sz, bytes)) (hz : z.cells.size = sz) (hs0 : 0 < sz)
    (v : Value) (xs : List α) (p : α) (hs : a.eval s = v) (B : Nat) (hx : a.eval x = .slice (some ⟨B, 0, none⟩) 1 1)
    (te : TypeId) (fr : Nat × Nat) (hB : W.heap[B]? = some (.cells (c p).toArray te fr)) (hcl : (c p).length = sz) (h1 : ∀ u ∈ c p, u.oneCell' = true)
    (HR : FR c sz e base w0 v xs) (HW : Below w0.heap.size w0 W) (hbase : base ≤ w0.heap.size) (h63 : xs.length + 1 ≤ maxLen) (hl : (xs.length + 1) * bytes ≤ 140737488355328)
    (h : ∀ g cap w1, FR c sz e base w1 (.slice (some ⟨g, 0, none⟩) (xs.length + 1) cap) (xs ++ [p]) → Only (fun k => v.ownBlock = some k) W w1 → base ≤ g → (v.ownBlock = some g ∨ g = W.heap.size) → wpList P ops Q rest (a.put o.dst (.slice (some ⟨g, 0, none⟩) (xs.length + 1) cap)) w1) :
    wpList P ops Q (o :: rest) a W :=
  wpList_plain hgd fun _ hK => fr_app_wp base s x t e z sz bytes ho ht hinfo hz hs0 v xs p hs B hx te fr hB hcl h1 HR HW hbase h63 hl (fun g cap w1 h1 h2 h3 h4 => hK _ _ (h g cap w1 h1 h2 h3 h4))

end
end Go.Proofs.YtndicjikjcifaaaDoor
