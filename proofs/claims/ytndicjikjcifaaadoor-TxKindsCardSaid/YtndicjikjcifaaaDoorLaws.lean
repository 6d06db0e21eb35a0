/- Laws of append on rows of the call's own, told over an elder world: plain lemmas, no program in sight. -/
import Derived.Test.YtndicjikjcifaaaDoorOnly
import Derived.Deep.AppendLies
import Derived.WalkKit
namespace Go.Proofs.YtndicjikjcifaaaDoor
open Go.RowKit Go.Proofs.YtndicjikjcifaaaDoorW.PrintWords Go.Proofs.YtndicjikjcifaaaDoorW.PrintLast

section
variable {P : Program} {ops : Array Oper} {o : Oper} {a : Act} {Q : Exit → Act → World → Prop} {α : Type}
theorem add0 (B j : Nat) : (⟨B, 0, none⟩ : Addr).add j = ⟨B, j, none⟩ := by unfold Addr.add; split <;> simp_all

theorem addo (B o j : Nat) : (⟨B, o, none⟩ : Addr).add j = ⟨B, o + j, none⟩ := by unfold Addr.add; split <;> simp_all
theorem add_block (ad : Addr) (j : Nat) : (ad.add j).block = ad.block := by unfold Addr.add; split <;> simp_all
theorem lt_add {w : World} {ad : Addr} {j : Nat} {v : Value} (h : w.cell? (ad.add j) = some v) : ad.block < w.heap.size := by
  have := World.block_lt_of_cell? w _ h
  rwa [add_block] at this
theorem app_wp {Kc : Act → World → Prop} (d : Kd α) {W w0 : World} (base : Nat) (s x : Operand) (t e : TypeId) (z : Value) (bytes : Nat)
    (ho : o.op = .call { callee := .builtin .append, args := #[s, x], argTypes := #[t, t] })
    (ht : P.underlying t = some (.slice e)) (hinfo : (P.info? e).map (fun i => (i.zero, i.size, i.bytes)) = some (some z, d.sz, bytes)) (hz : z.cells.size = d.sz) (hs0 : 0 < d.sz)
    (v : Value) (xs : List α) (p : α) (cs : List Value) (ok okp : Nat → Prop) (hs : a.eval s = v) (B : Nat) (hx : a.eval x = .slice (some ⟨B, 0, none⟩) 1 1)
    (te : TypeId) (fr : Nat × Nat) (hB : W.heap[B]? = some (.cells cs.toArray te fr))
    (HR : d.R e w0 base ok v xs) (HW : Below w0.heap.size w0 W) (hp : d.M W base okp p cs) (hokp : ∀ k, okp k → ok k ∧ some k ≠ v.ownBlock) (hfresh : ∀ k, w0.heap.size ≤ k → ok k)
    (hbase : base ≤ w0.heap.size) (h63 : xs.length + 1 ≤ maxLen) (hl : (xs.length + 1) * bytes ≤ 140737488355328)
    (h : ∀ g cap w1, d.R e w1 base ok (.slice (some ⟨g, 0, none⟩) (xs.length + 1) cap) (xs ++ [p]) → Only (fun k => v.ownBlock = some k) W w1 → base ≤ g → ok g → Kc (a.put o.dst (.slice (some ⟨g, 0, none⟩) (xs.length + 1) cap)) w1) :
    Oper.wp P o a W Kc Q := by
  obtain ⟨i0, hi, hz0, hz1, hz2⟩ := info_parts hinfo
  have HRW := Kd.R_below HR HW
  obtain ⟨h0, inner, hown, hr⟩ := HRW
  refine wp_append_lies W s x t ho base e i0 z d.sz bytes ht hi hz0 hz1 hz2 hz hs0 v xs.length inner hs hown ⟨B, 0, none⟩ 1 1 cs hx (by rw [d.K_len (d.K_of_M hp)]; omega) ?_ (d.K_one (d.K_of_M hp)) (by omega) h63 hl (Nat.le_trans hbase HW.size) _ rfl ?_
  · intro j u hu
    rw [add0, World.cell?, hB]
    simpa using hu
  · intro g cap w1 hown1 hg1 hat hlt
    have hat' : (Value.slice (some ⟨g, 0, none⟩) (xs.length + 1) cap).ownBlock = v.ownBlock ∨ ∃ b, (Value.slice (some ⟨g, 0, none⟩) (xs.length + 1) cap).ownBlock = some b ∧ W.heap.size ≤ b := by
      rcases hat with hat | hat
      · exact .inl hat.symm
      · exact .inr ⟨g, rfl, by omega⟩
    have HR1 := Kd.R_appended (d := d) h0 hr hp hokp (fun k hk => hfresh k (Nat.le_trans HW.size hk)) hown1 hg1 hat'
    refine h g cap w1 HR1 ⟨hg1.os, hg1.tape, hg1.output, hg1.size, fun k hk hn => hg1.block k hk (fun e => hn e.symm)⟩ ?_ (HR1.1 g rfl)
    have := (Kd.R_bound HR1).1 g rfl
    exact this.2.1

theorem app_step {E : Prop} {Kc : Act → World → Prop} (hgd : o.guard = none) (d : Kd α) {W w0 : World} (base : Nat) (s x : Operand) (t e : TypeId) (z : Value) (bytes : Nat)
    (ho : o.op = .call { callee := .builtin .append, args := #[s, x], argTypes := #[t, t] })
    (ht : P.underlying t = some (.slice e)) (hinfo : (P.info? e).map (fun i => (i.zero, i.size, i.bytes)) = some (some z, d.sz, bytes)) (hz : z.cells.size = d.sz) (hs0 : 0 < d.sz)
    (v : Value) (xs : List α) (p : α) (cs : List Value) (ok okp : Nat → Prop) (hs : a.eval s = v) (B : Nat) (hx : a.eval x = .slice (some ⟨B, 0, none⟩) 1 1)
    (te : TypeId) (fr : Nat × Nat) (hB : W.heap[B]? = some (.cells cs.toArray te fr))
    (HR : d.R e w0 base ok v xs) (HW : Below w0.heap.size w0 W) (hp : d.M W base okp p cs) (hokp : ∀ k, okp k → ok k ∧ some k ≠ v.ownBlock) (hfresh : ∀ k, w0.heap.size ≤ k → ok k)
    (hbase : base ≤ w0.heap.size) (h63 : xs.length + 1 ≤ maxLen) (hl : (xs.length + 1) * bytes ≤ 140737488355328)
    (h : ∀ g cap w1, d.R e w1 base ok (.slice (some ⟨g, 0, none⟩) (xs.length + 1) cap) (xs ++ [p]) → Only (fun k => v.ownBlock = some k) W w1 → base ≤ g → ok g → Kc (a.put o.dst (.slice (some ⟨g, 0, none⟩) (xs.length + 1) cap)) w1) :
    if Region.wanted o (yielded ops a.tmps) = true then Oper.wp P o a W Kc Q else E := by
  have hw : Region.wanted o (yielded ops a.tmps) = true := by simp [Region.wanted, hgd]
  rw [if_pos hw]
  exact app_wp d base s x t e z bytes ho ht hinfo hz hs0 v xs p cs ok okp hs B hx te fr hB HR HW hp hokp hfresh hbase h63 hl h

theorem app_list {rest : List Oper} (hgd : o.guard = none) (d : Kd α) {W w0 : World} (base : Nat) (s x : Operand) (t e : TypeId) (z : Value) (bytes : Nat)
    (ho : o.op = .call { callee := .builtin .append, args := #[s, x], argTypes := #[t, t] })
    (ht : P.underlying t = some (.slice e)) (hinfo : (P.info? e).map (fun i => (i.zero, i.size, i.bytes)) = some (some z, d.sz, bytes)) (hz : z.cells.size = d.sz) (hs0 : 0 < d.sz)
    (v : Value) (xs : List α) (p : α) (cs : List Value) (ok okp : Nat → Prop) (hs : a.eval s = v) (B : Nat) (hx : a.eval x = .slice (some ⟨B, 0, none⟩) 1 1)
    (te : TypeId) (fr : Nat × Nat) (hB : W.heap[B]? = some (.cells cs.toArray te fr))
    (HR : d.R e w0 base ok v xs) (HW : Below w0.heap.size w0 W) (hp : d.M W base okp p cs) (hokp : ∀ k, okp k → ok k ∧ some k ≠ v.ownBlock) (hfresh : ∀ k, w0.heap.size ≤ k → ok k)
    (hbase : base ≤ w0.heap.size) (h63 : xs.length + 1 ≤ maxLen) (hl : (xs.length + 1) * bytes ≤ 140737488355328)
    (h : ∀ g cap w1, d.R e w1 base ok (.slice (some ⟨g, 0, none⟩) (xs.length + 1) cap) (xs ++ [p]) → Only (fun k => v.ownBlock = some k) W w1 → base ≤ g → ok g → wpList P ops Q rest (a.put o.dst (.slice (some ⟨g, 0, none⟩) (xs.length + 1) cap)) w1) :
    wpList P ops Q (o :: rest) a W :=
  wpList_plain hgd fun _ hK => app_wp d base s x t e z bytes ho ht hinfo hz hs0 v xs p cs ok okp hs B hx te fr hB HR HW hp hokp hfresh hbase h63 hl (fun g cap w1 h1 h2 h3 h4 => hK _ _ (h g cap w1 h1 h2 h3 h4))
end
end Go.Proofs.YtndicjikjcifaaaDoor
