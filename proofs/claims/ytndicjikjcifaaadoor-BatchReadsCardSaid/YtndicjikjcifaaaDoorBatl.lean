/- A queue of transactions in memory: the cells are owned, what the cells lead to is read. No program's text in sight. -/
import Derived.Test.YtndicjikjcifaaaDoorPBx0
import Derived.Test.YtndicjikjcifaaaDoorBase
namespace Go.Proofs.YtndicjikjcifaaaDoor
open Go.RowKit Go.Proofs.YtndicjikjcifaaaDoorW.PrintWords Go.Proofs.YtndicjikjcifaaaDoorW.PrintLast
open PB (S33 k33)
set_option linter.unusedVariables false
set_option linter.unusedSimpArgs false

/-- A queue of transactions, whose cells are the call's own; none of its blocks is in X. -/
def TQ (X : List Nat) (base : Nat) (w : World) (v : Value) (xs : List S33) : Prop :=
  ∃ cs : List (List Value), Kd.Q (Kd.raw 9) 33 w base (fun k => k ∉ X) v cs ∧ cs.length = xs.length ∧
    ∀ (j : Nat) (t : S33) (c : List Value), xs[j]? = some t → cs[j]? = some c → Kd.FK k33 w (fun k => k ∉ X ∧ some k ≠ v.ownBlock) t c
section
variable {X Y : List Nat} {base : Nat} {w w1 : World} {v : Value} {xs : List S33}
theorem TQ.nil (X : List Nat) (base : Nat) (w : World) : TQ X base w (.slice none 0 0) [] := ⟨[], Kd.Q_nil _ _ _ _ _, rfl, fun j t c h => by simp at h⟩
theorem TQ.step (h : TQ X base w v xs) (hm : ∀ k, k ∉ X → k < w.heap.size → w1.heap[k]? = w.heap[k]?) : TQ X base w1 v xs := by
  obtain ⟨cs, h1, h2, h3⟩ := h
  exact ⟨cs, Kd.Q_step h1 hm, h2, fun j t c a b => Kd.FK_step (h3 j t c a b) (fun k hk => hm k hk.1)⟩
theorem TQ.below (h : TQ X base w v xs) (hb : Below w.heap.size w w1) : TQ X base w1 v xs := h.step (fun k _ hk => hb.block k hk)
theorem TQ.only (h : TQ X base w v xs) {S : Nat → Prop} (ho : Only S w w1) (hS : ∀ k, S k → k ∈ X) : TQ X base w1 v xs := h.step (fun k hk hl => ho.block k hl (fun hs => hk (hS k hs)))
theorem TQ.set (h : TQ X base w v xs) {g : Nat} (hg : g ∈ X) (j : Nat) (u : Value) : TQ X base (w.setCell ⟨g, j, none⟩ u) v xs := h.step (fun k hk _ => Below.heap_setCell _ _ _ _ (fun e => hk (e ▸ hg)))
/-- Fewer blocks are named. -/
theorem TQ.less (h : TQ X base w v xs) (hs : ∀ k, k ∈ Y → k ∈ X) : TQ Y base w v xs := by
  obtain ⟨cs, h1, h2, h3⟩ := h
  exact ⟨cs, Kd.Q_mono h1 (fun k hk hy => hk (hs k hy)), h2, fun j t c a b => Kd.FK_mono (h3 j t c a b) (fun k hk => ⟨fun hy => hk.1 (hs k hy), hk.2⟩)⟩
/-- More blocks are named: new ones. -/
theorem TQ.more (h : TQ X base w v xs) (hs : ∀ k, k ∈ Y → k ∈ X ∨ w.heap.size ≤ k) : TQ Y base w v xs := by
  obtain ⟨cs, h1, h2, h3⟩ := h
  refine ⟨cs, Kd.Q_mono (Kd.Q_bound h1) (fun k hk hy => ?_), h2, fun j t c a b => Kd.FK_mono (Kd.FK_bound (h3 j t c a b)) (fun k hk => ⟨fun hy => ?_, hk.1.2⟩)⟩
  · rcases hs k hy with e | e
    · exact hk.1 e
    · exact absurd hk.2.2.1 (by omega)
  · rcases hs k hy with e | e
    · exact hk.1.1 e
    · exact absurd hk.2 (by omega)
theorem TQ.form (h : TQ X base w v xs) : ∃ A c, v = .slice A xs.length c ∧ xs.length ≤ c := by
  obtain ⟨cs, h1, h2, h3⟩ := h
  obtain ⟨A, c, e, l⟩ := Kd.Q_slice h1
  exact ⟨A, c, by rw [e, h2], by omega⟩
theorem TQ.apart (h : TQ X base w v xs) : ∀ k, v.ownBlock = some k → k ∉ X := by
  obtain ⟨cs, h1, h2, h3⟩ := h
  exact h1.1
theorem TQ.lt (h : TQ X base w v xs) : ∀ k, v.ownBlock = some k → base ≤ k ∧ k < w.heap.size := by
  obtain ⟨cs, h1, h2, h3⟩ := h
  exact fun k hk => ⟨Kd.Q_base h1 k hk, Kd.Q_lt h1 k hk⟩
theorem C_cells {A : Option Addr} {n : Nat} {cs : List (List Value)} (h : (Kd.raw 9).C w A n cs) (hl : cs.length = xs.length)
    (hK : ∀ (j : Nat) (t : S33) (c : List Value), xs[j]? = some t → cs[j]? = some c → k33.K w t c) : k33.C w A n xs := by
  obtain ⟨h1, h2, h3⟩ := h
  refine ⟨by omega, h2, fun hp => ?_⟩
  obtain ⟨ad, ha, hc⟩ := h3 hp
  refine ⟨ad, ha, fun j p hj => ?_⟩
  have hjl := (List.getElem?_eq_some_iff.1 hj).1
  have hcj : cs[j]? = some cs[j] := List.getElem?_eq_getElem (by omega)
  obtain ⟨c, c1, ⟨rfl, c2, c3⟩, c4⟩ := hc j _ hcj
  exact ⟨_, c2, hK j p _ hj hcj, c4⟩
theorem TQ.read {A : Option Addr} {n c : Nat} (h : TQ X base w (.slice A n c) xs) : n = xs.length ∧ n ≤ c ∧ k33.C w A xs.length xs := by
  obtain ⟨cs, h1, h2, h3⟩ := h
  obtain ⟨q1, q2, q3⟩ := Kd.Q_reads' h1
  refine ⟨by omega, q2, ?_⟩
  rw [h2] at q3
  exact C_cells q3 h2 (fun j t c a b => Kd.FK_now (h3 j t c a b))
theorem TQ.drop {A : Option Addr} {k n c : Nat} (h : TQ X base w (.slice A n c) xs) (hk : k ≤ xs.length) : TQ X base w (.slice (if c = k then A else A.map (·.add (k * 9))) (n - k) (c - k)) (xs.drop k) := by
  obtain ⟨cs, h1, h2, h3⟩ := h
  have hb : (Value.slice (if c = k then A else A.map (·.add (k * 9))) (n - k) (c - k)).ownBlock = (Value.slice A n c).ownBlock := by
    split
    · cases A <;> rfl
    · cases A with
      | none => rfl
      | some a => simp [Value.ownBlock]; unfold Addr.add; split <;> rfl
  refine ⟨cs.drop k, Kd.Q_drop h1 (by omega), by simp [h2], fun j t c a b => ?_⟩
  rw [hb]
  rw [List.getElem?_drop] at a b
  exact h3 _ t c a b
/-- An element's cells out of its rows. -/
theorem fk_tx {ok : Nat → Prop} (t : S33) {A B : Option Addr} {c d : Nat} (h1 : t.f7.length ≤ c) (g1 : Kd.F Kd.string w ok A t.f7.length t.f7) (h2 : t.f8.length ≤ d) (g2 : Kd.F Kd.string w ok B t.f8.length t.f8) :
    Kd.FK k33 w ok t [.int .i64 t.f0, .string t.f1, .string t.f2, .int .u64 t.f3, .int .u64 t.f4, .string t.f5, .string t.f6, .slice A t.f7.length c, .slice B t.f8.length d] :=
  fun W hW => PB.k33_mk W t h1 (g1 W hW) h2 (g2 W hW)
end
section
variable {P : Program} {ops : Array Oper} {rest : List Oper} {o : Oper} {a : Act} {Q' : Exit → Act → World → Prop} {Kc : Act → World → Prop}
end
end Go.Proofs.YtndicjikjcifaaaDoor
