/- Rows of flat elements: append of one, copy within a row. Plain lemmas, no program in sight. -/
import Derived.Test.YtndicjikjcifaaaDoorLaws
import Derived.Laws.CopyRow
import Derived.Laws.CopyOwn
namespace Go.Proofs.YtndicjikjcifaaaDoor
open Go.RowKit Go.Proofs.YtndicjikjcifaaaDoorW.PrintWords Go.Proofs.YtndicjikjcifaaaDoorW.PrintLast

/-- A row of the call's own that holds flat elements. -/
def FR {α : Type} (c : α → List Value) (sz e base : Nat) (w : World) (v : Value) (xs : List α) : Prop := w.ownsRow base e sz v xs.length (xs.flatMap c)

section
variable {P : Program} {ops : Array Oper} {o : Oper} {a : Act} {Q : Exit → Act → World → Prop} {α : Type} {c : α → List Value} {sz e base : Nat} {w w' : World} {v : Value} {xs : List α}

theorem FR.nil (c : α → List Value) (sz e base : Nat) (w : World) : FR c sz e base w (.slice none 0 0) [] := ⟨by simp, .inl ⟨rfl, rfl⟩⟩
theorem FR.move (h : FR c sz e base w v xs) (hm : ∀ k, v.ownBlock = some k → w'.heap[k]? = w.heap[k]?) : FR c sz e base w' v xs := own_move h hm
theorem FR.lt (h : FR c sz e base w v xs) (k : Nat) (hk : v.ownBlock = some k) : base ≤ k ∧ k < w.heap.size := ⟨own_base h k hk, own_lt h k hk⟩
theorem FR.only {S : Nat → Prop} (h : FR c sz e base w v xs) (ho : Only S w w') (hd : ∀ k, v.ownBlock = some k → ¬ S k) : FR c sz e base w' v xs :=
  h.move (fun k hk => ho.block k (h.lt k hk).2 (hd k hk))
theorem FR.below (h : FR c sz e base w v xs) (hb : Below w.heap.size w w') : FR c sz e base w' v xs :=
  h.move (fun k hk => hb.block k (h.lt k hk).2)
theorem FR.form (h : FR c sz e base w v xs) : ∃ A cap, v = .slice A xs.length cap ∧ xs.length ≤ cap := by
  rcases h.2 with ⟨rfl, h0⟩ | ⟨g, cap, cur, rfl, _, _, hc, _⟩
  · exact ⟨none, 0, by rw [h0], by omega⟩
  · exact ⟨_, _, rfl, hc⟩

theorem FR.some (h : FR c sz e base w v xs) (hn : 0 < xs.length) : ∃ b cap cur, v = .slice (some ⟨b, 0, none⟩) xs.length cap ∧ base ≤ b ∧ w.heap[b]? = some (.cells cur e (0, 0)) ∧ xs.length ≤ cap ∧ cap ≤ maxLen ∧ cur.size = cap * sz ∧ cur.toList.take (xs.length * sz) = xs.flatMap c := by
  rcases h.2 with ⟨_, h0⟩ | h
  · omega
  · exact h

theorem fr_app_wp {Kc : Act → World → Prop} {W w0 : World} (base : Nat) (s x : Operand) (t e : TypeId) (z : Value) (sz bytes : Nat)
    (ho : o.op = .call { callee := .builtin .append, args := #[s, x], argTypes := #[t, t] })
    (ht : P.underlying t = some (.slice e)) (hinfo : (P.info? e).map (fun i => (i.zero, i.size, i.bytes)) = some (some z, sz, bytes)) (hz : z.cells.size = sz) (hs0 : 0 < sz)
    (v : Value) (xs : List α) (p : α) (hs : a.eval s = v) (B : Nat) (hx : a.eval x = .slice (some ⟨B, 0, none⟩) 1 1)
    (te : TypeId) (fr : Nat × Nat) (hB : W.heap[B]? = some (.cells (c p).toArray te fr)) (hcl : (c p).length = sz) (h1 : ∀ u ∈ c p, u.oneCell' = true)
    (HR : FR c sz e base w0 v xs) (HW : Below w0.heap.size w0 W) (hbase : base ≤ w0.heap.size) (h63 : xs.length + 1 ≤ maxLen) (hl : (xs.length + 1) * bytes ≤ 140737488355328)
    (h : ∀ g cap w1, FR c sz e base w1 (.slice (some ⟨g, 0, none⟩) (xs.length + 1) cap) (xs ++ [p]) → Only (fun k => v.ownBlock = some k) W w1 → base ≤ g → (v.ownBlock = some g ∨ g = W.heap.size) → Kc (a.put o.dst (.slice (some ⟨g, 0, none⟩) (xs.length + 1) cap)) w1) :
    Oper.wp P o a W Kc Q := by
  obtain ⟨i0, hi, hz0, hz1, hz2⟩ := info_parts hinfo
  refine wp_append_lies W s x t ho base e i0 z sz bytes ht hi hz0 hz1 hz2 hz hs0 v xs.length (xs.flatMap c) hs (HR.below HW) ⟨B, 0, none⟩ 1 1 (c p) hx (by omega) ?_ h1 (by omega) h63 hl (Nat.le_trans hbase HW.size) _ rfl ?_
  · intro j u hu
    rw [add0, World.cell?, hB]
    simpa using hu
  · intro g cap w1 hown1 hg1 hat hlt
    have hF : FR c sz e base w1 (.slice (some ⟨g, 0, none⟩) (xs.length + 1) cap) (xs ++ [p]) := by
      unfold FR
      rw [List.flatMap_append, List.length_append]
      simpa using hown1
    exact h g cap w1 hF ⟨hg1.os, hg1.tape, hg1.output, hg1.size, fun k hk hn => hg1.block k hk (fun e => hn e.symm)⟩ (hF.lt g rfl).1 hat

theorem fr_app_step {E : Prop} {Kc : Act → World → Prop} (hgd : o.guard = none) {W w0 : World} (base : Nat) (s x : Operand) (t e : TypeId) (z : Value) (sz bytes : Nat)
    (ho : o.op = .call { callee := .builtin .append, args := #[s, x], argTypes := #[t, t] })
    (ht : P.underlying t = some (.slice e)) (hinfo : (P.info? e).map (fun i => (i.zero, i.size, i.bytes)) = some (some z, sz, bytes)) (hz : z.cells.size = sz) (hs0 : 0 < sz)
    (v : Value) (xs : List α) (p : α) (hs : a.eval s = v) (B : Nat) (hx : a.eval x = .slice (some ⟨B, 0, none⟩) 1 1)
    (te : TypeId) (fr : Nat × Nat) (hB : W.heap[B]? = some (.cells (c p).toArray te fr)) (hcl : (c p).length = sz) (h1 : ∀ u ∈ c p, u.oneCell' = true)
    (HR : FR c sz e base w0 v xs) (HW : Below w0.heap.size w0 W) (hbase : base ≤ w0.heap.size) (h63 : xs.length + 1 ≤ maxLen) (hl : (xs.length + 1) * bytes ≤ 140737488355328)
    (h : ∀ g cap w1, FR c sz e base w1 (.slice (some ⟨g, 0, none⟩) (xs.length + 1) cap) (xs ++ [p]) → Only (fun k => v.ownBlock = some k) W w1 → base ≤ g → (v.ownBlock = some g ∨ g = W.heap.size) → Kc (a.put o.dst (.slice (some ⟨g, 0, none⟩) (xs.length + 1) cap)) w1) :
    if Region.wanted o (yielded ops a.tmps) = true then Oper.wp P o a W Kc Q else E := by
  have hw : Region.wanted o (yielded ops a.tmps) = true := by simp [Region.wanted, hgd]
  rw [if_pos hw]
  exact fr_app_wp base s x t e z sz bytes ho ht hinfo hz hs0 v xs p hs B hx te fr hB hcl h1 HR HW hbase h63 hl h

theorem fr_app_list {rest : List Oper} (hgd : o.guard = none) {W w0 : World} (base : Nat) (s x : Operand) (t e : TypeId) (z : Value) (sz bytes : Nat)
    (ho : o.op = .call { callee := .builtin .append, args := #[s, x], argTypes := #[t, t] })
    (ht : P.underlying t = some (.slice e)) (hinfo : (P.info? e).map (fun i => (i.zero, i.size, i.bytes)) = some (some z, sz, bytes)) (hz : z.cells.size = sz) (hs0 : 0 < sz)
    (v : Value) (xs : List α) (p : α) (hs : a.eval s = v) (B : Nat) (hx : a.eval x = .slice (some ⟨B, 0, none⟩) 1 1)
    (te : TypeId) (fr : Nat × Nat) (hB : W.heap[B]? = some (.cells (c p).toArray te fr)) (hcl : (c p).length = sz) (h1 : ∀ u ∈ c p, u.oneCell' = true)
    (HR : FR c sz e base w0 v xs) (HW : Below w0.heap.size w0 W) (hbase : base ≤ w0.heap.size) (h63 : xs.length + 1 ≤ maxLen) (hl : (xs.length + 1) * bytes ≤ 140737488355328)
    (h : ∀ g cap w1, FR c sz e base w1 (.slice (some ⟨g, 0, none⟩) (xs.length + 1) cap) (xs ++ [p]) → Only (fun k => v.ownBlock = some k) W w1 → base ≤ g → (v.ownBlock = some g ∨ g = W.heap.size) → wpList P ops Q rest (a.put o.dst (.slice (some ⟨g, 0, none⟩) (xs.length + 1) cap)) w1) :
    wpList P ops Q (o :: rest) a W :=
  wpList_plain hgd fun _ hK => fr_app_wp base s x t e z sz bytes ho ht hinfo hz hs0 v xs p hs B hx te fr hB hcl h1 HR HW hbase h63 hl (fun g cap w1 h1 h2 h3 h4 => hK _ _ (h g cap w1 h1 h2 h3 h4))

theorem flat_length (hcl : ∀ p, (c p).length = sz) (ys : List α) : (ys.flatMap c).length = ys.length * sz := by
  induction ys with
  | nil => simp
  | cons y ys ih => rw [List.flatMap_cons, List.length_append, ih, hcl, List.length_cons, Nat.succ_mul]; omega

/-- append of a whole row of flat elements. -/
theorem fr_rows_wp {Kc : Act → World → Prop} {W : World} (base : Nat) (s x : Operand) (t e : TypeId) (z : Value) (sz bytes : Nat)
    (ho : o.op = .call { callee := .builtin .append, args := #[s, x], argTypes := #[t, t] })
    (ht : P.underlying t = some (.slice e)) (hinfo : (P.info? e).map (fun i => (i.zero, i.size, i.bytes)) = some (some z, sz, bytes)) (hz : z.cells.size = sz) (hs0 : 0 < sz)
    (v : Value) (xs ys : List α) (hs : a.eval s = v) (sp : Option Addr) (sc : Nat) (hx : a.eval x = .slice sp ys.length sc)
    (hcl : ∀ p, (c p).length = sz) (h1 : ∀ p, ∀ u ∈ c p, u.oneCell' = true)
    (hsrc : 0 < ys.length → ∃ ad, sp = some ad ∧ ∀ j u, (ys.flatMap c)[j]? = some u → W.cell? (ad.add j) = some u)
    (HR : FR c sz e base W v xs) (hbase : base ≤ W.heap.size) (h63 : xs.length + ys.length ≤ maxLen) (hl : (xs.length + ys.length) * bytes ≤ 140737488355328)
    (h : ∀ A cap w1, FR c sz e base w1 (.slice A (xs.length + ys.length) cap) (xs ++ ys) → Only (fun k => v.ownBlock = some k) W w1 → (∀ k, (Value.slice A (xs.length + ys.length) cap).ownBlock = some k → v.ownBlock = some k ∨ k = W.heap.size) → Kc (a.put o.dst (.slice A (xs.length + ys.length) cap)) w1) :
    Oper.wp P o a W Kc Q := by
  obtain ⟨i0, hi, hz0, hz1, hz2⟩ := info_parts hinfo
  by_cases h0 : ys.length = 0
  · obtain rfl : ys = [] := List.eq_nil_of_length_eq_zero h0
    obtain ⟨A, cap, rfl, hcap⟩ := HR.form
    have hrun : (Builtin.append_ #[t, t] o.type #[.slice A xs.length cap, .slice sp 0 sc]).run P W = .ok (.slice A xs.length cap) W := by
      cases A <;> cases sp <;> simp [Builtin.append_, Builtin.lenOf, Builtin.firstCells, run_underlying ht, sizeOf, typeInfo, hi, hcap, storeCells, loadCells, loadCellsFrom]
    unfold Oper.wp
    have hx' : a.eval x = .slice sp 0 sc := hx
    simp [execOp, ho, resolve, invoke, builtin, hs, hx', hrun, Result.andThen]
    have := h A cap W (by simpa using HR) (Only.refl _ _) (fun k hk => .inl (by simpa using hk))
    exact this
  · obtain ⟨ad, rfl, hc⟩ := hsrc (by omega)
    refine wp_append_lies W s x t ho base e i0 z sz bytes ht hi hz0 hz1 hz2 hz hs0 v xs.length (xs.flatMap c) hs HR ad ys.length sc (ys.flatMap c) hx (flat_length hcl ys) hc (fun u hu => ?_) (by omega) h63 hl hbase _ rfl ?_
    · obtain ⟨p, _, hp⟩ := List.mem_flatMap.1 hu
      exact h1 p u hp
    · intro g cap w1 hown1 hg1 hat hlt
      refine h _ cap w1 ?_ ⟨hg1.os, hg1.tape, hg1.output, hg1.size, fun k hk hn => hg1.block k hk (fun e => hn e.symm)⟩ ?_
      · unfold FR
        rw [List.flatMap_append, List.length_append]
        exact hown1
      · intro k hk
        cases hk
        exact hat
theorem fr_rows_step {E : Prop} {Kc : Act → World → Prop} (hgd : o.guard = none) {W : World} (base : Nat) (s x : Operand) (t e : TypeId) (z : Value) (sz bytes : Nat)
    (ho : o.op = .call { callee := .builtin .append, args := #[s, x], argTypes := #[t, t] })
    (ht : P.underlying t = some (.slice e)) (hinfo : (P.info? e).map (fun i => (i.zero, i.size, i.bytes)) = some (some z, sz, bytes)) (hz : z.cells.size = sz) (hs0 : 0 < sz)
    (v : Value) (xs ys : List α) (hs : a.eval s = v) (sp : Option Addr) (sc : Nat) (hx : a.eval x = .slice sp ys.length sc)
    (hcl : ∀ p, (c p).length = sz) (h1 : ∀ p, ∀ u ∈ c p, u.oneCell' = true)
    (hsrc : 0 < ys.length → ∃ ad, sp = some ad ∧ ∀ j u, (ys.flatMap c)[j]? = some u → W.cell? (ad.add j) = some u)
    (HR : FR c sz e base W v xs) (hbase : base ≤ W.heap.size) (h63 : xs.length + ys.length ≤ maxLen) (hl : (xs.length + ys.length) * bytes ≤ 140737488355328)
    (h : ∀ A cap w1, FR c sz e base w1 (.slice A (xs.length + ys.length) cap) (xs ++ ys) → Only (fun k => v.ownBlock = some k) W w1 → (∀ k, (Value.slice A (xs.length + ys.length) cap).ownBlock = some k → v.ownBlock = some k ∨ k = W.heap.size) → Kc (a.put o.dst (.slice A (xs.length + ys.length) cap)) w1) :
    if Region.wanted o (yielded ops a.tmps) = true then Oper.wp P o a W Kc Q else E := by
  have hw : Region.wanted o (yielded ops a.tmps) = true := by simp [Region.wanted, hgd]
  rw [if_pos hw]
  exact fr_rows_wp base s x t e z sz bytes ho ht hinfo hz hs0 v xs ys hs sp sc hx hcl h1 hsrc HR hbase h63 hl h

/-- copy, whatever the elements' size: the cells 'cs' are laid over the row from place 'off' on. -/
theorem fr_copy_step {E : Prop} {Kc : Act → World → Prop} (hgd : o.guard = none) {W : World} (d s : Operand) (dT sT elem : TypeId) (sz : Nat)
    (ho : o.op = .call { callee := .builtin .copy, args := #[d, s], argTypes := #[dT, sT] })
    (hu : P.underlying dT = some (.slice elem)) (hsz : (P.info? elem).map (·.size) = some sz)
    (dp sp : Option Addr) (dLen dCap sLen sCap : Nat) (hd : a.eval d = .slice dp dLen dCap) (hs : a.eval s = .slice sp sLen sCap)
    (b off : Nat) (cur : List Value) (t : TypeId) (hb : W.heap[b]? = some (.cells cur.toArray t (0, 0))) (cs : List Value) (hn : cs.length = Nat.min sLen dLen * sz)
    (hpos : 0 < cs.length → dp = some ⟨b, off, none⟩ ∧ ∃ ad, sp = some ad ∧ ∀ j u, cs[j]? = some u → W.cell? (ad.add j) = some u)
    (hzero : cs.length = 0 → Nat.min sLen dLen = 0)
    (hfit : off + cs.length ≤ cur.length) (h1 : ∀ u ∈ cs, u.oneCell' = true)
    (h : ∀ w1, w1.heap[b]? = some (.cells (splice cur off cs).toArray t (0, 0)) → Only (fun k => k = b) W w1 → Kc (a.put o.dst (goInt (Nat.min sLen dLen))) w1) :
    if Region.wanted o (yielded ops a.tmps) = true then Oper.wp P o a W Kc Q else E := by
  have hw : Region.wanted o (yielded ops a.tmps) = true := by simp [Region.wanted, hgd]
  rw [if_pos hw]
  cases hq : P.info? elem with
  | none => simp [hq] at hsz
  | some i =>
    have hi : i.size = sz := by simpa [hq] using hsz
    by_cases h0 : cs.length = 0
    · obtain rfl : cs = [] := List.eq_nil_of_length_eq_zero h0
      have hm := hzero rfl
      have hrun : (Builtin.copy_ #[dT, sT] o.type #[.slice dp dLen dCap, .slice sp sLen sCap]).run P W = .ok (goInt (Nat.min sLen dLen)) W := by
        cases dp <;> cases sp <;> simp [Builtin.copy_, run_underlying hu, Builtin.lenOf, Builtin.firstCells, sizeOf, typeInfo, hq, hm, storeCells, loadCells, loadCellsFrom]
      unfold Oper.wp
      simp [execOp, ho, resolve, invoke, builtin, hd, hs, hrun, Result.andThen]
      exact h W (by simpa [splice] using hb) (Only.refl _ _)
    · obtain ⟨rfl, ad, rfl, hsrc⟩ := hpos (by omega)
      have hl := run_loadCells_list (P := P) W ad cs hsrc
      have hst := run_storeCells_at P b off t cs 0 cur.toArray W hb (by simpa using hfit) h1
      have hrun : (Builtin.copy_ #[dT, sT] o.type #[.slice (some ⟨b, off, none⟩) dLen dCap, .slice (some ad) sLen sCap]).run P W = .ok (goInt (Nat.min sLen dLen)) (W.setRow b (splice cur off cs).toArray) := by
        simp [Builtin.copy_, run_underlying hu, Builtin.lenOf, Builtin.firstCells, sizeOf, typeInfo, hq, hi, ← hn, hl, hst, splice]
      unfold Oper.wp
      simp [execOp, ho, resolve, invoke, builtin, hd, hs, hrun, Result.andThen]
      refine h _ (setRow_heap W b cur.toArray _ t (0, 0) hb) ⟨rfl, rfl, rfl, ?_, ?_⟩
      · simp [World.setRow]
      · intro k hk hkb
        simp only [World.setRow, Array.getElem?_modify]
        rw [if_neg (fun e => hkb e.symm)]
end
end Go.Proofs.YtndicjikjcifaaaDoor
